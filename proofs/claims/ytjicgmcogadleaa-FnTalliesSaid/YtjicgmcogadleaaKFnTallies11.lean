/- Texts of the claim FnTallies, merged: part 11 of 11: the program's and the reference's functions as Lean functions, the walks that show it, and plain lemmas; no conditions. -/
import Derived.Test.YtjicgmcogadleaaKFnTallies2
import Derived.ProofKit
import Derived.OpenShut
import Derived.Deep.Slices
import Derived.Deep.Strs
import Derived.Deep.Fields
import Derived.Lib.SmallJoins
import Derived.Test.YtjicgmcogadleaaKFnTallies3
import Derived.Test.YtjicgmcogadleaaKFnTallies5
import Derived.Test.YtjicgmcogadleaaKFnTallies9
import Derived.Test.YtjicgmcogadleaaKFnTallies7
import Derived.Test.YtjicgmcogadleaaKFnTallies6
import Derived.Test.YtjicgmcogadleaaKFnTallies8
import Derived.Test.YtjicgmcogadleaaKFnTallies4
import Derived.Laws.BitsLemmas
import Derived.Laws.Bits64
import Derived.Test.YtjicgmcogadleaaKFnTallies10
import Derived.Test.YtjicgmcogadleaaRows
import Derived.WalkKit
import Derived.ShutString
import Derived.ChangeOld
import Derived.Below
import Derived.SizedLaws
namespace Go.Proofs.Ytjicgmcogadleaa.Open
open Go.ChangeShapes Go.WideShapes Go.RowKit Go.Deep Go.Joins Go.Proofs.YtjicgmcogadleaaW.PrintWords
def Opens {α : Type} (P : Program) (t : TypeId) (d : Kd α) (wf : α → Prop) : Prop :=
  ∀ {H : Type} {enc : TypeId × Value → H} {W : World} {fuel : Nat} {cs : List Value} {x : DataW H × List MemPlace},
    DataW.trod enc P W 0 (fun _ => true) true fuel t cs = some x → ∃ y, d.K W y cs ∧ wf y
theorem opens_int {P : Program} {t : TypeId} {k : IntKind} (h : P.underlying t = some (.int k)) : Opens P t (Kd.int k) (fun n => (Lit.int k n).wf = true) := by
  intro H enc W fuel cs x hx
  obtain ⟨n, rfl, _, hw⟩ := DataW.trod_int h hx
  exact ⟨n, rfl, hw⟩
theorem list_of {α : Type} {p : Nat → α → Prop} : ∀ (n : Nat), (∀ i, i < n → ∃ y, p i y) → ∃ ys : List α, ys.length = n ∧ ∀ (i : Nat) (y : α), ys[i]? = some y → p i y
  | 0, _ => ⟨[], rfl, fun i y h => by simp at h⟩
  | n + 1, h => by
    obtain ⟨ys, hl, hy⟩ := list_of n (fun i hi => h i (by omega))
    obtain ⟨y, hp⟩ := h n (by omega)
    refine ⟨ys ++ [y], by simp [hl], fun i z hz => ?_⟩
    by_cases hi : i < n
    · rw [List.getElem?_append_left (by omega)] at hz
      exact hy i z hz
    · have hi2 : i = n := by
        have := (List.getElem?_eq_some_iff.1 hz).1
        simp [hl] at this
        omega
      subst hi2
      rw [List.getElem?_append_right (by omega), hl] at hz
      simp at hz
      subst hz
      exact hp
theorem opens_slice {α : Type} {P : Program} {t e : TypeId} {d : Kd α} {wf : α → Prop} (h : P.underlying t = some (.slice e)) (hc : P.cellsOf e = d.sz) (he : Opens P e d wf) :
    Opens P t (Kd.slice e d) (fun l => l.length ≤ 9223372036854775807 ∧ ∀ x ∈ l, wf x) := by
  intro H enc W fuel cs x hx
  rcases open_slice h hx with ⟨rfl, _⟩ | ⟨a, len, cap, m, n, D, Pl, rfl, _, hl, hm, hmm, _, hx⟩
  · exact ⟨[], ⟨none, 0, rfl, by simp, Kd.C_nil d W⟩, by simp, by simp⟩
  · obtain ⟨ys, hlen, hy⟩ := list_of (p := fun i y => ∃ cs', W.cells? 0 (a.add (i * P.cellsOf e)) (P.cellsOf e) = some cs' ∧ d.K W y cs' ∧ wf y) len (fun i hi => by
      obtain ⟨cs', h1, h2⟩ := hx i (by rw [hmm]; split <;> omega)
      obtain ⟨y, hK, hw⟩ := he h2
      exact ⟨y, cs', h1, hK, hw⟩)
    have hm' : cap ≤ 9223372036854775807 := by simpa [maxLen] using hm
    refine ⟨ys, ⟨some a, cap, by rw [hlen], by omega, ⟨rfl, by omega, fun _ => ⟨a, rfl, fun j y hj => ?_⟩⟩⟩, by omega, fun y hmem => ?_⟩
    · obtain ⟨cs', h1, hK, _⟩ := hy j y hj
      obtain ⟨_, hl2, hcell⟩ := World.cells?_some h1
      refine ⟨cs', d.K_len hK, hK, fun i u hu => ?_⟩
      have hi : i < P.cellsOf e := by
        have := (List.getElem?_eq_some_iff.1 hu).1
        omega
      rw [← hc, ← Go.Deep.add_add, hcell i hi]
      exact hu
    · obtain ⟨j, hj⟩ := List.getElem?_of_mem hmem
      obtain ⟨_, _, _, hw⟩ := hy j y hj
      exact hw
theorem sized_any {H : Type} {enc : TypeId × Value → H} {P : Program} {W : World} {base : Nat} {spare : Nat → Bool} {held : Bool} {t e : TypeId} {a : Option Addr} {len cap : Nat} {d : DataW H} {ps : List MemPlace} {ts : List TypeId} {ds : List (DataW H)} {j : Nat}
    (hsz : (DataW.weightsEach P ts ds).all (· ≤ reachBytes) = true) (ht : ts[j]? = some t) (hd : ds[j]? = some d) (hu : P.underlying t = some (.slice e)) {B : Nat} (hB : P.bytesOf e = B)
    (h : DataW.Trod enc P W base spare held t (.slice a len cap) d ps) : len * B ≤ 140737488351232 := by
  obtain ⟨fuel, hf⟩ := h
  rcases open_slice hu hf with ⟨hcs, _⟩ | ⟨x, l, c, m, n, D, Pl, hcs, _, hl, _, _, hx, _⟩
  · simp [Value.cells] at hcs
    obtain ⟨rfl, rfl, rfl⟩ := hcs
    simp
  · simp [Value.cells] at hcs
    obtain ⟨rfl, rfl, rfl⟩ := hcs
    obtain ⟨hx, _⟩ := Prod.mk.inj hx
    subst hx
    have z := sized_slice hsz ht hd hu
    rw [hB] at z
    refine Nat.le_trans (Nat.mul_le_mul_right _ ?_) z
    simp
theorem slice_at {α : Type} {P : Program} {W : World} {t e : TypeId} {d : Kd α} {wf : List α → Prop} {H : Type} {enc : TypeId × Value → H} {a : Option Addr} {len cap : Nat} {dd : DataW H} {ps : List MemPlace} (ho : Opens P t (Kd.slice e d) wf)
    (h : DataW.Trod enc P W 0 (fun _ => true) true t (.slice a len cap) dd ps) : ∃ l : List α, len = l.length ∧ l.length ≤ cap ∧ d.C W a l.length l ∧ wf l := by
  obtain ⟨fuel, hf⟩ := h
  obtain ⟨l, ⟨A, c, hcs, hl, hC⟩, hw⟩ := ho hf
  simp [Value.cells] at hcs
  obtain ⟨rfl, rfl, rfl⟩ := hcs
  exact ⟨l, rfl, hl, hC, hw⟩
section
variable {P : Program} {t : TypeId} {W : World} {H : Type} {enc : TypeId × Value → H} {r : Reach} {b0 : Nat} {v : Value} {d : DataW H} {p : List MemPlace}
end
end Go.Proofs.Ytjicgmcogadleaa.Open
namespace Go.Proofs.Ytjicgmcogadleaa.P
open Go.RowKit Go.Proofs.YtjicgmcogadleaaW.PrintWords Go.Proofs.YtjicgmcogadleaaW.PrintLast Go.Proofs.YtjicgmcogadleaaW.PrintMore
attribute [local go_sem] max2_int min2_int max_two min_two max_three min_three max_four min_four
set_option linter.unusedVariables false
set_option linter.unusedSimpArgs false
open Go.Proofs.Ytjicgmcogadleaa.Open
end Go.Proofs.Ytjicgmcogadleaa.P
namespace Go.Proofs.Ytjicgmcogadleaa.Pure
set_option linter.unusedVariables false
set_option linter.unusedSimpArgs false
open Go.RowKit Go.Proofs.YtjicgmcogadleaaW.PrintWords Go.Proofs.YtjicgmcogadleaaW.PrintLast Go.Proofs.YtjicgmcogadleaaW.PrintMore
theorem w64 {x : Int} (h0 : -9223372036854775808 ≤ x) (h1 : x ≤ 9223372036854775807) : wrap64 x = x := by
  unfold wrap64
  omega
theorem w64n {n : Nat} (h : n ≤ 9223372036854775807) : wrap64 (n : Int) = (n : Int) := w64 (by omega) (by omega)
theorem rd_nat (xs : List Int) (i : Nat) : rd xs (i : Int) = xs.getD i 0 := by simp [rd]
section
variable {α β : Type} {f g : Nat → Option α} {r : α}
theorem ev_some (r : α) : Ev (fun _ => some r) r := ⟨0, fun _ _ => rfl⟩
theorem ev_ifp {c : Prop} [Decidable c] (h : c) (k : Ev f r) : Ev (fun n => if c then f n else g n) r := Ev.congr (fun _ => if_pos h) k
theorem ev_ifn {c : Prop} [Decidable c] (h : ¬ c) (k : Ev g r) : Ev (fun n => if c then f n else g n) r := Ev.congr (fun _ => if_neg h) k
theorem ev_bind {F : Nat → α → Option β} {q : β} (h : Ev g r) (k : Ev (fun n => F n r) q) : Ev (fun n => (g n).bind (fun x => F n x)) q := by
  obtain ⟨K1, h1⟩ := h
  obtain ⟨K2, h2⟩ := k
  exact ⟨K1 + K2, fun n hn => by show (g n).bind (fun x => F n x) = some q; rw [h1 n (by omega)]; exact h2 n (by omega)⟩
theorem ev_const {a : Option α} (h : a = some r) : Ev (fun _ => a) r := ⟨0, fun _ _ => h⟩
theorem ev_step (h : ∀ k, g (k + 1) = f k) (k : Ev f r) : Ev g r := by
  obtain ⟨K, h1⟩ := k
  refine ⟨K + 1, fun n hn => ?_⟩
  obtain ⟨m, rfl⟩ : ∃ m, n = m + 1 := ⟨n - 1, by omega⟩
  rw [h m]
  exact h1 m (by omega)
theorem ev_two {f : Nat → Option α} {g : Nat → Option β} {a : α} {b : β} (h : Ev f a) (k : Ev g b) : ∃ K, ∀ n, K ≤ n → f n = some a ∧ g n = some b := by
  obtain ⟨K1, h1⟩ := h
  obtain ⟨K2, h2⟩ := k
  exact ⟨K1 + K2, fun n hn => ⟨h1 n (by omega), h2 n (by omega)⟩⟩
end
def iter {σ : Type} (g : Nat → σ → σ) : Nat → Nat → σ → σ
  | _, 0, s => s
  | i, d + 1, s => iter g (i + 1) d (g i s)
theorem loop_ev {σ ρ : Type} (F : Nat → σ → Nat → Option ρ) (n : Nat) (g : Nat → σ → σ) (fin : σ → ρ) (I : Nat → σ → Prop)
    (hs : ∀ i s r, I i s → i < n → Ev (fun k => F k (g i s) (i + 1)) r → Ev (fun k => F k s i) r) (hI : ∀ i s, I i s → i < n → I (i + 1) (g i s))
    (he : ∀ s, I n s → Ev (fun k => F k s n) (fin s)) : ∀ i s, i ≤ n → I i s → Ev (fun k => F k s i) (fin (iter g i (n - i) s)) := by
  have key : ∀ d i s, n - i = d → i ≤ n → I i s → Ev (fun k => F k s i) (fin (iter g i d s)) := by
    intro d
    induction d with
    | zero =>
      intro i s h0 h1 h2
      obtain rfl : i = n := by omega
      exact he s h2
    | succ d ih =>
      intro i s h0 h1 h2
      exact hs i s _ h2 (by omega) (ih (i + 1) (g i s) (by omega) (by omega) (hI i s h2 (by omega)))
  exact fun i s h1 h2 => key (n - i) i s rfl h1 h2
theorem iter_inv {σ : Type} (g : Nat → σ → σ) (I : Nat → σ → Prop) (n : Nat) (hI : ∀ i s, I i s → i < n → I (i + 1) (g i s)) : ∀ d i s, i + d = n → I i s → I n (iter g i d s) := by
  intro d
  induction d with
  | zero => intro i s h0 h1; obtain rfl : i = n := by omega
            exact h1
  | succ d ih => intro i s h0 h1; exact ih (i + 1) _ (by omega) (hI i s h1 (by omega))
def rall (p : Nat → Bool) : Nat → Nat → Bool
  | _, 0 => true
  | i, d + 1 => p i && rall p (i + 1) d
theorem rall_iff (p : Nat → Bool) : ∀ d i, rall p i d = true ↔ ∀ j, i ≤ j → j < i + d → p j = true
  | 0, i => ⟨fun _ j h1 h2 => by omega, fun _ => rfl⟩
  | d + 1, i => by
    show (p i && rall p (i + 1) d) = true ↔ _
    rw [Bool.and_eq_true, rall_iff p d (i + 1)]
    constructor
    · rintro ⟨h0, h1⟩ j h2 h3
      by_cases e : j = i
      · rw [e]; exact h0
      · exact h1 j (by omega) (by omega)
    · intro h
      exact ⟨h i (Nat.le_refl _) (by omega), fun j h2 h3 => h j (by omega) (by omega)⟩
theorem all_ev {ρ : Type} (F : Nat → Nat → Option ρ) (n : Nat) (p : Nat → Bool) (no yes : ρ) (hs : ∀ i r, i < n → p i = true → Ev (fun k => F k (i + 1)) r → Ev (fun k => F k i) r)
    (hn : ∀ i, i < n → p i = false → Ev (fun k => F k i) no) (he : Ev (fun k => F k n) yes) :
    ∀ i, i ≤ n → Ev (fun k => F k i) (if rall p i (n - i) = true then yes else no) := by
  have key : ∀ d i, n - i = d → i ≤ n → Ev (fun k => F k i) (if rall p i d = true then yes else no) := by
    intro d
    induction d with
    | zero =>
      intro i h0 h1
      obtain rfl : i = n := by omega
      rw [show rall p i 0 = true from rfl, if_pos rfl]
      exact he
    | succ d ih =>
      intro i h0 h1
      have h := ih (i + 1) (by omega) (by omega)
      have e : rall p i (d + 1) = (p i && rall p (i + 1) d) := rfl
      cases hp : p i with
      | true =>
        rw [e, hp, Bool.true_and]
        exact hs i _ (by omega) hp h
      | false =>
        rw [e, hp, Bool.false_and, if_neg (by simp)]
        exact hn i (by omega) hp
  exact fun i h1 => key (n - i) i rfl h1
theorem allb_ev (F : Nat → Nat → Option Bool) (n : Nat) (p : Nat → Bool) (hs : ∀ i r, i < n → p i = true → Ev (fun k => F k (i + 1)) r → Ev (fun k => F k i) r)
    (hn : ∀ i, i < n → p i = false → Ev (fun k => F k i) false) (he : Ev (fun k => F k n) true) : Ev (fun k => F k 0) (rall p 0 n) := by
  have h := all_ev F n p false true hs hn he 0 (Nat.zero_le _)
  rw [Nat.sub_zero] at h
  cases e : rall p 0 n <;> simpa [e] using h
theorem getD_eq_get {α : Type} {xs : List α} {i : Nat} (z : α) (h : i < xs.length) : xs.getD i z = xs[i] := by simp [List.getD, List.getElem?_eq_getElem h]
theorem rall_list {α : Type} (xs : List α) (z : α) (p : α → Bool) : rall (fun j => p (xs.getD j z)) 0 xs.length = xs.all p := by
  rw [Bool.eq_iff_iff, rall_iff, List.all_eq_true]
  constructor
  · intro h x hx
    obtain ⟨i, hi, rfl⟩ := List.getElem_of_mem hx
    rw [← getD_eq_get z hi]
    exact h i (Nat.zero_le _) (by omega)
  · intro h j _ hj
    rw [getD_eq_get z (by omega)]
    exact h _ (List.getElem_mem (by omega))
theorem eq_index {α : Type} {xs ys : List α} (z : α) (h : xs.length = ys.length) (hh : ∀ j, j < xs.length → xs.getD j z = ys.getD j z) : xs = ys := by
  refine List.ext_getElem h (fun i h1 h2 => ?_)
  rw [← getD_eq_get z h1, ← getD_eq_get z h2]
  exact hh i h1
def fidx (p : Nat → Bool) : Nat → Nat → Int
  | _, 0 => -1
  | i, d + 1 => if p i = true then (i : Int) else fidx p (i + 1) d
theorem fidx_nonneg (p : Nat → Bool) : ∀ d i, decide (fidx p i d ≥ 0) = !rall (fun j => !p j) i d
  | 0, i => rfl
  | d + 1, i => by
    have h := fidx_nonneg p d (i + 1)
    show decide ((if p i = true then (i : Int) else fidx p (i + 1) d) ≥ 0) = !((!p i) && rall (fun j => !p j) (i + 1) d)
    cases e : p i with
    | true => simp
    | false => simpa using h
theorem find_ev (F : Nat → Nat → Option Int) (n : Nat) (p : Nat → Bool) (hs : ∀ i r, i < n → p i = false → Ev (fun k => F k (i + 1)) r → Ev (fun k => F k i) r) (hx : ∀ i, i < n → p i = true → Ev (fun k => F k i) (i : Int))
    (he : Ev (fun k => F k n) (-1)) : Ev (fun k => F k 0) (fidx p 0 n) := by
  have key : ∀ d i, n - i = d → i ≤ n → Ev (fun k => F k i) (fidx p i d) := by
    intro d
    induction d with
    | zero =>
      intro i h0 h1
      obtain rfl : i = n := by omega
      exact he
    | succ d ih =>
      intro i h0 h1
      show Ev (fun k => F k i) (if p i = true then (i : Int) else fidx p (i + 1) d)
      cases e : p i with
      | true => rw [if_pos rfl]; exact hx i (by omega) e
      | false => rw [if_neg (by simp)]; exact hs i _ (by omega) e (ih (i + 1) (by omega) (by omega))
  exact key n 0 (by omega) (Nat.zero_le _)
theorem ev_ite {α : Type} {f g : Nat → Option α} {a b : α} {c : Bool} (h : c = true → Ev f a) (k : c = false → Ev g b) : Ev (fun n => if c = true then f n else g n) (if c = true then a else b) := by
  cases c with
  | true => exact h rfl
  | false => exact k rfl
end Go.Proofs.Ytjicgmcogadleaa.Pure
namespace Go.Proofs.Ytjicgmcogadleaa.Pure
set_option linter.unusedVariables false
set_option linter.unusedSimpArgs false
open Go.RowKit Go.Proofs.Ytjicgmcogadleaa.P Go.Proofs.YtjicgmcogadleaaW.PrintWords Go.Proofs.YtjicgmcogadleaaW.PrintLast
def inb (x a b : Int) : Bool := decide (a ≤ x) && decide (x ≤ b)
theorem inb_iff {x a b : Int} : inb x a b = true ↔ a ≤ x ∧ x ≤ b := by simp [inb]
theorem l1In_is (x a b : Int) : spec_l1In.f x a b = some (inb x a b) := by
  unfold spec_l1In.f inb
  split
  · rename_i h; simp [show a ≤ x from h]
  · rename_i h; simp [show ¬ a ≤ x from h]
theorem within_is (x a b : Int) : impl_within.f x a b = some (inb x a b) := l1In_is x a b
def tallyOk (c h : List Int) : Bool := decide (c.length = 11) && (decide (h.length = 11) && rall (fun i => inb (c.getD i 0) 0 1000 && inb (h.getD i 0) 0 (c.getD i 0)) 0 11)
theorem tallyOk_iff {c h : List Int} : tallyOk c h = true ↔ c.length = 11 ∧ h.length = 11 ∧ ∀ i, i < 11 → 0 ≤ c.getD i 0 ∧ c.getD i 0 ≤ 1000 ∧ 0 ≤ h.getD i 0 ∧ h.getD i 0 ≤ c.getD i 0 := by
  unfold tallyOk
  rw [Bool.and_eq_true, Bool.and_eq_true, rall_iff, decide_eq_true_eq, decide_eq_true_eq]
  constructor
  · rintro ⟨h1, h2, h3⟩
    refine ⟨h1, h2, fun i hi => ?_⟩
    have := h3 i (Nat.zero_le _) (by omega)
    rw [Bool.and_eq_true, inb_iff, inb_iff] at this
    omega
  · rintro ⟨h1, h2, h3⟩
    refine ⟨h1, h2, fun i _ hi => ?_⟩
    rw [Bool.and_eq_true, inb_iff, inb_iff]
    have := h3 i (by omega)
    omega
theorem l10Good_ev (c h : List Int) : Ev (fun k => spec_l10Good.f k c h) (tallyOk c h) := by
  by_cases h1 : c.length = 11
  · by_cases h2 : h.length = 11
    · have := allb_ev (fun k i => spec_l10Good.l0 k (i : Int) c h) 11 (fun i => inb (c.getD i 0) 0 1000 && inb (h.getD i 0) 0 (c.getD i 0))
        (fun i r hi hp hh => ev_step (fun k => by
          rw [Bool.and_eq_true] at hp
          simp only [spec_l10Good.l0, l1In_is, Option.bind_some, rd_nat]
          rw [if_pos (by omega), if_pos (by omega), if_pos hp.1, if_pos (by omega), if_pos hp.2, w64 (by omega) (by omega)]
          rfl) hh)
        (fun i hi hp => ev_step (f := fun _ => some false) (fun k => by
          simp only [spec_l10Good.l0, l1In_is, Option.bind_some, rd_nat]
          rw [if_pos (by omega), if_pos (by omega)]
          cases e : inb (c.getD i 0) 0 1000 with
          | false => simp
          | true =>
            rw [e, Bool.true_and] at hp
            simp only [hp, if_true]
            rw [if_pos (by omega)]
            simp) (ev_some _))
        (ev_step (f := fun _ => some true) (fun k => by
          simp only [spec_l10Good.l0]
          rw [if_neg (by omega)]) (ev_some _))
      have e : tallyOk c h = rall (fun i => inb (c.getD i 0) 0 1000 && inb (h.getD i 0) 0 (c.getD i 0)) 0 11 := by simp [tallyOk, h1, h2]
      rw [e]
      refine Ev.congr (f := fun k => spec_l10Good.j0 k false c h) (fun k => ?_) (ev_step (f := fun k => spec_l10Good.l0 k 0 c h) (fun k => by simp [spec_l10Good.j0]) this)
      unfold spec_l10Good.f
      rw [if_pos (by omega)]
      simp [h2]
    · have e : tallyOk c h = false := by simp [tallyOk, h2]
      rw [e]
      refine Ev.congr (f := fun k => spec_l10Good.j0 k true c h) (fun k => ?_) (ev_step (f := fun k => some false) (fun k => by simp [spec_l10Good.j0]) (ev_some _))
      unfold spec_l10Good.f
      rw [if_pos (by omega), show ((h.length : Int) != 11) = true by rw [bne_iff_ne]; omega]
  · have e : tallyOk c h = false := by simp [tallyOk, h1]
    rw [e]
    refine Ev.congr (f := fun k => spec_l10Good.j0 k true c h) (fun k => ?_) (ev_step (f := fun k => some false) (fun k => by simp [spec_l10Good.j0]) (ev_some _))
    unfold spec_l10Good.f
    rw [if_neg (by omega)]
theorem isValidTally_ev (c h : List Int) : Ev (fun k => impl_IsValidTally.f k c h) (tallyOk c h) := by
  by_cases h1 : c.length = 11
  · by_cases h2 : h.length = 11
    · have := allb_ev (fun k i => impl_IsValidTally.l0 k c (c.length : Int) (i : Int) c h) 11 (fun i => inb (c.getD i 0) 0 1000 && inb (h.getD i 0) 0 (c.getD i 0))
        (fun i r hi hp hh => ev_step (fun k => by
          rw [Bool.and_eq_true] at hp
          simp only [impl_IsValidTally.l0, within_is, Option.bind_some, rd_nat]
          rw [if_pos (by omega), if_pos (by omega), if_pos (by omega), if_pos hp.1, if_pos (by omega), if_pos hp.2, w64 (by omega) (by omega)]
          rfl) hh)
        (fun i hi hp => ev_step (f := fun _ => some false) (fun k => by
          simp only [impl_IsValidTally.l0, within_is, Option.bind_some, rd_nat]
          rw [if_pos (by omega), if_pos (by omega), if_pos (by omega)]
          cases e : inb (c.getD i 0) 0 1000 with
          | false => simp
          | true =>
            rw [e, Bool.true_and] at hp
            simp only [hp, if_true]
            rw [if_pos (by omega)]
            simp) (ev_some _))
        (ev_step (f := fun _ => some true) (fun k => by
          simp only [impl_IsValidTally.l0]
          rw [if_neg (by omega)]) (ev_some _))
      have e : tallyOk c h = rall (fun i => inb (c.getD i 0) 0 1000 && inb (h.getD i 0) 0 (c.getD i 0)) 0 11 := by simp [tallyOk, h1, h2]
      rw [e]
      refine Ev.congr (f := fun k => impl_IsValidTally.j0 k false c h) (fun k => ?_) (ev_step (f := fun k => impl_IsValidTally.l0 k c (c.length : Int) 0 c h) (fun k => by simp [impl_IsValidTally.j0]) this)
      unfold impl_IsValidTally.f
      rw [if_pos (by omega)]
      simp [h2]
    · have e : tallyOk c h = false := by simp [tallyOk, h2]
      rw [e]
      refine Ev.congr (f := fun k => impl_IsValidTally.j0 k true c h) (fun k => ?_) (ev_step (f := fun k => some false) (fun k => by simp [impl_IsValidTally.j0]) (ev_some _))
      unfold impl_IsValidTally.f
      rw [if_pos (by omega), show ((h.length : Int) != 11) = true by rw [bne_iff_ne]; omega]
  · have e : tallyOk c h = false := by simp [tallyOk, h1]
    rw [e]
    refine Ev.congr (f := fun k => impl_IsValidTally.j0 k true c h) (fun k => ?_) (ev_step (f := fun k => some false) (fun k => by simp [impl_IsValidTally.j0]) (ev_some _))
    unfold impl_IsValidTally.f
    rw [if_neg (by omega)]
end Go.Proofs.Ytjicgmcogadleaa.Pure
namespace Go.Proofs.Ytjicgmcogadleaa.P
open Go.RowKit Go.Proofs.YtjicgmcogadleaaW.PrintWords Go.Proofs.YtjicgmcogadleaaW.PrintLast Go.Proofs.YtjicgmcogadleaaW.PrintMore
attribute [local go_sem] max2_int min2_int max_two min_two max_three min_three max_four min_four
set_option linter.unusedVariables false
set_option linter.unusedSimpArgs false
set_option maxHeartbeats 8000000
set_option maxRecDepth 100000
set_option maxRecDepth 100000
end Go.Proofs.Ytjicgmcogadleaa.P
namespace Go.Proofs.Ytjicgmcogadleaa.Pure
set_option linter.unusedVariables false
set_option linter.unusedSimpArgs false
open Go.RowKit Go.Proofs.Ytjicgmcogadleaa.P Go.Proofs.YtjicgmcogadleaaW.PrintWords Go.Proofs.YtjicgmcogadleaaW.PrintLast
end Go.Proofs.Ytjicgmcogadleaa.Pure
namespace Go.Proofs.Ytjicgmcogadleaa.P
open Go.RowKit Go.Proofs.YtjicgmcogadleaaW.PrintWords Go.Proofs.YtjicgmcogadleaaW.PrintLast Go.Proofs.YtjicgmcogadleaaW.PrintMore
attribute [local go_sem] max2_int min2_int max_two min_two max_three min_three max_four min_four
set_option linter.unusedVariables false
set_option linter.unusedSimpArgs false
set_option maxHeartbeats 8000000
set_option maxRecDepth 100000
set_option maxRecDepth 100000
set_option maxRecDepth 100000
set_option maxRecDepth 100000
end Go.Proofs.Ytjicgmcogadleaa.P
namespace Go.Proofs.Ytjicgmcogadleaa.Pure
set_option linter.unusedVariables false
set_option linter.unusedSimpArgs false
open Go.RowKit Go.Proofs.Ytjicgmcogadleaa.P Go.Proofs.YtjicgmcogadleaaW.PrintWords Go.Proofs.YtjicgmcogadleaaW.PrintLast
end Go.Proofs.Ytjicgmcogadleaa.Pure
namespace Go.Proofs.Ytjicgmcogadleaa.Pure
set_option linter.unusedVariables false
set_option linter.unusedSimpArgs false
open Go.RowKit Go.Proofs.Ytjicgmcogadleaa.P Go.Proofs.YtjicgmcogadleaaW.PrintWords Go.Proofs.YtjicgmcogadleaaW.PrintLast
theorem l1Own_is (l : List Int) (h : l.length < 17592186044416) : spec_l1Own.f l = some l := by
  unfold spec_l1Own.f
  simp [h]
theorem clone_is (l : List Int) (h : l.length < 17592186044416) : slices_Clone_int_int.f l = some l := by
  unfold slices_Clone_int_int.f
  rw [if_pos h]
theorem l10Own_is (c h : List Int) (hc : c.length < 17592186044416) (hh : h.length < 17592186044416) : spec_l10Own.f c h = some (c, h) := by
  unfold spec_l10Own.f
  rw [l1Own_is c hc, Option.bind_some, l1Own_is h hh, Option.bind_some]
theorem cloneTally_is (c h : List Int) (hc : c.length < 17592186044416) (hh : h.length < 17592186044416) : impl_cloneTally.f c h = some (c, h) := by
  unfold impl_cloneTally.f
  rw [clone_is c hc, Option.bind_some, clone_is h hh, Option.bind_some]
def checked (c h : List Int) : List Int × List Int × Bool := if tallyOk c h = true then (c, h, true) else ([], [], false)
theorem checkedTally_ev (c h : List Int) : Ev (fun k => impl_checkedTally.f k c h) (checked c h) :=
  ev_bind (isValidTally_ev c h) (ev_ite (fun _ => ev_some _) (fun _ => ev_some _))
theorem checked_len (c h : List Int) (n : Nat) (hc : c.length ≤ n) (hh : h.length ≤ n) : (checked c h).1.length ≤ n ∧ (checked c h).2.1.length ≤ n := by
  unfold checked
  split <;> simp [hc, hh]
def addCase (c h : List Int) (x : Int) (b : Bool) : List Int × List Int × Bool :=
  if tallyOk c h = true then (if inb x 0 10 = true then checked (c.set x.toNat (wrap64 (rd c x + 1))) (if b = true then h.set x.toNat (wrap64 (rd h x + 1)) else h) else ([], [], false)) else ([], [], false)
theorem addCase_len (c h : List Int) (x : Int) (b : Bool) (n : Nat) (hc : c.length ≤ n) (hh : h.length ≤ n) : (addCase c h x b).1.length ≤ n ∧ (addCase c h x b).2.1.length ≤ n := by
  unfold addCase
  split
  · split
    · exact checked_len _ _ n (by simpa using hc) (by split <;> simp [hh])
    · simp
  · simp
theorem addCase_impl (c h : List Int) (x : Int) (b : Bool) : Ev (fun k => impl_AddCase.f k c h x b) (addCase c h x b) := by
  have no : Ev (fun k => impl_AddCase.j0 k x b true c h) ([], [], false) := ev_step (fun k => impl_AddCase.j0.eq_2 _ _ _ _ _ k) (ev_ifp rfl (ev_some _))
  unfold impl_AddCase.f addCase
  refine ev_bind (isValidTally_ev c h) (ev_ite (fun ok => ?_) (fun _ => no))
  refine ev_bind (ev_const (within_is x 0 10)) ?_
  obtain ⟨hc, hh, _⟩ := tallyOk_iff.1 ok
  cases e : inb x 0 10 with
  | false => exact no
  | true =>
    rw [inb_iff] at e
    rw [if_pos rfl]
    refine ev_step (fun k => impl_AddCase.j0.eq_2 _ _ _ _ _ k) (ev_ifn (by simp) ?_)
    refine ev_bind (ev_const (cloneTally_is c h (by omega) (by omega))) ?_
    refine ev_ifp (by omega) (ev_ifp (by show x < (c.length : Int); omega) (ev_bind (ev_some _) ?_))
    cases b with
    | true => exact ev_ifp rfl (ev_ifp (by show x < (h.length : Int); omega) (ev_bind (checkedTally_ev _ _) (ev_some _)))
    | false => exact ev_ifn (by simp) (ev_bind (checkedTally_ev _ _) (ev_some _))
theorem addCase_spec (c h : List Int) (x : Int) (b : Bool) : Ev (fun k => spec_AddCase.f k c h x b) (addCase c h x b) := by
  have no : Ev (fun k => spec_AddCase.j0 k x b true c h) ([], [], false) := ev_step (fun k => spec_AddCase.j0.eq_2 _ _ _ _ _ k) (ev_ifp rfl (ev_some _))
  unfold spec_AddCase.f addCase
  refine ev_bind (l10Good_ev c h) (ev_ite (fun ok => ?_) (fun _ => no))
  refine ev_bind (ev_const (show spec_l10Class.f x = some (inb x 0 10) by unfold spec_l10Class.f; rw [l1In_is]; rfl)) ?_
  obtain ⟨hc, hh, _⟩ := tallyOk_iff.1 ok
  cases e : inb x 0 10 with
  | false => exact no
  | true =>
    rw [inb_iff] at e
    rw [if_pos rfl]
    refine ev_step (fun k => spec_AddCase.j0.eq_2 _ _ _ _ _ k) (ev_ifn (by simp) ?_)
    refine ev_bind (ev_const (l10Own_is c h (by omega) (by omega))) ?_
    refine ev_ifp (by omega) (ev_ifp (by show x < (c.length : Int); omega) (ev_bind (ev_some _) ?_))
    cases b with
    | true => exact ev_ifp rfl (ev_ifp (by show x < (h.length : Int); omega) (ev_bind (ev_some _) (ev_bind (l10Good_ev _ _) (ev_ite (fun _ => ev_some _) (fun _ => ev_some _)))))
    | false => exact ev_ifn (by simp) (ev_bind (l10Good_ev _ _) (ev_ite (fun _ => ev_some _) (fun _ => ev_some _)))
def addStep (d g : List Int) (i : Nat) (s : List Int × List Int) : List Int × List Int :=
  (s.1.set i (wrap64 (rd s.1 (i : Int) + rd d (i : Int))), s.2.set i (wrap64 (rd s.2 (i : Int) + rd g (i : Int))))
def addTallies (c h d g : List Int) : List Int × List Int × Bool :=
  if tallyOk c h = true then (if tallyOk d g = true then checked (iter (addStep d g) 0 11 (c, h)).1 (iter (addStep d g) 0 11 (c, h)).2 else ([], [], false)) else ([], [], false)
theorem addTallies_len (c h d g : List Int) (n : Nat) (hc : c.length ≤ n) (hh : h.length ≤ n) : (addTallies c h d g).1.length ≤ n ∧ (addTallies c h d g).2.1.length ≤ n := by
  unfold addTallies
  have key : (iter (addStep d g) 0 11 (c, h)).1.length = c.length ∧ (iter (addStep d g) 0 11 (c, h)).2.length = h.length :=
    iter_inv (addStep d g) (fun _ s => s.1.length = c.length ∧ s.2.length = h.length) 11 (fun i s hI _ => by simp [addStep, hI.1, hI.2]) 11 0 (c, h) rfl ⟨rfl, rfl⟩
  split
  · split
    · exact checked_len _ _ n (by omega) (by omega)
    · simp
  · simp
theorem addTallies_impl (c h d g : List Int) : Ev (fun k => impl_AddTallies.f k c h d g) (addTallies c h d g) := by
  have no : Ev (fun k => impl_AddTallies.j0 k true c h d g) ([], [], false) := ev_step (fun k => impl_AddTallies.j0.eq_2 _ _ _ _ _ k) (ev_ifp rfl (ev_some _))
  unfold impl_AddTallies.f addTallies
  refine ev_bind (isValidTally_ev c h) (ev_ite (fun ok => ?_) (fun _ => no))
  refine ev_bind (isValidTally_ev d g) ?_
  cases e : tallyOk d g with
  | false => exact no
  | true =>
    rw [if_pos rfl]
    obtain ⟨hc, hh, _⟩ := tallyOk_iff.1 ok
    obtain ⟨hd, hg, _⟩ := tallyOk_iff.1 e
    refine ev_step (fun k => impl_AddTallies.j0.eq_2 _ _ _ _ _ k) (ev_ifn (by simp) ?_)
    refine ev_bind (ev_const (cloneTally_is c h (by omega) (by omega))) ?_
    exact loop_ev (fun k s i => impl_AddTallies.l0 k (c.length : Int) (i : Int) d g s.1 s.2) 11 (addStep d g) (fun s => checked s.1 s.2) (fun _ s => s.1.length = 11 ∧ s.2.length = 11)
      (fun i s r hI hi hh => ev_step (fun k => by
        have h1 := hI.1; have h2 := hI.2
        simp only [impl_AddTallies.l0]
        rw [if_pos (by omega), if_pos (by omega), if_pos (by omega), if_pos (by omega), if_pos (by omega), if_pos (by omega), w64 (by omega) (by omega)]
        rfl) hh)
      (fun i s hI hi => by simp [addStep, hI.1, hI.2])
      (fun s hI => ev_step (f := fun k => (impl_checkedTally.f k s.1 s.2).bind fun bt119 => (some (bt119.1, bt119.2.1, bt119.2.2))) (fun k => by
        simp only [impl_AddTallies.l0]
        rw [if_neg (by omega)]) (ev_bind (checkedTally_ev _ _) (ev_some _))) 0 (c, h) (by omega) ⟨hc, hh⟩
theorem addTallies_spec (c h d g : List Int) : Ev (fun k => spec_AddTallies.f k c h d g) (addTallies c h d g) := by
  have no : Ev (fun k => spec_AddTallies.j0 k true c h d g) ([], [], false) := ev_step (fun k => spec_AddTallies.j0.eq_2 _ _ _ _ _ k) (ev_ifp rfl (ev_some _))
  unfold spec_AddTallies.f addTallies
  refine ev_bind (l10Good_ev c h) (ev_ite (fun ok => ?_) (fun _ => no))
  refine ev_bind (l10Good_ev d g) ?_
  cases e : tallyOk d g with
  | false => exact no
  | true =>
    rw [if_pos rfl]
    obtain ⟨hc, hh, _⟩ := tallyOk_iff.1 ok
    obtain ⟨hd, hg, _⟩ := tallyOk_iff.1 e
    refine ev_step (fun k => spec_AddTallies.j0.eq_2 _ _ _ _ _ k) (ev_ifn (by simp) ?_)
    refine ev_bind (ev_const (l10Own_is c h (by omega) (by omega))) ?_
    exact loop_ev (fun k s i => spec_AddTallies.l0 k (i : Int) d g s.1 s.2) 11 (addStep d g) (fun s => checked s.1 s.2) (fun _ s => s.1.length = 11 ∧ s.2.length = 11)
      (fun i s r hI hi hh => ev_step (fun k => by
        have h1 := hI.1; have h2 := hI.2
        simp only [spec_AddTallies.l0]
        rw [if_pos (by omega), if_pos (by omega), if_pos (by omega), if_pos (by omega), if_pos (by omega), w64 (by omega) (by omega)]
        rfl) hh)
      (fun i s hI hi => by simp [addStep, hI.1, hI.2])
      (fun s hI => ev_step (f := fun k => (spec_l10Good.f k s.1 s.2).bind fun t119 => (if t119 = true then (some (s.1, s.2, true)) else (some ([], [], false)))) (fun k => by
        have h1 := hI.1; have h2 := hI.2
        simp only [spec_AddTallies.l0]
        rw [if_neg (by omega)]) (ev_bind (l10Good_ev _ _) (ev_ite (fun _ => ev_some _) (fun _ => ev_some _)))) 0 (c, h) (by omega) ⟨hc, hh⟩
theorem tmod_nat (a b : Nat) : Int.tmod (a : Int) (b : Int) = ((a % b : Nat) : Int) := by
  rw [Int.tmod_eq_emod_of_nonneg (by omega)]
  rfl
theorem tdiv_nat (a b : Nat) : Int.tdiv (a : Int) (b : Int) = ((a / b : Nat) : Int) := by
  rw [Int.tdiv_eq_ediv_of_nonneg (by omega)]
  rfl
theorem common_ev (b : Nat) : ∀ a : Nat, Ev (fun k => spec_l10Common.l0 k (a : Int) (b : Int)) ((Nat.gcd b a : Nat) : Int) := by
  induction b using Nat.strongRecOn with
  | _ b ih =>
    intro a
    by_cases h : b = 0
    · subst h
      rw [Nat.gcd_zero_left]
      exact ev_step (f := fun _ => some (a : Int)) (fun k => by simp [spec_l10Common.l0]) (ev_some _)
    · have hm := Nat.mod_lt a (Nat.pos_of_ne_zero h)
      rw [Nat.gcd_rec]
      exact ev_step (fun k => by
        simp only [spec_l10Common.l0]
        rw [if_pos (by omega), if_neg (by omega), tmod_nat]) (ih (a % b) hm b)
theorem divisor_same : ∀ k a b, impl_divisorOf.l0 k a b = spec_l10Common.l0 k a b := by
  intro k
  induction k with
  | zero => intro a b; rfl
  | succ k ih => intro a b; simp only [impl_divisorOf.l0, spec_l10Common.l0, ih]
theorem l10Common_ev (a b : Nat) : Ev (fun k => spec_l10Common.f k (a : Int) (b : Int)) ((Nat.gcd a b : Nat) : Int) := by
  rw [Nat.gcd_comm]
  exact common_ev b a
theorem divisorOf_ev (a b : Nat) : Ev (fun k => impl_divisorOf.f k (a : Int) (b : Int)) ((Nat.gcd a b : Nat) : Int) := by
  rw [Nat.gcd_comm]
  exact Ev.congr (fun k => divisor_same k _ _) (common_ev b a)
def shareN (a b : Nat) : Int × Int := (((a / Nat.gcd a b : Nat) : Int), ((b / Nat.gcd a b : Nat) : Int))
theorem l10Share_ev (a b : Nat) (hb : 0 < b) (ha2 : a ≤ 9223372036854775807) (hb2 : b ≤ 9223372036854775807) : Ev (fun k => spec_l10Share.f k (a : Int) (b : Int)) (shareN a b) := by
  have hg : 0 < Nat.gcd a b := Nat.gcd_pos_of_pos_right a hb
  have h1 := Nat.div_le_self a (Nat.gcd a b)
  have h2 := Nat.div_le_self b (Nat.gcd a b)
  refine ev_bind (l10Common_ev a b) (ev_ifn (by omega) (ev_const ?_))
  rw [tdiv_nat, tdiv_nat, w64n (Nat.le_trans h1 ha2), w64n (Nat.le_trans h2 hb2)]
  rfl
theorem shareOf_ev (a b : Nat) (hb : 0 < b) (ha2 : a ≤ 9223372036854775807) (hb2 : b ≤ 9223372036854775807) : Ev (fun k => impl_shareOf.f k (a : Int) (b : Int)) (shareN a b) := by
  have hg : 0 < Nat.gcd a b := Nat.gcd_pos_of_pos_right a hb
  have h1 := Nat.div_le_self a (Nat.gcd a b)
  have h2 := Nat.div_le_self b (Nat.gcd a b)
  have hd := divisorOf_ev b a
  rw [Nat.gcd_comm] at hd
  refine ev_bind hd (ev_ifn (by omega) (ev_const ?_))
  rw [tdiv_nat, tdiv_nat, w64n (Nat.le_trans h1 ha2), w64n (Nat.le_trans h2 hb2)]
  rfl
end Go.Proofs.Ytjicgmcogadleaa.Pure
namespace Go.Proofs.Ytjicgmcogadleaa.Pure
set_option linter.unusedVariables false
set_option linter.unusedSimpArgs false
open Go.RowKit Go.Proofs.YtjicgmcogadleaaW.PrintWords Go.Proofs.YtjicgmcogadleaaW.PrintLast Go.Proofs.YtjicgmcogadleaaW.PrintMore
def tab {α : Type} (n : Nat) (q : Nat → α) : List α := (List.range n).map q
theorem tab_length {α : Type} (n : Nat) (q : Nat → α) : (tab n q).length = n := by simp [tab]
theorem tab_getD {α : Type} (n : Nat) (q : Nat → α) (z : α) {i : Nat} (h : i < n) : (tab n q).getD i z = q i := by simp [tab, List.getD, h]
theorem tab_congr {α : Type} {n : Nat} {q r : Nat → α} (h : ∀ i, i < n → q i = r i) : tab n q = tab n r := by
  unfold tab
  exact List.map_congr_left (fun i hi => h i (List.mem_range.1 hi))
theorem iter_set_tab {α : Type} (z : α) (q : Nat → α) (n : Nat) (s : List α) (hs : s.length = n) : iter (fun i (s : List α) => s.set i (q i)) 0 n s = tab n q := by
  have hi := iter_inv (fun i (s : List α) => s.set i (q i)) (fun i s => s.length = n ∧ ∀ j, j < i → s.getD j z = q j) n
    (fun i s hI hi => ⟨by simp [hI.1], fun j hj => by
      by_cases e : j = i
      · subst e
        have := hI.1
        simp [List.getD, List.getElem?_set_self (show j < s.length by omega)]
      · rw [← hI.2 j (by omega)]
        simp [List.getD, List.getElem?_set_ne (Ne.symm e)]⟩) n 0 s (by omega) ⟨hs, fun j hj => by omega⟩
  exact eq_index z (by rw [hi.1, tab_length]) (fun j hj => by rw [hi.2 j (by have := hi.1; omega), tab_getD _ _ z (by have := hi.1; omega)])
theorem iter_app_tab {α : Type} (q : Nat → α) : ∀ d i (s : List α), iter (fun i (s : List α) => s ++ [q i]) i d s = s ++ (List.range d).map (fun j => q (i + j)) := by
  intro d
  induction d with
  | zero => intro i s; simp [iter]
  | succ d ih =>
    intro i s
    show iter _ (i + 1) d (s ++ [q i]) = _
    rw [ih (i + 1) (s ++ [q i]), List.append_assoc, List.range_succ_eq_map, List.map_cons, List.map_map]
    congr 1
    show [q i] ++ _ = q (i + 0) :: _
    rw [List.singleton_append, Nat.add_zero]
    congr 1
    refine List.map_congr_left (fun j _ => ?_)
    show q (i + 1 + j) = q (i + (j + 1))
    congr 1
    omega
theorem iter_app0 {α : Type} (q : Nat → α) (n : Nat) : iter (fun i (s : List α) => s ++ [q i]) 0 n [] = tab n q := by
  rw [iter_app_tab, List.nil_append]
  unfold tab
  exact List.map_congr_left (fun j _ => by rw [Nat.zero_add])
end Go.Proofs.Ytjicgmcogadleaa.Pure
namespace Go.Proofs.Ytjicgmcogadleaa.Pure
set_option linter.unusedVariables false
set_option linter.unusedSimpArgs false
open Go.RowKit Go.Proofs.Ytjicgmcogadleaa.P Go.Proofs.YtjicgmcogadleaaW.PrintWords Go.Proofs.YtjicgmcogadleaaW.PrintLast
abbrev SG := S86
abbrev IG := S93
abbrev SHR := S33
def toI (s : SG) : IG := ⟨s.f0.getD 0 0, s.f1, s.f2⟩
theorem rdsg (xs : List SG) (i : Nat) : rd_T86 xs (i : Int) = xs.getD i z86 := by simp [rd_T86]
theorem rdig (xs : List IG) (i : Nat) : rd_T93 xs (i : Int) = xs.getD i z93 := by simp [rd_T93]
theorem map_get (xs : List SG) {i : Nat} (h : i < xs.length) : (xs.map toI).getD i z93 = toI (xs.getD i z86) := by
  rw [getD_eq_get _ (by rw [List.length_map]; exact h), getD_eq_get _ h, List.getElem_map]
def sm {α : Type} (h : α → Int) : List α → Int
  | [] => 0
  | x :: l => h x + sm h l
theorem sm_app {α : Type} (h : α → Int) : ∀ l m : List α, sm h (l ++ m) = sm h l + sm h m
  | [], m => by simp [sm]
  | x :: l, m => by simp only [List.cons_append, sm]; rw [sm_app h l m]; omega
theorem sm_one {α : Type} (h : α → Int) (x : α) : sm h [x] = h x := by simp [sm]
theorem sm_nn {α : Type} {h : α → Int} : ∀ {l : List α}, (∀ x ∈ l, 0 ≤ h x) → 0 ≤ sm h l
  | [], _ => Int.le_refl _
  | x :: l, hp => by
    have h1 := hp x (List.mem_cons_self ..)
    have h2 := sm_nn (l := l) (fun y hy => hp y (List.mem_cons_of_mem _ hy))
    simp only [sm]
    omega
theorem sm_mem {α : Type} {h : α → Int} : ∀ {l : List α} {x : α}, (∀ x ∈ l, 0 ≤ h x) → x ∈ l → h x ≤ sm h l
  | y :: l, x, hp, hx => by
    have h1 := hp y (List.mem_cons_self ..)
    have h2 := sm_nn (l := l) (fun z hz => hp z (List.mem_cons_of_mem _ hz))
    simp only [sm]
    rcases List.mem_cons.1 hx with e | e
    · subst e; omega
    · have := sm_mem (l := l) (fun z hz => hp z (List.mem_cons_of_mem _ hz)) e
      omega
theorem sm_len {α : Type} {h : α → Int} : ∀ {l : List α}, (∀ x ∈ l, 1 ≤ h x) → (l.length : Int) ≤ sm h l
  | [], _ => by simp [sm]
  | x :: l, hp => by
    have h1 := hp x (List.mem_cons_self ..)
    have h2 := sm_len (l := l) (fun y hy => hp y (List.mem_cons_of_mem _ hy))
    simp only [sm, List.length_cons]
    omega
structure GOk (s : SG) : Prop where
  ne : 1 ≤ s.f0.length
  a : 1 ≤ s.f1
  b : 0 ≤ s.f2
  c : s.f2 ≤ s.f1
def len0 (s : SG) : Int := (s.f0.length : Int)
structure GInv (m : Int) (l : List SG) : Prop where
  ok : ∀ s ∈ l, GOk s
  sum : sm (fun s : SG => s.f1) l ≤ 1000 * m
  len : sm len0 l ≤ m
theorem GInv.more {m m' : Int} {l : List SG} (h : GInv m l) (hm : m ≤ m') : GInv m' l := ⟨h.ok, by have := h.sum; omega, by have := h.len; omega⟩
theorem prod_bd {a b : Int} (a0 : 0 ≤ a) (a1 : a ≤ 11000) (b0 : 0 ≤ b) (b1 : b ≤ 11000) : 0 ≤ a * b ∧ a * b ≤ 121000000 := by
  have h1 : a * b ≤ 11000 * b := Int.mul_le_mul_of_nonneg_right a1 b0
  exact ⟨Int.mul_nonneg a0 b0, by omega⟩
theorem l1Own_is4 (l : List Int) (hl : l.length < 17592186044416) : spec_l1Own.f l = some l := by
  unfold spec_l1Own.f
  rw [Option.bind_some, if_pos (by simpa using hl)]
  rfl
theorem pop_sim (cs hs : List Int) (i : Nat) (hi : i < 11) : ∀ (n : Nat) (T : List SG) (q : SG), T.length = n → (∀ s ∈ T, GOk s) → GOk q → sm (fun s : SG => s.f1) T + q.f1 ≤ 1000 * ((i : Int) + 1) → sm len0 T + len0 q ≤ (i : Int) + 1 →
    ∃ T', GInv ((i + 1 : Nat) : Int) T' ∧ (∀ r, Ev (fun k => spec_l10Groups.l0 k T' ((i + 1 : Nat) : Int) cs hs) r → Ev (fun k => spec_l10Groups.l1 k T (i : Int) cs hs q.f0 q.f1 q.f2) r) ∧
      (∀ r, Ev (fun k => impl_calibrationOf.l0 k (T'.map toI) cs 11 ((i + 1 : Nat) : Int) cs hs) r → Ev (fun k => impl_calibrationOf.l1 k (T.map toI) ((T.map toI).length : Int) cs 11 (i : Int) cs hs (toI q).f0 (toI q).f1 (toI q).f2) r) := by
  have e1 := Aside0.mk (show wrap64 ((i : Int) + 1) = ((i + 1 : Nat) : Int) by rw [w64 (by omega) (by omega)]; rfl)
  have stop : ∀ (T : List SG) (q : SG), (∀ s ∈ T, GOk s) → GOk q → sm (fun s : SG => s.f1) T + q.f1 ≤ 1000 * ((i : Int) + 1) → sm len0 T + len0 q ≤ (i : Int) + 1 → GInv ((i + 1 : Nat) : Int) (T ++ [q]) := fun T q hT hq h1 h2 =>
    ⟨fun s hs => (List.mem_append.1 hs).elim (hT s) (fun h => by rw [List.mem_singleton.1 h]; exact hq), by rw [sm_app, sm_one]; omega, by rw [sm_app, sm_one]; omega⟩
  have short : ∀ T : List SG, (∀ s ∈ T, GOk s) → ∀ q : SG, GOk q → sm (fun s : SG => s.f1) T + q.f1 ≤ 1000 * ((i : Int) + 1) → T.length ≤ 11000 := fun T hT q hq h1 => by
    have := sm_len (h := fun s : SG => s.f1) (l := T) (fun s hs => (hT s hs).a)
    have := hq.a
    omega
  intro n
  induction n with
  | zero =>
    intro T q hn hT hq h1 h2
    obtain rfl := List.length_eq_zero_iff.1 hn
    refine ⟨[] ++ [q], stop [] q hT hq h1 h2, fun r h => ?_, fun r h => ?_⟩
    · refine ev_step (fun k => spec_l10Groups.l1.eq_2 _ _ _ _ _ _ _ k) (ev_ifn (by simp) (ev_ifp (by simp) ?_))
      rw [e1.out]
      exact h
    · refine ev_step (fun k => impl_calibrationOf.l1.eq_2 _ _ _ _ _ _ _ _ _ _ k) (ev_ifn (by simp) (ev_ifp (by simp) ?_))
      rw [e1.out]
      exact h
  | succ n ih =>
    intro T q hn hT hq h1 h2
    have hTs := short T hT q hq h1
    have hne : T ≠ [] := fun e => by rw [e] at hn; simp at hn
    obtain ⟨U, b, rfl⟩ : ∃ U b, T = U ++ [b] := ⟨T.dropLast, T.getLast hne, (List.dropLast_concat_getLast hne).symm⟩
    have hU : U.length = n := by rw [List.length_append, List.length_singleton] at hn; omega
    have hb := hT b (List.mem_append.2 (.inr (List.mem_singleton.2 rfl)))
    have hTU : ∀ s ∈ U, GOk s := fun s hs => hT s (List.mem_append.2 (.inl hs))
    rw [sm_app, sm_one] at h1 h2
    have n1 := sm_nn (h := fun s : SG => s.f1) (l := U) (fun s hs => by have := (hTU s hs).a; omega)
    have n2 := sm_nn (h := len0) (l := U) (fun s hs => by unfold len0; omega)
    have l1 : ((U ++ [b]).length : Int) = (U.length : Int) + 1 := by simp
    have l2 : (((U ++ [b]).map toI).length : Int) = (U.length : Int) + 1 := by simp
    have ei : wrap64 ((U.length : Int) + 1 - 1) = (U.length : Int) := by rw [w64 (by omega) (by omega)]; omega
    have g1 : (U ++ [b]).getD U.length z86 = b := by simp [List.getD]
    have g2 : ((U ++ [b]).map toI).getD U.length z93 = toI b := by rw [map_get _ (by simp), g1]
    have t1 : (U ++ [b]).take U.length = U := by simp
    have t2 : ((U ++ [b]).map toI).take U.length = U.map toI := by simp
    have ba := hb.a
    have bb := hb.b
    have bc := hb.c
    have qa := hq.a
    have qb := hq.b
    have qc := hq.c
    have p1 := prod_bd (a := b.f2) (b := q.f1) bb (by omega) (by omega) (by omega)
    have p2 := prod_bd (a := q.f2) (b := b.f1) qb (by omega) (by omega) (by omega)
    have w1 := Aside0.mk (show wrap64 (b.f2 * q.f1) = b.f2 * q.f1 from w64 (by omega) (by omega))
    have w2 := Aside0.mk (show wrap64 (q.f2 * b.f1) = q.f2 * b.f1 from w64 (by omega) (by omega))
    have w3 := Aside0.mk (show wrap64 (b.f1 + q.f1) = b.f1 + q.f1 from w64 (by omega) (by omega))
    have w4 := Aside0.mk (show wrap64 (b.f2 + q.f2) = b.f2 + q.f2 from w64 (by omega) (by omega))
    have v1 := Aside0.mk (show wrap64 ((toI b).f2 * (toI q).f1) = b.f2 * q.f1 from w1.out)
    have v2 := Aside0.mk (show wrap64 ((toI q).f2 * (toI b).f1) = q.f2 * b.f1 from w2.out)
    have v3 := Aside0.mk (show wrap64 ((toI b).f1 + (toI q).f1) = b.f1 + q.f1 from w3.out)
    have v4 := Aside0.mk (show wrap64 ((toI b).f2 + (toI q).f2) = b.f2 + q.f2 from w4.out)
    unfold len0 at h2 n2
    have bl : b.f0.length < 100 := by omega
    have ql : q.f0.length < 100 := by omega
    by_cases hc : b.f2 * q.f1 > q.f2 * b.f1
    · obtain ⟨T', i1, i2, i3⟩ := ih U ⟨b.f0 ++ q.f0, b.f1 + q.f1, b.f2 + q.f2⟩ hU hTU ⟨by have := hb.ne; simp; omega, by dsimp only; omega, by dsimp only; omega, by dsimp only; omega⟩ (by dsimp only; omega) (by unfold len0; simp only [List.length_append]; omega)
      have ef : (b.f0 ++ q.f0).getD 0 0 = b.f0.getD 0 0 := by
        have := hb.ne
        simp only [List.getD, List.getElem?_append_left (show 0 < b.f0.length by omega)]
      refine ⟨T', i1, fun r h => ?_, fun r h => ?_⟩
      · have h3 := i2 r h
        refine ev_step (fun k => spec_l10Groups.l1.eq_2 _ _ _ _ _ _ _ k) ?_
        rw [l1, ei, rdsg, g1, w1.out, w2.out, w3.out, w4.out, Int.toNat_natCast, t1]
        exact ev_ifp (by omega) (ev_ifp (by omega) (ev_ifp (by omega) (ev_ifp hc (ev_bind (ev_const (l1Own_is4 b.f0 (by omega))) (ev_ifp (by omega) (ev_ifp (by omega) h3))))))
      · have h3 := i3 r h
        refine ev_step (fun k => impl_calibrationOf.l1.eq_2 _ _ _ _ _ _ _ _ _ _ k) ?_
        rw [l2, ei, rdig, g2, v1.out, v2.out, v3.out, v4.out, Int.toNat_natCast, t2]
        refine ev_ifp (by omega) (ev_ifp (by omega) (ev_ifp (by omega) (ev_ifn (by omega) (ev_ifp (by omega) (ev_bind (ev_some _) ?_)))))
        show Ev (fun k => impl_calibrationOf.l1 k (U.map toI) ((U.map toI).length : Int) cs 11 (i : Int) cs hs (b.f0.getD 0 0) (b.f1 + q.f1) (b.f2 + q.f2)) r
        rw [← ef]
        exact h3
    · refine ⟨(U ++ [b]) ++ [q], stop _ q hT hq (by rw [sm_app, sm_one]; omega) (by rw [sm_app, sm_one]; unfold len0; omega), fun r h => ?_, fun r h => ?_⟩
      · refine ev_step (fun k => spec_l10Groups.l1.eq_2 _ _ _ _ _ _ _ k) ?_
        rw [l1, ei, rdsg, g1, w1.out, w2.out, e1.out]
        exact ev_ifp (by omega) (ev_ifp (by omega) (ev_ifp (by omega) (ev_ifn hc (ev_ifp (by omega) h))))
      · refine ev_step (fun k => impl_calibrationOf.l1.eq_2 _ _ _ _ _ _ _ _ _ _ k) ?_
        rw [l2, ei, rdig, g2, e1.out, v1.out, v2.out]
        have h' : Ev (fun k => impl_calibrationOf.l0 k ((U ++ [b]).map toI ++ [toI q]) cs 11 ((i + 1 : Nat) : Int) cs hs) r := by
          rw [List.map_append] at h
          exact h
        exact ev_ifp (by omega) (ev_ifp (by omega) (ev_ifp (by omega) (ev_ifp (by omega) (ev_ifp (by rw [List.length_map]; omega) h'))))
theorem groups_sim {cs hs : List Int} (ok : tallyOk cs hs = true) : ∀ (d i : Nat) (T : List SG), i + d = 11 → GInv (i : Int) T →
    ∃ G, GInv 11 G ∧ Ev (fun k => spec_l10Groups.l0 k T (i : Int) cs hs) G ∧ (∀ r, Ev (fun k => impl_calibrationOf.l0 k (G.map toI) cs 11 11 cs hs) r → Ev (fun k => impl_calibrationOf.l0 k (T.map toI) cs 11 (i : Int) cs hs) r) := by
  obtain ⟨hc, hh, hv⟩ := tallyOk_iff.1 ok
  intro d
  induction d with
  | zero =>
    intro i T h0 hT
    obtain rfl : i = 11 := by omega
    exact ⟨T, hT, ev_step (fun k => spec_l10Groups.l0.eq_2 _ _ _ _ k) (ev_ifn (by omega) (ev_some _)), fun r h => h⟩
  | succ d ih =>
    intro i T h0 hT
    have hi : i < 11 := by omega
    obtain ⟨v1, v2, v3, v4⟩ := hv i hi
    have e1 := Aside0.mk (show wrap64 ((i : Int) + 1) = ((i + 1 : Nat) : Int) by rw [w64 (by omega) (by omega)]; rfl)
    by_cases h1 : cs.getD i 0 = 0
    · obtain ⟨G, g1, g2, g3⟩ := ih (i + 1) T (by omega) (hT.more (by omega))
      refine ⟨G, g1, ?_, fun r h => ?_⟩
      · refine ev_step (fun k => spec_l10Groups.l0.eq_2 _ _ _ _ k) (ev_ifp (by omega) (ev_ifp (by omega) ?_))
        rw [rd_nat, e1.out]
        exact ev_ifp h1 g2
      · refine ev_step (fun k => impl_calibrationOf.l0.eq_2 _ _ _ _ _ _ k) (ev_ifp (by omega) (ev_ifp (by omega) (ev_ifp (by omega) ?_)))
        rw [rd_nat, e1.out]
        exact ev_ifp h1 (g3 r h)
    · obtain ⟨T', t1, t2, t3⟩ := pop_sim cs hs i hi T.length T ⟨[(i : Int)], cs.getD i 0, hs.getD i 0⟩ rfl hT.ok ⟨by simp, by dsimp only; omega, v3, v4⟩ (by have := hT.sum; dsimp only; omega) (by have := hT.len; unfold len0; simp only [List.length_singleton]; unfold len0 at this; omega)
      obtain ⟨G, g1, g2, g3⟩ := ih (i + 1) T' (by omega) t1
      refine ⟨G, g1, ?_, fun r h => ?_⟩
      · refine ev_step (fun k => spec_l10Groups.l0.eq_2 _ _ _ _ k) (ev_ifp (by omega) (ev_ifp (by omega) ?_))
        rw [rd_nat, rd_nat]
        exact ev_ifn h1 (ev_ifp (by omega) (t2 G g2))
      · refine ev_step (fun k => impl_calibrationOf.l0.eq_2 _ _ _ _ _ _ k) (ev_ifp (by omega) (ev_ifp (by omega) (ev_ifp (by omega) ?_)))
        rw [rd_nat, rd_nat]
        exact ev_ifn h1 (ev_ifp (by omega) (t3 r (g3 r h)))
def pkG (G : List SG) (c : Int) : Nat → Nat
  | 0 => 0
  | i + 1 => if (G.getD i z86).f0.getD 0 0 ≤ c then i else pkG G c i
theorem pkG_lt (G : List SG) (c : Int) : ∀ i, 1 ≤ G.length → i ≤ G.length → pkG G c i < G.length
  | 0, h, _ => h
  | i + 1, h, h1 => by
    unfold pkG
    split
    · omega
    · exact pkG_lt G c i h (by omega)
def grp (G : List SG) (c : Int) : SG := G.getD (pkG G c G.length) z86
def shG (G : List SG) (c : Int) : SHR := ⟨(shareN (grp G c).f2.toNat (grp G c).f1.toNat).1, (shareN (grp G c).f2.toNat (grp G c).f1.toNat).2⟩
section
variable {G : List SG} (hG : GInv 11 G) (h1 : 1 ≤ G.length)
include hG h1
theorem grp_ok (c : Int) : GOk (grp G c) := by
  unfold grp
  rw [getD_eq_get _ (pkG_lt G c G.length h1 (Nat.le_refl _))]
  exact hG.ok _ (List.getElem_mem _)
omit h1 in
theorem G_short : G.length ≤ 11000 := by
  have := sm_len (h := fun s : SG => s.f1) (l := G) (fun s hs => (hG.ok s hs).a)
  have := hG.sum
  omega
theorem grp_bd (c : Int) : (grp G c).f1 ≤ 11000 := by
  have hm : grp G c ∈ G := by
    unfold grp
    rw [getD_eq_get _ (pkG_lt G c G.length h1 (Nat.le_refl _))]
    exact List.getElem_mem _
  have := sm_mem (h := fun s : SG => s.f1) (l := G) (fun s hs => by have := (hG.ok s hs).a; omega) hm
  have := hG.sum
  omega
theorem share_spec (c : Int) : Ev (fun k => spec_l10Share.f k (grp G c).f2 (grp G c).f1) (shareN (grp G c).f2.toNat (grp G c).f1.toNat) := by
  have o := grp_ok hG h1 c
  have b := grp_bd hG h1 c
  have oa := o.a
  have ob := o.b
  have oc := o.c
  have h := l10Share_ev (grp G c).f2.toNat (grp G c).f1.toNat (by omega) (by omega) (by omega)
  rw [Int.toNat_of_nonneg ob, Int.toNat_of_nonneg (show 0 ≤ (grp G c).f1 by omega)] at h
  exact h
theorem share_impl (c : Int) : Ev (fun k => impl_shareOf.f k (grp G c).f2 (grp G c).f1) (shareN (grp G c).f2.toNat (grp G c).f1.toNat) := by
  have o := grp_ok hG h1 c
  have b := grp_bd hG h1 c
  have oa := o.a
  have ob := o.b
  have oc := o.c
  have h := shareOf_ev (grp G c).f2.toNat (grp G c).f1.toNat (by omega) (by omega) (by omega)
  rw [Int.toNat_of_nonneg ob, Int.toNat_of_nonneg (show 0 ≤ (grp G c).f1 by omega)] at h
  exact h
theorem pick_spec (c : Int) : Ev (fun k => spec_l10Shares.l1 k G c (G.getD 0 z86).f1 (G.getD 0 z86).f2 0) ((grp G c).f1, (grp G c).f2) := by
  have hs := G_short hG
  have h := loop_ev (fun k (a : Nat) i => spec_l10Shares.l1 k G c (G.getD a z86).f1 (G.getD a z86).f2 (i : Int)) G.length (fun i a => if (G.getD i z86).f0.getD 0 0 ≤ c then i else a) (fun _ => ((grp G c).f1, (grp G c).f2)) (fun i a => a = pkG G c i)
    (fun i a r hI hi hh => by
      have e1 := Aside0.mk (show wrap64 ((i : Int) + 1) = ((i + 1 : Nat) : Int) by rw [w64 (by omega) (by omega)]; rfl)
      have hne : 1 ≤ (G.getD i z86).f0.length := by
        rw [getD_eq_get _ hi]
        exact (hG.ok _ (List.getElem_mem hi)).ne
      refine ev_step (fun k => spec_l10Shares.l1.eq_2 _ _ _ _ _ k) (ev_ifp (by omega) (ev_ifp (by omega) ?_))
      rw [rdsg, e1.out]
      refine ev_ifp (by omega) ?_
      have r0 : rd (G.getD i z86).f0 0 = (G.getD i z86).f0.getD 0 0 := rfl
      rw [r0]
      by_cases hle : (G.getD i z86).f0.getD 0 0 ≤ c
      · simp only [if_pos hle] at hh
        exact ev_ifp hle hh
      · simp only [if_neg hle] at hh
        exact ev_ifn hle hh)
    (fun i a hI hi => by show (if (G.getD i z86).f0.getD 0 0 ≤ c then i else a) = pkG G c (i + 1); rw [hI]; rfl)
    (fun a hI => ev_step (fun k => spec_l10Shares.l1.eq_2 _ _ _ _ _ k) (ev_ifn (by omega) (ev_const (by rw [hI]; rfl)))) 0 0 (Nat.zero_le _) rfl
  exact h
theorem pick_impl (c : Nat) (hc : c < 11) (out : List SHR) (r : List SHR × Bool) (ho : out.length = 11) (h : Ev (fun k => impl_calibrationOf.l2 k (G.map toI) (out.set c (shG G (c : Int))) 11 ((c + 1 : Nat) : Int)) r) :
    Ev (fun k => impl_calibrationOf.l3 k (G.map toI) out (c : Int) 0 11 (c : Int) (G.map toI) ((G.map toI).length : Int) 0) r := by
  have hs := G_short hG
  have hl : ((G.map toI).length : Int) = (G.length : Int) := by rw [List.length_map]
  rw [hl]
  have e2 := Aside0.mk (show wrap64 ((c : Int) + 1) = ((c + 1 : Nat) : Int) by rw [w64 (by omega) (by omega)]; rfl)
  have h2 := loop_ev (fun k (a : Nat) i => impl_calibrationOf.l3 k (G.map toI) out (c : Int) (a : Int) 11 (c : Int) (G.map toI) (G.length : Int) (i : Int)) G.length (fun i a => if (G.getD i z86).f0.getD 0 0 ≤ (c : Int) then i else a) (fun _ => r) (fun i a => a = pkG G (c : Int) i)
    (fun i a r hI hi hh => by
      have e1 := Aside0.mk (show wrap64 ((i : Int) + 1) = ((i + 1 : Nat) : Int) by rw [w64 (by omega) (by omega)]; rfl)
      refine ev_step (fun k => impl_calibrationOf.l3.eq_2 _ _ _ _ _ _ _ _ _ k) (ev_ifp (by omega) (ev_ifp (by omega) (ev_ifp (by omega) ?_)))
      rw [rdig, map_get _ hi, e1.out]
      have r0 : (toI (G.getD i z86)).f0 = (G.getD i z86).f0.getD 0 0 := rfl
      rw [r0]
      by_cases hle : (G.getD i z86).f0.getD 0 0 ≤ (c : Int)
      · simp only [if_pos hle] at hh
        exact ev_ifp hle hh
      · simp only [if_neg hle] at hh
        exact ev_ifn hle hh)
    (fun i a hI hi => by show (if (G.getD i z86).f0.getD 0 0 ≤ (c : Int) then i else a) = pkG G (c : Int) (i + 1); rw [hI]; rfl)
    (fun a hI => by
      have hlt := pkG_lt G (c : Int) G.length h1 (Nat.le_refl _)
      rw [← hI] at hlt
      refine ev_step (fun k => impl_calibrationOf.l3.eq_2 _ _ _ _ _ _ _ _ _ k) (ev_ifn (by omega) (ev_ifp (by omega) (ev_ifp (by omega) ?_)))
      rw [rdig, map_get _ hlt, e2.out]
      have eg : G.getD a z86 = grp G (c : Int) := by rw [hI]; rfl
      rw [eg]
      refine ev_bind (share_impl hG h1 (c : Int)) (ev_ifp (by omega) (ev_ifp (by omega) ?_))
      rw [Int.toNat_natCast]
      exact h) 0 0 (Nat.zero_le _) rfl
  exact h2
theorem shares_spec : Ev (fun k => spec_l10Shares.l0 k G 0 []) (tab 11 (fun c => shG G (c : Int))) := by
  have h := loop_ev (fun k (out : List SHR) i => spec_l10Shares.l0 k G (i : Int) out) 11 (fun i out => out ++ [shG G (i : Int)]) (fun s => s) (fun i out => out.length = i)
    (fun i out r hI hi hh => by
      have e1 := Aside0.mk (show wrap64 ((i : Int) + 1) = ((i + 1 : Nat) : Int) by rw [w64 (by omega) (by omega)]; rfl)
      refine ev_step (fun k => spec_l10Shares.l0.eq_2 _ _ _ k) (ev_ifp (by omega) (ev_ifp (by omega) ?_))
      rw [show rd_T86 G 0 = G.getD 0 z86 from rdsg G 0, e1.out]
      exact ev_bind (pick_spec hG h1 (i : Int)) (ev_bind (share_spec hG h1 (i : Int)) (ev_ifp (by omega) hh)))
    (fun i out hI hi => by rw [List.length_append, hI]; rfl)
    (fun s hI => ev_step (fun k => spec_l10Shares.l0.eq_2 _ _ _ k) (ev_ifn (by omega) (ev_some _))) 0 [] (Nat.zero_le _) rfl
  rw [Nat.sub_zero, iter_app0] at h
  exact h
theorem shares_impl : Ev (fun k => impl_calibrationOf.l2 k (G.map toI) (List.replicate 11 z33) 11 0) (tab 11 (fun c => shG G (c : Int)), true) := by
  have h := loop_ev (fun k (out : List SHR) i => impl_calibrationOf.l2 k (G.map toI) out 11 (i : Int)) 11 (fun i out => out.set i (shG G (i : Int))) (fun s => (s, true)) (fun _ out => out.length = 11)
    (fun i out r hI hi hh => ev_step (fun k => impl_calibrationOf.l2.eq_2 _ _ _ _ k) (ev_ifp (by omega) (pick_impl hG h1 i hi out r hI hh)))
    (fun i out hI hi => by simpa using hI)
    (fun s hI => ev_step (fun k => impl_calibrationOf.l2.eq_2 _ _ _ _ k) (ev_ifn (by omega) (ev_some _))) 0 (List.replicate 11 z33) (Nat.zero_le _) (by simp)
  rw [Nat.sub_zero, iter_set_tab z33 (fun c : Nat => shG G (c : Int)) 11 _ (by simp)] at h
  exact h
end
theorem calib_both {cs hs : List Int} (ok : tallyOk cs hs = true) : ∃ G, GInv 11 G ∧ Ev (fun k => spec_l10Groups.f k cs hs) G ∧
    ((G = [] ∧ Ev (fun k => spec_l10Shares.f k cs hs) [] ∧ Ev (fun k => impl_calibrationOf.f k cs hs) ([], false)) ∨
     (1 ≤ G.length ∧ Ev (fun k => spec_l10Shares.f k cs hs) (tab 11 (fun c => shG G (c : Int))) ∧ Ev (fun k => impl_calibrationOf.f k cs hs) (tab 11 (fun c => shG G (c : Int)), true))) := by
  obtain ⟨hc, hh, hv⟩ := tallyOk_iff.1 ok
  obtain ⟨G, g1, g2, g3⟩ := groups_sim ok 11 0 [] rfl ⟨fun s hs => absurd hs (by simp), by simp [sm], by simp [sm]⟩
  refine ⟨G, g1, g2, ?_⟩
  have h11 : ((cs.length : Nat) : Int) = 11 := by omega
  by_cases h : G.length = 0
  · obtain rfl := List.length_eq_zero_iff.1 h
    refine .inl ⟨rfl, ?_, ?_⟩
    · unfold spec_l10Shares.f spec_l10Groups.f
      exact ev_bind g2 (ev_ifp rfl (ev_some _))
    · unfold impl_calibrationOf.f
      rw [h11]
      exact g3 _ (ev_step (fun k => impl_calibrationOf.l0.eq_2 _ _ _ _ _ _ k) (ev_ifn (by omega) (ev_ifp (by simp) (ev_some _))))
  · refine .inr ⟨by omega, ?_, ?_⟩
    · unfold spec_l10Shares.f spec_l10Groups.f
      exact ev_bind g2 (ev_ifn (by omega) (shares_spec g1 (by omega)))
    · unfold impl_calibrationOf.f
      rw [h11]
      refine g3 _ (ev_step (fun k => impl_calibrationOf.l0.eq_2 _ _ _ _ _ _ k) (ev_ifn (by omega) (ev_ifn (by rw [List.length_map]; omega) (ev_ifp (by omega) (ev_bind (ev_some _) ?_)))))
      simp only [List.length_replicate]
      exact shares_impl g1 (by omega)
abbrev SH := S33
theorem rdsh (xs : List SH) (i : Nat) : rd_T33 xs (i : Int) = xs.getD i z33 := by simp [rd_T33]
def shareOk (x y : Int) : Bool := inb y 1 1000000 && (inb x 0 y && ((Nat.gcd x.toNat y.toNat : Nat) : Int) == 1)
theorem l10Fraction_ev (x y : Int) : Ev (fun k => spec_l10Fraction.f k x y) (shareOk x y) := by
  unfold spec_l10Fraction.f shareOk
  simp only [l1In_is, Option.bind_some]
  cases h1 : inb y 1 1000000 with
  | false => exact ev_ifn (by simp) (ev_some _)
  | true =>
    cases h2 : inb x 0 y with
    | false => exact ev_ifp rfl (ev_ifn (by simp) (ev_some _))
    | true =>
      obtain ⟨p, rfl⟩ := Int.eq_ofNat_of_zero_le (inb_iff.1 h2).1
      obtain ⟨q, rfl⟩ := Int.eq_ofNat_of_zero_le (show 0 ≤ y by have := (inb_iff.1 h1).1; omega)
      exact ev_ifp rfl (ev_ifp rfl (ev_bind (l10Common_ev p q) (ev_some _)))
theorem isShare_ev (x y : Int) : Ev (fun k => impl_isShare.f k x y) (shareOk x y) := by
  unfold impl_isShare.f shareOk
  simp only [within_is, Option.bind_some]
  cases h1 : inb y 1 1000000 with
  | false => exact ev_ifn (by simp) (ev_some _)
  | true =>
    cases h2 : inb x 0 y with
    | false => exact ev_ifp rfl (ev_ifn (by simp) (ev_some _))
    | true =>
      obtain ⟨p, rfl⟩ := Int.eq_ofNat_of_zero_le (inb_iff.1 h2).1
      obtain ⟨q, rfl⟩ := Int.eq_ofNat_of_zero_le (show 0 ≤ y by have := (inb_iff.1 h1).1; omega)
      have h := divisorOf_ev q p
      rw [Nat.gcd_comm] at h
      exact ev_ifp rfl (ev_ifp rfl (ev_bind h (ev_some _)))
def lessSh (a b : SH) : Bool := decide (wrap64 (a.f0 * b.f1) < wrap64 (b.f0 * a.f1))
theorem compare_is (a b : SH) : impl_compareShares.f a.f0 a.f1 b.f0 b.f1 = some (if lessSh a b = true then -1 else if wrap64 (a.f0 * b.f1) > wrap64 (b.f0 * a.f1) then 1 else 0) := by
  unfold impl_compareShares.f cmp_Compare_int.f cmp_isNaN_int.f lessSh
  generalize wrap64 (a.f0 * b.f1) = x
  generalize wrap64 (b.f0 * a.f1) = y
  simp
  by_cases h : x < y
  · simp [h]
  · by_cases h2 : y < x
    · simp [h, h2]
    · simp [h, h2]
def reach (L : List SH) (x y : Int) (i : Nat) : Bool := !lessSh (L.getD i z33) ⟨x, y⟩
def firstR (L : List SH) (x y : Int) (i d : Nat) : Int × Bool := if fidx (reach L x y) i d < 0 then (0, false) else (fidx (reach L x y) i d, true)
theorem reach_is (s : SH) (x y : Int) : impl_ClassFor_1.f s.f0 s.f1 x y = some (!lessSh s ⟨x, y⟩) := by
  unfold impl_ClassFor_1.f
  rw [compare_is s ⟨x, y⟩, Option.bind_some]
  cases lessSh s ⟨x, y⟩ with
  | true => simp
  | false =>
    simp only [Bool.false_eq_true, if_false, Bool.not_false]
    split <;> simp
theorem class_spec (L : List SH) (x y : Int) (hl : L.length ≤ 1000) : Ev (fun k => spec_ClassFor.l0 k L 0 x y) (firstR L x y 0 L.length) := by
  have key : ∀ d i, L.length - i = d → i ≤ L.length → Ev (fun k => spec_ClassFor.l0 k L (i : Int) x y) (firstR L x y i d) := by
    intro d
    induction d with
    | zero =>
      intro i h0 h1
      exact ev_step (fun k => spec_ClassFor.l0.eq_2 _ _ _ _ k) (ev_ifn (by omega) (ev_some _))
    | succ d ih =>
      intro i h0 h1
      have e1 := Aside0.mk (show wrap64 ((i : Int) + 1) = ((i + 1 : Nat) : Int) by rw [w64 (by omega) (by omega)]; rfl)
      have h := ih (i + 1) (by omega) (by omega)
      have hls : spec_l10Less.f (L.getD i z33).f0 (L.getD i z33).f1 x y = some (lessSh (L.getD i z33) ⟨x, y⟩) := rfl
      refine ev_step (fun k => spec_ClassFor.l0.eq_2 _ _ _ _ k) (ev_ifp (by omega) (ev_ifp (by omega) ?_))
      rw [rdsh, e1.out]
      refine ev_bind (ev_const hls) ?_
      have er : reach L x y i = !lessSh (L.getD i z33) ⟨x, y⟩ := rfl
      cases hb : lessSh (L.getD i z33) ⟨x, y⟩ with
      | true =>
        rw [hb] at er
        have ef : fidx (reach L x y) i (d + 1) = fidx (reach L x y) (i + 1) d := by rw [fidx.eq_2, er]; rfl
        have e3 : firstR L x y i (d + 1) = firstR L x y (i + 1) d := by unfold firstR; rw [ef]
        rw [e3]
        exact ev_ifp rfl h
      | false =>
        rw [hb] at er
        have ef : fidx (reach L x y) i (d + 1) = (i : Int) := by rw [fidx.eq_2, er]; rfl
        have e3 : firstR L x y i (d + 1) = ((i : Int), true) := by unfold firstR; rw [ef, if_neg (by omega)]
        rw [e3]
        exact ev_ifn (by simp) (ev_some _)
  exact key L.length 0 rfl (Nat.zero_le _)
theorem class_impl (L : List SH) (x y : Int) (hl : L.length ≤ 1000) : Ev (fun k => slices_IndexFunc_Share_at_mp_mpGst33_bool.f k (fun z0_ z1_ => impl_ClassFor_1.f z0_ z1_ x y) L) (fidx (reach L x y) 0 L.length) := by
  have h := find_ev (fun k i => slices_IndexFunc_Share_at_mp_mpGst33_bool.l0 (fun z0_ z1_ => impl_ClassFor_1.f z0_ z1_ x y) k L (L.length : Int) (i : Int)) L.length (reach L x y)
    (fun i r hi hp h => by
      have e1 := Aside0.mk (show wrap64 ((i : Int) + 1) = ((i + 1 : Nat) : Int) by rw [w64 (by omega) (by omega)]; rfl)
      refine ev_step (fun k => slices_IndexFunc_Share_at_mp_mpGst33_bool.l0.eq_2 _ _ _ _ k) (ev_ifp (by omega) (ev_ifp (by omega) (ev_ifp (by omega) ?_)))
      rw [rdsh, e1.out]
      refine ev_bind (ev_const (reach_is _ x y)) ?_
      unfold reach at hp
      rw [hp]
      exact ev_ifn (by simp) h)
    (fun i hi hp => by
      refine ev_step (fun k => slices_IndexFunc_Share_at_mp_mpGst33_bool.l0.eq_2 _ _ _ _ k) (ev_ifp (by omega) (ev_ifp (by omega) (ev_ifp (by omega) ?_)))
      rw [rdsh]
      refine ev_bind (ev_const (reach_is _ x y)) ?_
      unfold reach at hp
      rw [hp]
      exact ev_ifp rfl (ev_some _))
    (ev_step (fun k => slices_IndexFunc_Share_at_mp_mpGst33_bool.l0.eq_2 _ _ _ _ k) (ev_ifn (by omega) (ev_some _)))
  unfold slices_IndexFunc_Share_at_mp_mpGst33_bool.f
  exact h
end Go.Proofs.Ytjicgmcogadleaa.Pure
namespace Go.Proofs.Ytjicgmcogadleaa.P
open Go.RowKit Go.Proofs.YtjicgmcogadleaaW.PrintWords Go.Proofs.YtjicgmcogadleaaW.PrintLast Go.Proofs.YtjicgmcogadleaaW.PrintMore
attribute [local go_sem] max2_int min2_int max_two min_two max_three min_three max_four min_four
set_option linter.unusedVariables false
set_option linter.unusedSimpArgs false
set_option maxHeartbeats 8000000
set_option maxRecDepth 100000
end Go.Proofs.Ytjicgmcogadleaa.P
namespace Go.Proofs.Ytjicgmcogadleaa.Pure
set_option linter.unusedVariables false
set_option linter.unusedSimpArgs false
open Go.RowKit Go.Proofs.Ytjicgmcogadleaa.P Go.Proofs.YtjicgmcogadleaaW.PrintWords Go.Proofs.YtjicgmcogadleaaW.PrintLast
end Go.Proofs.Ytjicgmcogadleaa.Pure
namespace Go.Proofs.Ytjicgmcogadleaa.Pure
set_option linter.unusedVariables false
set_option linter.unusedSimpArgs false
open Go.RowKit Go.Proofs.Ytjicgmcogadleaa.P Go.Proofs.YtjicgmcogadleaaW.PrintWords Go.Proofs.YtjicgmcogadleaaW.PrintLast
theorem frequency_both (c h : List Int) (x : Int) : ∃ r, Ev (fun k => spec_FrequencyOf.f k c h x) r ∧ Ev (fun k => impl_FrequencyOf.f k c h x) r := by
  unfold spec_FrequencyOf.f impl_FrequencyOf.f spec_l10Class.f
  simp only [l1In_is, within_is, Option.bind_some]
  cases hg : tallyOk c h with
  | false => exact ⟨_, ev_bind (l10Good_ev c h) (by rw [hg]; exact ev_ifn (by simp) (ev_some (0, 0, false))), ev_bind (isValidTally_ev c h) (by rw [hg]; exact ev_ifn (by simp) (ev_some (0, 0, false)))⟩
  | true =>
    cases hx : inb x 0 10 with
    | false => exact ⟨_, ev_bind (l10Good_ev c h) (by rw [hg]; exact ev_ifp rfl (ev_ifn (by simp) (ev_some (0, 0, false)))), ev_bind (isValidTally_ev c h) (by rw [hg]; exact ev_ifp rfl (ev_ifn (by simp) (ev_some (0, 0, false))))⟩
    | true =>
      obtain ⟨h1, h2, h3⟩ := tallyOk_iff.1 hg
      obtain ⟨i, rfl⟩ := Int.eq_ofNat_of_zero_le (inb_iff.1 hx).1
      have hi : i < 11 := by have := (inb_iff.1 hx).2; omega
      obtain ⟨b1, b2, b3, b4⟩ := h3 i hi
      by_cases hz : c.getD i 0 = 0
      · exact ⟨_, ev_bind (l10Good_ev c h) (by rw [hg]; exact ev_ifp rfl (ev_ifp rfl (ev_ifp (by omega) (ev_ifp (by omega) (ev_ifp (by rw [rd_nat]; exact hz) (ev_some (0, 0, false))))))),
          ev_bind (isValidTally_ev c h) (by rw [hg]; exact ev_ifp rfl (ev_ifp rfl (ev_ifp (by omega) (ev_ifp (by omega) (ev_ifp (by rw [rd_nat]; exact hz) (ev_some (0, 0, false)))))))⟩
      · obtain ⟨p, hp⟩ := Int.eq_ofNat_of_zero_le b1
        obtain ⟨q, hq⟩ := Int.eq_ofNat_of_zero_le b3
        have e1 := l10Share_ev q p (by omega) (by omega) (by omega)
        have e2 := shareOf_ev q p (by omega) (by omega) (by omega)
        refine ⟨((shareN q p).1, (shareN q p).2, true), ev_bind (l10Good_ev c h) ?_, ev_bind (isValidTally_ev c h) ?_⟩
        · rw [hg]
          refine ev_ifp rfl (ev_ifp rfl (ev_ifp (by omega) (ev_ifp (by omega) (ev_ifn (by rw [rd_nat]; exact hz) (ev_ifp (by omega) (ev_bind (r := shareN q p) ?_ (ev_some _)))))))
          rw [rd_nat, rd_nat, hp, hq]
          exact e1
        · rw [hg]
          refine ev_ifp rfl (ev_ifp rfl (ev_ifp (by omega) (ev_ifp (by omega) (ev_ifn (by rw [rd_nat]; exact hz) (ev_ifp (by omega) (ev_bind (r := shareN q p) ?_ (ev_some _)))))))
          rw [rd_nat, rd_nat, hp, hq]
          exact e2
def sharesOk (l : List SH) : Bool := l.all (fun s => shareOk s.f0 s.f1)
def rising (l : List SH) : Bool := rall (fun i => !lessSh (l.getD (i + 1) z33) (l.getD i z33)) 0 (l.length - 1)
def monoR (l : List SH) : Bool × Bool := if decide (l.length ≤ 20) && sharesOk l then (rising l, true) else (false, false)
theorem mono_l1 (l : List SH) (hl : l.length ≤ 20) : Ev (fun k => spec_IsMonotone.l1 k l 1) (rising l, true) := by
  have h := all_ev (fun k i => spec_IsMonotone.l1 k l ((i + 1 : Nat) : Int)) (l.length - 1) (fun i => !lessSh (l.getD (i + 1) z33) (l.getD i z33)) (false, true) (true, true)
    (fun i r hi hp h => ev_step (fun k => by
      have e : wrap64 (((i + 1 : Nat) : Int) - 1) = (i : Int) := by rw [w64 (by omega) (by omega)]; omega
      simp only [spec_IsMonotone.l1, spec_l10Less.f, e, Option.bind_some, rdsh]
      rw [if_pos (by omega), if_pos (by omega), if_pos (by omega), if_pos (by omega), if_neg (by simpa [lessSh] using hp), w64 (by omega) (by omega)]
      rfl) h)
    (fun i hi hp => ev_step (f := fun _ => some (false, true)) (fun k => by
      have e : wrap64 (((i + 1 : Nat) : Int) - 1) = (i : Int) := by rw [w64 (by omega) (by omega)]; omega
      simp only [spec_IsMonotone.l1, spec_l10Less.f, e, Option.bind_some, rdsh]
      rw [if_pos (by omega), if_pos (by omega), if_pos (by omega), if_pos (by omega), if_pos (by simpa [lessSh] using hp)]) (ev_some _))
    (ev_step (f := fun _ => some (true, true)) (fun k => by
      simp only [spec_IsMonotone.l1]
      rw [if_neg (by omega)]) (ev_some _)) 0 (Nat.zero_le _)
  unfold rising
  rw [Nat.sub_zero] at h
  cases e : rall (fun i => !lessSh (l.getD (i + 1) z33) (l.getD i z33)) 0 (l.length - 1) with
  | true => rw [e] at h; exact h
  | false => rw [e] at h; exact h
theorem isMonotoneS_ev (l : List SH) : Ev (fun k => spec_IsMonotone.f k l) (monoR l) := by
  unfold spec_IsMonotone.f monoR sharesOk
  by_cases hl : l.length ≤ 20
  · rw [decide_eq_true hl, Bool.true_and, ← rall_list l z33 (fun s => shareOk s.f0 s.f1)]
    refine ev_ifn (by omega) ?_
    have h := all_ev (fun k i => spec_IsMonotone.l0 k l (i : Int)) l.length (fun i => shareOk (l.getD i z33).f0 (l.getD i z33).f1) (false, false) (rising l, true)
      (fun i r hi hp h => ev_step (f := fun k => (spec_l10Fraction.f k (l.getD i z33).f0 (l.getD i z33).f1).bind fun t => if t = true then spec_IsMonotone.l0 k l ((i + 1 : Nat) : Int) else some (false, false)) (fun k => by
        simp only [spec_IsMonotone.l0, rdsh]
        rw [if_pos (by omega), if_pos (by omega), w64 (by omega) (by omega)]
        rfl) (ev_bind (l10Fraction_ev _ _) (by rw [hp]; exact ev_ifp rfl h)))
      (fun i hi hp => ev_step (f := fun k => (spec_l10Fraction.f k (l.getD i z33).f0 (l.getD i z33).f1).bind fun t => if t = true then spec_IsMonotone.l0 k l ((i + 1 : Nat) : Int) else some (false, false)) (fun k => by
        simp only [spec_IsMonotone.l0, rdsh]
        rw [if_pos (by omega), if_pos (by omega), w64 (by omega) (by omega)]
        rfl) (ev_bind (l10Fraction_ev _ _) (by rw [hp]; exact ev_ifn (by simp) (ev_some _))))
      (ev_step (f := fun k => spec_IsMonotone.l1 k l 1) (fun k => by
        simp only [spec_IsMonotone.l0]
        rw [if_neg (by omega)]) (mono_l1 l hl)) 0 (Nat.zero_le _)
    rw [Nat.sub_zero] at h
    exact h
  · rw [decide_eq_false hl, Bool.false_and]
    exact ev_ifp (by omega) (ev_some _)
theorem contains_ev (l : List SH) (hl : l.length ≤ 20) : Ev (fun k => slices_ContainsFunc_Share_at_impl_IsMonotone_1.f k l) (!sharesOk l) := by
  have h := find_ev (fun k i => slices_IndexFunc_Share_at_impl_IsMonotone_1.l0 k l (l.length : Int) (i : Int)) l.length (fun i => !shareOk (l.getD i z33).f0 (l.getD i z33).f1)
    (fun i r hi hp h => ev_step (f := fun k => (impl_IsMonotone_1.f k (l.getD i z33).f0 (l.getD i z33).f1).bind fun t => if t = true then some (i : Int) else slices_IndexFunc_Share_at_impl_IsMonotone_1.l0 k l (l.length : Int) ((i + 1 : Nat) : Int)) (fun k => by
      simp only [slices_IndexFunc_Share_at_impl_IsMonotone_1.l0, rdsh]
      rw [if_pos (by omega), if_pos (by omega), if_pos (by omega), w64 (by omega) (by omega)]
      rfl) (ev_bind (r := false) (ev_bind (isShare_ev _ _) (by rw [hp]; exact ev_some _)) (ev_ifn (by simp) h)))
    (fun i hi hp => ev_step (f := fun k => (impl_IsMonotone_1.f k (l.getD i z33).f0 (l.getD i z33).f1).bind fun t => if t = true then some (i : Int) else slices_IndexFunc_Share_at_impl_IsMonotone_1.l0 k l (l.length : Int) ((i + 1 : Nat) : Int)) (fun k => by
      simp only [slices_IndexFunc_Share_at_impl_IsMonotone_1.l0, rdsh]
      rw [if_pos (by omega), if_pos (by omega), if_pos (by omega), w64 (by omega) (by omega)]
      rfl) (ev_bind (r := true) (ev_bind (isShare_ev _ _) (by rw [hp]; exact ev_some _)) (ev_ifp rfl (ev_some _))))
    (ev_step (f := fun _ => some (-1)) (fun k => by
      simp only [slices_IndexFunc_Share_at_impl_IsMonotone_1.l0]
      rw [if_neg (by omega)]) (ev_some _))
  have e : (!sharesOk l) = decide (fidx (fun i => !shareOk (l.getD i z33).f0 (l.getD i z33).f1) 0 l.length ≥ 0) := by
    rw [fidx_nonneg]
    unfold sharesOk
    rw [← rall_list l z33 (fun s => shareOk s.f0 s.f1)]
    simp only [Bool.not_not]
  rw [e]
  exact ev_bind h (ev_some _)
theorem sorted_ev (l : List SH) (hl : l.length ≤ 20) : Ev (fun k => slices_IsSortedFunc_Share_at_impl_compareShares.f k l) (rising l) := by
  have key : ∀ d, d ≤ l.length - 1 → Ev (fun k => slices_IsSortedFunc_Share_at_impl_compareShares.l0 k l (d : Int)) (rall (fun i => !lessSh (l.getD (i + 1) z33) (l.getD i z33)) 0 d) := by
    intro d
    induction d with
    | zero =>
      intro _
      exact ev_step (f := fun _ => some true) (fun k => by
        simp only [slices_IsSortedFunc_Share_at_impl_compareShares.l0]
        rw [if_neg (by omega)]) (ev_some _)
    | succ d ih =>
      intro hd
      have e : wrap64 (((d + 1 : Nat) : Int) - 1) = (d : Int) := by rw [w64 (by omega) (by omega)]; omega
      have e2 : rall (fun i => !lessSh (l.getD (i + 1) z33) (l.getD i z33)) 0 (d + 1) = (rall (fun i => !lessSh (l.getD (i + 1) z33) (l.getD i z33)) 0 d && !lessSh (l.getD (d + 1) z33) (l.getD d z33)) := by
        rw [Bool.eq_iff_iff, Bool.and_eq_true, rall_iff, rall_iff]
        constructor
        · intro h
          exact ⟨fun j h1 h2 => h j h1 (by omega), h d (Nat.zero_le _) (by omega)⟩
        · rintro ⟨h, h'⟩ j h1 h2
          by_cases ej : j = d
          · rw [ej]; exact h'
          · exact h j h1 (by omega)
      rw [e2]
      cases hp : lessSh (l.getD (d + 1) z33) (l.getD d z33) with
      | true =>
        rw [Bool.not_true, Bool.and_false]
        exact ev_step (f := fun _ => some false) (fun k => by
          simp only [slices_IsSortedFunc_Share_at_impl_compareShares.l0, e, rdsh, compare_is, Option.bind_some]
          rw [if_pos (by omega), if_pos (by omega), if_pos (by omega), if_pos (by omega), if_pos (by omega), hp, if_pos rfl, if_pos (by omega)]) (ev_some _)
      | false =>
        rw [Bool.not_false, Bool.and_true]
        refine ev_step (fun k => ?_) (ih (by omega))
        simp only [slices_IsSortedFunc_Share_at_impl_compareShares.l0, e, rdsh, compare_is, Option.bind_some]
        rw [if_pos (by omega), if_pos (by omega), if_pos (by omega), if_pos (by omega), if_pos (by omega), hp, if_neg (by rw [if_neg (by decide)]; split <;> omega)]
  unfold slices_IsSortedFunc_Share_at_impl_compareShares.f rising
  by_cases h0 : l.length = 0
  · rw [h0]
    refine ev_step (f := fun _ => some true) (fun k => ?_) (ev_some _)
    rw [w64 (by omega) (by omega)]
    simp only [slices_IsSortedFunc_Share_at_impl_compareShares.l0]
    rw [if_neg (by omega)]
  · rw [show wrap64 ((l.length : Int) - 1) = ((l.length - 1 : Nat) : Int) by rw [w64 (by omega) (by omega)]; omega]
    exact key (l.length - 1) (Nat.le_refl _)
theorem isMonotoneI_ev (l : List SH) : Ev (fun k => impl_IsMonotone.f k l) (monoR l) := by
  unfold impl_IsMonotone.f monoR
  by_cases hl : l.length ≤ 20
  · rw [decide_eq_true hl, Bool.true_and]
    refine ev_ifn (by omega) (ev_bind (contains_ev l hl) ?_)
    cases sharesOk l with
    | false => exact ev_ifp rfl (ev_some _)
    | true => exact ev_ifn (by simp) (ev_bind (sorted_ev l hl) (ev_some _))
  · rw [decide_eq_false hl, Bool.false_and]
    exact ev_ifp (by omega) (ev_some _)
end Go.Proofs.Ytjicgmcogadleaa.Pure
namespace Go.Proofs.Ytjicgmcogadleaa.Pure
set_option linter.unusedVariables false
open Go.RowKit Go.Proofs.YtjicgmcogadleaaW.PrintWords Go.Proofs.YtjicgmcogadleaaW.PrintLast
theorem ends_inv {σ ρ : Type} (F : Nat → σ → Nat → Option ρ) (n : Nat) (I : Nat → σ → Prop) (P : ρ → Prop)
    (hs : ∀ i s, I i s → i < n → ∃ s', I (i + 1) s' ∧ ∀ r, Ev (fun k => F k s' (i + 1)) r → Ev (fun k => F k s i) r)
    (he : ∀ s, I n s → ∃ r, Ev (fun k => F k s n) r ∧ P r) : ∀ i s, i ≤ n → I i s → ∃ r, Ev (fun k => F k s i) r ∧ P r := by
  have key : ∀ d i s, n - i = d → i ≤ n → I i s → ∃ r, Ev (fun k => F k s i) r ∧ P r := by
    intro d
    induction d with
    | zero =>
      intro i s h0 h1 h2
      obtain rfl : i = n := by omega
      exact he s h2
    | succ d ih =>
      intro i s h0 h1 h2
      obtain ⟨s', h3, h4⟩ := hs i s h2 (by omega)
      obtain ⟨r, h5, h6⟩ := ih (i + 1) s' (by omega) (by omega) h3
      exact ⟨r, h4 r h5, h6⟩
  exact fun i s h1 h2 => key (n - i) i s rfl h1 h2
end Go.Proofs.Ytjicgmcogadleaa.Pure
namespace Go.Proofs.Ytjicgmcogadleaa.Pure
set_option linter.unusedVariables false
set_option linter.unusedSimpArgs false
open Go Go.RowKit Go.Proofs.Ytjicgmcogadleaa.P Go.Proofs.YtjicgmcogadleaaW.PrintWords Go.Proofs.YtjicgmcogadleaaW.PrintLast
theorem u64_bd (x : Int) : 0 ≤ IntKind.u64.wrap x ∧ IntKind.u64.wrap x < 18446744073709551616 := by
  rw [IntKind.wrap_u64]
  omega
theorem wraps63 (n : Int) (h0 : 0 ≤ n) (h1 : n < 2 ^ 63) : IntKind.u64.wrap n = n := by
  rw [IntKind.wrap_u64]
  omega
theorem and255 (v : Int) (h0 : 0 ≤ v) (h1 : v < 18446744073709551616) : 0 ≤ Go.bits .and .u64 (v / 1099511627776) 255 ∧ Go.bits .and .u64 (v / 1099511627776) 255 ≤ 255 := by
  have h := bits_mask .u64 63 (by decide) wraps63 8 (by decide) (v / 1099511627776) (by omega) (by omega)
  have e : ((2 : Int) ^ 8 - 1) = 255 := by decide
  have e2 : ((2 : Int) ^ 8) = 256 := by decide
  rw [e, e2] at h
  rw [h]
  omega
structure Code (l : List Int) : Prop where
  len : l.length ≤ 65536
  byte : ∀ x ∈ l, 0 ≤ x ∧ x ≤ 255
theorem Code.bd {l : List Int} (h : Code l) (i : Int) : 0 ≤ rd l i ∧ rd l i ≤ 255 := by
  unfold rd
  by_cases hi : i.toNat < l.length
  · rw [getD_eq_get 0 hi]
    exact h.byte _ (List.getElem_mem hi)
  · simp [List.getD, List.getElem?_eq_none (show l.length ≤ i.toNat by omega)]
theorem next_at {l : List Int} (hl : Code l) (i s : Int) (h0 : 0 ≤ i) (h1 : i ≤ 1000000000) : ∃ x s', spec_l1Cur_next.f l i s = some (x, i + 1, s') ∧ 0 ≤ x ∧ x ≤ 255 := by
  unfold spec_l1Cur_next.f
  have hr := hl.bd i
  have w1 : wrap64 (i + 1) = i + 1 := w64 (by omega) (by omega)
  rw [w1]
  by_cases c1 : i < (l.length : Int)
  · rw [if_pos c1, if_pos h0, if_pos (by omega)]
    exact ⟨_, _, rfl, by rw [w64 (by omega) (by omega)]; exact hr.1, by rw [w64 (by omega) (by omega)]; exact hr.2⟩
  · rw [if_neg c1, if_neg (by omega)]
    have hb := u64_bd (IntKind.u64.wrap (IntKind.u64.wrap (s * 6364136223846793005)) + 889889)
    have ha := and255 _ hb.1 hb.2
    exact ⟨_, _, rfl, by rw [w64 (by omega) (by omega)]; exact ha.1, by rw [w64 (by omega) (by omega)]; exact ha.2⟩
theorem pick_at {l : List Int} (hl : Code l) (i s n : Int) (h0 : 0 ≤ i) (h1 : i ≤ 100000000) :
    ∃ x i' s', spec_l1Cur_pick.f l i s n = some (x, i', s') ∧ 0 ≤ x ∧ (1 ≤ n → x < n) ∧ i ≤ i' ∧ i' ≤ i + 2 := by
  unfold spec_l1Cur_pick.f
  by_cases c1 : n ≤ 1
  · rw [if_pos c1]
    exact ⟨_, _, _, rfl, by omega, fun h => by omega, by omega, by omega⟩
  · rw [if_neg c1]
    obtain ⟨x, s1, e1, b1, b2⟩ := next_at hl i s h0 (by omega)
    rw [e1, Option.bind_some]
    have cn : ¬ n = 0 := by omega
    by_cases c2 : n > 200
    · rw [if_pos c2]
      obtain ⟨y, s2, e2, b3, b4⟩ := next_at hl (i + 1) s1 (by omega) (by omega)
      simp only
      rw [e2, Option.bind_some, if_neg cn]
      simp only
      rw [w64 (x := x * 256) (by omega) (by omega), w64 (by omega) (by omega), Int.tmod_eq_emod_of_nonneg (by omega)]
      exact ⟨_, _, _, rfl, Int.emod_nonneg _ cn, fun _ => Int.emod_lt_of_pos _ (by omega), by omega, by omega⟩
    · rw [if_neg c2, if_neg cn]
      simp only
      rw [Int.tmod_eq_emod_of_nonneg (by omega)]
      exact ⟨_, _, _, rfl, Int.emod_nonneg _ cn, fun _ => Int.emod_lt_of_pos _ (by omega), by omega, by omega⟩
theorem one_at {l : List Int} (hl : Code l) (i s n : Int) (h0 : 0 ≤ i) (h1 : i ≤ 100000000) : ∃ b i' s', spec_l1Cur_one.f l i s n = some (b, i', s') ∧ i ≤ i' ∧ i' ≤ i + 2 := by
  unfold spec_l1Cur_one.f
  obtain ⟨x, i', s', e, _, _, b3, b4⟩ := pick_at hl i s n h0 h1
  rw [e, Option.bind_some]
  exact ⟨_, _, _, rfl, b3, b4⟩
theorem among_at {l : List Int} (hl : Code l) (i s : Int) (xs : List Int) (hx : 1 ≤ xs.length) (h0 : 0 ≤ i) (h1 : i ≤ 100000000) :
    ∃ x i' s', spec_l1Cur_among.f l i s xs = some (x, i', s') ∧ x ∈ xs ∧ i ≤ i' ∧ i' ≤ i + 2 := by
  unfold spec_l1Cur_among.f
  obtain ⟨x, i', s', e, b1, b2, b3, b4⟩ := pick_at hl i s (xs.length : Int) h0 h1
  have b5 := b2 (by omega)
  rw [e, Option.bind_some, if_pos b1, if_pos b5]
  refine ⟨_, _, _, rfl, ?_, b3, b4⟩
  unfold rd
  simp only
  have hlt : x.toNat < xs.length := by omega
  rw [getD_eq_get 0 hlt]
  exact List.getElem_mem hlt
end Go.Proofs.Ytjicgmcogadleaa.Pure
namespace Go.Proofs.Ytjicgmcogadleaa.Pure
set_option linter.unusedVariables false
set_option linter.unusedSimpArgs false
open Go.RowKit Go.Proofs.Ytjicgmcogadleaa.P Go.Proofs.YtjicgmcogadleaaW.PrintWords Go.Proofs.YtjicgmcogadleaaW.PrintLast
theorem tally_at {l : List Int} (hl : Code l) (i s : Int) (h0 : 0 ≤ i) (h1 : i ≤ 60000000) :
    ∃ r : List Int × List Int × Int × Int, Ev (fun k => spec_l1Cur_tally.f k l i s) r ∧ (r.1.length ≤ 64 ∧ r.2.1.length ≤ 64 ∧ i ≤ r.2.2.1 ∧ r.2.2.1 ≤ i + 100) := by
  have h := ends_inv (fun k (st : Int × Int × List Int × List Int) n => spec_l1Cur_tally.l0 k (n : Int) l st.1 st.2.1 st.2.2.1 st.2.2.2) 11
    (fun n st => st.2.2.1.length = n ∧ st.2.2.2.length = n ∧ i ≤ st.1 ∧ st.1 ≤ i + 4 * (n : Int))
    (fun r : List Int × List Int × Int × Int => r.1.length ≤ 64 ∧ r.2.1.length ≤ 64 ∧ i ≤ r.2.2.1 ∧ r.2.2.1 ≤ i + 100)
    (fun n st hI hn => by
      obtain ⟨i1, s1, cs, hs⟩ := st
      obtain ⟨a1, a2, a3, a4⟩ := hI
      dsimp only at a1 a2 a3 a4
      obtain ⟨x, i2, s2, e1, m1, b1, b2⟩ := among_at hl i1 s1 [0, 0, 1, 2, 5, 10, 40] (by simp) (by omega) (by omega)
      obtain ⟨y, i3, s3, e2, p1, p2, b3, b4⟩ := pick_at hl i2 s2 (wrap64 (x + 1)) (by omega) (by omega)
      have ew := Aside0.mk (show wrap64 ((n : Int) + 1) = ((n + 1 : Nat) : Int) by rw [w64 (by omega) (by omega)]; rfl)
      refine ⟨(i3, s3, cs ++ [x], hs ++ [y]), ⟨by simp only [List.length_append, List.length_singleton]; omega, by simp only [List.length_append, List.length_singleton]; omega, by dsimp only; omega, by dsimp only; omega⟩, fun r hr => ?_⟩
      refine ev_step (fun k => spec_l1Cur_tally.l0.eq_2 _ _ _ _ _ _ k) (ev_ifp (by first | omega | (dsimp only; omega)) (ev_bind (ev_const e1) (ev_ifp (by first | omega | (dsimp only; omega)) (ev_bind (ev_const e2) (ev_ifp (by first | omega | (dsimp only; omega)) ?_)))))
      rw [ew.out]
      exact hr)
    (fun st hI => by
      obtain ⟨i1, s1, cs, hs⟩ := st
      obtain ⟨a1, a2, a3, a4⟩ := hI
      dsimp only at a1 a2 a3 a4
      obtain ⟨x, i2, s2, e1, p1, p2, b1, b2⟩ := pick_at hl i1 s1 11 (by omega) (by omega)
      obtain ⟨y, i3, s3, e2, p3, p4, b3, b4⟩ := pick_at hl i2 s2 24 (by omega) (by omega)
      have p2' := p2 (by omega)
      by_cases y0 : y = 0
      · obtain ⟨z, i4, s4, e3, _, b5, b6⟩ := among_at hl i3 s3 [1000, 1001, (-1)] (by simp) (by omega) (by omega)
        exact ⟨(cs.set x.toNat z, hs, i4, s4), ev_step (fun k => spec_l1Cur_tally.l0.eq_2 _ _ _ _ _ _ k) (ev_ifn (by first | omega | (dsimp only; omega)) (ev_bind (ev_const e1) (ev_bind (ev_const e2) (ev_ifp y0 (ev_bind (ev_const e3) (ev_ifp p1 (ev_ifp (by first | omega | (dsimp only; omega)) (ev_some _)))))))), by dsimp only; rw [List.length_set]; omega, by dsimp only; omega, by dsimp only; omega, by dsimp only; omega⟩
      · by_cases y1 : y = 1
        · obtain ⟨z, i4, s4, e3, _, _, b5, b6⟩ := pick_at hl i3 s3 2 (by omega) (by omega)
          exact ⟨(cs, hs.set x.toNat (wrap64 (rd cs x + z)), i4, s4), ev_step (fun k => spec_l1Cur_tally.l0.eq_2 _ _ _ _ _ _ k) (ev_ifn (by first | omega | (dsimp only; omega)) (ev_bind (ev_const e1) (ev_bind (ev_const e2) (ev_ifn y0 (ev_ifp y1 (ev_ifp p1 (ev_ifp (by first | omega | (dsimp only; omega)) (ev_bind (ev_const e3) (ev_ifp (by first | omega | (dsimp only; omega)) (ev_some _)))))))))), by dsimp only; omega, by dsimp only; rw [List.length_set]; omega, by dsimp only; omega, by dsimp only; omega⟩
        · by_cases y2 : y = 2
          · exact ⟨(cs, hs.drop (1 : Int).toNat, i3, s3), ev_step (fun k => spec_l1Cur_tally.l0.eq_2 _ _ _ _ _ _ k) (ev_ifn (by first | omega | (dsimp only; omega)) (ev_bind (ev_const e1) (ev_bind (ev_const e2) (ev_ifn y0 (ev_ifn y1 (ev_ifp y2 (ev_ifp (by first | omega | (dsimp only; omega)) (ev_some _)))))))), by dsimp only; omega, by dsimp only; rw [List.length_drop]; omega, by dsimp only; omega, by dsimp only; omega⟩
          · by_cases y3 : y = 3
            · exact ⟨(List.replicate 11 0, List.replicate 11 0, i3, s3), ev_step (fun k => spec_l1Cur_tally.l0.eq_2 _ _ _ _ _ _ k) (ev_ifn (by first | omega | (dsimp only; omega)) (ev_bind (ev_const e1) (ev_bind (ev_const e2) (ev_ifn y0 (ev_ifn y1 (ev_ifn y2 (ev_ifp y3 (ev_ifp (by first | omega | (dsimp only; omega)) (ev_some _))))))))), by dsimp only; simp, by dsimp only; simp, by dsimp only; omega, by dsimp only; omega⟩
            · exact ⟨(cs, hs, i3, s3), ev_step (fun k => spec_l1Cur_tally.l0.eq_2 _ _ _ _ _ _ k) (ev_ifn (by first | omega | (dsimp only; omega)) (ev_bind (ev_const e1) (ev_bind (ev_const e2) (ev_ifn y0 (ev_ifn y1 (ev_ifn y2 (ev_ifn y3 (ev_some _)))))))), by dsimp only; omega, by dsimp only; omega, by dsimp only; omega, by dsimp only; omega⟩)
    0 (i, s, [], []) (Nat.zero_le _) ⟨rfl, rfl, by dsimp only; omega, by dsimp only; omega⟩
  exact h
theorem share_at {l : List Int} (hl : Code l) (i s : Int) (h0 : 0 ≤ i) (h1 : i ≤ 60000000) :
    ∃ r : Int × Int × Int × Int, Ev (fun k => spec_l1Cur_share.f k l i s) r ∧ i ≤ r.2.2.1 ∧ r.2.2.1 ≤ i + 20 := by
  unfold spec_l1Cur_share.f
  obtain ⟨x, i2, s2, e1, p1, p2, b1, b2⟩ := pick_at hl i s 12 (by omega) (by omega)
  have p2' := p2 (by omega)
  have w1 := Aside0.mk (show wrap64 (1 + x) = 1 + x from w64 (by omega) (by omega))
  obtain ⟨y, i3, s3, e2, p3, p4, b3, b4⟩ := pick_at hl i2 s2 (wrap64 (1 + x + 1)) (by omega) (by omega)
  have p4' := p4 (by rw [w64 (by omega) (by omega)]; omega)
  rw [w64 (x := 1 + x + 1) (by omega) (by omega)] at p4'
  obtain ⟨p, rfl⟩ := Int.eq_ofNat_of_zero_le p1
  obtain ⟨q, rfl⟩ := Int.eq_ofNat_of_zero_le p3
  have hs := l10Share_ev q (1 + p) (by omega) (by omega) (by omega)
  have ep : ((1 + p : Nat) : Int) = 1 + (p : Int) := by omega
  rw [ep] at hs
  obtain ⟨b, i4, s4, e3, b5, b6⟩ := one_at hl i3 s3 10 (by omega) (by omega)
  have head : ∀ {r : Int × Int × Int × Int}, Ev (fun k => if b = true then (spec_l1Cur_among.f l i4 s4 [2, 0, 5, (-1)]).bind fun bt117 => (spec_l1Cur_among.f l bt117.2.1 bt117.2.2 [4, 0, 3, (-2)]).bind fun bt123 => some (bt117.1, bt123.1, bt123.2.1, bt123.2.2) else some ((shareN q (1 + p)).1, (shareN q (1 + p)).2, i4, s4)) r →
      Ev (fun k => (spec_l1Cur_pick.f l i s 12).bind fun bt102 => (spec_l1Cur_pick.f l bt102.2.1 bt102.2.2 (wrap64 (wrap64 (1 + bt102.1) + 1))).bind fun bt105 => (spec_l10Share.f k bt105.1 (wrap64 (1 + bt102.1))).bind fun bt108 => (spec_l1Cur_one.f l bt105.2.1 bt105.2.2 10).bind fun bt111 => if bt111.1 = true then (spec_l1Cur_among.f l bt111.2.1 bt111.2.2 [2, 0, 5, (-1)]).bind fun bt117 => (spec_l1Cur_among.f l bt117.2.1 bt117.2.2 [4, 0, 3, (-2)]).bind fun bt123 => some (bt117.1, bt123.1, bt123.2.1, bt123.2.2) else some (bt108.1, bt108.2, bt111.2.1, bt111.2.2)) r := by
    intro r hr
    refine ev_bind (ev_const e1) ?_
    dsimp only
    rw [w1.out]
    exact ev_bind (ev_const e2) (ev_bind hs (ev_bind (ev_const e3) hr))
  cases b with
  | true =>
    obtain ⟨u, i5, s5, e4, _, b7, b8⟩ := among_at hl i4 s4 [2, 0, 5, (-1)] (by simp) (by omega) (by omega)
    obtain ⟨v, i6, s6, e5, _, b9, b10⟩ := among_at hl i5 s5 [4, 0, 3, (-2)] (by simp) (by omega) (by omega)
    exact ⟨(u, v, i6, s6), head (ev_ifp rfl (ev_bind (ev_const e4) (ev_bind (ev_const e5) (ev_some _)))), by dsimp only; omega, by dsimp only; omega⟩
  | false => exact ⟨((shareN q (1 + p)).1, (shareN q (1 + p)).2, i4, s4), head (ev_ifn (by simp) (ev_some _)), by dsimp only; omega, by dsimp only; omega⟩
theorem vIntsT_self (l : List Int) (hl : l.length ≤ 9223372036854775806) : Ev (fun k => laws_vInts.f k l l) true := by
  have h := loop_ev (σ := Unit) (fun k _ i => laws_vInts.l0 k l l (i : Int)) l.length (fun _ _ => ()) (fun _ => true) (fun _ _ => True)
    (fun i s r _ hi h => ev_step (fun k => by
      simp only [laws_vInts.l0]
      rw [if_pos (by omega), if_pos (by omega), if_pos (by omega), if_pos trivial, w64 (by omega) (by omega)]
      rfl) h)
    (fun _ _ _ _ => trivial)
    (fun _ _ => ev_step (f := fun _ => some true) (fun k => by
      simp only [laws_vInts.l0]
      rw [if_neg (by omega)]) (ev_some _)) 0 () (Nat.zero_le _) trivial
  unfold laws_vInts.f
  exact ev_ifp rfl h
theorem vTally_self (c h : List Int) (hc : c.length ≤ 9223372036854775806) (hh : h.length ≤ 9223372036854775806) : Ev (fun k => laws_vTally.f k c h c h) true := by
  unfold laws_vTally.f
  exact ev_bind (vIntsT_self c hc) (ev_ifp rfl (ev_bind (vIntsT_self h hh) (ev_some _)))
end Go.Proofs.Ytjicgmcogadleaa.Pure
namespace Go.Proofs.Ytjicgmcogadleaa.Pure
set_option linter.unusedVariables false
set_option linter.unusedSimpArgs false
open Go Go.RowKit Go.Proofs.Ytjicgmcogadleaa.P Go.Proofs.YtjicgmcogadleaaW.PrintWords Go.Proofs.YtjicgmcogadleaaW.PrintLast Go.Proofs.YtjicgmcogadleaaW.PrintMore
theorem drawMono_l1 {l : List Int} (hl : Code l) : ∀ (n : Nat) (L : List SH) (j i s : Int), 22 - j ≤ (n : Int) → 0 ≤ j → L.length ≤ 1000 → 0 ≤ i → i + 2 * (n : Int) ≤ 80000000 →
    ∃ r : List SH, Ev (fun k => spec_DrawIsMonotone.l1 k L j l i s) r
  | 0, L, j, i, s, h0, hj, hL, h1, h2 => by
    obtain ⟨x, i1, s1, e1, p1, q1, b1, b2⟩ := pick_at hl i s 2 h1 (by omega)
    by_cases hx : (L.length : Int) < wrap64 (20 + x)
    · exact ⟨L, ev_step (fun k => spec_DrawIsMonotone.l1.eq_2 _ _ _ _ _ k) (ev_bind (ev_const e1) (ev_ifp hx (ev_ifn (by omega) (ev_some _))))⟩
    · exact ⟨L, ev_step (fun k => spec_DrawIsMonotone.l1.eq_2 _ _ _ _ _ k) (ev_bind (ev_const e1) (ev_ifn hx (ev_some _)))⟩
  | n + 1, L, j, i, s, h0, hj, hL, h1, h2 => by
    obtain ⟨x, i1, s1, e1, p1, q1, b1, b2⟩ := pick_at hl i s 2 h1 (by omega)
    have q1' := q1 (by omega)
    by_cases hx : (L.length : Int) < wrap64 (20 + x)
    · by_cases hj22 : j < 22
      · have hL2 : (L.length : Int) < 22 := by rw [w64 (by omega) (by omega)] at hx; omega
        obtain ⟨r, hr⟩ := drawMono_l1 hl n (L ++ [(⟨1, 1⟩ : SH)]) (wrap64 (j + 1)) i1 s1 (by rw [w64 (by omega) (by omega)]; omega) (by rw [w64 (by omega) (by omega)]; omega) (by rw [List.length_append, List.length_singleton]; omega) (by omega) (by omega)
        exact ⟨r, ev_step (fun k => spec_DrawIsMonotone.l1.eq_2 _ _ _ _ _ k) (ev_bind (ev_const e1) (ev_ifp hx (ev_ifp hj22 (ev_ifp (by omega) hr))))⟩
      · exact ⟨L, ev_step (fun k => spec_DrawIsMonotone.l1.eq_2 _ _ _ _ _ k) (ev_bind (ev_const e1) (ev_ifp hx (ev_ifn hj22 (ev_some _))))⟩
    · exact ⟨L, ev_step (fun k => spec_DrawIsMonotone.l1.eq_2 _ _ _ _ _ k) (ev_bind (ev_const e1) (ev_ifn hx (ev_some _)))⟩
theorem drawMono_j1 {l : List Int} (hl : Code l) (L : List SH) (i s : Int) (hL : L.length ≤ 1000) (h1 : 0 ≤ i) (h2 : i ≤ 70000000) : ∃ r : List SH, Ev (fun k => spec_DrawIsMonotone.j1 k L l i s) r := by
  obtain ⟨b, i1, s1, e1, b1, b2⟩ := one_at hl i s 24 h1 (by omega)
  cases b with
  | false => exact ⟨L, ev_step (fun k => spec_DrawIsMonotone.j1.eq_2 _ _ _ _ k) (ev_bind (ev_const e1) (ev_ifn (by simp) (ev_some _)))⟩
  | true =>
    obtain ⟨r, hr⟩ := drawMono_l1 hl 22 L 0 i1 s1 (by omega) (by omega) hL (by omega) (by omega)
    exact ⟨r, ev_step (fun k => spec_DrawIsMonotone.j1.eq_2 _ _ _ _ k) (ev_bind (ev_const e1) (ev_ifp rfl hr))⟩
theorem drawMono_end {l : List Int} (hl : Code l) (L : List SH) (i s : Int) (hL : L.length ≤ 1000) (h1 : 0 ≤ i) (h2 : i ≤ 50000000) : ∃ r : List SH, Ev (fun k => spec_DrawIsMonotone.l0 k L 0 l i s) r := by
  obtain ⟨b, i1, s1, e1, b1, b2⟩ := one_at hl i s 2 h1 (by omega)
  cases b with
  | false =>
    obtain ⟨r, hr⟩ := drawMono_j1 hl L i1 s1 hL (by omega) (by omega)
    exact ⟨r, ev_step (fun k => spec_DrawIsMonotone.l0.eq_2 _ _ _ _ _ k) (ev_ifn (by omega) (ev_bind (ev_const e1) (ev_ifn (by simp) hr)))⟩
  | true =>
    obtain ⟨⟨c, h, i2, s2⟩, e2, _, _, b3, b4⟩ := tally_at hl i1 s1 (by omega) (by omega)
    dsimp only at b3 b4
    have g1 := l10Good_ev c h
    cases ok : tallyOk c h with
    | false =>
      rw [ok] at g1
      obtain ⟨r, hr⟩ := drawMono_j1 hl L i2 s2 hL (by omega) (by omega)
      exact ⟨r, ev_step (fun k => spec_DrawIsMonotone.l0.eq_2 _ _ _ _ _ k) (ev_ifn (by omega) (ev_bind (ev_const e1) (ev_ifp rfl (ev_bind e2 (ev_bind g1 (ev_ifn (by simp) hr))))))⟩
    | true =>
      rw [ok] at g1
      obtain ⟨r, hr⟩ : ∃ r, Ev (fun k => spec_l10Shares.f k c h) r := by
        obtain ⟨G, _, _, ⟨_, h1, _⟩ | ⟨_, h1, _⟩⟩ := calib_both ok
        · exact ⟨_, h1⟩
        · exact ⟨_, h1⟩
      exact ⟨r, ev_step (fun k => spec_DrawIsMonotone.l0.eq_2 _ _ _ _ _ k) (ev_ifn (by omega) (ev_bind (ev_const e1) (ev_ifp rfl (ev_bind e2 (ev_bind g1 (ev_ifp rfl (ev_bind hr (ev_some _))))))))⟩
theorem drawMono_l0 {l : List Int} (hl : Code l) : ∀ (n : Nat) (L : List SH) (i s : Int), L.length + n ≤ 1000 → 0 ≤ i → i + 20 * (n : Int) ≤ 40000000 → ∃ r : List SH, Ev (fun k => spec_DrawIsMonotone.l0 k L (n : Int) l i s) r
  | 0, L, i, s, hL, h1, h2 => drawMono_end hl L i s (by omega) h1 (by omega)
  | n + 1, L, i, s, hL, h1, h2 => by
    obtain ⟨⟨a, b, i1, s1⟩, e1, b1, b2⟩ := share_at hl i s h1 (by omega)
    dsimp only at b1 b2
    have ew := Aside0.mk (show wrap64 (((n + 1 : Nat) : Int) - 1) = (n : Int) by rw [w64 (by omega) (by omega)]; omega)
    obtain ⟨r, hr⟩ := drawMono_l0 hl n (L ++ [(⟨a, b⟩ : SH)]) i1 s1 (by rw [List.length_append, List.length_singleton]; omega) (by omega) (by omega)
    refine ⟨r, ev_step (fun k => spec_DrawIsMonotone.l0.eq_2 _ _ _ _ _ k) (ev_ifp (by omega) (ev_bind e1 (ev_ifp (by omega) ?_)))⟩
    dsimp only
    rw [ew.out]
    exact hr
theorem drawMono_at {l : List Int} (hl : Code l) : ∃ r : List SH, Ev (fun k => spec_DrawIsMonotone.f k l) r := by
  unfold spec_DrawIsMonotone.f
  obtain ⟨x, i1, s1, e1, p1, q1, b1, b2⟩ := pick_at hl 0 0 4 (by omega) (by omega)
  have q1' := q1 (by omega)
  obtain ⟨n, rfl⟩ := Int.eq_ofNat_of_zero_le p1
  obtain ⟨r, hr⟩ := drawMono_l0 hl n [] i1 s1 (by simp; omega) (by omega) (by omega)
  exact ⟨r, ev_bind (ev_const e1) hr⟩
theorem tallies_end {l : List Int} (hl : Code l) : Ev (fun k => (spec_DrawIsMonotone.f k l).bind fun t207 => (impl_IsMonotone.f k t207).bind fun bt210 => (spec_IsMonotone.f k t207).bind fun bt212 => if (bt210.1 == bt212.1) = true then some (bt210.2 == bt212.2) else some false) true := by
  obtain ⟨r, hr⟩ := drawMono_at hl
  refine ev_bind hr (ev_bind (isMonotoneI_ev r) (ev_bind (isMonotoneS_ev r) (ev_ifp (by simp) (ev_const (by simp)))))
theorem fidx_found (p : Nat → Bool) : ∀ (d i : Nat), 0 ≤ fidx p i d → ∃ n, fidx p i d = ((n : Nat) : Int) ∧ i ≤ n ∧ n < i + d ∧ p n = true ∧ ∀ j, i ≤ j → j < n → p j = false
  | 0, i, h => absurd h (by simp [fidx])
  | d + 1, i, h => by
    unfold fidx at h ⊢
    by_cases hp : p i = true
    · rw [if_pos hp] at h ⊢
      exact ⟨i, rfl, Nat.le_refl _, by omega, hp, fun j h1 h2 => by omega⟩
    · rw [if_neg hp] at h ⊢
      obtain ⟨n, e, h1, h2, h3, h4⟩ := fidx_found p d (i + 1) h
      refine ⟨n, e, by omega, by omega, h3, fun j h5 h6 => ?_⟩
      by_cases hj : j = i
      · subst hj
        simpa using hp
      · exact h4 j (by omega) h6
theorem classFor_told (c h : List Int) (x y : Int) : ∃ (k : Int) (b : Bool), Ev (fun K => spec_ClassFor.f K c h x y) (k, b) ∧ Ev (fun K => impl_ClassFor.f K c h x y) (k, b) ∧
    (b = true → ∃ (L : List SH) (n : Nat), k = (n : Int) ∧ n < L.length ∧ L.length ≤ 64 ∧ Ev (fun K => impl_CalibrationOf.f K c h) (L, true) ∧ reach L x y n = true ∧ ∀ j, j < n → reach L x y j = false) := by
  have g1 := l10Good_ev c h
  have g2 := isValidTally_ev c h
  have f1 := l10Fraction_ev x y
  have f2 := isShare_ev x y
  have no1 : Ev (fun k => spec_ClassFor.j0 k true c h x y) (0, false) := ev_step (fun k => spec_ClassFor.j0.eq_2 _ _ _ _ _ k) (ev_ifp rfl (ev_some _))
  have no2 : Ev (fun k => impl_ClassFor.j0 k true c h x y) (0, false) := ev_step (fun k => impl_ClassFor.j0.eq_2 _ _ _ _ _ k) (ev_ifp rfl (ev_some _))
  unfold spec_ClassFor.f impl_ClassFor.f
  cases ok : tallyOk c h with
  | false =>
    rw [ok] at g1 g2
    exact ⟨0, false, ev_bind g1 (ev_ifn (by simp) no1), ev_bind g2 (ev_ifn (by simp) no2), fun h => by cases h⟩
  | true =>
    rw [ok] at g1 g2
    cases sk : shareOk x y with
    | false =>
      rw [sk] at f1 f2
      exact ⟨0, false, ev_bind g1 (ev_ifp rfl (ev_bind f1 no1)), ev_bind g2 (ev_ifp rfl (ev_bind f2 no2)), fun h => by cases h⟩
    | true =>
      rw [sk] at f1 f2
      obtain ⟨L, b, hs, hi, hl, hb⟩ : ∃ (L : List SH) (b : Bool), Ev (fun k => spec_l10Shares.f k c h) L ∧ Ev (fun k => impl_calibrationOf.f k c h) (L, b) ∧ L.length ≤ 64 ∧ (L = [] ∨ b = true) := by
        obtain ⟨G, _, _, ⟨_, h1, h2⟩ | ⟨_, h1, h2⟩⟩ := calib_both ok
        · exact ⟨_, _, h1, h2, by simp, .inl rfl⟩
        · exact ⟨_, _, h1, h2, by rw [tab_length]; omega, .inr rfl⟩
      have e1 := class_spec L x y (by omega)
      have e2 := class_impl L x y (by omega)
      by_cases hn : fidx (reach L x y) 0 L.length < 0
      · have er : firstR L x y 0 L.length = (0, false) := by unfold firstR; rw [if_pos hn]
        rw [er] at e1
        exact ⟨0, false, ev_bind g1 (ev_ifp rfl (ev_bind f1 (ev_step (fun k => spec_ClassFor.j0.eq_2 _ _ _ _ _ k) (ev_ifn (by simp) (ev_bind hs e1))))), ev_bind g2 (ev_ifp rfl (ev_bind f2 (ev_step (fun k => impl_ClassFor.j0.eq_2 _ _ _ _ _ k) (ev_ifn (by simp) (ev_bind hi (ev_bind e2 (ev_ifp hn (ev_some _)))))))), fun h => by cases h⟩
      · have er : firstR L x y 0 L.length = (fidx (reach L x y) 0 L.length, true) := by unfold firstR; rw [if_neg hn]
        rw [er] at e1
        obtain ⟨n, e3, h1, h2, h3, h4⟩ := fidx_found (reach L x y) L.length 0 (by omega)
        refine ⟨fidx (reach L x y) 0 L.length, true, ev_bind g1 (ev_ifp rfl (ev_bind f1 (ev_step (fun k => spec_ClassFor.j0.eq_2 _ _ _ _ _ k) (ev_ifn (by simp) (ev_bind hs e1))))), ev_bind g2 (ev_ifp rfl (ev_bind f2 (ev_step (fun k => impl_ClassFor.j0.eq_2 _ _ _ _ _ k) (ev_ifn (by simp) (ev_bind hi (ev_bind e2 (ev_ifn hn (ev_some _)))))))), fun _ => ⟨L, n, e3, by omega, hl, ?_, h3, fun j hj => h4 j (Nat.zero_le _) hj⟩⟩
        have hbt : b = true := by
          rcases hb with h5 | h5
          · rw [h5] at h2; simp at h2
          · exact h5
        rw [hbt] at hi
        unfold impl_CalibrationOf.f
        exact ev_bind g2 (ev_ifp rfl (ev_bind hi (ev_some _)))
theorem tallies_j2 {l : List Int} (hl : Code l) : Ev (fun k => laws_FnTallies.j2 k l false) true := by
  obtain ⟨⟨c, h, i1, s1⟩, e1, _, _, b1, b2⟩ := tally_at hl 0 0 (by omega) (by omega)
  dsimp only at b1 b2
  obtain ⟨⟨x, y, i2, s2⟩, e2, _, _⟩ := share_at hl i1 s1 (by omega) (by omega)
  have ed : Ev (fun k => spec_DrawClassFor.f k l) (c, h, x, y) := by
    unfold spec_DrawClassFor.f
    exact ev_bind e1 (ev_bind e2 (ev_some _))
  obtain ⟨q, b, c1, c2, told⟩ := classFor_told c h x y
  refine ev_step (fun k => laws_FnTallies.j2.eq_2 _ _ k) (ev_ifn (by simp) (ev_bind ed (ev_bind c2 (ev_bind c1 (ev_ifp rfl ?_)))))
  refine ev_step (fun k => laws_FnTallies.j3.eq_2 _ _ _ _ _ _ _ _ k) (ev_ifn (by simp) ?_)
  cases b with
  | false => exact ev_ifn (by simp) (tallies_end hl)
  | true =>
    obtain ⟨L, n, rfl, hn, hL, e3, r1, r2⟩ := told rfl
    have le : reach L x y n = !lessSh (L.getD n z33) ⟨x, y⟩ := rfl
    rw [r1] at le
    have lb : decide (wrap64 ((L.getD n z33).f0 * y) < wrap64 (x * (L.getD n z33).f1)) = false := by
      have : lessSh (L.getD n z33) ⟨x, y⟩ = false := by simpa using le.symm
      exact this
    have loop : Ev (fun k => laws_FnTallies.l0 k l (n : Int) L 0 x y) true := by
      have h := loop_ev (σ := Unit) (fun k _ i => laws_FnTallies.l0 k l (n : Int) L (i : Int) x y) n (fun _ _ => ()) (fun _ => true) (fun _ _ => True)
        (fun i s r _ hi hr => by
          have ew := Aside0.mk (show wrap64 ((i : Int) + 1) = ((i + 1 : Nat) : Int) by rw [w64 (by omega) (by omega)]; rfl)
          have ri := r2 i hi
          have lt : decide (wrap64 ((L.getD i z33).f0 * y) < wrap64 (x * (L.getD i z33).f1)) = true := by
            have : lessSh (L.getD i z33) ⟨x, y⟩ = true := by unfold reach at ri; simpa using ri
            exact this
          rw [decide_eq_true_eq] at lt
          refine ev_step (fun k => laws_FnTallies.l0.eq_2 _ _ _ _ _ _ k) (ev_ifp (by omega) (ev_ifp (by omega) (ev_ifp (by omega) ?_)))
          rw [rdsh, ew.out]
          exact ev_ifn (by omega) hr)
        (fun _ _ _ _ => trivial)
        (fun s _ => ev_step (fun k => laws_FnTallies.l0.eq_2 _ _ _ _ _ _ k) (ev_ifn (by omega) (tallies_end hl)))
        0 () (Nat.zero_le _) trivial
      exact h
    refine ev_ifp rfl (ev_bind e3 (ev_ifp rfl (ev_ifn (by dsimp only; omega) (ev_ifp (by omega) (ev_ifp (by dsimp only; omega) ?_)))))
    rw [rdsh, lb]
    exact ev_step (fun k => laws_FnTallies.j4.eq_2 _ _ _ _ _ _ k) (ev_ifn (by simp) loop)
theorem gs_self {l : List Int} {i : Nat} {x : Int} (h : i < l.length) : (l.set i x).getD i 0 = x := by rw [List.getD, List.getElem?_set_self h]; rfl
theorem gs_ne {l : List Int} {i j : Nat} {x : Int} (h : i ≠ j) : (l.set i x).getD j 0 = l.getD j 0 := by rw [List.getD, List.getElem?_set_ne h, List.getD]
theorem addTallies_swap (c h d g : List Int) : addTallies d g c h = addTallies c h d g := by
  unfold addTallies
  cases e1 : tallyOk c h with
  | false => simp
  | true =>
    cases e2 : tallyOk d g with
    | false => simp
    | true =>
      rw [if_pos rfl, if_pos rfl, if_pos rfl, if_pos rfl]
      obtain ⟨hc, hh, _⟩ := tallyOk_iff.1 e1
      obtain ⟨hd, hg, _⟩ := tallyOk_iff.1 e2
      have key : ∀ c h d g : List Int, c.length = 11 → h.length = 11 → d.length = 11 → g.length = 11 → iter (addStep d g) 0 11 (c, h) = (tab 11 (fun i => wrap64 (c.getD i 0 + d.getD i 0)), tab 11 (fun i => wrap64 (h.getD i 0 + g.getD i 0))) := by
        intro c h d g hc hh hd hg
        have := iter_inv (addStep d g) (fun n s => s.1.length = 11 ∧ s.2.length = 11 ∧ ∀ j, j < 11 → s.1.getD j 0 = (if j < n then wrap64 (c.getD j 0 + d.getD j 0) else c.getD j 0) ∧ s.2.getD j 0 = (if j < n then wrap64 (h.getD j 0 + g.getD j 0) else h.getD j 0)) 11 (fun i s hI hi => by
          obtain ⟨a1, a2, a3⟩ := hI
          refine ⟨by simp [addStep, a1], by simp [addStep, a2], fun j hj => ?_⟩
          obtain ⟨a4, a5⟩ := a3 j hj
          obtain ⟨a6, a7⟩ := a3 i hi
          rw [if_neg (by omega)] at a6 a7
          unfold addStep
          dsimp only
          by_cases e : i = j
          · subst e
            rw [if_pos (by omega), if_pos (by omega), rd_nat, rd_nat, rd_nat, rd_nat, a6, a7, gs_self (by omega), gs_self (by omega)]
            exact ⟨rfl, rfl⟩
          · rw [gs_ne e, gs_ne e, a4, a5]
            by_cases hji : j < i
            · rw [if_pos hji, if_pos (by omega), if_pos hji, if_pos (by omega)]
              exact ⟨rfl, rfl⟩
            · rw [if_neg hji, if_neg (by omega), if_neg hji, if_neg (by omega)]
              exact ⟨rfl, rfl⟩) 11 0 (c, h) rfl ⟨hc, hh, fun j hj => by rw [if_neg (by omega), if_neg (by omega)]; exact ⟨rfl, rfl⟩⟩
        obtain ⟨a1, a2, a3⟩ := this
        refine Prod.ext ?_ ?_
        · exact eq_index 0 (by rw [a1, tab_length]) (fun j hj => by rw [(a3 j (by omega)).1, if_pos (by omega), tab_getD _ _ _ (by omega)])
        · exact eq_index 0 (by rw [a2, tab_length]) (fun j hj => by rw [(a3 j (by omega)).2, if_pos (by omega), tab_getD _ _ _ (by omega)])
      rw [key c h d g hc hh hd hg, key d g c h hd hg hc hh]
      have t1 : tab 11 (fun i => wrap64 (d.getD i 0 + c.getD i 0)) = tab 11 (fun i => wrap64 (c.getD i 0 + d.getD i 0)) := tab_congr (fun i _ => by rw [Int.add_comm])
      have t2 : tab 11 (fun i => wrap64 (g.getD i 0 + h.getD i 0)) = tab 11 (fun i => wrap64 (h.getD i 0 + g.getD i 0)) := tab_congr (fun i _ => by rw [Int.add_comm])
      rw [t1, t2]
theorem tallies_j1 {l : List Int} (hl : Code l) : Ev (fun k => laws_FnTallies.j1 k l) true := by
  obtain ⟨⟨c, h, i1, s1⟩, e1, l1, l2, b1, b2⟩ := tally_at hl 0 0 (by omega) (by omega)
  dsimp only at b1 b2 l1 l2
  obtain ⟨⟨d, g, i2, s2⟩, e2, _, _⟩ := tally_at hl i1 s1 (by omega) (by omega)
  have ed : Ev (fun k => spec_DrawAddTallies.f k l) (c, h, d, g) := by
    unfold spec_DrawAddTallies.f
    exact ev_bind e1 (ev_bind e2 (ev_some _))
  have a1 := addTallies_impl c h d g
  have a2 := addTallies_impl d g c h
  have a3 := addTallies_spec c h d g
  have al := addTallies_len c h d g 64 l1 l2
  rw [addTallies_swap] at a2
  refine ev_step (fun k => laws_FnTallies.j1.eq_2 _ k) (ev_bind ed (ev_bind a1 (ev_bind a2 (ev_bind a3 (ev_ifn (by simp) (ev_bind (vTally_self _ _ (by omega) (by omega)) (ev_ifp rfl (ev_ifn (by simp) (ev_bind (vTally_self _ _ (by omega) (by omega)) (tallies_j2 hl))))))))))
theorem FnTallies : laws_FnTallies.Pure := by
  intro l hl _
  refine Ev.rounds ?_
  unfold laws_FnTallies.f laws_vBig.f
  refine ev_bind (ev_some _) ?_
  by_cases hb : (l.length : Int) > 65536
  · exact ev_ifp (decide_eq_true hb) (ev_some _)
  refine ev_ifn (by simp only [decide_eq_true_eq]; exact hb) ?_
  have hc : Code l := ⟨by omega, fun x hx => by
    have := hl.2 x hx
    simp [Lit.wf, IntKind.min, IntKind.max, IntKind.signed, IntKind.bits] at this
    omega⟩
  obtain ⟨⟨c, h, i1, s1⟩, e1, l1, l2, b1, b2⟩ := tally_at hc 0 0 (by omega) (by omega)
  dsimp only at b1 b2 l1 l2
  obtain ⟨x, i2, s2, e2, p1, q1, b3, b4⟩ := pick_at hc i1 s1 13 (by omega) (by omega)
  have q1' := q1 (by omega)
  obtain ⟨b, i3, s3, e3, _, _⟩ := one_at hc i2 s2 2 (by omega) (by omega)
  have ed : Ev (fun k => spec_DrawAddCase.f k l) (c, h, wrap64 (x - 1), b) := by
    unfold spec_DrawAddCase.f
    exact ev_bind e1 (ev_bind (ev_const e2) (ev_bind (ev_const e3) (ev_some _)))
  rw [w64 (x := x - 1) (by omega) (by omega)] at ed
  generalize x - 1 = y at ed
  have a1 := addCase_impl c h y b
  have a2 := addCase_spec c h y b
  have al := addCase_len c h y b 64 l1 l2
  refine ev_bind ed (ev_bind a1 (ev_bind a2 (ev_ifn (by simp) (ev_bind (vTally_self _ _ (by omega) (by omega)) ?_))))
  refine ev_step (fun k => laws_FnTallies.j0.eq_2 _ _ _ _ _ _ _ _ k) (ev_ifn (by simp) ?_)
  cases hr : (addCase c h y b).2.2 with
  | false => exact ev_ifn (by simp) (tallies_j1 hc)
  | true =>
    refine ev_ifp rfl ?_
    have ec : tallyOk c h = true ∧ inb y 0 10 = true ∧ tallyOk (c.set y.toNat (wrap64 (rd c y + 1))) (if b = true then h.set y.toNat (wrap64 (rd h y + 1)) else h) = true ∧ (addCase c h y b).1 = c.set y.toNat (wrap64 (rd c y + 1)) ∧ (addCase c h y b).2.1 = (if b = true then h.set y.toNat (wrap64 (rd h y + 1)) else h) := by
      unfold addCase at hr ⊢
      by_cases g1 : tallyOk c h = true
      · rw [if_pos g1] at hr ⊢
        by_cases g2 : inb y 0 10 = true
        · rw [if_pos g2] at hr ⊢
          unfold checked at hr ⊢
          by_cases g3 : tallyOk (c.set y.toNat (wrap64 (rd c y + 1))) (if b = true then h.set y.toNat (wrap64 (rd h y + 1)) else h) = true
          · rw [if_pos g3] at hr ⊢
            exact ⟨g1, g2, g3, rfl, rfl⟩
          · rw [if_neg g3] at hr
            cases hr
        · rw [if_neg g2] at hr
          cases hr
      · rw [if_neg g1] at hr
        cases hr
    obtain ⟨g1, g2, g3, ex1, ex2⟩ := ec
    rw [ex1, ex2]
    generalize (if b = true then h.set y.toNat (wrap64 (rd h y + 1)) else h) = h' at g3 ⊢
    obtain ⟨m, rfl⟩ := Int.eq_ofNat_of_zero_le (inb_iff.1 g2).1
    have hm : m < 11 := by have := (inb_iff.1 g2).2; omega
    obtain ⟨t1, t2, t3⟩ := tallyOk_iff.1 g3
    obtain ⟨u1, u2, u3⟩ := tallyOk_iff.1 g1
    have u4 := u3 m hm
    rw [Int.toNat_natCast, rd_nat, w64 (x := c.getD m 0 + 1) (by omega) (by omega)] at *
    have eset : (c.set m (c.getD m 0 + 1)).getD m 0 = c.getD m 0 + 1 := by rw [List.getD, List.getElem?_set_self (by omega)]; rfl
    obtain ⟨⟨v1, v2, v3⟩, f1, f2⟩ := frequency_both (c.set m (c.getD m 0 + 1)) h' (m : Int)
    have v3t : v3 = true := by
      have g1' := l10Good_ev (c.set m (c.getD m 0 + 1)) h'
      rw [g3] at g1'
      obtain ⟨b1, b2, b3, b4⟩ := t3 m hm
      obtain ⟨p, hp⟩ := Int.eq_ofNat_of_zero_le b1
      obtain ⟨q, hq⟩ := Int.eq_ofNat_of_zero_le b3
      have e9 := l10Share_ev q p (by omega) (by omega) (by omega)
      have : Ev (fun k => spec_FrequencyOf.f k (c.set m (c.getD m 0 + 1)) h' (m : Int)) ((shareN q p).1, (shareN q p).2, true) := by
        unfold spec_FrequencyOf.f spec_l10Class.f
        rw [l1In_is, Option.bind_some]
        refine ev_bind g1' (ev_ifp rfl (ev_bind (ev_const (by rw [inb_iff.2 (by omega)])) (ev_ifp rfl (ev_ifp (by omega) (ev_ifp (by omega) (ev_ifn (by rw [rd_nat, eset]; omega) (ev_ifp (by omega) (ev_bind (r := shareN q p) ?_ (ev_some _)))))))))
        rw [rd_nat, rd_nat, hp, hq]
        exact e9
      obtain ⟨K, hK⟩ := ev_two f1 this
      have := hK K (Nat.le_refl _)
      have h9 := Option.some.inj (this.1.symm.trans this.2)
      exact congrArg (fun z : Int × Int × Bool => z.2.2) h9
    subst v3t
    refine ev_bind f2 (ev_bind f1 (ev_ifp rfl (ev_ifp rfl (ev_ifn (by simp) (ev_ifp (by first | omega | (dsimp only; omega)) (ev_ifp (by first | omega | (dsimp only; omega)) (ev_ifp (by first | omega | (dsimp only; omega)) (ev_ifp ?_ (tallies_j1 hc)))))))))
    dsimp only
    exact eset
end Go.Proofs.Ytjicgmcogadleaa.Pure
namespace Go.Proofs.Ytjicgmcogadleaa.fnTallies
open Go.ChangeShapes Go.WideShapes Go.ChangeAt Go.RowKit Go.Proofs.Ytjicgmcogadleaa.Open Go.Proofs.Ytjicgmcogadleaa.P Go.Proofs.YtjicgmcogadleaaW.PrintWords
open Go.ChangeMaps (open_string shut_string)
set_option linter.unusedVariables false
theorem own : ownKnob Try.prog.godebug = none := by kernel_rfl
theorem laidOut : laidOutB Try.prog = true := by kernel_rfl
set_option maxRecDepth 100000 in
theorem lifted (os : Os) (started : os.Started) (H : Type) (enc : TypeId × Value → H) :
    ReturnsInHanded {} Try.checked os 3 .any (Rows.fnTalliesSpec.pre6 enc Try.prog Try.f3 Rows.fnTalliesRow.domain false) (Rows.fnTalliesSpec.post enc Try.prog Try.f3 false true false false) := by
  refine returnsInHanded_of_change_sized (C := Try.checked) own started (by kernel_rfl) Try.func3
    (ChangeSpec.witness6 (enc := enc) (C := Try.checked) false ⟨#[], #[.slice none 0 0], []⟩ 8 (by kernel_rfl) (by kernel_rfl) (by kernel_rfl) (by kernel_rfl)) ?_
  intro W base args ds gs before hval0 hW hcnd hsz0 _
  have hsz : (DataW.weightsEach Try.prog (Try.f3.params.toList ++ Rows.fnTalliesSpec.plain.varTypes Try.prog) (ds ++ gs)).all (· ≤ reachBytes) = true := hsz0
  have hval : ∀ (j : Nat) t v, Try.f3.params[j]? = some t → args[j]? = some v → Value.okWide Try.prog W .any base t v := hval0
  have hW' := hW
  obtain ⟨p, q, hA0, hV, rfl, hfz, hnd⟩ := hW
  have hA : DataW.TrodAll enc Try.prog W 0 (fun _ => true) true Try.f3.params.toList args.toList ds p := hA0
  rw [Try.params3] at hA hval hsz
  obtain ⟨v0, vs0, d0, ds0, p0, q0, hargs, rfl, rfl, h0, r0⟩ := trodAll_cons hA
  obtain ⟨rfl, rfl, rfl⟩ := trodAll_nil r0
  obtain rfl : args = #[v0] := by cases args; simp_all
  obtain ⟨rfl, rfl⟩ := trodVars_none hV
  obtain ⟨A0, len0, c0, rfl⟩ := okWide_slice Try.underlying22 (hval 0 22 v0 rfl rfl)
  have k0 := h0
  have lt0 : ∀ x ∈ p0, x.block < W.heap.size := by obtain ⟨m, hm⟩ := k0; exact DataW.trod_lt m _ _ _ hm
  have y0 : len0 * 1 ≤ 140737488351232 := sized_any hsz (j := 0) (t := 22) rfl rfl Try.underlying22 (by kernel_rfl) h0
  obtain ⟨l0, rfl, hc0, hr0, w0⟩ := slice_at (opens_slice Try.underlying22 (by kernel_rfl) (opens_int Try.underlying5)) h0
  clear hA0 hval0 hsz0 hsz
  obtain ⟨k, hp⟩ := Pure.FnTallies l0 w0 y0
  refine (laws_FnTallies.calls k A0 c0 l0 true W hr0 hc0 hp).mono fun e W' ⟨he, bel0⟩ => ?_
  have bel : Below W.heap.size W W' := bel0
  subst he
  exact ⟨_, rfl, _, _, _, [], _, [], hW', trodAll_mk1 (shut_bool Try.underlying4 _), (trodAll_cons_mk (Below.trod laidOut (by kernel_rfl) (of_decide_eq_true (by kernel_rfl)) k0 bel lt0) trodAll_mk0), rfl, bel.frame _, fun h => by cases h⟩
theorem over : Rows.fnTalliesRow.holds Try.pinned (OpenSpec.ofChange Rows.fnTalliesSpec) :=
  OpenClaim.holds_of_wide 3 Try.f3 rfl rfl rfl rfl rfl rfl rfl ⟨rfl, rfl, rfl, rfl, rfl⟩ rfl rfl rfl rfl rfl (by kernel_rfl) Try.func3 (by kernel_rfl)
    (of_decide_eq_true (by kernel_rfl)) (by unfold Func.isWrapper; first | (rw [if_pos (by decide +kernel)]; kernel_rfl) | (rw [if_neg (by decide +kernel)]; exact ⟨rfl, rfl⟩))
    (fun os started H enc _ => lifted os started H enc)
theorem proved : Rows.FnTalliesSaid := over
#print axioms proved
end Go.Proofs.Ytjicgmcogadleaa.fnTallies
namespace Go.Proofs.Ytjicgmcogadleaa
theorem fnTallies_holds : Rows.FnTalliesSaid := fnTallies.proved
end Go.Proofs.Ytjicgmcogadleaa
