/- Texts of the claim FnExactAgreeingCells, merged: part 8 of 8: the program's and the reference's functions as Lean functions, the walks that show it, and plain lemmas; no conditions. -/
import Derived.Test.YteeakkkfefmfmaaWMore
import Derived.Test.YteeakkkfefmfmaaKFnExactAgreeingCells2
import Derived.Test.YteeakkkfefmfmaaKFnExactAgreeingCells6
import Derived.Test.YteeakkkfefmfmaaKFnExactAgreeingCells4
import Derived.Test.YteeakkkfefmfmaaKFnExactAgreeingCells1
import Derived.Test.YteeakkkfefmfmaaKFnExactAgreeingCells5
import Derived.Test.YteeakkkfefmfmaaKFnExactAgreeingCells7
import Derived.Test.YteeakkkfefmfmaaKFnExactAgreeingCells3
import Derived.Test.YteeakkkfefmfmaaRows
import Derived.WalkKit
import Derived.ProofKit
import Derived.OpenShut
import Derived.ShutString
import Derived.ChangeOld
import Derived.Below
import Derived.SizedLaws
/- Plain words for the laws' plain proofs: rounds that end, loops over an index, lists read at an index. No conditions. -/
namespace Go.Proofs.Yteeakkkfefmfmaa.Pure
set_option linter.unusedVariables false
set_option linter.unusedSimpArgs false
open Go.RowKit Go.Proofs.YteeakkkfefmfmaaW.PrintWords Go.Proofs.YteeakkkfefmfmaaW.PrintLast Go.Proofs.YteeakkkfefmfmaaW.PrintMore

theorem w64 {x : Int} (h0 : -9223372036854775808 ≤ x) (h1 : x ≤ 9223372036854775807) : wrap64 x = x := by
  unfold wrap64
  omega
theorem w64n {n : Nat} (h : n ≤ 9223372036854775807) : wrap64 (n : Int) = (n : Int) := w64 (by omega) (by omega)
theorem rd_nat (xs : List Int) (i : Nat) : rd xs (i : Int) = xs.getD i 0 := by simp [rd]
theorem wf_bd {x : Int} (h : (Lit.int .i64 x).wf = true) : -9223372036854775808 ≤ x ∧ x ≤ 9223372036854775807 := by
  simp [Lit.wf, IntKind.min, IntKind.max, IntKind.signed, IntKind.bits] at h
  omega

section
variable {α β : Type} {f g : Nat → Option α} {r : α}
theorem ev_some (r : α) : Ev (fun _ => some r) r := ⟨0, fun _ _ => rfl⟩
theorem ev_ifp {c : Prop} [Decidable c] (h : c) (k : Ev f r) : Ev (fun n => if c then f n else g n) r := Ev.congr (fun _ => if_pos h) k
theorem ev_ifn {c : Prop} [Decidable c] (h : ¬ c) (k : Ev g r) : Ev (fun n => if c then f n else g n) r := Ev.congr (fun _ => if_neg h) k
theorem ev_bind {F : Nat → α → Option β} {q : β} (h : Ev g r) (k : Ev (fun n => F n r) q) : Ev (fun n => (g n).bind (fun x => F n x)) q := by
  obtain ⟨K1, h1⟩ := h
  obtain ⟨K2, h2⟩ := k
  exact ⟨K1 + K2, fun n hn => by show (g n).bind (fun x => F n x) = some q; rw [h1 n (by omega)]; exact h2 n (by omega)⟩
theorem ev_const {a : Option α} (h : a = some r) : Ev (fun _ => a) r := ⟨0, fun _ _ => h⟩
theorem ev_step (h : ∀ k, g (k + 1) = f k) (k : Ev f r) : Ev g r := by
  obtain ⟨K, h1⟩ := k
  refine ⟨K + 1, fun n hn => ?_⟩
  obtain ⟨m, rfl⟩ : ∃ m, n = m + 1 := ⟨n - 1, by omega⟩
  rw [h m]
  exact h1 m (by omega)
/-- One number of rounds for two. -/
theorem ev_two {f : Nat → Option α} {g : Nat → Option β} {a : α} {b : β} (h : Ev f a) (k : Ev g b) : ∃ K, ∀ n, K ≤ n → f n = some a ∧ g n = some b := by
  obtain ⟨K1, h1⟩ := h
  obtain ⟨K2, h2⟩ := k
  exact ⟨K1 + K2, fun n hn => ⟨h1 n (by omega), h2 n (by omega)⟩⟩
end

/-- A state that d rounds turn, from round i on. -/
def iter {σ : Type} (g : Nat → σ → σ) : Nat → Nat → σ → σ
  | _, 0, s => s
  | i, d + 1, s => iter g (i + 1) d (g i s)

theorem loop_ev {σ ρ : Type} (F : Nat → σ → Nat → Option ρ) (n : Nat) (g : Nat → σ → σ) (fin : σ → ρ) (I : Nat → σ → Prop)
    (hs : ∀ i s r, I i s → i < n → Ev (fun k => F k (g i s) (i + 1)) r → Ev (fun k => F k s i) r) (hI : ∀ i s, I i s → i < n → I (i + 1) (g i s))
    (he : ∀ s, I n s → Ev (fun k => F k s n) (fin s)) : ∀ i s, i ≤ n → I i s → Ev (fun k => F k s i) (fin (iter g i (n - i) s)) := by
  have key : ∀ d i s, n - i = d → i ≤ n → I i s → Ev (fun k => F k s i) (fin (iter g i d s)) := by
    intro d
    induction d with
    | zero =>
      intro i s h0 h1 h2
      obtain rfl : i = n := by omega
      exact he s h2
    | succ d ih =>
      intro i s h0 h1 h2
      exact hs i s _ h2 (by omega) (ih (i + 1) (g i s) (by omega) (by omega) (hI i s h2 (by omega)))
  exact fun i s h1 h2 => key (n - i) i s rfl h1 h2

theorem iter_inv {σ : Type} (g : Nat → σ → σ) (I : Nat → σ → Prop) (n : Nat) (hI : ∀ i s, I i s → i < n → I (i + 1) (g i s)) : ∀ d i s, i + d = n → I i s → I n (iter g i d s) := by
  intro d
  induction d with
  | zero => intro i s h0 h1; obtain rfl : i = n := by omega
            exact h1
  | succ d ih => intro i s h0 h1; exact ih (i + 1) _ (by omega) (hI i s h1 (by omega))

/-- The rounds as a fold over what is left of a list. -/
theorem iter_foldl {σ α : Type} (f : σ → α → σ) (z : α) (xs : List α) : ∀ d i s, i + d = xs.length → iter (fun i s => f s (xs.getD i z)) i d s = (xs.drop i).foldl f s := by
  intro d
  induction d with
  | zero =>
    intro i s h
    rw [List.drop_of_length_le (by omega)]
    rfl
  | succ d ih =>
    intro i s h
    have hlt : i < xs.length := by omega
    rw [List.drop_eq_getElem_cons hlt]
    show iter _ (i + 1) d _ = _
    rw [ih (i + 1) _ (by omega), List.foldl_cons]
    simp [List.getD, List.getElem?_eq_getElem hlt]

/-- Do all of d indices from i on say yes? -/
def rall (p : Nat → Bool) : Nat → Nat → Bool
  | _, 0 => true
  | i, d + 1 => p i && rall p (i + 1) d
theorem rall_iff (p : Nat → Bool) : ∀ d i, rall p i d = true ↔ ∀ j, i ≤ j → j < i + d → p j = true
  | 0, i => ⟨fun _ j h1 h2 => by omega, fun _ => rfl⟩
  | d + 1, i => by
    show (p i && rall p (i + 1) d) = true ↔ _
    rw [Bool.and_eq_true, rall_iff p d (i + 1)]
    constructor
    · rintro ⟨h0, h1⟩ j h2 h3
      by_cases e : j = i
      · rw [e]; exact h0
      · exact h1 j (by omega) (by omega)
    · intro h
      exact ⟨h i (Nat.le_refl _) (by omega), fun j h2 h3 => h j (by omega) (by omega)⟩
theorem rall_congr {p q : Nat → Bool} : ∀ d i, (∀ j, i ≤ j → j < i + d → p j = q j) → rall p i d = rall q i d
  | 0, _, _ => rfl
  | d + 1, i, h => by
    show (p i && rall p (i + 1) d) = (q i && rall q (i + 1) d)
    rw [h i (Nat.le_refl _) (by omega), rall_congr d (i + 1) (fun j h1 h2 => h j (by omega) (by omega))]

/-- A loop that ends with 'no' at the first index that fails, and with 'yes' (or what follows) behind all. -/
theorem all_ev {ρ : Type} (F : Nat → Nat → Option ρ) (n : Nat) (p : Nat → Bool) (no yes : ρ) (hs : ∀ i r, i < n → p i = true → Ev (fun k => F k (i + 1)) r → Ev (fun k => F k i) r)
    (hn : ∀ i, i < n → p i = false → Ev (fun k => F k i) no) (he : Ev (fun k => F k n) yes) :
    ∀ i, i ≤ n → Ev (fun k => F k i) (if rall p i (n - i) = true then yes else no) := by
  have key : ∀ d i, n - i = d → i ≤ n → Ev (fun k => F k i) (if rall p i d = true then yes else no) := by
    intro d
    induction d with
    | zero =>
      intro i h0 h1
      obtain rfl : i = n := by omega
      rw [show rall p i 0 = true from rfl, if_pos rfl]
      exact he
    | succ d ih =>
      intro i h0 h1
      have h := ih (i + 1) (by omega) (by omega)
      have e : rall p i (d + 1) = (p i && rall p (i + 1) d) := rfl
      cases hp : p i with
      | true =>
        rw [e, hp, Bool.true_and]
        exact hs i _ (by omega) hp h
      | false =>
        rw [e, hp, Bool.false_and, if_neg (by simp)]
        exact hn i (by omega) hp
  exact fun i h1 => key (n - i) i rfl h1
/-- The same, where the answer is a bool. -/
theorem allb_ev (F : Nat → Nat → Option Bool) (n : Nat) (p : Nat → Bool) (hs : ∀ i r, i < n → p i = true → Ev (fun k => F k (i + 1)) r → Ev (fun k => F k i) r)
    (hn : ∀ i, i < n → p i = false → Ev (fun k => F k i) false) (he : Ev (fun k => F k n) true) : Ev (fun k => F k 0) (rall p 0 n) := by
  have h := all_ev F n p false true hs hn he 0 (Nat.zero_le _)
  rw [Nat.sub_zero] at h
  cases e : rall p 0 n <;> simpa [e] using h

theorem getD_eq_get {α : Type} {xs : List α} {i : Nat} (z : α) (h : i < xs.length) : xs.getD i z = xs[i] := by simp [List.getD, List.getElem?_eq_getElem h]
theorem rall_list {α : Type} (xs : List α) (z : α) (p : α → Bool) : rall (fun j => p (xs.getD j z)) 0 xs.length = xs.all p := by
  rw [Bool.eq_iff_iff, rall_iff, List.all_eq_true]
  constructor
  · intro h x hx
    obtain ⟨i, hi, rfl⟩ := List.getElem_of_mem hx
    rw [← getD_eq_get z hi]
    exact h i (Nat.zero_le _) (by omega)
  · intro h j _ hj
    rw [getD_eq_get z (by omega)]
    exact h _ (List.getElem_mem (by omega))
theorem eq_index {α : Type} {xs ys : List α} (z : α) (h : xs.length = ys.length) (hh : ∀ j, j < xs.length → xs.getD j z = ys.getD j z) : xs = ys := by
  refine List.ext_getElem h (fun i h1 h2 => ?_)
  rw [← getD_eq_get z h1, ← getD_eq_get z h2]
  exact hh i h1
theorem rall_eq {α : Type} [DecidableEq α] {xs ys : List α} (z : α) (h : xs.length = ys.length) : rall (fun j => decide (xs.getD j z = ys.getD j z)) 0 xs.length = decide (xs = ys) := by
  rw [Bool.eq_iff_iff, rall_iff, decide_eq_true_eq]
  constructor
  · exact fun hh => eq_index z h (fun j hj => by simpa using hh j (Nat.zero_le _) (by omega))
  · rintro rfl j _ _
    simp

/-- A copy, element by element. -/
theorem copy_ev {α β : Type} (F : Nat → List β → Nat → Option (List β)) (xs : List α) (c : α → β) (z : α) (zb : β)
    (hs : ∀ i ys r, ys.length = xs.length → i < xs.length → Ev (fun k => F k (ys.set i (c (xs.getD i z))) (i + 1)) r → Ev (fun k => F k ys i) r)
    (he : ∀ ys, ys.length = xs.length → Ev (fun k => F k ys xs.length) ys) (ys0 : List β) (h0 : ys0.length = xs.length) : Ev (fun k => F k ys0 0) (xs.map c) := by
  have inv : ∀ i (s : List β), (s.length = xs.length ∧ ∀ j, j < i → s.getD j zb = (xs.map c).getD j zb) → i < xs.length → ((s.set i (c (xs.getD i z))).length = xs.length ∧ ∀ j, j < i + 1 → (s.set i (c (xs.getD i z))).getD j zb = (xs.map c).getD j zb) := by
    intro i s hI hi
    refine ⟨by simp [hI.1], fun j hj => ?_⟩
    by_cases e : j = i
    · subst e
      have := hI.1
      simp [List.getD, List.getElem?_set_self (show j < s.length by omega), List.getElem?_eq_getElem hi]
    · rw [← hI.2 j (by omega)]
      simp [List.getD, List.getElem?_set_ne (Ne.symm e)]
  have h := loop_ev F xs.length (fun i ys => ys.set i (c (xs.getD i z))) (fun ys => ys) (fun i s => s.length = xs.length ∧ ∀ j, j < i → s.getD j zb = (xs.map c).getD j zb)
    (fun i ys r hI hi h => hs i ys r hI.1 hi h) inv (fun ys hI => he ys hI.1) 0 ys0 (Nat.zero_le _) ⟨h0, fun j hj => by omega⟩
  have hi := iter_inv (fun i (ys : List β) => ys.set i (c (xs.getD i z))) (fun i s => s.length = xs.length ∧ ∀ j, j < i → s.getD j zb = (xs.map c).getD j zb) xs.length inv (xs.length - 0) 0 ys0 (by omega) ⟨h0, fun j hj => by omega⟩
  rw [eq_index zb (by rw [hi.1, List.length_map]) (fun j hj => hi.2 j (by have := hi.1; omega))] at h
  exact h
/-- A loop that ends: at each index it goes on with some state, or it answers. -/
theorem ends_ev {σ ρ : Type} (F : Nat → σ → Nat → Option ρ) (n : Nat) (hs : ∀ i s, i < n → (∃ s', ∀ r, Ev (fun k => F k s' (i + 1)) r → Ev (fun k => F k s i) r) ∨ ∃ r, Ev (fun k => F k s i) r)
    (he : ∀ s, ∃ r, Ev (fun k => F k s n) r) : ∀ i s, i ≤ n → ∃ r, Ev (fun k => F k s i) r := by
  have key : ∀ d i s, n - i = d → i ≤ n → ∃ r, Ev (fun k => F k s i) r := by
    intro d
    induction d with
    | zero =>
      intro i s h0 h1
      obtain rfl : i = n := by omega
      exact he s
    | succ d ih =>
      intro i s h0 h1
      rcases hs i s (by omega) with ⟨s', h⟩ | h
      · obtain ⟨r, hr⟩ := ih (i + 1) s' (by omega) (by omega)
        exact ⟨r, h r hr⟩
      · exact h
  exact fun i s h1 => key (n - i) i s rfl h1
theorem tmod_next {i n : Nat} (hi : i < n) : Int.tmod ((i : Int) + 1) (n : Int) = (((i + 1) % n : Nat) : Int) := by
  rw [Int.tmod_eq_emod_of_nonneg (by omega)]
  rfl

/-- The first of d indices from i on at which p holds, or -1. -/
def fidx (p : Nat → Bool) : Nat → Nat → Int
  | _, 0 => -1
  | i, d + 1 => if p i = true then (i : Int) else fidx p (i + 1) d
theorem fidx_nonneg (p : Nat → Bool) : ∀ d i, decide (fidx p i d ≥ 0) = !rall (fun j => !p j) i d
  | 0, i => rfl
  | d + 1, i => by
    have h := fidx_nonneg p d (i + 1)
    show decide ((if p i = true then (i : Int) else fidx p (i + 1) d) ≥ 0) = !((!p i) && rall (fun j => !p j) (i + 1) d)
    cases e : p i with
    | true => simp
    | false => simpa using h
theorem find_ev (F : Nat → Nat → Option Int) (n : Nat) (p : Nat → Bool) (hs : ∀ i r, i < n → p i = false → Ev (fun k => F k (i + 1)) r → Ev (fun k => F k i) r) (hx : ∀ i, i < n → p i = true → Ev (fun k => F k i) (i : Int))
    (he : Ev (fun k => F k n) (-1)) : Ev (fun k => F k 0) (fidx p 0 n) := by
  have key : ∀ d i, n - i = d → i ≤ n → Ev (fun k => F k i) (fidx p i d) := by
    intro d
    induction d with
    | zero =>
      intro i h0 h1
      obtain rfl : i = n := by omega
      exact he
    | succ d ih =>
      intro i h0 h1
      show Ev (fun k => F k i) (if p i = true then (i : Int) else fidx p (i + 1) d)
      cases e : p i with
      | true => rw [if_pos rfl]; exact hx i (by omega) e
      | false => rw [if_neg (by simp)]; exact hs i _ (by omega) e (ih (i + 1) (by omega) (by omega))
  exact key n 0 (by omega) (Nat.zero_le _)
theorem ev_ite {α : Type} {f g : Nat → Option α} {a b : α} {c : Bool} (h : c = true → Ev f a) (k : c = false → Ev g b) : Ev (fun n => if c = true then f n else g n) (if c = true then a else b) := by
  cases c with
  | true => exact h rfl
  | false => exact k rfl

theorem iter_add {σ : Type} (g : Nat → σ → σ) : ∀ a i b s, iter g i (a + b) s = iter g (i + a) b (iter g i a s) := by
  intro a
  induction a with
  | zero => intro i b s; rw [Nat.zero_add]; rfl
  | succ a ih =>
    intro i b s
    rw [show a + 1 + b = (a + b) + 1 by omega]
    show iter g (i + 1) (a + b) (g i s) = _
    rw [ih (i + 1) b (g i s)]
    show _ = iter g (i + (a + 1)) b (iter g (i + 1) a (g i s))
    rw [show i + 1 + a = i + (a + 1) by omega]
theorem iter_congr {σ : Type} {g h : Nat → σ → σ} : ∀ d i s, (∀ j s, i ≤ j → j < i + d → g j s = h j s) → iter g i d s = iter h i d s := by
  intro d
  induction d with
  | zero => intro i s _; rfl
  | succ d ih =>
    intro i s hh
    show iter g (i + 1) d (g i s) = iter h (i + 1) d (h i s)
    rw [hh i s (Nat.le_refl _) (by omega)]
    exact ih (i + 1) _ (fun j s h1 h2 => hh j s (by omega) (by omega))
/-- Rows of w cells, one behind the other: the rounds of two loops are the rounds of one. -/
theorem grid_ev {σ ρ : Type} (F0 : Nat → σ → Nat → Option ρ) (F1 : Nat → σ → Nat → Nat → Option ρ) (w h : Nat) (g : Nat → σ → σ) (fin : σ → ρ) (I : Nat → σ → Prop)
    (hout : ∀ y s r, I (y * w) s → y < h → Ev (fun k => F1 k s y 0) r → Ev (fun k => F0 k s y) r)
    (hin : ∀ y x s r, I (y * w + x) s → y < h → x < w → Ev (fun k => F1 k (g (y * w + x) s) y (x + 1)) r → Ev (fun k => F1 k s y x) r)
    (hI : ∀ y x s, I (y * w + x) s → y < h → x < w → I (y * w + (x + 1)) (g (y * w + x) s))
    (hrow : ∀ y s r, I (y * w + w) s → y < h → Ev (fun k => F0 k s (y + 1)) r → Ev (fun k => F1 k s y w) r)
    (hend : ∀ s, I (h * w) s → Ev (fun k => F0 k s h) (fin s)) : ∀ s, I 0 s → Ev (fun k => F0 k s 0) (fin (iter g 0 (h * w) s)) := by
  have row : ∀ d y x s r, w - x = d → x ≤ w → y < h → I (y * w + x) s → Ev (fun k => F0 k (iter g (y * w + x) d s) (y + 1)) r → Ev (fun k => F1 k s y x) r := by
    intro d
    induction d with
    | zero =>
      intro y x s r h0 h1 h2 h3 h4
      obtain rfl : x = w := by omega
      exact hrow y s r h3 h2 h4
    | succ d ih =>
      intro y x s r h0 h1 h2 h3 h4
      exact hin y x s r h3 h2 (by omega) (ih y (x + 1) _ r (by omega) (by omega) h2 (hI y x s h3 h2 (by omega)) h4)
  have rowI : ∀ d y x s, w - x = d → x ≤ w → y < h → I (y * w + x) s → I (y * w + w) (iter g (y * w + x) d s) := by
    intro d
    induction d with
    | zero =>
      intro y x s h0 h1 h2 h3
      obtain rfl : x = w := by omega
      exact h3
    | succ d ih =>
      intro y x s h0 h1 h2 h3
      exact ih y (x + 1) _ (by omega) (by omega) h2 (hI y x s h3 h2 (by omega))
  have key : ∀ d y s, h - y = d → y ≤ h → I (y * w) s → Ev (fun k => F0 k s y) (fin (iter g (y * w) (d * w) s)) := by
    intro d
    induction d with
    | zero =>
      intro y s h0 h1 h2
      obtain rfl : y = h := by omega
      rw [Nat.zero_mul]
      exact hend s h2
    | succ d ih =>
      intro y s h0 h1 h2
      have hb := rowI w y 0 s (by omega) (Nat.zero_le _) (by omega) h2
      have e1 : y * w + w = (y + 1) * w := by rw [Nat.add_mul, Nat.one_mul]
      rw [Nat.add_zero] at hb
      rw [e1] at hb
      have hk := ih (y + 1) _ (by omega) (by omega) hb
      rw [show (d + 1) * w = w + d * w by rw [Nat.add_mul, Nat.one_mul]; omega, iter_add, e1]
      exact hout y s _ h2 (by omega) (row w y 0 s _ (by omega) (Nat.zero_le _) (by omega) h2 hk)
  intro s h0
  have hk := key h 0 s (by omega) (Nat.zero_le _) (by rw [Nat.zero_mul]; exact h0)
  rw [Nat.zero_mul] at hk
  exact hk

end Go.Proofs.Yteeakkkfefmfmaa.Pure
/- 'Within' of the program and of the reference: the same test. No conditions. -/
namespace Go.Proofs.Yteeakkkfefmfmaa.Pure
set_option linter.unusedVariables false
set_option linter.unusedSimpArgs false
open Go.RowKit Go.Proofs.Yteeakkkfefmfmaa.P Go.Proofs.YteeakkkfefmfmaaW.PrintWords Go.Proofs.YteeakkkfefmfmaaW.PrintLast
def inb (x a b : Int) : Bool := decide (a ≤ x) && decide (x ≤ b)
theorem inb_iff {x a b : Int} : inb x a b = true ↔ a ≤ x ∧ x ≤ b := by simp [inb]
theorem l1In_is (x a b : Int) : spec_l1In.f x a b = some (inb x a b) := by
  unfold spec_l1In.f inb
  split
  · rename_i h; simp [show a ≤ x from h]
  · rename_i h; simp [show ¬ a ≤ x from h]
theorem within_is (x a b : Int) : impl_within.f x a b = some (inb x a b) := l1In_is x a b
end Go.Proofs.Yteeakkkfefmfmaa.Pure
/- A field is valid in the program just when it is valid in the reference. No conditions. -/
namespace Go.Proofs.Yteeakkkfefmfmaa.Pure
set_option linter.unusedVariables false
set_option linter.unusedSimpArgs false
open Go.RowKit Go.Proofs.Yteeakkkfefmfmaa.P Go.Proofs.YteeakkkfefmfmaaW.PrintWords Go.Proofs.YteeakkkfefmfmaaW.PrintLast
def cellOk (x : Int) : Bool := decide (x = -9999) || inb x (-9000) 9000
def fieldOk (a b : Int) (l : List Int) : Bool := inb a 1 8 && (inb b 1 8 && (decide ((l.length : Int) = a * b) && l.all cellOk))
theorem cellOk_bd {x : Int} (h : cellOk x = true) : -9999 ≤ x ∧ x ≤ 9000 := by
  unfold cellOk at h
  rw [Bool.or_eq_true, decide_eq_true_eq, inb_iff] at h
  omega
structure FieldIs (a b : Int) (l : List Int) : Prop where
  a1 : 1 ≤ a
  a8 : a ≤ 8
  b1 : 1 ≤ b
  b8 : b ≤ 8
  len : (l.length : Int) = a * b
  cells : ∀ x ∈ l, cellOk x = true
theorem fieldOk_iff {a b : Int} {l : List Int} : fieldOk a b l = true ↔ FieldIs a b l := by
  unfold fieldOk
  rw [Bool.and_eq_true, Bool.and_eq_true, Bool.and_eq_true, inb_iff, inb_iff, decide_eq_true_eq, List.all_eq_true]
  exact ⟨fun ⟨⟨h1, h2⟩, ⟨h3, h4⟩, h5, h6⟩ => ⟨h1, h2, h3, h4, h5, h6⟩, fun h => ⟨⟨h.a1, h.a8⟩, ⟨h.b1, h.b8⟩, h.len, h.cells⟩⟩
theorem mul_bd {a b : Int} (a1 : 1 ≤ a) (a8 : a ≤ 8) (b1 : 1 ≤ b) (b8 : b ≤ 8) : 1 ≤ a * b ∧ a * b ≤ 64 := by
  obtain h | h | h | h | h | h | h | h : a = 1 ∨ a = 2 ∨ a = 3 ∨ a = 4 ∨ a = 5 ∨ a = 6 ∨ a = 7 ∨ a = 8 := by omega
  all_goals subst h; omega
theorem FieldIs.len64 {a b : Int} {l : List Int} (h : FieldIs a b l) : 1 ≤ l.length ∧ l.length ≤ 64 := by
  have := mul_bd h.a1 h.a8 h.b1 h.b8
  have := h.len
  omega
theorem l2Value_is (x : Int) : spec_l2Value.f x = some (cellOk x) := by
  unfold spec_l2Value.f cellOk
  rw [l1In_is]
  by_cases h : x = -9999
  · simp [h]
  · simp [h]
theorem l2Shape_is (a b : Int) : spec_l2Shape.f a b = some (inb a 1 8 && inb b 1 8) := by
  unfold spec_l2Shape.f
  rw [l1In_is, l1In_is]
  cases inb a 1 8 <;> simp
theorem shape_iff {a b : Int} : (inb a 1 8 && inb b 1 8) = true ↔ (1 ≤ a ∧ a ≤ 8) ∧ 1 ≤ b ∧ b ≤ 8 := by rw [Bool.and_eq_true, inb_iff, inb_iff]
theorem l2Good_ev (a b : Int) (l : List Int) (hl : l.length ≤ 9223372036854775806) : Ev (fun k => spec_l2Good.f k a b l) (fieldOk a b l) := by
  have no : Ev (fun k => spec_l2Good.j0 k true a b l) false := ev_step (f := fun _ => some false) (fun k => by simp [spec_l2Good.j0]) (ev_some _)
  unfold spec_l2Good.f
  rw [l2Shape_is]
  simp only [Option.bind_some]
  by_cases hs : (inb a 1 8 && inb b 1 8) = true
  · refine ev_ifp hs ?_
    obtain ⟨⟨a1, a8⟩, b1, b8⟩ := shape_iff.1 hs
    have hm := mul_bd a1 a8 b1 b8
    rw [w64 (by omega) (by omega)]
    by_cases hl2 : (l.length : Int) = a * b
    · have h := allb_ev (fun k i => spec_l2Good.l0 k (i : Int) a b l) l.length (fun i => cellOk (l.getD i 0))
        (fun i r hi hp hh => ev_step (fun k => by
          simp only [spec_l2Good.l0, l2Value_is, Option.bind_some, rd_nat]
          rw [if_pos (by omega), if_pos (by omega), if_pos hp, w64 (by omega) (by omega)]
          rfl) hh)
        (fun i hi hp => ev_step (f := fun _ => some false) (fun k => by
          simp only [spec_l2Good.l0, l2Value_is, Option.bind_some, rd_nat]
          rw [if_pos (by omega), if_pos (by omega), if_neg (by rw [hp]; decide)]) (ev_some _))
        (ev_step (f := fun _ => some true) (fun k => by
          simp only [spec_l2Good.l0]
          rw [if_neg (by omega)]) (ev_some _))
      rw [rall_list] at h
      have e : fieldOk a b l = l.all cellOk := by
        rw [Bool.and_eq_true] at hs
        simp [fieldOk, hs.1, hs.2, hl2]
      rw [e, show ((l.length : Int) != a * b) = false by rw [bne_eq_false_iff_eq]; exact hl2]
      exact ev_step (f := fun k => spec_l2Good.l0 k 0 a b l) (fun k => by simp [spec_l2Good.j0]) h
    · have e : fieldOk a b l = false := by simp [fieldOk, hl2]
      rw [e, show ((l.length : Int) != a * b) = true by rw [bne_iff_ne]; exact hl2]
      exact no
  · refine ev_ifn hs ?_
    have e : fieldOk a b l = false := by
      cases h1 : inb a 1 8 with
      | false => simp [fieldOk, h1]
      | true =>
        cases h2 : inb b 1 8 with
        | false => simp [fieldOk, h2]
        | true => exact absurd (by rw [h1, h2]; rfl) hs
    rw [e]
    exact no
theorem isValidField_is (a b : Int) (l : List Int) : impl_IsValidField.f a b l = some (fieldOk a b l) := by
  unfold impl_IsValidField.f slices_ContainsFunc_int_at_impl_IsValidField_1.f
  rw [within_is, within_is]
  simp only [Option.bind_some]
  cases h1 : inb a 1 8 with
  | false => simp [fieldOk, h1]
  | true =>
    cases h2 : inb b 1 8 with
    | false => simp [fieldOk, h2]
    | true =>
      have hm := mul_bd (inb_iff.1 h1).1 (inb_iff.1 h1).2 (inb_iff.1 h2).1 (inb_iff.1 h2).2
      rw [w64 (by omega) (by omega)]
      by_cases hl : (l.length : Int) = a * b
      · have e : (!l.any slices_ContainsFunc_int_at_impl_IsValidField_1.p) = l.all cellOk := by
          rw [List.not_any_eq_all_not]
          congr 1
          funext x
          simp [slices_ContainsFunc_int_at_impl_IsValidField_1.p, cellOk, inb]
        simp [fieldOk, h1, h2, hl, e]
      · simp [fieldOk, hl]
end Go.Proofs.Yteeakkkfefmfmaa.Pure
/- What the laws' helpers for lists of whole numbers come to: a copy is the list, equality is equality. No conditions. -/
namespace Go.Proofs.Yteeakkkfefmfmaa.Pure
set_option linter.unusedVariables false
set_option linter.unusedSimpArgs false
open Go.RowKit Go.Proofs.Yteeakkkfefmfmaa.P Go.Proofs.YteeakkkfefmfmaaW.PrintWords Go.Proofs.YteeakkkfefmfmaaW.PrintLast

theorem toIntS_ev (xs : List Int) (hm : xs.length ≤ 35184372088832) : Ev (fun k => laws_toIntS.f k xs) xs := by
  have h := loop_ev (fun k ys i => laws_toIntS.l0 k xs ys (i : Int)) xs.length (fun i ys => ys.set i (xs.getD i 0)) (fun ys => ys)
    (fun i ys => ys.length = xs.length ∧ ∀ j, j < i → ys.getD j 0 = xs.getD j 0)
    (fun i ys r hI hi h => ev_step (fun k => by
      show laws_toIntS.l0 (k + 1) xs ys (i : Int) = laws_toIntS.l0 k xs (ys.set i (xs.getD i 0)) ((i + 1 : Nat) : Int)
      have hl := hI.1
      simp only [laws_toIntS.l0]
      rw [if_pos (by omega), if_pos (by omega), if_pos (by omega), w64 (by omega) (by omega), rd_nat]
      simp) h)
    (fun i ys hI hi => ⟨by simp [hI.1], fun j hj => by
      by_cases e : j = i
      · subst e
        have := hI.1
        simp [List.getD, List.getElem?_set_self (show j < ys.length by omega)]
      · have := hI.2 j (by omega)
        rw [← this]
        simp [List.getD, List.getElem?_set_ne (Ne.symm e)]⟩)
    (fun ys hI => ev_step (f := fun _ => some ys) (fun k => by
      simp only [laws_toIntS.l0]
      rw [if_neg (by omega)]) (ev_some _)) 0 (List.replicate xs.length 0) (Nat.zero_le _) ⟨by simp, fun j hj => by omega⟩
  have e : iter (fun i (ys : List Int) => ys.set i (xs.getD i 0)) 0 (xs.length - 0) (List.replicate xs.length 0) = xs := by
    have hi := iter_inv (fun i (ys : List Int) => ys.set i (xs.getD i 0)) (fun i ys => ys.length = xs.length ∧ ∀ j, j < i → ys.getD j 0 = xs.getD j 0) xs.length
      (fun i ys hI hi => ⟨by simp [hI.1], fun j hj => by
        by_cases e : j = i
        · subst e
          have := hI.1
          simp [List.getD, List.getElem?_set_self (show j < ys.length by omega)]
        · have := hI.2 j (by omega)
          rw [← this]
          simp [List.getD, List.getElem?_set_ne (Ne.symm e)]⟩) (xs.length - 0) 0 (List.replicate xs.length 0) (by omega) ⟨by simp, fun j hj => by omega⟩
    exact eq_index 0 hi.1 (fun j hj => hi.2 j (by have := hi.1; omega))
  rw [e] at h
  refine Ev.congr (fun k => ?_) h
  unfold laws_toIntS.f
  rw [if_pos (by omega), if_pos (by omega)]
  simp

theorem eqIntS_ev (xs ys : List Int) (hm : xs.length ≤ 9223372036854775806) : Ev (fun k => laws_eqIntS.f k xs ys) (decide (xs = ys)) := by
  by_cases hl : xs.length = ys.length
  · have h := allb_ev (fun k i => laws_eqIntS.l0 k xs ys (i : Int)) xs.length (fun i => decide (xs.getD i 0 = ys.getD i 0))
      (fun i r hi hp h => ev_step (fun k => by
        simp only [laws_eqIntS.l0]
        rw [if_pos (by omega), if_pos (by omega), if_pos (by omega), rd_nat, rd_nat, if_pos (by simpa using hp), w64 (by omega) (by omega)]
        rfl) h)
      (fun i hi hp => ev_step (f := fun _ => some false) (fun k => by
        simp only [laws_eqIntS.l0]
        rw [if_pos (by omega), if_pos (by omega), if_pos (by omega), rd_nat, rd_nat, if_neg (by simpa using hp)]) (ev_some _))
      (ev_step (f := fun _ => some true) (fun k => by
        simp only [laws_eqIntS.l0]
        rw [if_neg (by omega)]) (ev_some _))
    rw [rall_eq 0 hl] at h
    refine Ev.congr (fun k => ?_) h
    unfold laws_eqIntS.f
    rw [if_pos (by omega)]
    rfl
  · refine Ev.congr (f := fun _ => some false) (fun k => ?_) (by rw [decide_eq_false (fun e => hl (by rw [e]))]; exact ev_some _)
    unfold laws_eqIntS.f
    rw [if_neg (by omega)]
theorem eqIntS_self (xs : List Int) (hm : xs.length ≤ 9223372036854775806) : Ev (fun k => laws_eqIntS.f k xs xs) true := by
  have := eqIntS_ev xs xs hm
  simpa using this

end Go.Proofs.Yteeakkkfefmfmaa.Pure
/- What the laws' helpers for fields come to: copies, equality, sizes, marks. No conditions. -/
namespace Go.Proofs.Yteeakkkfefmfmaa.Pure
set_option linter.unusedVariables false
set_option linter.unusedSimpArgs false
open Go.RowKit Go.Proofs.Yteeakkkfefmfmaa.P Go.Proofs.YteeakkkfefmfmaaW.PrintWords Go.Proofs.YteeakkkfefmfmaaW.PrintLast
theorem toField_ev (a b : Int) (l : List Int) (hl : l.length ≤ 35184372088832) : Ev (fun k => laws_toField.f k a b l) (a, b, l) := ev_bind (toIntS_ev l hl) (ev_some _)
theorem eqField_ev (a b : Int) (l : List Int) (a' b' : Int) (l' : List Int) (hl : l.length ≤ 9223372036854775806) : Ev (fun k => laws_eqField.f k a b l a' b' l') (decide (a = a' ∧ b = b' ∧ l = l')) := by
  unfold laws_eqField.f
  by_cases h1 : a = a'
  · refine ev_ifp h1 ?_
    by_cases h2 : b = b'
    · refine ev_ifp h2 (ev_bind (eqIntS_ev l l' hl) ?_)
      by_cases h3 : l = l'
      · simp only [h1, h2, h3, decide_true, and_self, if_true]
        exact ev_some _
      · simp only [h3, decide_false, and_false, Bool.false_eq_true, if_false]
        exact ev_some _
    · simp only [h2, false_and, and_false, decide_false, if_false]
      exact ev_some _
  · simp only [h1, false_and, decide_false, if_false]
    exact ev_some _
theorem eqField_self (a b : Int) (l : List Int) (hl : l.length ≤ 9223372036854775806) : Ev (fun k => laws_eqField.f k a b l a b l) true := by
  have := eqField_ev a b l a b l hl
  simpa using this
theorem szInt_is (l : List Int) (a : Int) (ha : 0 ≤ a) (ha2 : a ≤ 1048576) (hl : l.length ≤ 9223372036854775807) : laws_szIntS.f l a = some (if a < l.length then -1 else a - l.length) := by
  unfold laws_szIntS.f
  rw [w64 (by omega) (by omega)]
  split
  · rw [if_pos (by omega)]
  · rw [if_neg (by omega)]
theorem szField_at (a b : Int) (l : List Int) (s : Int) (hs : 0 ≤ s) (hs2 : s ≤ 1048576) (hl : l.length ≤ 9223372036854775807) : laws_szField.f a b l s = some (if s < l.length then -1 else s - l.length) := by
  unfold laws_szField.f
  rw [szInt_is l s hs hs2 hl]
  by_cases h : s < (l.length : Int)
  · simp [h]
  · rw [if_neg h, Option.bind_some, if_neg (by omega)]
/-- The law's guard on a field's size: too large, or the list is short. -/
theorem szField_go (a b : Int) (l : List Int) (s : Int) (hs : 0 ≤ s) (hs2 : s ≤ 1048576) (hl : l.length ≤ 9223372036854775807) :
    (∃ r, laws_szField.f a b l s = some r ∧ r < 0) ∨ ∃ r, laws_szField.f a b l s = some r ∧ ¬ r < 0 ∧ 0 ≤ r ∧ r ≤ 1048576 ∧ l.length ≤ 1048576 := by
  rw [szField_at a b l s hs hs2 hl]
  by_cases h : s < (l.length : Int)
  · rw [if_pos h]
    exact .inl ⟨_, rfl, by omega⟩
  · rw [if_neg h]
    exact .inr ⟨_, rfl, by omega, by omega, by omega, by omega⟩
end Go.Proofs.Yteeakkkfefmfmaa.Pure
/- An ensemble is valid in the program just when it is valid in the reference; copies of lists of fields. No conditions. -/
namespace Go.Proofs.Yteeakkkfefmfmaa.Pure
set_option linter.unusedVariables false
set_option linter.unusedSimpArgs false
open Go.RowKit Go.Proofs.Yteeakkkfefmfmaa.P Go.Proofs.YteeakkkfefmfmaaW.PrintWords Go.Proofs.YteeakkkfefmfmaaW.PrintLast
abbrev FF := S42
abbrev LF := S38
theorem rdf (xs : List FF) (i : Nat) : rd_T42 xs (i : Int) = xs.getD i z42 := by simp [rd_T42]
theorem rdf0 (xs : List FF) : rd_T42 xs 0 = xs.getD 0 z42 := rdf xs 0
theorem rdlf (xs : List LF) (i : Nat) : rd_T38 xs (i : Int) = xs.getD i z38 := by simp [rd_T38]
def ofF (f : LF) : FF := ⟨f.f0, f.f1, f.f2⟩
def memOk (l : List FF) (f : FF) : Bool := fieldOk f.f0 f.f1 f.f2 && (decide (f.f0 = (l.getD 0 z42).f0) && decide (f.f1 = (l.getD 0 z42).f1))
def ensOk (l : List FF) : Bool := inb (l.length : Int) 1 8 && l.all (memOk l)
theorem short_of (l : List FF) (h : ∀ x ∈ l, x.f2.length ≤ 9223372036854775806) (i : Nat) : (l.getD i z42).f2.length ≤ 9223372036854775806 := by
  by_cases hi : i < l.length
  · rw [getD_eq_get _ hi]
    exact h _ (List.getElem_mem hi)
  · simp [List.getD, List.getElem?_eq_none (show l.length ≤ i by omega), z42]
theorem l9Good_ev (l : List FF) (hl : l.length ≤ 9223372036854775806) (hs : ∀ x ∈ l, x.f2.length ≤ 9223372036854775806) : Ev (fun k => spec_l9Good.f k l) (ensOk l) := by
  unfold spec_l9Good.f ensOk
  rw [l1In_is]
  simp only [Option.bind_some]
  cases hb : inb (l.length : Int) 1 8 with
  | false => exact ev_ifn (by simp) (ev_some _)
  | true =>
    rw [Bool.true_and, ← rall_list l z42 (memOk l)]
    have hbd := inb_iff.1 hb
    refine ev_ifp rfl (allb_ev (fun k i => spec_l9Good.l0 k l (i : Int)) l.length (fun j => memOk l (l.getD j z42)) ?_ ?_ ?_)
    · intro i r hi hp h
      unfold memOk at hp
      rw [Bool.and_eq_true, Bool.and_eq_true, decide_eq_true_eq, decide_eq_true_eq] at hp
      refine ev_step (f := fun k => (spec_l2Good.f k (l.getD i z42).f0 (l.getD i z42).f1 (l.getD i z42).f2).bind fun t => if t = true then spec_l9Good.l0 k l ((i + 1 : Nat) : Int) else some false) (fun k => by
        simp only [spec_l9Good.l0, rdf, rdf0]
        rw [if_pos (by omega), if_pos (by omega), if_pos (show (0 : Int) < (l.length : Int) by omega), if_pos hp.2.1, if_pos hp.2.2, w64 (by omega) (by omega)]
        rfl) (ev_bind (l2Good_ev _ _ _ (short_of l hs i)) (by rw [hp.1]; exact ev_ifp rfl h))
    · intro i hi hp
      refine ev_step (f := fun k => (spec_l2Good.f k (l.getD i z42).f0 (l.getD i z42).f1 (l.getD i z42).f2).bind fun t => if t = true then (if (l.getD i z42).f0 = (l.getD 0 z42).f0 then (if (l.getD i z42).f1 = (l.getD 0 z42).f1 then spec_l9Good.l0 k l (wrap64 ((i : Int) + 1)) else some false) else some false) else some false) (fun k => by
        simp only [spec_l9Good.l0, rdf, rdf0]
        rw [if_pos (by omega), if_pos (by omega), if_pos (show (0 : Int) < (l.length : Int) by omega)]) (ev_bind (l2Good_ev _ _ _ (short_of l hs i)) ?_)
      unfold memOk at hp
      cases h1 : fieldOk (l.getD i z42).f0 (l.getD i z42).f1 (l.getD i z42).f2 with
      | false => exact ev_ifn (by simp) (ev_some _)
      | true =>
        refine ev_ifp rfl ?_
        rw [h1, Bool.true_and] at hp
        by_cases h2 : (l.getD i z42).f0 = (l.getD 0 z42).f0
        · refine ev_ifp h2 (ev_ifn ?_ (ev_some _))
          intro h3
          rw [decide_eq_true h2, decide_eq_true h3] at hp
          cases hp
        · exact ev_ifn h2 (ev_some _)
    · exact ev_step (f := fun _ => some true) (fun k => by
        simp only [spec_l9Good.l0]
        rw [if_neg (by omega)]) (ev_some _)
theorem sameShape_is (a b : Int) (l : List Int) (a' b' : Int) (l' : List Int) : impl_sameShape.f a b l a' b' l' = some (decide (a = a') && decide (b = b')) := by
  unfold impl_sameShape.f
  by_cases h : a = a'
  · rw [if_pos h, decide_eq_true h, Bool.true_and]
    congr 1
  · rw [if_neg h, decide_eq_false h, Bool.false_and]
theorem areAlike_ev (l : List FF) (hl : l.length ≤ 9223372036854775806) : Ev (fun k => impl_areAlike.f k l) (l.all (memOk l)) := by
  rw [← rall_list l z42 (memOk l)]
  refine allb_ev (fun k i => impl_areAlike.l0 k l l (l.length : Int) (i : Int)) l.length (fun j => memOk l (l.getD j z42)) ?_ ?_ ?_
  · intro i r hi hp h
    unfold memOk at hp
    rw [Bool.and_eq_true] at hp
    exact ev_step (fun k => by
      simp only [impl_areAlike.l0, rdf, rdf0, isValidField_is, sameShape_is, Option.bind_some]
      rw [if_pos (by omega), if_pos (by omega), if_pos (by omega), if_pos hp.1, if_pos (show (0 : Int) < (l.length : Int) by omega), if_pos hp.2, w64 (by omega) (by omega)]
      rfl) h
  · intro i hi hp
    unfold memOk at hp
    refine ev_step (f := fun _ => some false) (fun k => ?_) (ev_some _)
    simp only [impl_areAlike.l0, rdf, rdf0, isValidField_is, sameShape_is, Option.bind_some]
    rw [if_pos (by omega), if_pos (by omega), if_pos (by omega)]
    cases h1 : fieldOk (l.getD i z42).f0 (l.getD i z42).f1 (l.getD i z42).f2 with
    | false => rfl
    | true =>
      rw [h1, Bool.true_and] at hp
      rw [if_pos rfl, if_pos (show (0 : Int) < (l.length : Int) by omega), hp]
      rfl
  · exact ev_step (f := fun _ => some true) (fun k => by
      simp only [impl_areAlike.l0]
      rw [if_neg (by omega)]) (ev_some _)
theorem isValidEnsemble_ev (l : List FF) (hl : l.length ≤ 9223372036854775806) : Ev (fun k => impl_IsValidEnsemble.f k l) (ensOk l) := by
  unfold impl_IsValidEnsemble.f ensOk
  rw [within_is]
  simp only [Option.bind_some]
  cases hb : inb (l.length : Int) 1 8 with
  | false => exact ev_ifn (by simp) (ev_some _)
  | true =>
    rw [Bool.true_and]
    exact ev_ifp rfl (ev_bind (areAlike_ev l hl) (ev_some _))
/-- The sizes that the law's guard lets in. -/
def smallF (l : List LF) : Prop := l.length ≤ 1048576 ∧ ∀ x ∈ l, x.f2.length ≤ 1048576
theorem toFieldS_ev (xs : List LF) (hm : smallF xs) : Ev (fun k => laws_toFieldS.f k xs) (xs.map ofF) := by
  have hx := hm.1
  have h := copy_ev (fun k ys i => laws_toFieldS.l0 k xs ys (i : Int)) xs ofF z38 z42
    (fun i ys r hl hi h => by
      have hs : (xs.getD i z38).f2.length ≤ 1048576 := by
        rw [getD_eq_get _ hi]
        exact hm.2 _ (List.getElem_mem hi)
      refine ev_step (f := fun k => (laws_toField.f k (xs.getD i z38).f0 (xs.getD i z38).f1 (xs.getD i z38).f2).bind fun bt => laws_toFieldS.l0 k xs (ys.set i ⟨bt.1, bt.2.1, bt.2.2⟩) ((i + 1 : Nat) : Int)) (fun k => by
        have c : (i : Int) < (ys.length : Int) := by omega
        have e2 : wrap64 ((i : Int) + 1) = ((i + 1 : Nat) : Int) := w64 (by omega) (by omega)
        simp only [laws_toFieldS.l0, rdlf, c, e2, if_true]
        rw [if_pos (by omega), if_pos (by omega)]
        rfl) (ev_bind (toField_ev _ _ _ (by omega)) h))
    (fun ys hl => ev_step (f := fun _ => some ys) (fun k => by
      simp only [laws_toFieldS.l0]
      rw [if_neg (by omega)]) (ev_some _)) (List.replicate xs.length z42) (by simp)
  refine Ev.congr (fun k => ?_) h
  unfold laws_toFieldS.f
  rw [if_pos (by omega), if_pos (by omega)]
  rfl
theorem eqFieldS_self (xs : List FF) (hm : xs.length ≤ 9223372036854775806 ∧ ∀ x ∈ xs, x.f2.length ≤ 9223372036854775806) : Ev (fun k => laws_eqFieldS.f k xs xs) true := by
  have hx := hm.1
  have h := allb_ev (fun k i => laws_eqFieldS.l0 k xs xs (i : Int)) xs.length (fun _ => true)
    (fun i r hi _ h => by
      refine ev_step (f := fun k => (laws_eqField.f k (xs.getD i z42).f0 (xs.getD i z42).f1 (xs.getD i z42).f2 (xs.getD i z42).f0 (xs.getD i z42).f1 (xs.getD i z42).f2).bind fun t => if t = true then laws_eqFieldS.l0 k xs xs ((i + 1 : Nat) : Int) else some false) (fun k => by
        simp only [laws_eqFieldS.l0, rdf]
        rw [if_pos (by omega), if_pos (by omega), if_pos (by omega), w64 (by omega) (by omega)]
        rfl) (ev_bind (eqField_self _ _ _ (short_of xs hm.2 i)) (ev_ifp rfl h)))
    (fun i hi hp => by cases hp)
    (ev_step (f := fun _ => some true) (fun k => by
      simp only [laws_eqFieldS.l0]
      rw [if_neg (by omega)]) (ev_some _))
  rw [(rall_iff (fun _ => true) xs.length 0).2 (fun _ _ _ => rfl)] at h
  refine Ev.congr (fun k => ?_) h
  unfold laws_eqFieldS.f
  rw [if_pos rfl]
  rfl
theorem map_short {l : List LF} (h : smallF l) : (l.map ofF).length ≤ 9223372036854775806 ∧ ∀ x ∈ l.map ofF, x.f2.length ≤ 9223372036854775806 := by
  refine ⟨by have := h.1; simp; omega, fun x hx => ?_⟩
  obtain ⟨y, hy, rfl⟩ := List.mem_map.1 hx
  have := h.2 y hy
  show y.f2.length ≤ 9223372036854775806
  omega
/-- The law's guard on a list of fields: too large, or all lists are short. -/
theorem szFieldS_go (l : List LF) (s : Int) (hs : 0 ≤ s) (hs2 : s ≤ 1048576) (hl : l.length ≤ 9223372036854775807 ∧ ∀ x ∈ l, x.f2.length ≤ 9223372036854775807) :
    (∃ r, Ev (fun k => laws_szFieldS.f k l s) r ∧ r < 0) ∨ ∃ r, Ev (fun k => laws_szFieldS.f k l s) r ∧ ¬ r < 0 ∧ 0 ≤ r ∧ r ≤ 1048576 ∧ smallF l := by
  have hl1 := hl.1
  unfold laws_szFieldS.f
  rw [w64 (by omega) (by omega)]
  by_cases h : s - (l.length : Int) < 0
  · exact .inl ⟨_, ev_ifp h (ev_some _), by omega⟩
  · have key : ∀ d i (t : Int), l.length - i = d → i ≤ l.length → 0 ≤ t → t ≤ 1048576 →
        (∃ r, Ev (fun k => laws_szFieldS.l0 k l t (i : Int)) r ∧ r < 0) ∨ ∃ r, Ev (fun k => laws_szFieldS.l0 k l t (i : Int)) r ∧ ¬ r < 0 ∧ 0 ≤ r ∧ r ≤ 1048576 ∧ ∀ j, i ≤ j → j < l.length → (l.getD j z38).f2.length ≤ 1048576 := by
      intro d
      induction d with
      | zero =>
        intro i t h0 h1 h2 h3
        exact .inr ⟨t, ev_step (f := fun _ => some t) (fun k => by
          simp only [laws_szFieldS.l0]
          rw [if_neg (by omega)]) (ev_some _), by omega, h2, h3, fun j h4 h5 => by omega⟩
      | succ d ih =>
        intro i t h0 h1 h2 h3
        have hi : i < l.length := by omega
        have hx : (l.getD i z38).f2.length ≤ 9223372036854775807 := by
          rw [getD_eq_get _ hi]
          exact hl.2 _ (List.getElem_mem hi)
        rcases szField_go (l.getD i z38).f0 (l.getD i z38).f1 (l.getD i z38).f2 t h2 h3 hx with ⟨r, e, hr⟩ | ⟨r, e, hr, hr1, hr2, hsh⟩
        · exact .inl ⟨-1, ev_step (f := fun _ => some (-1)) (fun k => by
            simp only [laws_szFieldS.l0, rdlf]
            rw [if_pos (by omega), if_pos (by omega), e, Option.bind_some, if_pos hr]) (ev_some _), by omega⟩
        · have st : ∀ q, Ev (fun k => laws_szFieldS.l0 k l r ((i + 1 : Nat) : Int)) q → Ev (fun k => laws_szFieldS.l0 k l t (i : Int)) q := fun q hq => ev_step (fun k => by
            simp only [laws_szFieldS.l0, rdlf]
            rw [if_pos (by omega), if_pos (by omega), e, Option.bind_some, if_neg hr, w64 (by omega) (by omega)]
            rfl) hq
          rcases ih (i + 1) r (by omega) (by omega) hr1 hr2 with ⟨q, hq, hq0⟩ | ⟨q, hq, hq0, hq1, hq2, hq3⟩
          · exact .inl ⟨q, st q hq, hq0⟩
          · refine .inr ⟨q, st q hq, hq0, hq1, hq2, fun j h4 h5 => ?_⟩
            by_cases e2 : j = i
            · rw [e2]; exact hsh
            · exact hq3 j (by omega) h5
    rcases key l.length 0 (s - l.length) (by omega) (Nat.zero_le _) (by omega) (by omega) with ⟨r, hr, h0⟩ | ⟨r, hr, h0, h1, h2, h3⟩
    · exact .inl ⟨r, ev_ifn h hr, h0⟩
    · refine .inr ⟨r, ev_ifn h hr, h0, h1, h2, by omega, fun x hx => ?_⟩
      obtain ⟨j, hj, rfl⟩ := List.getElem_of_mem hx
      rw [← getD_eq_get z38 hj]
      exact h3 j (Nat.zero_le _) hj
end Go.Proofs.Yteeakkkfefmfmaa.Pure
/- The values of all members at a cell: in the program in the members' order, in the reference in ascending order: the same values. No conditions but that each member has the cell and that they are not more than a machine allows. -/
namespace Go.Proofs.Yteeakkkfefmfmaa.Pure
set_option linter.unusedVariables false
set_option linter.unusedSimpArgs false
open Go.RowKit Go.Proofs.Yteeakkkfefmfmaa.P Go.Proofs.YteeakkkfefmfmaaW.PrintWords Go.Proofs.YteeakkkfefmfmaaW.PrintLast
/-- The value of a member at a cell. -/
def cellOf (l : List FF) (c i : Nat) : Int := (l.getD i z42).f2.getD c 0
/-- From place j on down: behind the last value that is not above x. -/
def pos (s : List Int) (x : Int) : Nat → Nat
  | 0 => 0
  | j + 1 => if s.getD j 0 > x then pos s x j else j + 1
theorem pos_le (s : List Int) (x : Int) : ∀ j, pos s x j ≤ j
  | 0 => Nat.le_refl _
  | j + 1 => by
    unfold pos
    split
    · have := pos_le s x j; omega
    · exact Nat.le_refl _
theorem pos_above (s : List Int) (x : Int) : ∀ j i, pos s x j ≤ i → i < j → s.getD i 0 > x
  | 0, i, _, h => by omega
  | j + 1, i, h1, h2 => by
    unfold pos at h1
    split at h1
    · rename_i hj
      by_cases e : i = j
      · rw [e]; exact hj
      · exact pos_above s x j i h1 (by omega)
    · omega
theorem pos_below (s : List Int) (x : Int) : ∀ j, 0 < pos s x j → s.getD (pos s x j - 1) 0 ≤ x
  | 0, h => by simp [pos] at h
  | j + 1, h => by
    unfold pos at h ⊢
    split
    · rename_i hj
      rw [if_pos hj] at h
      exact pos_below s x j h
    · rename_i hj
      rw [show j + 1 - 1 = j by omega]
      omega
def ins (s : List Int) (x : Int) : List Int := s.take (pos s x s.length) ++ (x :: s.drop (pos s x s.length))
theorem ins_perm (s : List Int) (x : Int) : (ins s x).Perm (x :: s) := by
  unfold ins
  have h : (s.take (pos s x s.length) ++ x :: s.drop (pos s x s.length)).Perm (x :: (s.take (pos s x s.length) ++ s.drop (pos s x s.length))) := List.perm_middle
  rw [List.take_append_drop] at h
  exact h
theorem ins_sorted (s : List Int) (x : Int) (h : s.Pairwise (· ≤ ·)) : (ins s x).Pairwise (· ≤ ·) := by
  have hp := pos_le s x s.length
  have ha := pos_above s x s.length
  have hb := pos_below s x s.length
  unfold ins
  generalize pos s x s.length = p at *
  have hidx := List.pairwise_iff_getElem.1 h
  rw [List.pairwise_append]
  refine ⟨h.sublist (List.take_sublist _ _), ?_, ?_⟩
  · rw [List.pairwise_cons]
    refine ⟨fun y hy => ?_, h.sublist (List.drop_sublist _ _)⟩
    obtain ⟨i, hi, rfl⟩ := List.getElem_of_mem hy
    rw [List.getElem_drop]
    have hl : p + i < s.length := by simp at hi; omega
    have := ha (p + i) (by omega) hl
    rw [getD_eq_get 0 hl] at this
    omega
  · intro y hy z hz
    obtain ⟨i, hi, rfl⟩ := List.getElem_of_mem hy
    rw [List.getElem_take]
    have hip : i < p := by simp at hi; omega
    have h0 := hb (by omega)
    have hl1 : p - 1 < s.length := by omega
    rw [getD_eq_get 0 hl1] at h0
    have hyx : s[i]'(by omega) ≤ x := by
      by_cases e : i = p - 1
      · subst e; exact h0
      · have := hidx i (p - 1) (by omega) hl1 (by omega)
        omega
    rcases List.mem_cons.1 hz with rfl | hz
    · exact hyx
    · obtain ⟨j, hj, rfl⟩ := List.getElem_of_mem hz
      rw [List.getElem_drop]
      have hl : p + j < s.length := by simp at hj; omega
      have := ha (p + j) (by omega) hl
      rw [getD_eq_get 0 hl] at this
      omega
def memStep (l : List FF) (c i : Nat) (s : List Int) : List Int := if cellOf l c i = -9999 then s else s ++ [cellOf l c i]
def insStep (l : List FF) (c i : Nat) (s : List Int) : List Int := if cellOf l c i = -9999 then s else ins s (cellOf l c i)
/-- The values, in the members' order. -/
def vals (l : List FF) (c : Nat) : List Int := iter (memStep l c) 0 l.length []
/-- The values, in ascending order. -/
def svals (l : List FF) (c : Nat) : List Int := iter (insStep l c) 0 l.length []
theorem vals_perm (l : List FF) (c : Nat) : (svals l c).Perm (vals l c) := by
  have key : ∀ d i (s t : List Int), s.Perm t → (iter (insStep l c) i d s).Perm (iter (memStep l c) i d t) := by
    intro d
    induction d with
    | zero => intro i s t h; exact h
    | succ d ih =>
      intro i s t h
      refine ih (i + 1) _ _ ?_
      unfold insStep memStep
      split
      · exact h
      · exact (ins_perm _ _).trans ((List.Perm.cons _ h).trans (List.perm_append_singleton _ _).symm)
  exact key _ _ _ _ (List.Perm.refl _)
theorem svals_sorted (l : List FF) (c : Nat) : (svals l c).Pairwise (· ≤ ·) :=
  iter_inv (insStep l c) (fun _ s => s.Pairwise (· ≤ ·)) l.length (fun i s h _ => by unfold insStep; split; exact h; exact ins_sorted s _ h) l.length 0 [] (by omega) List.Pairwise.nil
theorem vals_len (l : List FF) (c : Nat) : (vals l c).length ≤ l.length :=
  iter_inv (memStep l c) (fun i s => s.length ≤ i) l.length (fun i s h _ => by unfold memStep; split; omega; simp; omega) l.length 0 [] (by omega) (by simp)
theorem svals_len (l : List FF) (c : Nat) : (svals l c).length = (vals l c).length := (vals_perm l c).length_eq
theorem memberValues_ev (l : List FF) (c : Nat) (hl : l.length ≤ 17592186044415) (hc : ∀ i, i < l.length → c < (l.getD i z42).f2.length) (hc2 : c ≤ 9223372036854775806) : Ev (fun k => impl_memberValues.f k l (c : Int)) (vals l c) := by
  have h := loop_ev (fun k s i => impl_memberValues.l0 k (c : Int) s l (l.length : Int) (i : Int)) l.length (memStep l c) (fun s => s) (fun i s => s.length ≤ i)
    (fun i s r hI hi h => ev_step (fun k => by
      have := hc i hi
      simp only [impl_memberValues.l0, rdf, rd_nat]
      rw [if_pos (by omega), if_pos (by omega), if_pos (by omega), if_pos (by omega), if_pos (by omega), w64 (by omega) (by omega), if_pos (c := s.length < 17592186044416) (by omega)]
      show (if cellOf l c i = -9999 then _ else _) = impl_memberValues.l0 k (c : Int) (memStep l c i s) l (l.length : Int) ((i : Int) + 1)
      unfold memStep
      split <;> rfl) h)
    (fun i s hI _ => by unfold memStep; split; omega; simp; omega)
    (fun s hI => ev_step (f := fun _ => some s) (fun k => by
      simp only [impl_memberValues.l0]
      rw [if_neg (by omega)]) (ev_some _)) 0 [] (Nat.zero_le _) (by simp)
  exact h
theorem l9Values_ev (l : List FF) (c : Nat) (hl : l.length ≤ 17592186044000) (hc : ∀ i, i < l.length → c < (l.getD i z42).f2.length) (hc2 : c ≤ 9223372036854775806) : Ev (fun k => spec_l9Values.f k l (c : Int)) (svals l c) := by
  have inner : ∀ (s : List Int) (i : Nat) (x : Int) (r : List Int) (j : Nat), s.length ≤ 17592186044000 → j ≤ s.length → Ev (fun k => spec_l9Values.l0 k l (c : Int) (s.take (pos s x j) ++ (x :: s.drop (pos s x j))) (wrap64 ((i : Int) + 1))) r → Ev (fun k => spec_l9Values.l1 k l (c : Int) s (i : Int) x (j : Int)) r := by
    intro s i x r j hs
    induction j with
    | zero =>
      intro hj h
      refine ev_step (f := fun k => spec_l9Values.l0 k l (c : Int) (s.take 0 ++ (x :: s.drop 0)) (wrap64 ((i : Int) + 1))) (fun k => ?_) h
      simp only [spec_l9Values.l1, Option.bind_some]
      rw [if_neg (by omega), if_pos (by omega), if_pos (by omega), if_pos (by simp), if_pos (by simp), if_pos (by simp; omega)]
      simp
    | succ j ih =>
      intro hj h
      unfold pos at h
      have e1 : wrap64 (((j + 1 : Nat) : Int) - 1) = (j : Int) := by rw [w64 (by omega) (by omega)]; omega
      by_cases hg : s.getD j 0 > x
      · rw [if_pos hg] at h
        refine ev_step (fun k => ?_) (ih (by omega) h)
        simp only [spec_l9Values.l1]
        rw [if_pos (by omega), e1, if_pos (by omega), if_pos (by omega), rd_nat, if_pos hg]
      · rw [if_neg hg] at h
        refine ev_step (fun k => ?_) h
        simp only [spec_l9Values.l1, Option.bind_some]
        rw [if_pos (by omega), e1, if_pos (by omega), if_pos (by omega), rd_nat, if_neg hg, if_pos (by omega), if_pos (by omega), Int.toNat_natCast, if_pos (by simp; omega), if_pos (by simp; omega), if_pos (by simp; omega)]
        simp
  have h := loop_ev (fun k s i => spec_l9Values.l0 k l (c : Int) s (i : Int)) l.length (insStep l c) (fun s => s) (fun i s => s.length ≤ i)
    (fun i s r hI hi h => by
      have hci := hc i hi
      by_cases e : cellOf l c i = -9999
      · refine ev_step (fun k => ?_) h
        simp only [spec_l9Values.l0, rdf, rd_nat]
        rw [if_pos (by omega), if_pos (by omega), if_pos (by omega), if_pos (by omega), if_pos (c := (l.getD i z42).f2.getD c 0 = -9999) e, w64 (by omega) (by omega), insStep, if_pos e]
        rfl
      · have h2 := inner s i (cellOf l c i) r s.length (by omega) (Nat.le_refl _) (by
          rw [insStep, if_neg e, ins] at h
          rw [w64 (by omega) (by omega)]
          exact h)
        refine ev_step (fun k => ?_) h2
        simp only [spec_l9Values.l0, rdf, rd_nat]
        rw [if_pos (by omega), if_pos (by omega), if_pos (by omega), if_pos (by omega), if_neg (c := (l.getD i z42).f2.getD c 0 = -9999) e]
        rfl)
    (fun i s hI _ => by
      unfold insStep
      split
      · omega
      · rw [(ins_perm s _).length_eq, List.length_cons]; omega)
    (fun s hI => ev_step (f := fun _ => some s) (fun k => by
      simp only [spec_l9Values.l0]
      rw [if_neg (by omega)]) (ev_some _)) 0 [] (Nat.zero_le _) (by simp)
  exact h
end Go.Proofs.Yteeakkkfefmfmaa.Pure
/- How many of some values are at least a number: one count in the program and in the reference, whatever the order. No conditions but that the list is no longer than a machine allows. -/
namespace Go.Proofs.Yteeakkkfefmfmaa.Pure
set_option linter.unusedVariables false
set_option linter.unusedSimpArgs false
open Go.RowKit Go.Proofs.Yteeakkkfefmfmaa.P Go.Proofs.YteeakkkfefmfmaaW.PrintWords Go.Proofs.YteeakkkfefmfmaaW.PrintLast
def cntStep (l : List Int) (p : Int → Bool) (i : Nat) (n : Int) : Int := if p (l.getD i 0) = true then n + 1 else n
theorem cnt_iter (l : List Int) (p : Int → Bool) : ∀ d i (n : Int), i + d = l.length → iter (cntStep l p) i d n = n + ((l.drop i).countP p : Int) := by
  intro d
  induction d with
  | zero => intro i n h; rw [List.drop_of_length_le (by omega)]; simp [iter]
  | succ d ih =>
    intro i n h
    have hlt : i < l.length := by omega
    show iter (cntStep l p) (i + 1) d (cntStep l p i n) = _
    rw [ih (i + 1) _ (by omega), List.drop_eq_getElem_cons hlt, List.countP_cons, cntStep, getD_eq_get 0 hlt]
    split <;> simp_all <;> omega
theorem cnt_all (l : List Int) (p : Int → Bool) : iter (cntStep l p) 0 l.length 0 = (l.countP p : Int) := by
  rw [cnt_iter l p l.length 0 0 (by omega)]
  simp
theorem countAtLeast_ev (l : List Int) (x : Int) (hl : l.length ≤ 9223372036854775806) : Ev (fun k => impl_countAtLeast.f k l x) (l.countP (fun y => decide (y ≥ x)) : Int) := by
  rw [← cnt_all]
  exact loop_ev (fun k n i => impl_countAtLeast.l0 k x n l (l.length : Int) (i : Int)) l.length (cntStep l (fun y => decide (y ≥ x))) (fun n => n) (fun i n => 0 ≤ n ∧ n ≤ i)
    (fun i n r hI hi h => ev_step (fun k => by
      simp only [impl_countAtLeast.l0, rd_nat]
      rw [if_pos (by omega), if_pos (by omega), if_pos (by omega), w64 (x := (i : Int) + 1) (by omega) (by omega), w64 (x := n + 1) (by omega) (by omega)]
      show _ = impl_countAtLeast.l0 k x (cntStep l (fun y => decide (y ≥ x)) i n) l (l.length : Int) ((i : Int) + 1)
      unfold cntStep
      by_cases e : l.getD i 0 ≥ x
      · rw [if_pos e, if_pos (decide_eq_true e)]
      · rw [if_neg e, if_neg (by simpa using e)]) h)
    (fun i n hI _ => by unfold cntStep; split <;> omega)
    (fun n hI => ev_step (f := fun _ => some n) (fun k => by
      simp only [impl_countAtLeast.l0]
      rw [if_neg (by omega)]) (ev_some _)) 0 0 (Nat.zero_le _) (by omega)
theorem l9Least_ev (l : List Int) (x : Int) (hl : l.length ≤ 9223372036854775806) : Ev (fun k => spec_l9Least.f k l x) (l.countP (fun y => decide (y ≥ x)) : Int) := by
  rw [← cnt_all]
  exact loop_ev (fun k n i => spec_l9Least.l0 k l x n (i : Int)) l.length (cntStep l (fun y => decide (y ≥ x))) (fun n => n) (fun i n => 0 ≤ n ∧ n ≤ i)
    (fun i n r hI hi h => ev_step (fun k => by
      simp only [spec_l9Least.l0, rd_nat]
      rw [if_pos (by omega), if_pos (by omega), w64 (x := (i : Int) + 1) (by omega) (by omega), w64 (x := n + 1) (by omega) (by omega)]
      show _ = spec_l9Least.l0 k l x (cntStep l (fun y => decide (y ≥ x)) i n) ((i : Int) + 1)
      unfold cntStep
      by_cases e : l.getD i 0 ≥ x
      · rw [if_pos e, if_pos (decide_eq_true e)]
      · rw [if_neg e, if_neg (by simpa using e)]) h)
    (fun i n hI _ => by unfold cntStep; split <;> omega)
    (fun n hI => ev_step (f := fun _ => some n) (fun k => by
      simp only [spec_l9Least.l0]
      rw [if_neg (by omega)]) (ev_some _)) 0 0 (Nat.zero_le _) (by omega)
/-- What a valid ensemble is. -/
theorem ens_is {l : List FF} (h : ensOk l = true) : (1 ≤ l.length ∧ l.length ≤ 8) ∧ ∀ i, i < l.length → FieldIs (l.getD i z42).f0 (l.getD i z42).f1 (l.getD i z42).f2 ∧ (l.getD i z42).f0 = (l.getD 0 z42).f0 ∧ (l.getD i z42).f1 = (l.getD 0 z42).f1 := by
  unfold ensOk at h
  rw [Bool.and_eq_true, inb_iff, List.all_eq_true] at h
  refine ⟨by omega, fun i hi => ?_⟩
  rw [getD_eq_get _ hi]
  have := h.2 _ (List.getElem_mem hi)
  unfold memOk at this
  rw [Bool.and_eq_true, Bool.and_eq_true] at this
  exact ⟨fieldOk_iff.1 this.1, of_decide_eq_true this.2.1, of_decide_eq_true this.2.2⟩
end Go.Proofs.Yteeakkkfefmfmaa.Pure
-- written by mp.py (this session's), with the print's functions; Lean checks it
namespace Go.Proofs.Yteeakkkfefmfmaa.P
open Go.RowKit Go.Proofs.YteeakkkfefmfmaaW.PrintWords Go.Proofs.YteeakkkfefmfmaaW.PrintLast Go.Proofs.YteeakkkfefmfmaaW.PrintMore
attribute [local go_sem] max2_int min2_int max_two min_two max_three min_three max_four min_four   -- for this text's walks alone
set_option linter.unusedVariables false
set_option linter.unusedSimpArgs false

/-! ### spec_l9Cell: function 78 -/
def spec_l9Cell.f (k : Nat) (l0 : List (S42)) (a1 : Int) (a2 : Int) : Option (Int) := (spec_l9Good.f k l0).bind fun t101 => (if t101 = true then (if 0 < (l0.length : Int) then ((spec_l1In.f a1 0 (wrap64 (((rd_T42 l0 0).f0) - 1))).bind fun t103 => (if t103 = true then ((spec_l1In.f a2 0 (wrap64 (((rd_T42 l0 0).f1) - 1))).bind fun t105 => (if t105 = true then (some (wrap64 ((wrap64 (((rd_T42 l0 0).f0) * a2)) + a1))) else (some (-1)))) else (some (-1)))) else (none)) else (some (-1)))
theorem spec_l9Cell.mono : ∀ a0 a1 a2 k, LeO (spec_l9Cell.f k a0 a1 a2) (spec_l9Cell.f (k + 1) a0 a1 a2) := by
  intro a0 a1 a2 k
  unfold spec_l9Cell.f
  repeat' first
      | (with_reducible exact spec_l9Good.mono _ _)
      | (with_reducible exact LeO.refl _)
      | (with_reducible exact LeO.none _)
      | (with_reducible refine LeO.ite ?_ ?_)
      | (with_reducible refine LeO.bind ?_ (fun _ => ?_))
      | exact spec_l9Good.mono _ _
      | exact LeO.none _
      | refine LeO.ite ?_ ?_
      | refine LeO.bind ?_ (fun _ => ?_)
set_option maxHeartbeats 8000000 in
set_option maxRecDepth 100000 in
theorem spec_l9Cell.calls (k : Nat) (A0 : Option Addr) (c0 : Nat) (l0 : List (S42)) (a1 : Int) (a2 : Int) (r : Int) (w : World) (hr0 : Kd.C k42 w A0 l0.length l0) (hc0 : l0.length ≤ c0) (h : spec_l9Cell.f k l0 a1 a2 = some r) :
    Calls Try.prog 78 #[.slice A0 l0.length c0, .int .i64 a1, .int .i64 a2] w fun e w' => e = .returned (.int .i64 r) ∧ Below w.heap.size w w' := by
  have HR0 := Aside0.mk hr0
  have HC0 := Aside0.mk hc0
  clear hr0 hc0
  have HB := Aside0.mk (Below.refl w.heap.size w)
  have H : ((spec_l9Good.f k l0).bind fun t101 => (if t101 = true then (if 0 < (l0.length : Int) then ((spec_l1In.f a1 0 (wrap64 (((rd_T42 l0 0).f0) - 1))).bind fun t103 => (if t103 = true then ((spec_l1In.f a2 0 (wrap64 (((rd_T42 l0 0).f1) - 1))).bind fun t105 => (if t105 = true then (some (wrap64 ((wrap64 (((rd_T42 l0 0).f0) * a2)) + a1))) else (some (-1)))) else (some (-1)))) else (none)) else (some (-1)))) = some r := h
  clear h
  replace H := Option.bind_eq_some_iff.mp H
  obtain ⟨t101, A40, H⟩ := H
  replace H : (if t101 = true then (if 0 < (l0.length : Int) then ((spec_l1In.f a1 0 (wrap64 (((rd_T42 l0 0).f0) - 1))).bind fun t103 => (if t103 = true then ((spec_l1In.f a2 0 (wrap64 (((rd_T42 l0 0).f1) - 1))).bind fun t105 => (if t105 = true then (some (wrap64 ((wrap64 (((rd_T42 l0 0).f0) * a2)) + a1))) else (some (-1)))) else (some (-1)))) else (none)) else (some (-1))) = some r := H
  have A4 := Aside0.mk A40
  clear A40
  by_cases c5 : t101 = true
  · subst c5
    have H1 : (if 0 < (l0.length : Int) then ((spec_l1In.f a1 0 (wrap64 (((rd_T42 l0 0).f0) - 1))).bind fun t103 => (if t103 = true then ((spec_l1In.f a2 0 (wrap64 (((rd_T42 l0 0).f1) - 1))).bind fun t105 => (if t105 = true then (some (wrap64 ((wrap64 (((rd_T42 l0 0).f0) * a2)) + a1))) else (some (-1)))) else (some (-1)))) else (none)) = some r := by rw [if_pos rfl] at H; exact H
    clear H
    have H := H1
    clear H1
    by_cases c6 : 0 < (l0.length : Int)
    · rw [if_pos c6] at H
      have c6b0 : decide (0 < (l0.length : Int)) = true := decide_eq_true c6
      have c6b1 : decide (0 < l0.length) = true := decide_eq_true (by omega)
      clear c6
      replace H := Option.bind_eq_some_iff.mp H
      obtain ⟨t103, A70, H⟩ := H
      replace H : (if t103 = true then ((spec_l1In.f a2 0 (wrap64 (((rd_T42 l0 0).f1) - 1))).bind fun t105 => (if t105 = true then (some (wrap64 ((wrap64 (((rd_T42 l0 0).f0) * a2)) + a1))) else (some (-1)))) else (some (-1))) = some r := H
      have A7 := Aside0.mk A70
      clear A70
      by_cases c8 : t103 = true
      · subst c8
        have H1 : ((spec_l1In.f a2 0 (wrap64 (((rd_T42 l0 0).f1) - 1))).bind fun t105 => (if t105 = true then (some (wrap64 ((wrap64 (((rd_T42 l0 0).f0) * a2)) + a1))) else (some (-1)))) = some r := by rw [if_pos rfl] at H; exact H
        clear H
        have H := H1
        clear H1
        replace H := Option.bind_eq_some_iff.mp H
        obtain ⟨t105, A90, H⟩ := H
        replace H : (if t105 = true then (some (wrap64 ((wrap64 (((rd_T42 l0 0).f0) * a2)) + a1))) else (some (-1))) = some r := H
        have A9 := Aside0.mk A90
        clear A90
        by_cases c10 : t105 = true
        · subst c10
          have H1 : (some (wrap64 ((wrap64 (((rd_T42 l0 0).f0) * a2)) + a1))) = some r := by rw [if_pos rfl] at H; exact H
          clear H
          have H := H1
          clear H1
          obtain rfl := Option.some.inj H
          go_enter Try.func78, Try.ntmps78
          go_wp2_with (first | ((with_reducible refine gate_callee (f := 86) rfl ?_); refine goesL_ (some 8) rfl rfl Try.func86 (by kernel_rfl) rfl #[.slice A0 l0.length c0] rfl (by (try simp only [List.map_toArray, List.map_cons, List.map_nil]); first | done | rfl | (simp only [List.length_drop, List.length_take]; rfl)) ?_; (with_reducible refine (spec_l9Good.calls k _ _ l0 true _ ?side1 ?side2 A4.out).mono ?_); (case side1 => repeat (first | exact HR0.out | (with_reducible refine Kd.C_alloc ?_ _) | (with_reducible refine Kd.C_drewN ?_ _) | (with_reducible refine Kd.C_drew ?_))); (case side2 => exact HC0.out); rintro e w11 ⟨rfl, hb⟩; refine ⟨_, rfl, ?_⟩; have n0_ := Aside0.mk (below_step (by repeat (first | (with_reducible first | exact HB.out | apply below_alloc | apply pw_below_drewN | apply below_drew1) | exact HB.out)) hb); clear HB; have HB := n0_; clear n0_; (try clear hb); (try clear hb2); (try clear hk); (try clear hi); have p102 : 0 ≤ (0 : Int) := (by omega); have q102 : 0 < (l0.length : Int) := of_decide_eq_true (by first | (with_reducible assumption) | assumption); obtain ⟨ad102, A102_2, c102_2, e102, hx102_0, hx102_1, hx102_2, hl102_2, hi102_2⟩ := at_T42 HR0.out 0 p102 q102; cases e102; have qi102 : (0 < l0.length) = True := eq_true (by omega); (try rw [show ((0 : Int)).toNat = 0 from rfl] at hx102_0); (try rw [show 0 * 3 = 0 from rfl] at hx102_0); (try rw [Addr.add_zero'] at hx102_0); (try rw [show ((0 : Int)).toNat = 0 from rfl] at hx102_1); (try rw [show 0 * 3 = 0 from rfl] at hx102_1); (try rw [Addr.add_zero'] at hx102_1); (try rw [show ((0 : Int)).toNat = 0 from rfl] at hx102_2); (try rw [show 0 * 3 = 0 from rfl] at hx102_2); (try rw [Addr.add_zero'] at hx102_2); replace hx102_0 := (HB.out.cell (World.block_lt_of_cell? w _ hx102_0)).trans hx102_0; replace hx102_1 := (HB.out.cell (World.block_lt_of_cell? w _ hx102_1)).trans hx102_1; replace hx102_2 := (HB.out.cell (World.block_lt_of_cell? w _ hx102_2)).trans hx102_2; have HR102_2 := Aside0.mk hi102_2; have HC102_2 := Aside0.mk hl102_2; clear hi102_2 hl102_2; replace p102 := eq_true p102; replace q102 := eq_true q102) | (go_at_call 88; (with_reducible refine (spec_l1In.calls a1 0 (wrap64 (((rd_T42 l0 0).f0) - 1)) true _ A7.out).mono ?_); rintro e w' ⟨rfl, ⟨nd, rfl⟩⟩; have p104 : 0 ≤ (0 : Int) := (by omega); have q104 : 0 < (l0.length : Int) := of_decide_eq_true (by first | (with_reducible assumption) | assumption); obtain ⟨ad104, A104_2, c104_2, e104, hx104_0, hx104_1, hx104_2, hl104_2, hi104_2⟩ := at_T42 HR0.out 0 p104 q104; obtain rfl : ad102 = ad104 := (by injection e104); have qi104 : (0 < l0.length) = True := eq_true (by omega); (try rw [show ((0 : Int)).toNat = 0 from rfl] at hx104_0); (try rw [show 0 * 3 = 0 from rfl] at hx104_0); (try rw [Addr.add_zero'] at hx104_0); (try rw [show ((0 : Int)).toNat = 0 from rfl] at hx104_1); (try rw [show 0 * 3 = 0 from rfl] at hx104_1); (try rw [Addr.add_zero'] at hx104_1); (try rw [show ((0 : Int)).toNat = 0 from rfl] at hx104_2); (try rw [show 0 * 3 = 0 from rfl] at hx104_2); (try rw [Addr.add_zero'] at hx104_2); replace hx104_0 := (HB.out.cell (World.block_lt_of_cell? w _ hx104_0)).trans hx104_0; replace hx104_1 := (HB.out.cell (World.block_lt_of_cell? w _ hx104_1)).trans hx104_1; replace hx104_2 := (HB.out.cell (World.block_lt_of_cell? w _ hx104_2)).trans hx104_2; have HR104_2 := Aside0.mk hi104_2; have HC104_2 := Aside0.mk hl104_2; clear hi104_2 hl104_2; replace p104 := eq_true p104; replace q104 := eq_true q104; have ea_ := Option.some.inj (hx102_2.symm.trans hx104_2); injection ea_ with ea_ en_ ec_; subst ea_; subst ec_; clear en_) | (go_at_call 88; (with_reducible refine (spec_l1In.calls a2 0 (wrap64 (((rd_T42 l0 0).f1) - 1)) true _ A9.out).mono ?_); rintro e w' ⟨rfl, ⟨nd, rfl⟩⟩; have p106 : 0 ≤ (0 : Int) := (by omega); have q106 : 0 < (l0.length : Int) := of_decide_eq_true (by first | (with_reducible assumption) | assumption); obtain ⟨ad106, A106_2, c106_2, e106, hx106_0, hx106_1, hx106_2, hl106_2, hi106_2⟩ := at_T42 HR0.out 0 p106 q106; obtain rfl : ad102 = ad106 := (by injection e106); have qi106 : (0 < l0.length) = True := eq_true (by omega); (try rw [show ((0 : Int)).toNat = 0 from rfl] at hx106_0); (try rw [show 0 * 3 = 0 from rfl] at hx106_0); (try rw [Addr.add_zero'] at hx106_0); (try rw [show ((0 : Int)).toNat = 0 from rfl] at hx106_1); (try rw [show 0 * 3 = 0 from rfl] at hx106_1); (try rw [Addr.add_zero'] at hx106_1); (try rw [show ((0 : Int)).toNat = 0 from rfl] at hx106_2); (try rw [show 0 * 3 = 0 from rfl] at hx106_2); (try rw [Addr.add_zero'] at hx106_2); replace hx106_0 := (HB.out.cell (World.block_lt_of_cell? w _ hx106_0)).trans hx106_0; replace hx106_1 := (HB.out.cell (World.block_lt_of_cell? w _ hx106_1)).trans hx106_1; replace hx106_2 := (HB.out.cell (World.block_lt_of_cell? w _ hx106_2)).trans hx106_2; have HR106_2 := Aside0.mk hi106_2; have HC106_2 := Aside0.mk hl106_2; clear hi106_2 hl106_2; replace p106 := eq_true p106; replace q106 := eq_true q106; have ea_ := Option.some.inj (hx102_2.symm.trans hx106_2); injection ea_ with ea_ en_ ec_; subst ea_; subst ec_; clear en_))
          go_ret
          exact ⟨by first | rfl | (simp [errW_none, errW_some] <;> rfl) | (simp [*, errW_none, errW_some] <;> rfl), by repeat (first | (with_reducible first | exact HB.out | apply below_alloc | apply pw_below_drewN | apply below_drew1) | exact HB.out)⟩
        · replace c10 := Bool.eq_false_iff.mpr c10
          subst c10
          have H1 : (some (-1)) = some r := by rw [if_neg (show ¬ (false = true) by decide)] at H; exact H
          clear H
          have H := H1
          clear H1
          obtain rfl := Option.some.inj H
          go_enter Try.func78, Try.ntmps78
          go_wp2_with (first | ((with_reducible refine gate_callee (f := 86) rfl ?_); refine goesL_ (some 8) rfl rfl Try.func86 (by kernel_rfl) rfl #[.slice A0 l0.length c0] rfl (by (try simp only [List.map_toArray, List.map_cons, List.map_nil]); first | done | rfl | (simp only [List.length_drop, List.length_take]; rfl)) ?_; (with_reducible refine (spec_l9Good.calls k _ _ l0 true _ ?side1 ?side2 A4.out).mono ?_); (case side1 => repeat (first | exact HR0.out | (with_reducible refine Kd.C_alloc ?_ _) | (with_reducible refine Kd.C_drewN ?_ _) | (with_reducible refine Kd.C_drew ?_))); (case side2 => exact HC0.out); rintro e w12 ⟨rfl, hb⟩; refine ⟨_, rfl, ?_⟩; have n0_ := Aside0.mk (below_step (by repeat (first | (with_reducible first | exact HB.out | apply below_alloc | apply pw_below_drewN | apply below_drew1) | exact HB.out)) hb); clear HB; have HB := n0_; clear n0_; (try clear hb); (try clear hb2); (try clear hk); (try clear hi); have p102 : 0 ≤ (0 : Int) := (by omega); have q102 : 0 < (l0.length : Int) := of_decide_eq_true (by first | (with_reducible assumption) | assumption); obtain ⟨ad102, A102_2, c102_2, e102, hx102_0, hx102_1, hx102_2, hl102_2, hi102_2⟩ := at_T42 HR0.out 0 p102 q102; cases e102; have qi102 : (0 < l0.length) = True := eq_true (by omega); (try rw [show ((0 : Int)).toNat = 0 from rfl] at hx102_0); (try rw [show 0 * 3 = 0 from rfl] at hx102_0); (try rw [Addr.add_zero'] at hx102_0); (try rw [show ((0 : Int)).toNat = 0 from rfl] at hx102_1); (try rw [show 0 * 3 = 0 from rfl] at hx102_1); (try rw [Addr.add_zero'] at hx102_1); (try rw [show ((0 : Int)).toNat = 0 from rfl] at hx102_2); (try rw [show 0 * 3 = 0 from rfl] at hx102_2); (try rw [Addr.add_zero'] at hx102_2); replace hx102_0 := (HB.out.cell (World.block_lt_of_cell? w _ hx102_0)).trans hx102_0; replace hx102_1 := (HB.out.cell (World.block_lt_of_cell? w _ hx102_1)).trans hx102_1; replace hx102_2 := (HB.out.cell (World.block_lt_of_cell? w _ hx102_2)).trans hx102_2; have HR102_2 := Aside0.mk hi102_2; have HC102_2 := Aside0.mk hl102_2; clear hi102_2 hl102_2; replace p102 := eq_true p102; replace q102 := eq_true q102) | (go_at_call 88; (with_reducible refine (spec_l1In.calls a1 0 (wrap64 (((rd_T42 l0 0).f0) - 1)) true _ A7.out).mono ?_); rintro e w' ⟨rfl, ⟨nd, rfl⟩⟩; have p104 : 0 ≤ (0 : Int) := (by omega); have q104 : 0 < (l0.length : Int) := of_decide_eq_true (by first | (with_reducible assumption) | assumption); obtain ⟨ad104, A104_2, c104_2, e104, hx104_0, hx104_1, hx104_2, hl104_2, hi104_2⟩ := at_T42 HR0.out 0 p104 q104; obtain rfl : ad102 = ad104 := (by injection e104); have qi104 : (0 < l0.length) = True := eq_true (by omega); (try rw [show ((0 : Int)).toNat = 0 from rfl] at hx104_0); (try rw [show 0 * 3 = 0 from rfl] at hx104_0); (try rw [Addr.add_zero'] at hx104_0); (try rw [show ((0 : Int)).toNat = 0 from rfl] at hx104_1); (try rw [show 0 * 3 = 0 from rfl] at hx104_1); (try rw [Addr.add_zero'] at hx104_1); (try rw [show ((0 : Int)).toNat = 0 from rfl] at hx104_2); (try rw [show 0 * 3 = 0 from rfl] at hx104_2); (try rw [Addr.add_zero'] at hx104_2); replace hx104_0 := (HB.out.cell (World.block_lt_of_cell? w _ hx104_0)).trans hx104_0; replace hx104_1 := (HB.out.cell (World.block_lt_of_cell? w _ hx104_1)).trans hx104_1; replace hx104_2 := (HB.out.cell (World.block_lt_of_cell? w _ hx104_2)).trans hx104_2; have HR104_2 := Aside0.mk hi104_2; have HC104_2 := Aside0.mk hl104_2; clear hi104_2 hl104_2; replace p104 := eq_true p104; replace q104 := eq_true q104; have ea_ := Option.some.inj (hx102_2.symm.trans hx104_2); injection ea_ with ea_ en_ ec_; subst ea_; subst ec_; clear en_) | (go_at_call 88; (with_reducible refine (spec_l1In.calls a2 0 (wrap64 (((rd_T42 l0 0).f1) - 1)) false _ A9.out).mono ?_); rintro e w' ⟨rfl, ⟨nd, rfl⟩⟩))
          go_ret
          exact ⟨by first | rfl | (simp [errW_none, errW_some] <;> rfl) | (simp [*, errW_none, errW_some] <;> rfl), by repeat (first | (with_reducible first | exact HB.out | apply below_alloc | apply pw_below_drewN | apply below_drew1) | exact HB.out)⟩
      · replace c8 := Bool.eq_false_iff.mpr c8
        subst c8
        have H1 : (some (-1)) = some r := by rw [if_neg (show ¬ (false = true) by decide)] at H; exact H
        clear H
        have H := H1
        clear H1
        obtain rfl := Option.some.inj H
        go_enter Try.func78, Try.ntmps78
        go_wp2_with (first | ((with_reducible refine gate_callee (f := 86) rfl ?_); refine goesL_ (some 8) rfl rfl Try.func86 (by kernel_rfl) rfl #[.slice A0 l0.length c0] rfl (by (try simp only [List.map_toArray, List.map_cons, List.map_nil]); first | done | rfl | (simp only [List.length_drop, List.length_take]; rfl)) ?_; (with_reducible refine (spec_l9Good.calls k _ _ l0 true _ ?side1 ?side2 A4.out).mono ?_); (case side1 => repeat (first | exact HR0.out | (with_reducible refine Kd.C_alloc ?_ _) | (with_reducible refine Kd.C_drewN ?_ _) | (with_reducible refine Kd.C_drew ?_))); (case side2 => exact HC0.out); rintro e w13 ⟨rfl, hb⟩; refine ⟨_, rfl, ?_⟩; have n0_ := Aside0.mk (below_step (by repeat (first | (with_reducible first | exact HB.out | apply below_alloc | apply pw_below_drewN | apply below_drew1) | exact HB.out)) hb); clear HB; have HB := n0_; clear n0_; (try clear hb); (try clear hb2); (try clear hk); (try clear hi); have p102 : 0 ≤ (0 : Int) := (by omega); have q102 : 0 < (l0.length : Int) := of_decide_eq_true (by first | (with_reducible assumption) | assumption); obtain ⟨ad102, A102_2, c102_2, e102, hx102_0, hx102_1, hx102_2, hl102_2, hi102_2⟩ := at_T42 HR0.out 0 p102 q102; cases e102; have qi102 : (0 < l0.length) = True := eq_true (by omega); (try rw [show ((0 : Int)).toNat = 0 from rfl] at hx102_0); (try rw [show 0 * 3 = 0 from rfl] at hx102_0); (try rw [Addr.add_zero'] at hx102_0); (try rw [show ((0 : Int)).toNat = 0 from rfl] at hx102_1); (try rw [show 0 * 3 = 0 from rfl] at hx102_1); (try rw [Addr.add_zero'] at hx102_1); (try rw [show ((0 : Int)).toNat = 0 from rfl] at hx102_2); (try rw [show 0 * 3 = 0 from rfl] at hx102_2); (try rw [Addr.add_zero'] at hx102_2); replace hx102_0 := (HB.out.cell (World.block_lt_of_cell? w _ hx102_0)).trans hx102_0; replace hx102_1 := (HB.out.cell (World.block_lt_of_cell? w _ hx102_1)).trans hx102_1; replace hx102_2 := (HB.out.cell (World.block_lt_of_cell? w _ hx102_2)).trans hx102_2; have HR102_2 := Aside0.mk hi102_2; have HC102_2 := Aside0.mk hl102_2; clear hi102_2 hl102_2; replace p102 := eq_true p102; replace q102 := eq_true q102) | (go_at_call 88; (with_reducible refine (spec_l1In.calls a1 0 (wrap64 (((rd_T42 l0 0).f0) - 1)) false _ A7.out).mono ?_); rintro e w' ⟨rfl, ⟨nd, rfl⟩⟩))
        go_ret
        exact ⟨by first | rfl | (simp [errW_none, errW_some] <;> rfl) | (simp [*, errW_none, errW_some] <;> rfl), by repeat (first | (with_reducible first | exact HB.out | apply below_alloc | apply pw_below_drewN | apply below_drew1) | exact HB.out)⟩
    · rw [if_neg c6] at H
      exact absurd H (by simp)
  · replace c5 := Bool.eq_false_iff.mpr c5
    subst c5
    have H1 : (some (-1)) = some r := by rw [if_neg (show ¬ (false = true) by decide)] at H; exact H
    clear H
    have H := H1
    clear H1
    obtain rfl := Option.some.inj H
    go_enter Try.func78, Try.ntmps78
    go_wp2_with (first | ((with_reducible refine gate_callee (f := 86) rfl ?_); refine goesL_ (some 8) rfl rfl Try.func86 (by kernel_rfl) rfl #[.slice A0 l0.length c0] rfl (by (try simp only [List.map_toArray, List.map_cons, List.map_nil]); first | done | rfl | (simp only [List.length_drop, List.length_take]; rfl)) ?_; (with_reducible refine (spec_l9Good.calls k _ _ l0 false _ ?side1 ?side2 A4.out).mono ?_); (case side1 => repeat (first | exact HR0.out | (with_reducible refine Kd.C_alloc ?_ _) | (with_reducible refine Kd.C_drewN ?_ _) | (with_reducible refine Kd.C_drew ?_))); (case side2 => exact HC0.out); rintro e w14 ⟨rfl, hb⟩; refine ⟨_, rfl, ?_⟩; have n0_ := Aside0.mk (below_step (by repeat (first | (with_reducible first | exact HB.out | apply below_alloc | apply pw_below_drewN | apply below_drew1) | exact HB.out)) hb); clear HB; have HB := n0_; clear n0_; (try clear hb); (try clear hb2); (try clear hk); (try clear hi)))
    go_ret
    exact ⟨by first | rfl | (simp [errW_none, errW_some] <;> rfl) | (simp [*, errW_none, errW_some] <;> rfl), by repeat (first | (with_reducible first | exact HB.out | apply below_alloc | apply pw_below_drewN | apply below_drew1) | exact HB.out)⟩

end Go.Proofs.Yteeakkkfefmfmaa.P
-- written by mp.py (this session's), with the print's functions; Lean checks it
namespace Go.Proofs.Yteeakkkfefmfmaa.P
open Go.RowKit Go.Proofs.YteeakkkfefmfmaaW.PrintWords Go.Proofs.YteeakkkfefmfmaaW.PrintLast Go.Proofs.YteeakkkfefmfmaaW.PrintMore
attribute [local go_sem] max2_int min2_int max_two min_two max_three min_three max_four min_four   -- for this text's walks alone
set_option linter.unusedVariables false
set_option linter.unusedSimpArgs false

/-! ### impl_hasCell: function 143 -/
def impl_hasCell.f (a0_0 : Int) (a0_1 : Int) (l0_2 : List Int) (a1 : Int) (a2 : Int) : Option (Bool) := (impl_within.f a1 0 (wrap64 (a0_0 - 1))).bind fun t102 => (if t102 = true then ((impl_within.f a2 0 (wrap64 (a0_1 - 1))).bind fun t103 => (some t103)) else (some false))
set_option maxHeartbeats 8000000 in
set_option maxRecDepth 100000 in
theorem impl_hasCell.calls (a0_0 : Int) (a0_1 : Int) (A0_2 : Option Addr) (c0_2 : Nat) (l0_2 : List Int) (a1 : Int) (a2 : Int) (r : Bool) (w : World) (hr0_2 : Kd.C (Kd.int .i64) w A0_2 l0_2.length l0_2) (hc0_2 : l0_2.length ≤ c0_2) (h : impl_hasCell.f a0_0 a0_1 l0_2 a1 a2 = some r) :
    Calls Try.prog 143 #[.agg #[.int .i64 a0_0, .int .i64 a0_1, .slice A0_2 l0_2.length c0_2], .int .i64 a1, .int .i64 a2] w fun e w' => e = .returned (.bool r) ∧ Below w.heap.size w w' := by
  have hu42 := Try.underlying42
  have HR0_2 := Aside0.mk hr0_2
  have HC0_2 := Aside0.mk hc0_2
  clear hr0_2 hc0_2
  have HB := Aside0.mk (Below.refl w.heap.size w)
  have H : ((impl_within.f a1 0 (wrap64 (a0_0 - 1))).bind fun t102 => (if t102 = true then ((impl_within.f a2 0 (wrap64 (a0_1 - 1))).bind fun t103 => (some t103)) else (some false))) = some r := h
  clear h
  replace H := Option.bind_eq_some_iff.mp H
  obtain ⟨t102, A40, H⟩ := H
  replace H : (if t102 = true then ((impl_within.f a2 0 (wrap64 (a0_1 - 1))).bind fun t103 => (some t103)) else (some false)) = some r := H
  have A4 := Aside0.mk A40
  clear A40
  by_cases c5 : t102 = true
  · subst c5
    have H1 : ((impl_within.f a2 0 (wrap64 (a0_1 - 1))).bind fun t103 => (some t103)) = some r := by rw [if_pos rfl] at H; exact H
    clear H
    have H := H1
    clear H1
    replace H := Option.bind_eq_some_iff.mp H
    obtain ⟨t103, A60, H⟩ := H
    replace H : (some t103) = some r := H
    have A6 := Aside0.mk A60
    clear A60
    obtain rfl := Option.some.inj H
    go_enter Try.func143, Try.ntmps143
    go_wp2_with (first | ((with_reducible refine gate_dst (N := 3) rfl ?_); refine box_event ?hg (N := 3) ?hd (cs := #[.int .i64 a0_0, .int .i64 a0_1, .slice A0_2 l0_2.length c0_2]) (t := 42) ?hr ?_; (case hd => rfl); (case hg => rfl); (case hr => first | (go_simp; done) | (go_simp; rfl)); intro gb101 hg w7 hbox hb; have n0_ := Aside0.mk (below_step (by repeat (first | (with_reducible first | exact HB.out | apply below_alloc | apply pw_below_drewN | apply below_drew1) | exact HB.out)) hb); have n1_ := Aside0.mk (hbox); have n2_ := Aside0.mk ((by rw [hg]; exact (below_size (by repeat (first | (with_reducible first | exact HB.out | apply below_alloc | apply pw_below_drewN | apply below_drew1) | exact HB.out))) : w.heap.size ≤ gb101)); have n3_ := Aside0.mk ((by rw [hg]; exact (below_size (by repeat (first | (with_reducible first | exact HB.out | apply below_alloc | apply pw_below_drewN | apply below_drew1) | exact HB.out))) : w.heap.size ≤ gb101)); clear HB; have HB := n0_; have BK101 := n1_; have GW101 := n2_; have GE101 := n3_; clear n0_ n1_ n2_ n3_; clear hb hbox hg; have hcz8_0 : w7.cell? ⟨gb101, 0, none⟩ = some (.int .i64 a0_0) := (blk_cell BK101.out 0).trans rfl; have hcz8_1 : w7.cell? ⟨gb101, 1, none⟩ = some (.int .i64 a0_1) := (blk_cell BK101.out 1).trans rfl; have hcz8_2 : w7.cell? ⟨gb101, 2, none⟩ = some (.slice A0_2 l0_2.length c0_2) := (blk_cell BK101.out 2).trans rfl; have hfz8_0 := blk_frozen BK101.out 0; have hfz8_1 := blk_frozen BK101.out 1; have hfz8_2 := blk_frozen BK101.out 2) | ((with_reducible refine gate_callee (f := 83) rfl ?_); refine goesL_ (some 11) rfl rfl Try.func83 (by kernel_rfl) rfl #[.int .i64 a1, .int .i64 0, .int .i64 (wrap64 (a0_0 - 1))] rfl (by (try simp only [List.map_toArray, List.map_cons, List.map_nil]); first | done | rfl | (simp only [List.length_drop, List.length_take]; rfl)) ?_; (with_reducible refine (impl_within.calls a1 0 (wrap64 (a0_0 - 1)) true _ A4.out).mono ?_); rintro e w' ⟨rfl, ⟨nd, rfl⟩⟩; refine ⟨_, rfl, ?_⟩) | (go_at_call 83; (with_reducible refine (impl_within.calls a2 0 (wrap64 (a0_1 - 1)) t103 _ A6.out).mono ?_); rintro e w' ⟨rfl, ⟨nd, rfl⟩⟩))
    go_ret
    exact ⟨by first | rfl | (simp [errW_none, errW_some] <;> rfl) | (simp [*, errW_none, errW_some] <;> rfl), by repeat (first | (with_reducible first | exact HB.out | apply below_alloc | apply pw_below_drewN | apply below_drew1 | refine below_set ?_ GE101.out) | exact HB.out)⟩
  · replace c5 := Bool.eq_false_iff.mpr c5
    subst c5
    have H1 : (some false) = some r := by rw [if_neg (show ¬ (false = true) by decide)] at H; exact H
    clear H
    have H := H1
    clear H1
    obtain rfl := Option.some.inj H
    go_enter Try.func143, Try.ntmps143
    go_wp2_with (first | ((with_reducible refine gate_dst (N := 3) rfl ?_); refine box_event ?hg (N := 3) ?hd (cs := #[.int .i64 a0_0, .int .i64 a0_1, .slice A0_2 l0_2.length c0_2]) (t := 42) ?hr ?_; (case hd => rfl); (case hg => rfl); (case hr => first | (go_simp; done) | (go_simp; rfl)); intro gb101 hg w9 hbox hb; have n0_ := Aside0.mk (below_step (by repeat (first | (with_reducible first | exact HB.out | apply below_alloc | apply pw_below_drewN | apply below_drew1) | exact HB.out)) hb); have n1_ := Aside0.mk (hbox); have n2_ := Aside0.mk ((by rw [hg]; exact (below_size (by repeat (first | (with_reducible first | exact HB.out | apply below_alloc | apply pw_below_drewN | apply below_drew1) | exact HB.out))) : w.heap.size ≤ gb101)); have n3_ := Aside0.mk ((by rw [hg]; exact (below_size (by repeat (first | (with_reducible first | exact HB.out | apply below_alloc | apply pw_below_drewN | apply below_drew1) | exact HB.out))) : w.heap.size ≤ gb101)); clear HB; have HB := n0_; have BK101 := n1_; have GW101 := n2_; have GE101 := n3_; clear n0_ n1_ n2_ n3_; clear hb hbox hg; have hcz10_0 : w9.cell? ⟨gb101, 0, none⟩ = some (.int .i64 a0_0) := (blk_cell BK101.out 0).trans rfl; have hcz10_1 : w9.cell? ⟨gb101, 1, none⟩ = some (.int .i64 a0_1) := (blk_cell BK101.out 1).trans rfl; have hcz10_2 : w9.cell? ⟨gb101, 2, none⟩ = some (.slice A0_2 l0_2.length c0_2) := (blk_cell BK101.out 2).trans rfl; have hfz10_0 := blk_frozen BK101.out 0; have hfz10_1 := blk_frozen BK101.out 1; have hfz10_2 := blk_frozen BK101.out 2) | ((with_reducible refine gate_callee (f := 83) rfl ?_); refine goesL_ (some 11) rfl rfl Try.func83 (by kernel_rfl) rfl #[.int .i64 a1, .int .i64 0, .int .i64 (wrap64 (a0_0 - 1))] rfl (by (try simp only [List.map_toArray, List.map_cons, List.map_nil]); first | done | rfl | (simp only [List.length_drop, List.length_take]; rfl)) ?_; (with_reducible refine (impl_within.calls a1 0 (wrap64 (a0_0 - 1)) false _ A4.out).mono ?_); rintro e w' ⟨rfl, ⟨nd, rfl⟩⟩; refine ⟨_, rfl, ?_⟩))
    go_ret
    exact ⟨by first | rfl | (simp [errW_none, errW_some] <;> rfl) | (simp [*, errW_none, errW_some] <;> rfl), by repeat (first | (with_reducible first | exact HB.out | apply below_alloc | apply pw_below_drewN | apply below_drew1 | refine below_set ?_ GE101.out) | exact HB.out)⟩

end Go.Proofs.Yteeakkkfefmfmaa.P
-- written by mp.py (this session's), with the print's functions; Lean checks it
namespace Go.Proofs.Yteeakkkfefmfmaa.P
open Go.RowKit Go.Proofs.YteeakkkfefmfmaaW.PrintWords Go.Proofs.YteeakkkfefmfmaaW.PrintLast Go.Proofs.YteeakkkfefmfmaaW.PrintMore
attribute [local go_sem] max2_int min2_int max_two min_two max_three min_three max_four min_four   -- for this text's walks alone
set_option linter.unusedVariables false
set_option linter.unusedSimpArgs false

/-! ### impl_isEnsembleCell: function 82 -/
def impl_isEnsembleCell.f (k : Nat) (l0 : List (S42)) (a1 : Int) (a2 : Int) : Option (Bool) := (impl_IsValidEnsemble.f k l0).bind fun t101 => (if t101 = true then (if 0 < (l0.length : Int) then ((impl_hasCell.f ((rd_T42 l0 0).f0) ((rd_T42 l0 0).f1) ((rd_T42 l0 0).f2) a1 a2).bind fun t103 => (some t103)) else (none)) else (some false))
theorem impl_isEnsembleCell.mono : ∀ a0 a1 a2 k, LeO (impl_isEnsembleCell.f k a0 a1 a2) (impl_isEnsembleCell.f (k + 1) a0 a1 a2) := by
  intro a0 a1 a2 k
  unfold impl_isEnsembleCell.f
  repeat' first
      | (with_reducible exact impl_IsValidEnsemble.mono _ _)
      | (with_reducible exact LeO.refl _)
      | (with_reducible exact LeO.none _)
      | (with_reducible refine LeO.ite ?_ ?_)
      | (with_reducible refine LeO.bind ?_ (fun _ => ?_))
      | exact impl_IsValidEnsemble.mono _ _
      | exact LeO.none _
      | refine LeO.ite ?_ ?_
      | refine LeO.bind ?_ (fun _ => ?_)
set_option maxHeartbeats 8000000 in
set_option maxRecDepth 100000 in
theorem impl_isEnsembleCell.calls (k : Nat) (A0 : Option Addr) (c0 : Nat) (l0 : List (S42)) (a1 : Int) (a2 : Int) (r : Bool) (w : World) (hr0 : Kd.C k42 w A0 l0.length l0) (hc0 : l0.length ≤ c0) (h : impl_isEnsembleCell.f k l0 a1 a2 = some r) :
    Calls Try.prog 82 #[.slice A0 l0.length c0, .int .i64 a1, .int .i64 a2] w fun e w' => e = .returned (.bool r) ∧ Below w.heap.size w w' := by
  have hu42 := Try.underlying42
  have HR0 := Aside0.mk hr0
  have HC0 := Aside0.mk hc0
  clear hr0 hc0
  have HB := Aside0.mk (Below.refl w.heap.size w)
  have H : ((impl_IsValidEnsemble.f k l0).bind fun t101 => (if t101 = true then (if 0 < (l0.length : Int) then ((impl_hasCell.f ((rd_T42 l0 0).f0) ((rd_T42 l0 0).f1) ((rd_T42 l0 0).f2) a1 a2).bind fun t103 => (some t103)) else (none)) else (some false))) = some r := h
  clear h
  replace H := Option.bind_eq_some_iff.mp H
  obtain ⟨t101, A40, H⟩ := H
  replace H : (if t101 = true then (if 0 < (l0.length : Int) then ((impl_hasCell.f ((rd_T42 l0 0).f0) ((rd_T42 l0 0).f1) ((rd_T42 l0 0).f2) a1 a2).bind fun t103 => (some t103)) else (none)) else (some false)) = some r := H
  have A4 := Aside0.mk A40
  clear A40
  by_cases c5 : t101 = true
  · subst c5
    have H1 : (if 0 < (l0.length : Int) then ((impl_hasCell.f ((rd_T42 l0 0).f0) ((rd_T42 l0 0).f1) ((rd_T42 l0 0).f2) a1 a2).bind fun t103 => (some t103)) else (none)) = some r := by rw [if_pos rfl] at H; exact H
    clear H
    have H := H1
    clear H1
    by_cases c6 : 0 < (l0.length : Int)
    · rw [if_pos c6] at H
      have c6b0 : decide (0 < (l0.length : Int)) = true := decide_eq_true c6
      have c6b1 : decide (0 < l0.length) = true := decide_eq_true (by omega)
      clear c6
      replace H := Option.bind_eq_some_iff.mp H
      obtain ⟨t103, A70, H⟩ := H
      replace H : (some t103) = some r := H
      have A7 := Aside0.mk A70
      clear A70
      obtain rfl := Option.some.inj H
      go_enter Try.func82, Try.ntmps82
      go_wp2_with (first | ((with_reducible refine gate_callee (f := 87) rfl ?_); refine goesL_ (some 8) rfl rfl Try.func87 (by kernel_rfl) rfl #[.slice A0 l0.length c0] rfl (by (try simp only [List.map_toArray, List.map_cons, List.map_nil]); first | done | rfl | (simp only [List.length_drop, List.length_take]; rfl)) ?_; (with_reducible refine (impl_IsValidEnsemble.calls k _ _ l0 true _ ?side1 ?side2 A4.out).mono ?_); (case side1 => repeat (first | exact HR0.out | (with_reducible refine Kd.C_alloc ?_ _) | (with_reducible refine Kd.C_drewN ?_ _) | (with_reducible refine Kd.C_drew ?_))); (case side2 => exact HC0.out); rintro e w8 ⟨rfl, hb⟩; refine ⟨_, rfl, ?_⟩; have n0_ := Aside0.mk (below_step (by repeat (first | (with_reducible first | exact HB.out | apply below_alloc | apply pw_below_drewN | apply below_drew1) | exact HB.out)) hb); clear HB; have HB := n0_; clear n0_; (try clear hb); (try clear hb2); (try clear hk); (try clear hi); have p102 : 0 ≤ (0 : Int) := (by omega); have q102 : 0 < (l0.length : Int) := of_decide_eq_true (by first | (with_reducible assumption) | assumption); obtain ⟨ad102, A102_2, c102_2, e102, hx102_0, hx102_1, hx102_2, hl102_2, hi102_2⟩ := at_T42 HR0.out 0 p102 q102; cases e102; have qi102 : (0 < l0.length) = True := eq_true (by omega); (try rw [show ((0 : Int)).toNat = 0 from rfl] at hx102_0); (try rw [show 0 * 3 = 0 from rfl] at hx102_0); (try rw [Addr.add_zero'] at hx102_0); (try rw [show ((0 : Int)).toNat = 0 from rfl] at hx102_1); (try rw [show 0 * 3 = 0 from rfl] at hx102_1); (try rw [Addr.add_zero'] at hx102_1); (try rw [show ((0 : Int)).toNat = 0 from rfl] at hx102_2); (try rw [show 0 * 3 = 0 from rfl] at hx102_2); (try rw [Addr.add_zero'] at hx102_2); replace hx102_0 := (HB.out.cell (World.block_lt_of_cell? w _ hx102_0)).trans hx102_0; replace hx102_1 := (HB.out.cell (World.block_lt_of_cell? w _ hx102_1)).trans hx102_1; replace hx102_2 := (HB.out.cell (World.block_lt_of_cell? w _ hx102_2)).trans hx102_2; have HR102_2 := Aside0.mk hi102_2; have HC102_2 := Aside0.mk hl102_2; clear hi102_2 hl102_2; replace p102 := eq_true p102; replace q102 := eq_true q102) | (go_at_call 143; (with_reducible refine (impl_hasCell.calls ((rd_T42 l0 0).f0) ((rd_T42 l0 0).f1) _ _ ((rd_T42 l0 0).f2) a1 a2 t103 _ ?side1 ?side2 A7.out).mono ?_); (case side1 => repeat (first | exact (Kd.C_below HR102_2.out HB.out) | (with_reducible refine Kd.C_alloc ?_ _) | (with_reducible refine Kd.C_drewN ?_ _) | (with_reducible refine Kd.C_drew ?_))); (case side2 => exact HC102_2.out); rintro e w9 ⟨rfl, hb⟩; have n0_ := Aside0.mk (below_step (by repeat (first | (with_reducible first | exact HB.out | apply below_alloc | apply pw_below_drewN | apply below_drew1) | exact HB.out)) hb); clear HB; have HB := n0_; clear n0_; (try clear hb); (try clear hb2); (try clear hk); (try clear hi)))
      go_ret
      exact ⟨by first | rfl | (simp [errW_none, errW_some] <;> rfl) | (simp [*, errW_none, errW_some] <;> rfl), by repeat (first | (with_reducible first | exact HB.out | apply below_alloc | apply pw_below_drewN | apply below_drew1) | exact HB.out)⟩
    · rw [if_neg c6] at H
      exact absurd H (by simp)
  · replace c5 := Bool.eq_false_iff.mpr c5
    subst c5
    have H1 : (some false) = some r := by rw [if_neg (show ¬ (false = true) by decide)] at H; exact H
    clear H
    have H := H1
    clear H1
    obtain rfl := Option.some.inj H
    go_enter Try.func82, Try.ntmps82
    go_wp2_with (first | ((with_reducible refine gate_callee (f := 87) rfl ?_); refine goesL_ (some 8) rfl rfl Try.func87 (by kernel_rfl) rfl #[.slice A0 l0.length c0] rfl (by (try simp only [List.map_toArray, List.map_cons, List.map_nil]); first | done | rfl | (simp only [List.length_drop, List.length_take]; rfl)) ?_; (with_reducible refine (impl_IsValidEnsemble.calls k _ _ l0 false _ ?side1 ?side2 A4.out).mono ?_); (case side1 => repeat (first | exact HR0.out | (with_reducible refine Kd.C_alloc ?_ _) | (with_reducible refine Kd.C_drewN ?_ _) | (with_reducible refine Kd.C_drew ?_))); (case side2 => exact HC0.out); rintro e w10 ⟨rfl, hb⟩; refine ⟨_, rfl, ?_⟩; have n0_ := Aside0.mk (below_step (by repeat (first | (with_reducible first | exact HB.out | apply below_alloc | apply pw_below_drewN | apply below_drew1) | exact HB.out)) hb); clear HB; have HB := n0_; clear n0_; (try clear hb); (try clear hb2); (try clear hk); (try clear hi)))
    go_ret
    exact ⟨by first | rfl | (simp [errW_none, errW_some] <;> rfl) | (simp [*, errW_none, errW_some] <;> rfl), by repeat (first | (with_reducible first | exact HB.out | apply below_alloc | apply pw_below_drewN | apply below_drew1) | exact HB.out)⟩

end Go.Proofs.Yteeakkkfefmfmaa.P
/- A cell of an ensemble: in the program by its column and row, in the reference by its index. No conditions but that the list is no longer than a machine allows. -/
namespace Go.Proofs.Yteeakkkfefmfmaa.Pure
set_option linter.unusedVariables false
set_option linter.unusedSimpArgs false
open Go.RowKit Go.Proofs.Yteeakkkfefmfmaa.P Go.Proofs.YteeakkkfefmfmaaW.PrintWords Go.Proofs.YteeakkkfefmfmaaW.PrintLast
def wide0 (l : List FF) : Int := (l.getD 0 z42).f0
def high0 (l : List FF) : Int := (l.getD 0 z42).f1
def ensCell (l : List FF) (x y : Int) : Bool := ensOk l && (inb x 0 (wide0 l - 1) && inb y 0 (high0 l - 1))
theorem ensCell_iff {l : List FF} {x y : Int} (h : ensCell l x y = true) : ensOk l = true ∧ (0 ≤ x ∧ x ≤ wide0 l - 1) ∧ 0 ≤ y ∧ y ≤ high0 l - 1 := by
  unfold ensCell at h
  rw [Bool.and_eq_true, Bool.and_eq_true, inb_iff, inb_iff] at h
  exact h
theorem ens_shape {l : List FF} (h : ensOk l = true) : (1 ≤ wide0 l ∧ wide0 l ≤ 8) ∧ (1 ≤ high0 l ∧ high0 l ≤ 8) ∧ ∀ i, i < l.length → ((l.getD i z42).f2.length : Int) = wide0 l * high0 l := by
  obtain ⟨h1, h2⟩ := ens_is h
  have h0 := h2 0 (by omega)
  refine ⟨⟨h0.1.a1, h0.1.a8⟩, ⟨h0.1.b1, h0.1.b8⟩, fun i hi => ?_⟩
  have := (h2 i hi).1.len
  rw [(h2 i hi).2.1, (h2 i hi).2.2] at this
  exact this
/-- The index of a cell, and that every member has it. -/
theorem cell_at {l : List FF} {x y : Int} (h : ensCell l x y = true) : ∃ c : Nat, (c : Int) = y * wide0 l + x ∧ c < 64 ∧ ∀ i, i < l.length → c < (l.getD i z42).f2.length := by
  obtain ⟨ok, ⟨x0, x1⟩, y0, y1⟩ := ensCell_iff h
  obtain ⟨⟨w1, w8⟩, ⟨h1, h8⟩, hl⟩ := ens_shape ok
  have hb := mul_bd w1 w8 h1 h8
  have h0 : 0 ≤ y * wide0 l := Int.mul_nonneg y0 (by omega)
  have hup : y * wide0 l ≤ (high0 l - 1) * wide0 l := Int.mul_le_mul_of_nonneg_right (by omega) (by omega)
  have e : (high0 l - 1) * wide0 l = wide0 l * high0 l - wide0 l := by rw [Int.sub_mul, Int.one_mul, Int.mul_comm]
  obtain ⟨c, hc⟩ := Int.eq_ofNat_of_zero_le (show 0 ≤ y * wide0 l + x by omega)
  refine ⟨c, hc.symm, by omega, fun i hi => ?_⟩
  have := hl i hi
  omega
theorem isEnsembleCell_ev (l : List FF) (x y : Int) (hl : l.length ≤ 9223372036854775806) : Ev (fun k => impl_isEnsembleCell.f k l x y) (ensCell l x y) := by
  unfold impl_isEnsembleCell.f ensCell
  refine ev_bind (isValidEnsemble_ev l hl) ?_
  cases ok : ensOk l with
  | false => exact ev_ifn (by simp) (ev_some _)
  | true =>
    obtain ⟨⟨w1, w8⟩, ⟨h1, h8⟩, _⟩ := ens_shape ok
    obtain ⟨⟨n1, _⟩, _⟩ := ens_is ok
    rw [Bool.true_and]
    refine ev_ifp rfl (ev_ifp (by omega) (ev_bind (ev_const ?_) (ev_some _)))
    unfold impl_hasCell.f
    rw [rdf0]
    show (impl_within.f x 0 (wrap64 (wide0 l - 1))).bind _ = _
    rw [w64 (by omega) (by omega), within_is, Option.bind_some]
    show (if inb x 0 (wide0 l - 1) = true then (impl_within.f y 0 (wrap64 (high0 l - 1))).bind _ else _) = _
    rw [w64 (by omega) (by omega), within_is]
    cases inb x 0 (wide0 l - 1) <;> simp
theorem l9Cell_ev (l : List FF) (x y : Int) (hl : l.length ≤ 9223372036854775806) (hs : ∀ f ∈ l, f.f2.length ≤ 9223372036854775806) : Ev (fun k => spec_l9Cell.f k l x y) (if ensCell l x y = true then y * wide0 l + x else -1) := by
  unfold spec_l9Cell.f
  refine ev_bind (l9Good_ev l hl hs) ?_
  cases ok : ensOk l with
  | false =>
    rw [show ensCell l x y = false by unfold ensCell; rw [ok]; rfl]
    exact ev_ifn (by simp) (ev_some _)
  | true =>
    obtain ⟨⟨w1, w8⟩, ⟨h1, h8⟩, _⟩ := ens_shape ok
    obtain ⟨⟨n1, _⟩, _⟩ := ens_is ok
    refine ev_ifp rfl (ev_ifp (by omega) (ev_const ?_))
    rw [rdf0]
    show (spec_l1In.f x 0 (wrap64 (wide0 l - 1))).bind _ = _
    rw [w64 (by omega) (by omega), l1In_is, Option.bind_some]
    cases ex : inb x 0 (wide0 l - 1) with
    | false => rw [show ensCell l x y = false by unfold ensCell; rw [ok, ex]; rfl]; simp
    | true =>
      rw [if_pos rfl]
      show (spec_l1In.f y 0 (wrap64 (high0 l - 1))).bind _ = _
      rw [w64 (by omega) (by omega), l1In_is, Option.bind_some]
      cases ey : inb y 0 (high0 l - 1) with
      | false => rw [show ensCell l x y = false by unfold ensCell; rw [ok, ex, ey]; rfl]; simp
      | true =>
        have e : ensCell l x y = true := by unfold ensCell; rw [ok, ex, ey]; rfl
        obtain ⟨c, hc, hc64, _⟩ := cell_at e
        rw [if_pos rfl, if_pos e]
        show some (wrap64 (wrap64 (wide0 l * y) + x)) = _
        rw [inb_iff] at ex ey
        have h0 : 0 ≤ y * wide0 l := Int.mul_nonneg ey.1 (by omega)
        rw [Int.mul_comm (wide0 l) y, w64 (x := y * wide0 l) (by omega) (by omega), w64 (by omega) (by omega)]
theorem l13Threshold_is (x : Int) : spec_l13Threshold.f x = some (inb x (-9000) 9000) := by
  unfold spec_l13Threshold.f
  rw [l1In_is]
  rfl
/-- The program's index of the cell. -/
theorem cell_index {l : List FF} {x y : Int} (h : ensCell l x y = true) (c : Nat) (hc : (c : Int) = y * wide0 l + x) (h64 : c < 64) : wrap64 (wrap64 (y * (rd_T42 l 0).f0) + x) = (c : Int) := by
  obtain ⟨ok, ⟨x0, x1⟩, y0, y1⟩ := ensCell_iff h
  obtain ⟨⟨w1, w8⟩, ⟨h1, h8⟩, hl⟩ := ens_shape ok
  rw [rdf0]
  show wrap64 (wrap64 (y * wide0 l) + x) = _
  have h0 : 0 ≤ y * wide0 l := Int.mul_nonneg y0 (by omega)
  rw [w64 (x := y * wide0 l) (by omega) (by omega), w64 (by omega) (by omega), hc]
end Go.Proofs.Yteeakkkfefmfmaa.Pure
/- The cells at which all members agree: one count in the program and in the reference. No conditions but that the list is no longer than a machine allows. -/
namespace Go.Proofs.Yteeakkkfefmfmaa.Pure
set_option linter.unusedVariables false
set_option linter.unusedSimpArgs false
open Go.RowKit Go.Proofs.Yteeakkkfefmfmaa.P Go.Proofs.YteeakkkfefmfmaaW.PrintWords Go.Proofs.YteeakkkfefmfmaaW.PrintLast
def agrees (l : List FF) (t : Int) (c : Nat) : Bool := decide ((vals l c).length = l.length) && (decide ((vals l c).countP (fun y => decide (y ≥ t)) = 0) || decide ((vals l c).countP (fun y => decide (y ≥ t)) = l.length))
def agStep (l : List FF) (t : Int) (i : Nat) (n : Int) : Int := if agrees l t i = true then n + 1 else n
theorem agStep_of (l : List FF) (t : Int) (i : Nat) (n : Int) {ρ : Type} (A : Int → Option ρ) (m p : Int) (hm : m = ((vals l i).countP (fun y => decide (y ≥ t)) : Int)) (hp : p = ((vals l i).length : Int)) :
    (if p = (l.length : Int) then (if m = 0 then A (n + 1) else (if m = (l.length : Int) then A (n + 1) else A n)) else A n) = A (agStep l t i n) := by
  subst hm hp
  unfold agStep agrees
  by_cases h1 : (vals l i).length = l.length
  · rw [if_pos (by omega), decide_eq_true h1, Bool.true_and]
    by_cases h2 : (vals l i).countP (fun y => decide (y ≥ t)) = 0
    · rw [if_pos (by omega), decide_eq_true h2, Bool.true_or, if_pos rfl]
    · rw [if_neg (by omega), decide_eq_false h2, Bool.false_or]
      by_cases h3 : (vals l i).countP (fun y => decide (y ≥ t)) = l.length
      · rw [if_pos (by omega), decide_eq_true h3, if_pos rfl]
      · rw [if_neg (by omega), decide_eq_false h3, if_neg (by simp)]
  · rw [if_neg (by omega), decide_eq_false h1, Bool.false_and, if_neg (by simp)]
theorem agreeing_both (l : List FF) (t : Int) (hl : l.length ≤ 9223372036854775806) (hs : ∀ f ∈ l, f.f2.length ≤ 9223372036854775806) :
    ∃ r, Ev (fun k => spec_AgreeingCells.f k l t) r ∧ Ev (fun k => impl_AgreeingCells.f k l t) r := by
  have g1 := l9Good_ev l hl hs
  have g2 := isValidEnsemble_ev l hl
  unfold spec_AgreeingCells.f impl_AgreeingCells.f
  cases ok : ensOk l with
  | false =>
    rw [ok] at g1 g2
    exact ⟨(0, false), ev_bind g1 (ev_ifn (by simp) (ev_step (fun k => spec_AgreeingCells.j0.eq_2 _ _ _ k) (ev_ifp rfl (ev_some _)))),
      ev_bind g2 (ev_ifn (by simp) (ev_step (fun k => impl_AgreeingCells.j0.eq_2 _ _ _ k) (ev_ifp rfl (ev_some _))))⟩
  | true =>
    rw [ok] at g1 g2
    obtain ⟨⟨n1, n8⟩, hf⟩ := ens_is ok
    obtain ⟨⟨w1, w8⟩, ⟨h1, h8⟩, hlen⟩ := ens_shape ok
    have hb := mul_bd w1 w8 h1 h8
    have h0 := hlen 0 (by omega)
    have hcell : ∀ c, c < (l.getD 0 z42).f2.length → ∀ i, i < l.length → c < (l.getD i z42).f2.length := fun c hc i hi => by
      have := hlen i hi
      omega
    cases ht : inb t (-9000) 9000 with
    | false =>
      exact ⟨(0, false), ev_bind g1 (ev_ifp rfl (ev_bind (ev_const (by rw [l13Threshold_is, ht])) (ev_step (fun k => spec_AgreeingCells.j0.eq_2 _ _ _ k) (ev_ifp rfl (ev_some _))))),
        ev_bind g2 (ev_ifp rfl (ev_bind (ev_const (by rw [within_is, ht])) (ev_step (fun k => impl_AgreeingCells.j0.eq_2 _ _ _ k) (ev_ifp rfl (ev_some _)))))⟩
    | true =>
      refine ⟨(iter (agStep l t) 0 (l.getD 0 z42).f2.length 0, true), ?_, ?_⟩
      · refine ev_bind g1 (ev_ifp rfl (ev_bind (ev_const (by rw [l13Threshold_is, ht])) (ev_step (fun k => spec_AgreeingCells.j0.eq_2 _ _ _ k) (ev_ifn (by simp) ?_))))
        exact loop_ev (fun k n i => spec_AgreeingCells.l0 k l t n (i : Int)) (l.getD 0 z42).f2.length (agStep l t) (fun n => (n, true)) (fun i n => 0 ≤ n ∧ n ≤ i)
          (fun i n r hI hi h => by
            have e1 : wrap64 (n + 1) = n + 1 := w64 (by omega) (by omega)
            have e2 : wrap64 ((i : Int) + 1) = ((i + 1 : Nat) : Int) := by rw [w64 (by omega) (by omega)]; rfl
            have hvl := vals_len l i
            have hsl := svals_len l i
            refine ev_step (fun k => spec_AgreeingCells.l0.eq_2 _ _ _ _ k) (ev_ifp (by omega) (ev_ifp (by rw [rdf0]; omega) ?_))
            refine ev_bind (l9Values_ev l i (by omega) (hcell i hi) (by omega)) (ev_bind (l9Least_ev (svals l i) t (by omega)) ?_)
            rw [e1, e2]
            refine Ev.congr (fun k => agStep_of l t i n (fun m => spec_AgreeingCells.l0 k l t m ((i + 1 : Nat) : Int)) _ _ (by rw [(vals_perm l i).countP_eq]) (by rw [hsl])) h)
          (fun i n hI _ => by unfold agStep; split <;> omega)
          (fun n hI => ev_step (fun k => spec_AgreeingCells.l0.eq_2 _ _ _ _ k) (ev_ifp (by omega) (ev_ifn (by rw [rdf0]; omega) (ev_some _)))) 0 0 (Nat.zero_le _) (by simp)
      · refine ev_bind g2 (ev_ifp rfl (ev_bind (ev_const (by rw [within_is, ht])) (ev_step (fun k => impl_AgreeingCells.j0.eq_2 _ _ _ k) (ev_ifn (by simp) (ev_ifp (by omega) ?_)))))
        rw [rdf0]
        exact loop_ev (fun k n i => impl_AgreeingCells.l0 k l t n ((l.getD 0 z42).f2.length : Int) (i : Int)) (l.getD 0 z42).f2.length (agStep l t) (fun n => (n, true)) (fun i n => 0 ≤ n ∧ n ≤ i)
          (fun i n r hI hi h => by
            have e1 : wrap64 (n + 1) = n + 1 := w64 (by omega) (by omega)
            have e2 : wrap64 ((i : Int) + 1) = ((i + 1 : Nat) : Int) := by rw [w64 (by omega) (by omega)]; rfl
            have hvl := vals_len l i
            refine ev_step (fun k => impl_AgreeingCells.l0.eq_2 _ _ _ _ _ k) (ev_ifp (by omega) ?_)
            refine ev_bind (memberValues_ev l i (by omega) (hcell i hi) (by omega)) (ev_bind (countAtLeast_ev (vals l i) t (by omega)) ?_)
            rw [e1, e2]
            exact Ev.congr (fun k => agStep_of l t i n (fun m => impl_AgreeingCells.l0 k l t m ((l.getD 0 z42).f2.length : Int) ((i + 1 : Nat) : Int)) _ _ rfl rfl) h)
          (fun i n hI _ => by unfold agStep; split <;> omega)
          (fun n hI => ev_step (fun k => impl_AgreeingCells.l0.eq_2 _ _ _ _ _ k) (ev_ifn (by omega) (ev_some _))) 0 0 (Nat.zero_le _) (by simp)
end Go.Proofs.Yteeakkkfefmfmaa.Pure
/- The program's AgreeingCells returns what the reference's AgreeingCells returns, for all arguments; no conditions. -/
namespace Go.Proofs.Yteeakkkfefmfmaa.Pure
set_option linter.unusedVariables false
set_option linter.unusedSimpArgs false
open Go.RowKit Go.Proofs.Yteeakkkfefmfmaa.P Go.Proofs.YteeakkkfefmfmaaW.PrintWords Go.Proofs.YteeakkkfefmfmaaW.PrintLast
theorem FnExactAgreeingCells : laws_FnExactAgreeingCells.Pure := by
  intro l t hl hy ht
  refine Ev.rounds ?_
  unfold laws_FnExactAgreeingCells.f
  rcases szFieldS_go l 1048576 (by first | omega | (dsimp only; omega) | (simp; omega)) (by first | omega | (dsimp only; omega) | (simp; omega)) (⟨hl.1, fun x hx => (hl.2 x hx).2.2.1⟩) with ⟨rz1, ez1, hz1⟩ | ⟨rz1, ez1, hz1, hza1, hzb1, hlz1⟩
  · exact ev_bind ez1 (ev_ifp hz1 (ev_some _))
  refine ev_bind ez1 ?_
  refine ev_ifn hz1 ?_
  have hm := map_short hlz1; obtain ⟨⟨r1, g⟩, hs, hi⟩ := agreeing_both (l.map ofF) t hm.1 hm.2
  refine ev_bind (toFieldS_ev _ ‹_›) ?_
  refine ev_bind hs ?_
  refine ev_bind (toFieldS_ev _ ‹_›) ?_
  refine ev_bind hi ?_
  refine ev_ifp (by first | rfl | (simp; done)) ?_
  refine ev_step (fun k => laws_FnExactAgreeingCells.j0.eq_2 _ _ _ k) ?_
  refine ev_ifn (by simp) ?_
  refine ev_bind (toFieldS_ev _ ‹_›) ?_
  refine ev_bind (eqFieldS_self _ ‹_›) ?_
  refine ev_ifp rfl ?_
  exact ev_some _
end Go.Proofs.Yteeakkkfefmfmaa.Pure
/- The law FnExactAgreeingCells answers true whatever its arguments are; no conditions. (Written by mp.py out of the plain law and the walk.) -/
namespace Go.Proofs.Yteeakkkfefmfmaa.fnExactAgreeingCells
open Go.ChangeShapes Go.WideShapes Go.ChangeAt Go.RowKit Go.Proofs.Yteeakkkfefmfmaa.Open Go.Proofs.Yteeakkkfefmfmaa.P Go.Proofs.YteeakkkfefmfmaaW.PrintWords
open Go.ChangeMaps (open_string shut_string)
set_option linter.unusedVariables false
theorem own : ownKnob Try.prog.godebug = none := by kernel_rfl
theorem laidOut : laidOutB Try.prog = true := by kernel_rfl
set_option maxRecDepth 100000 in
theorem lifted (os : Os) (started : os.Started) (H : Type) (enc : TypeId × Value → H) :
    ReturnsInHanded {} Try.checked os 4 .any (Rows.fnExactAgreeingCellsSpec.pre6 enc Try.prog Try.f4 Rows.fnExactAgreeingCellsRow.domain false) (Rows.fnExactAgreeingCellsSpec.post enc Try.prog Try.f4 false true false false) := by
  refine returnsInHanded_of_change_sized (C := Try.checked) own started (by kernel_rfl) Try.func4
    (ChangeSpec.witness6 (enc := enc) (C := Try.checked) false ⟨#[], #[.slice none 0 0, .int .i64 0], []⟩ 8 (by kernel_rfl) (by kernel_rfl) (by kernel_rfl) (by kernel_rfl)) ?_
  intro W base args ds gs before hval0 hW hcnd hsz0 _
  have hsz : (DataW.weightsEach Try.prog (Try.f4.params.toList ++ Rows.fnExactAgreeingCellsSpec.plain.varTypes Try.prog) (ds ++ gs)).all (· ≤ reachBytes) = true := hsz0
  have hval : ∀ (j : Nat) t v, Try.f4.params[j]? = some t → args[j]? = some v → Value.okWide Try.prog W .any base t v := hval0
  have hW' := hW
  obtain ⟨p, q, hA0, hV, rfl, hfz, hnd⟩ := hW
  have hA : DataW.TrodAll enc Try.prog W 0 (fun _ => true) true Try.f4.params.toList args.toList ds p := hA0
  rw [Try.params4] at hA hval hsz
  obtain ⟨v0, vs0, d0, ds0, p0, q0, hargs, rfl, rfl, h0, r0⟩ := trodAll_cons hA
  obtain ⟨v1, vs1, d1, ds1, p1, q1, rfl, rfl, rfl, h1, r1⟩ := trodAll_cons r0
  obtain ⟨rfl, rfl, rfl⟩ := trodAll_nil r1
  obtain rfl : args = #[v0, v1] := by cases args; simp_all
  obtain ⟨rfl, rfl⟩ := trodVars_none hV
  obtain ⟨A0, len0, c0, rfl⟩ := okWide_slice Try.underlying22 (hval 0 22 v0 rfl rfl)
  have k0 := h0
  have lt0 : ∀ x ∈ p0, x.block < W.heap.size := by obtain ⟨m, hm⟩ := k0; exact DataW.trod_lt m _ _ _ hm
  have y0 : len0 * 40 ≤ 140737488351232 := sized_any hsz (j := 0) (t := 22) rfl rfl Try.underlying22 (by kernel_rfl) h0
  obtain ⟨l0, rfl, hc0, hr0, w0⟩ := slice_at (opens_slice Try.underlying22 (by kernel_rfl) opens38) h0
  obtain ⟨a1, rfl, rfl, rfl, w1⟩ := open_int Try.underlying3 (hval 1 3 v1 rfl rfl) h1
  clear hA0 hval0 hsz0 hsz
  obtain ⟨k, hp⟩ := Pure.FnExactAgreeingCells l0 a1 w0 y0 w1
  refine (laws_FnExactAgreeingCells.calls k A0 c0 l0 a1 true W hr0 hc0 hp).mono fun e W' ⟨he, bel0⟩ => ?_
  have bel : Below W.heap.size W W' := bel0
  subst he
  exact ⟨_, rfl, _, _, _, [], _, [], hW', trodAll_mk1 (shut_bool Try.underlying4 _), (trodAll_cons_mk (Below.trod laidOut (by kernel_rfl) (of_decide_eq_true (by kernel_rfl)) k0 bel lt0) (trodAll_cons_mk (shut_int Try.underlying3 w1) trodAll_mk0)), rfl, bel.frame _, fun h => by cases h⟩
theorem over : Rows.fnExactAgreeingCellsRow.holds Try.pinned (OpenSpec.ofChange Rows.fnExactAgreeingCellsSpec) :=
  OpenClaim.holds_of_wide 4 Try.f4 rfl rfl rfl rfl rfl rfl rfl ⟨rfl, rfl, rfl, rfl, rfl⟩ rfl rfl rfl rfl rfl (by kernel_rfl) Try.func4 (by kernel_rfl)
    (of_decide_eq_true (by kernel_rfl)) (by unfold Func.isWrapper; first | (rw [if_pos (by decide +kernel)]; kernel_rfl) | (rw [if_neg (by decide +kernel)]; exact ⟨rfl, rfl⟩))
    (fun os started H enc _ => lifted os started H enc)
theorem proved : Rows.FnExactAgreeingCellsSaid := over
#print axioms proved
end Go.Proofs.Yteeakkkfefmfmaa.fnExactAgreeingCells
namespace Go.Proofs.Yteeakkkfefmfmaa
/-- The row, under a short name, for the claim. -/
theorem fnExactAgreeingCells_holds : Rows.FnExactAgreeingCellsSaid := fnExactAgreeingCells.proved
end Go.Proofs.Yteeakkkfefmfmaa
