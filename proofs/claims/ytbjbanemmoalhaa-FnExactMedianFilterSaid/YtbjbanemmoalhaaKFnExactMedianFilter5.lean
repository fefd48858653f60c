/- Texts of the claim FnExactMedianFilter, merged: part 5 of 5: the program's and the reference's functions as Lean functions, the walks that show it, and plain lemmas; no conditions. -/
import Derived.Test.YtbjbanemmoalhaaWMore
import Derived.Test.YtbjbanemmoalhaaWSized
import Derived.ProofKit
import Derived.OpenShut
import Derived.Deep.Slices
import Derived.Deep.Strs
import Derived.Deep.Fields
import Derived.Lib.SmallJoins
import Derived.Test.YtbjbanemmoalhaaKFnExactMedianFilter1
import Derived.Test.YtbjbanemmoalhaaKFnExactMedianFilter2
import Derived.Test.YtbjbanemmoalhaaKFnExactMedianFilter3
import Derived.Test.YtbjbanemmoalhaaKFnExactMedianFilter4
import Derived.Test.YtbjbanemmoalhaaRows
import Derived.WalkKit
import Derived.ShutString
import Derived.ChangeOld
import Derived.Below
import Derived.SizedLaws
/- What a Go argument reads as, opened into a Lean value of the print's kinds: whole numbers, slices, structs of two, three and four one-cell fields. No conditions. -/
namespace Go.Proofs.Ytbjbanemmoalhaa.Open
open Go.ChangeShapes Go.WideShapes Go.RowKit Go.Deep Go.Joins Go.Proofs.YtbjbanemmoalhaaW.PrintWords

/-- Whatever is read as a datum of type t holds a value of kind d that meets wf. -/
def Opens {α : Type} (P : Program) (t : TypeId) (d : Kd α) (wf : α → Prop) : Prop :=
  ∀ {H : Type} {enc : TypeId × Value → H} {W : World} {fuel : Nat} {cs : List Value} {x : DataW H × List MemPlace},
    DataW.trod enc P W 0 (fun _ => true) true fuel t cs = some x → ∃ y, d.K W y cs ∧ wf y

theorem opens_int {P : Program} {t : TypeId} {k : IntKind} (h : P.underlying t = some (.int k)) : Opens P t (Kd.int k) (fun n => (Lit.int k n).wf = true) := by
  intro H enc W fuel cs x hx
  obtain ⟨n, rfl, _, hw⟩ := DataW.trod_int h hx
  exact ⟨n, rfl, hw⟩

theorem list_of {α : Type} {p : Nat → α → Prop} : ∀ (n : Nat), (∀ i, i < n → ∃ y, p i y) → ∃ ys : List α, ys.length = n ∧ ∀ (i : Nat) (y : α), ys[i]? = some y → p i y
  | 0, _ => ⟨[], rfl, fun i y h => by simp at h⟩
  | n + 1, h => by
    obtain ⟨ys, hl, hy⟩ := list_of n (fun i hi => h i (by omega))
    obtain ⟨y, hp⟩ := h n (by omega)
    refine ⟨ys ++ [y], by simp [hl], fun i z hz => ?_⟩
    by_cases hi : i < n
    · rw [List.getElem?_append_left (by omega)] at hz
      exact hy i z hz
    · have hi2 : i = n := by
        have := (List.getElem?_eq_some_iff.1 hz).1
        simp [hl] at this
        omega
      subst hi2
      rw [List.getElem?_append_right (by omega), hl] at hz
      simp at hz
      subst hz
      exact hp

theorem opens_slice {α : Type} {P : Program} {t e : TypeId} {d : Kd α} {wf : α → Prop} (h : P.underlying t = some (.slice e)) (hc : P.cellsOf e = d.sz) (he : Opens P e d wf) :
    Opens P t (Kd.slice e d) (fun l => l.length ≤ 9223372036854775807 ∧ ∀ x ∈ l, wf x) := by
  intro H enc W fuel cs x hx
  rcases open_slice h hx with ⟨rfl, _⟩ | ⟨a, len, cap, m, n, D, Pl, rfl, _, hl, hm, hmm, _, hx⟩
  · exact ⟨[], ⟨none, 0, rfl, by simp, Kd.C_nil d W⟩, by simp, by simp⟩
  · obtain ⟨ys, hlen, hy⟩ := list_of (p := fun i y => ∃ cs', W.cells? 0 (a.add (i * P.cellsOf e)) (P.cellsOf e) = some cs' ∧ d.K W y cs' ∧ wf y) len (fun i hi => by
      obtain ⟨cs', h1, h2⟩ := hx i (by rw [hmm]; split <;> omega)
      obtain ⟨y, hK, hw⟩ := he h2
      exact ⟨y, cs', h1, hK, hw⟩)
    have hm' : cap ≤ 9223372036854775807 := by simpa [maxLen] using hm
    refine ⟨ys, ⟨some a, cap, by rw [hlen], by omega, ⟨rfl, by omega, fun _ => ⟨a, rfl, fun j y hj => ?_⟩⟩⟩, by omega, fun y hmem => ?_⟩
    · obtain ⟨cs', h1, hK, _⟩ := hy j y hj
      obtain ⟨_, hl2, hcell⟩ := World.cells?_some h1
      refine ⟨cs', d.K_len hK, hK, fun i u hu => ?_⟩
      have hi : i < P.cellsOf e := by
        have := (List.getElem?_eq_some_iff.1 hu).1
        omega
      rw [← hc, ← Go.Deep.add_add, hcell i hi]
      exact hu
    · obtain ⟨j, hj⟩ := List.getElem?_of_mem hmem
      obtain ⟨_, _, _, hw⟩ := hy j y hj
      exact hw

theorem int_cell {k : IntKind} {W : World} {y : Int} {v : Value} (h : (Kd.int k).K W y [v]) : v = .int k y := by
  have h' : [v] = [Value.int k y] := h
  simpa using h'
theorem slice_cell {α : Type} {d : Kd α} {e : Nat} {W : World} {l : List α} {v : Value} (h : (Kd.slice e d).K W l [v]) : ∃ A c, v = .slice A l.length c ∧ l.length ≤ c ∧ d.C W A l.length l := by
  obtain ⟨A, c, hc, hl, hC⟩ := h
  exact ⟨A, c, by simpa using hc, hl, hC⟩

section
variable {P : Program} {t : TypeId} {W : World} {H : Type} {enc : TypeId × Value → H} {r : Reach} {b0 : Nat} {v : Value} {d : DataW H} {p : List MemPlace}
theorem agg3_at {α0 α1 α2 : Type} {f0 f1 f2 : Field} {d0 : Kd α0} {d1 : Kd α1} {d2 : Kd α2} {w0 : α0 → Prop} {w1 : α1 → Prop} {w2 : α2 → Prop} (hs : P.underlying t = some (.struct #[f0, f1, f2])) (hone : oneCellFields P #[f0, f1, f2] = true)
    (hC : P.cellsOf t = 3) (h0 : Opens P f0.type d0 w0) (h1 : Opens P f1.type d1 w1) (h2 : Opens P f2.type d2 w2) (hv : Value.okWide P W r b0 t v) (h : DataW.Trod enc P W 0 (fun _ => true) true t v d p) :
    ∃ (v0 v1 v2 : Value) (y0 : α0) (y1 : α1) (y2 : α2), v = .agg #[v0, v1, v2] ∧ d0.K W y0 [v0] ∧ w0 y0 ∧ d1.K W y1 [v1] ∧ w1 y1 ∧ d2.K W y2 [v2] ∧ w2 y2 := by
  obtain ⟨v0, v1, v2, _, _, _, _, rfl, _, _, e0, e1, e2⟩ := open_agg3 hs hone hC hv h
  obtain ⟨y0, K0, W0⟩ := h0 e0
  obtain ⟨y1, K1, W1⟩ := h1 e1
  obtain ⟨y2, K2, W2⟩ := h2 e2
  exact ⟨v0, v1, v2, y0, y1, y2, rfl, K0, W0, K1, W1, K2, W2⟩
end

end Go.Proofs.Ytbjbanemmoalhaa.Open
namespace Go.Proofs.Ytbjbanemmoalhaa.P
open Go.RowKit Go.Proofs.YtbjbanemmoalhaaW.PrintWords Go.Proofs.YtbjbanemmoalhaaW.PrintLast Go.Proofs.YtbjbanemmoalhaaW.PrintMore
attribute [local go_sem] max2_int min2_int max_two min_two max_three min_three max_four min_four   -- for this text's walks alone
set_option linter.unusedVariables false
set_option linter.unusedSimpArgs false

open Go.Proofs.Ytbjbanemmoalhaa.Open
end Go.Proofs.Ytbjbanemmoalhaa.P
/- Plain words for the laws' plain proofs: rounds that end, loops over an index, lists read at an index. No conditions. -/
namespace Go.Proofs.Ytbjbanemmoalhaa.Pure
set_option linter.unusedVariables false
set_option linter.unusedSimpArgs false
open Go.RowKit Go.Proofs.YtbjbanemmoalhaaW.PrintWords Go.Proofs.YtbjbanemmoalhaaW.PrintLast Go.Proofs.YtbjbanemmoalhaaW.PrintMore

theorem w64 {x : Int} (h0 : -9223372036854775808 ≤ x) (h1 : x ≤ 9223372036854775807) : wrap64 x = x := by
  unfold wrap64
  omega
theorem w64n {n : Nat} (h : n ≤ 9223372036854775807) : wrap64 (n : Int) = (n : Int) := w64 (by omega) (by omega)
theorem rd_nat (xs : List Int) (i : Nat) : rd xs (i : Int) = xs.getD i 0 := by simp [rd]
section
variable {α β : Type} {f g : Nat → Option α} {r : α}
theorem ev_some (r : α) : Ev (fun _ => some r) r := ⟨0, fun _ _ => rfl⟩
theorem ev_ifp {c : Prop} [Decidable c] (h : c) (k : Ev f r) : Ev (fun n => if c then f n else g n) r := Ev.congr (fun _ => if_pos h) k
theorem ev_ifn {c : Prop} [Decidable c] (h : ¬ c) (k : Ev g r) : Ev (fun n => if c then f n else g n) r := Ev.congr (fun _ => if_neg h) k
theorem ev_bind {F : Nat → α → Option β} {q : β} (h : Ev g r) (k : Ev (fun n => F n r) q) : Ev (fun n => (g n).bind (fun x => F n x)) q := by
  obtain ⟨K1, h1⟩ := h
  obtain ⟨K2, h2⟩ := k
  exact ⟨K1 + K2, fun n hn => by show (g n).bind (fun x => F n x) = some q; rw [h1 n (by omega)]; exact h2 n (by omega)⟩
theorem ev_const {a : Option α} (h : a = some r) : Ev (fun _ => a) r := ⟨0, fun _ _ => h⟩
theorem ev_step (h : ∀ k, g (k + 1) = f k) (k : Ev f r) : Ev g r := by
  obtain ⟨K, h1⟩ := k
  refine ⟨K + 1, fun n hn => ?_⟩
  obtain ⟨m, rfl⟩ : ∃ m, n = m + 1 := ⟨n - 1, by omega⟩
  rw [h m]
  exact h1 m (by omega)
end

/-- A state that d rounds turn, from round i on. -/
def iter {σ : Type} (g : Nat → σ → σ) : Nat → Nat → σ → σ
  | _, 0, s => s
  | i, d + 1, s => iter g (i + 1) d (g i s)

theorem loop_ev {σ ρ : Type} (F : Nat → σ → Nat → Option ρ) (n : Nat) (g : Nat → σ → σ) (fin : σ → ρ) (I : Nat → σ → Prop)
    (hs : ∀ i s r, I i s → i < n → Ev (fun k => F k (g i s) (i + 1)) r → Ev (fun k => F k s i) r) (hI : ∀ i s, I i s → i < n → I (i + 1) (g i s))
    (he : ∀ s, I n s → Ev (fun k => F k s n) (fin s)) : ∀ i s, i ≤ n → I i s → Ev (fun k => F k s i) (fin (iter g i (n - i) s)) := by
  have key : ∀ d i s, n - i = d → i ≤ n → I i s → Ev (fun k => F k s i) (fin (iter g i d s)) := by
    intro d
    induction d with
    | zero =>
      intro i s h0 h1 h2
      obtain rfl : i = n := by omega
      exact he s h2
    | succ d ih =>
      intro i s h0 h1 h2
      exact hs i s _ h2 (by omega) (ih (i + 1) (g i s) (by omega) (by omega) (hI i s h2 (by omega)))
  exact fun i s h1 h2 => key (n - i) i s rfl h1 h2

theorem iter_inv {σ : Type} (g : Nat → σ → σ) (I : Nat → σ → Prop) (n : Nat) (hI : ∀ i s, I i s → i < n → I (i + 1) (g i s)) : ∀ d i s, i + d = n → I i s → I n (iter g i d s) := by
  intro d
  induction d with
  | zero => intro i s h0 h1; obtain rfl : i = n := by omega
            exact h1
  | succ d ih => intro i s h0 h1; exact ih (i + 1) _ (by omega) (hI i s h1 (by omega))

/-- Do all of d indices from i on say yes? -/
def rall (p : Nat → Bool) : Nat → Nat → Bool
  | _, 0 => true
  | i, d + 1 => p i && rall p (i + 1) d
theorem rall_iff (p : Nat → Bool) : ∀ d i, rall p i d = true ↔ ∀ j, i ≤ j → j < i + d → p j = true
  | 0, i => ⟨fun _ j h1 h2 => by omega, fun _ => rfl⟩
  | d + 1, i => by
    show (p i && rall p (i + 1) d) = true ↔ _
    rw [Bool.and_eq_true, rall_iff p d (i + 1)]
    constructor
    · rintro ⟨h0, h1⟩ j h2 h3
      by_cases e : j = i
      · rw [e]; exact h0
      · exact h1 j (by omega) (by omega)
    · intro h
      exact ⟨h i (Nat.le_refl _) (by omega), fun j h2 h3 => h j (by omega) (by omega)⟩
/-- A loop that ends with 'no' at the first index that fails, and with 'yes' (or what follows) behind all. -/
theorem all_ev {ρ : Type} (F : Nat → Nat → Option ρ) (n : Nat) (p : Nat → Bool) (no yes : ρ) (hs : ∀ i r, i < n → p i = true → Ev (fun k => F k (i + 1)) r → Ev (fun k => F k i) r)
    (hn : ∀ i, i < n → p i = false → Ev (fun k => F k i) no) (he : Ev (fun k => F k n) yes) :
    ∀ i, i ≤ n → Ev (fun k => F k i) (if rall p i (n - i) = true then yes else no) := by
  have key : ∀ d i, n - i = d → i ≤ n → Ev (fun k => F k i) (if rall p i d = true then yes else no) := by
    intro d
    induction d with
    | zero =>
      intro i h0 h1
      obtain rfl : i = n := by omega
      rw [show rall p i 0 = true from rfl, if_pos rfl]
      exact he
    | succ d ih =>
      intro i h0 h1
      have h := ih (i + 1) (by omega) (by omega)
      have e : rall p i (d + 1) = (p i && rall p (i + 1) d) := rfl
      cases hp : p i with
      | true =>
        rw [e, hp, Bool.true_and]
        exact hs i _ (by omega) hp h
      | false =>
        rw [e, hp, Bool.false_and, if_neg (by simp)]
        exact hn i (by omega) hp
  exact fun i h1 => key (n - i) i rfl h1
/-- The same, where the answer is a bool. -/
theorem allb_ev (F : Nat → Nat → Option Bool) (n : Nat) (p : Nat → Bool) (hs : ∀ i r, i < n → p i = true → Ev (fun k => F k (i + 1)) r → Ev (fun k => F k i) r)
    (hn : ∀ i, i < n → p i = false → Ev (fun k => F k i) false) (he : Ev (fun k => F k n) true) : Ev (fun k => F k 0) (rall p 0 n) := by
  have h := all_ev F n p false true hs hn he 0 (Nat.zero_le _)
  rw [Nat.sub_zero] at h
  cases e : rall p 0 n <;> simpa [e] using h

theorem getD_eq_get {α : Type} {xs : List α} {i : Nat} (z : α) (h : i < xs.length) : xs.getD i z = xs[i] := by simp [List.getD, List.getElem?_eq_getElem h]
theorem rall_list {α : Type} (xs : List α) (z : α) (p : α → Bool) : rall (fun j => p (xs.getD j z)) 0 xs.length = xs.all p := by
  rw [Bool.eq_iff_iff, rall_iff, List.all_eq_true]
  constructor
  · intro h x hx
    obtain ⟨i, hi, rfl⟩ := List.getElem_of_mem hx
    rw [← getD_eq_get z hi]
    exact h i (Nat.zero_le _) (by omega)
  · intro h j _ hj
    rw [getD_eq_get z (by omega)]
    exact h _ (List.getElem_mem (by omega))
theorem eq_index {α : Type} {xs ys : List α} (z : α) (h : xs.length = ys.length) (hh : ∀ j, j < xs.length → xs.getD j z = ys.getD j z) : xs = ys := by
  refine List.ext_getElem h (fun i h1 h2 => ?_)
  rw [← getD_eq_get z h1, ← getD_eq_get z h2]
  exact hh i h1
theorem rall_eq {α : Type} [DecidableEq α] {xs ys : List α} (z : α) (h : xs.length = ys.length) : rall (fun j => decide (xs.getD j z = ys.getD j z)) 0 xs.length = decide (xs = ys) := by
  rw [Bool.eq_iff_iff, rall_iff, decide_eq_true_eq]
  constructor
  · exact fun hh => eq_index z h (fun j hj => by simpa using hh j (Nat.zero_le _) (by omega))
  · rintro rfl j _ _
    simp

theorem iter_add {σ : Type} (g : Nat → σ → σ) : ∀ a i b s, iter g i (a + b) s = iter g (i + a) b (iter g i a s) := by
  intro a
  induction a with
  | zero => intro i b s; rw [Nat.zero_add]; rfl
  | succ a ih =>
    intro i b s
    rw [show a + 1 + b = (a + b) + 1 by omega]
    show iter g (i + 1) (a + b) (g i s) = _
    rw [ih (i + 1) b (g i s)]
    show _ = iter g (i + (a + 1)) b (iter g (i + 1) a (g i s))
    rw [show i + 1 + a = i + (a + 1) by omega]
/-- Rows of w cells, one behind the other: the rounds of two loops are the rounds of one. -/
theorem grid_ev {σ ρ : Type} (F0 : Nat → σ → Nat → Option ρ) (F1 : Nat → σ → Nat → Nat → Option ρ) (w h : Nat) (g : Nat → σ → σ) (fin : σ → ρ) (I : Nat → σ → Prop)
    (hout : ∀ y s r, I (y * w) s → y < h → Ev (fun k => F1 k s y 0) r → Ev (fun k => F0 k s y) r)
    (hin : ∀ y x s r, I (y * w + x) s → y < h → x < w → Ev (fun k => F1 k (g (y * w + x) s) y (x + 1)) r → Ev (fun k => F1 k s y x) r)
    (hI : ∀ y x s, I (y * w + x) s → y < h → x < w → I (y * w + (x + 1)) (g (y * w + x) s))
    (hrow : ∀ y s r, I (y * w + w) s → y < h → Ev (fun k => F0 k s (y + 1)) r → Ev (fun k => F1 k s y w) r)
    (hend : ∀ s, I (h * w) s → Ev (fun k => F0 k s h) (fin s)) : ∀ s, I 0 s → Ev (fun k => F0 k s 0) (fin (iter g 0 (h * w) s)) := by
  have row : ∀ d y x s r, w - x = d → x ≤ w → y < h → I (y * w + x) s → Ev (fun k => F0 k (iter g (y * w + x) d s) (y + 1)) r → Ev (fun k => F1 k s y x) r := by
    intro d
    induction d with
    | zero =>
      intro y x s r h0 h1 h2 h3 h4
      obtain rfl : x = w := by omega
      exact hrow y s r h3 h2 h4
    | succ d ih =>
      intro y x s r h0 h1 h2 h3 h4
      exact hin y x s r h3 h2 (by omega) (ih y (x + 1) _ r (by omega) (by omega) h2 (hI y x s h3 h2 (by omega)) h4)
  have rowI : ∀ d y x s, w - x = d → x ≤ w → y < h → I (y * w + x) s → I (y * w + w) (iter g (y * w + x) d s) := by
    intro d
    induction d with
    | zero =>
      intro y x s h0 h1 h2 h3
      obtain rfl : x = w := by omega
      exact h3
    | succ d ih =>
      intro y x s h0 h1 h2 h3
      exact ih y (x + 1) _ (by omega) (by omega) h2 (hI y x s h3 h2 (by omega))
  have key : ∀ d y s, h - y = d → y ≤ h → I (y * w) s → Ev (fun k => F0 k s y) (fin (iter g (y * w) (d * w) s)) := by
    intro d
    induction d with
    | zero =>
      intro y s h0 h1 h2
      obtain rfl : y = h := by omega
      rw [Nat.zero_mul]
      exact hend s h2
    | succ d ih =>
      intro y s h0 h1 h2
      have hb := rowI w y 0 s (by omega) (Nat.zero_le _) (by omega) h2
      have e1 : y * w + w = (y + 1) * w := by rw [Nat.add_mul, Nat.one_mul]
      rw [Nat.add_zero] at hb
      rw [e1] at hb
      have hk := ih (y + 1) _ (by omega) (by omega) hb
      rw [show (d + 1) * w = w + d * w by rw [Nat.add_mul, Nat.one_mul]; omega, iter_add, e1]
      exact hout y s _ h2 (by omega) (row w y 0 s _ (by omega) (Nat.zero_le _) (by omega) h2 hk)
  intro s h0
  have hk := key h 0 s (by omega) (Nat.zero_le _) (by rw [Nat.zero_mul]; exact h0)
  rw [Nat.zero_mul] at hk
  exact hk

end Go.Proofs.Ytbjbanemmoalhaa.Pure
/- Lists told index by index, and loops with a number of rounds that is told. No conditions. -/
namespace Go.Proofs.Ytbjbanemmoalhaa.Pure
set_option linter.unusedVariables false
set_option linter.unusedSimpArgs false
open Go.RowKit Go.Proofs.YtbjbanemmoalhaaW.PrintWords Go.Proofs.YtbjbanemmoalhaaW.PrintLast Go.Proofs.YtbjbanemmoalhaaW.PrintMore
/-- The list of q 0, q 1, .., q (n - 1). -/
def tab {α : Type} (n : Nat) (q : Nat → α) : List α := (List.range n).map q
theorem tab_length {α : Type} (n : Nat) (q : Nat → α) : (tab n q).length = n := by simp [tab]
theorem tab_getD {α : Type} (n : Nat) (q : Nat → α) (z : α) {i : Nat} (h : i < n) : (tab n q).getD i z = q i := by simp [tab, List.getD, h]
/-- Cells that are set one behind the other. -/
theorem iter_set_tab {α : Type} (z : α) (q : Nat → α) (n : Nat) (s : List α) (hs : s.length = n) : iter (fun i (s : List α) => s.set i (q i)) 0 n s = tab n q := by
  have hi := iter_inv (fun i (s : List α) => s.set i (q i)) (fun i s => s.length = n ∧ ∀ j, j < i → s.getD j z = q j) n
    (fun i s hI hi => ⟨by simp [hI.1], fun j hj => by
      by_cases e : j = i
      · subst e
        have := hI.1
        simp [List.getD, List.getElem?_set_self (show j < s.length by omega)]
      · rw [← hI.2 j (by omega)]
        simp [List.getD, List.getElem?_set_ne (Ne.symm e)]⟩) n 0 s (by omega) ⟨hs, fun j hj => by omega⟩
  exact eq_index z (by rw [hi.1, tab_length]) (fun j hj => by rw [hi.2 j (by have := hi.1; omega), tab_getD _ _ z (by have := hi.1; omega)])
/-- Cells that are appended one behind the other. -/
theorem iter_app_tab {α : Type} (q : Nat → α) : ∀ d i (s : List α), iter (fun i (s : List α) => s ++ [q i]) i d s = s ++ (List.range d).map (fun j => q (i + j)) := by
  intro d
  induction d with
  | zero => intro i s; simp [iter]
  | succ d ih =>
    intro i s
    show iter _ (i + 1) d (s ++ [q i]) = _
    rw [ih (i + 1) (s ++ [q i]), List.append_assoc, List.range_succ_eq_map, List.map_cons, List.map_map]
    congr 1
    show [q i] ++ _ = q (i + 0) :: _
    rw [List.singleton_append, Nat.add_zero]
    congr 1
    refine List.map_congr_left (fun j _ => ?_)
    show q (i + 1 + j) = q (i + (j + 1))
    congr 1
    omega
theorem iter_app0 {α : Type} (q : Nat → α) (n : Nat) : iter (fun i (s : List α) => s ++ [q i]) 0 n [] = tab n q := by
  rw [iter_app_tab, List.nil_append]
  unfold tab
  exact List.map_congr_left (fun j _ => by rw [Nat.zero_add])
/-- A loop, with more rounds than it takes. -/
theorem loop_at {σ ρ : Type} (F : Nat → σ → Nat → Option ρ) (n : Nat) (g : Nat → σ → σ) (fin : σ → ρ) (I : Nat → σ → Prop)
    (hs : ∀ k i s, I i s → i < n → F (k + 1) s i = F k (g i s) (i + 1)) (hI : ∀ i s, I i s → i < n → I (i + 1) (g i s))
    (he : ∀ k s, I n s → F (k + 1) s n = some (fin s)) : ∀ d k i s, n - i = d → i ≤ n → I i s → d < k → F k s i = some (fin (iter g i d s)) := by
  intro d
  induction d with
  | zero =>
    intro k i s h0 h1 h2 hk
    obtain ⟨k, rfl⟩ : ∃ m, k = m + 1 := ⟨k - 1, by omega⟩
    obtain rfl : i = n := by omega
    exact he k s h2
  | succ d ih =>
    intro k i s h0 h1 h2 hk
    obtain ⟨k, rfl⟩ : ∃ m, k = m + 1 := ⟨k - 1, by omega⟩
    rw [hs k i s h2 (by omega)]
    exact ih k (i + 1) (g i s) (by omega) (by omega) (hI i s h2 (by omega)) (by omega)
/-- Finitely many answers, with one number of rounds. -/
theorem ev_all {β : Type} (f : Nat → Nat → Option β) (q : Nat → β) (n : Nat) (h : ∀ i, i < n → Ev (fun k => f k i) (q i)) : ∃ K, ∀ k, K ≤ k → ∀ i, i < n → f k i = some (q i) := by
  induction n with
  | zero => exact ⟨0, fun k _ i hi => by omega⟩
  | succ n ih =>
    obtain ⟨K1, h1⟩ := ih (fun i hi => h i (by omega))
    obtain ⟨K2, h2⟩ := h n (by omega)
    refine ⟨K1 + K2, fun k hk i hi => ?_⟩
    by_cases e : i = n
    · rw [e]; exact h2 k (by omega)
    · exact h1 k (by omega) i (by omega)
end Go.Proofs.Ytbjbanemmoalhaa.Pure
/- A value put into its place in a row: the same values, in ascending order. No conditions. -/
namespace Go.Proofs.Ytbjbanemmoalhaa.Pure
set_option linter.unusedVariables false
set_option linter.unusedSimpArgs false
open Go.RowKit Go.Proofs.YtbjbanemmoalhaaW.PrintWords Go.Proofs.YtbjbanemmoalhaaW.PrintLast
/-- From place j on down: behind the last value that is not above x. -/
def pos (s : List Int) (x : Int) : Nat → Nat
  | 0 => 0
  | j + 1 => if s.getD j 0 > x then pos s x j else j + 1
theorem pos_le (s : List Int) (x : Int) : ∀ j, pos s x j ≤ j
  | 0 => Nat.le_refl _
  | j + 1 => by
    unfold pos
    split
    · have := pos_le s x j; omega
    · exact Nat.le_refl _
theorem pos_above (s : List Int) (x : Int) : ∀ j i, pos s x j ≤ i → i < j → s.getD i 0 > x
  | 0, i, _, h => by omega
  | j + 1, i, h1, h2 => by
    unfold pos at h1
    split at h1
    · rename_i hj
      by_cases e : i = j
      · rw [e]; exact hj
      · exact pos_above s x j i h1 (by omega)
    · omega
theorem pos_below (s : List Int) (x : Int) : ∀ j, 0 < pos s x j → s.getD (pos s x j - 1) 0 ≤ x
  | 0, h => by simp [pos] at h
  | j + 1, h => by
    unfold pos at h ⊢
    split
    · rename_i hj
      rw [if_pos hj] at h
      exact pos_below s x j h
    · rename_i hj
      rw [show j + 1 - 1 = j by omega]
      omega
def ins (s : List Int) (x : Int) : List Int := s.take (pos s x s.length) ++ (x :: s.drop (pos s x s.length))
theorem ins_perm (s : List Int) (x : Int) : (ins s x).Perm (x :: s) := by
  unfold ins
  have h : (s.take (pos s x s.length) ++ x :: s.drop (pos s x s.length)).Perm (x :: (s.take (pos s x s.length) ++ s.drop (pos s x s.length))) := List.perm_middle
  rw [List.take_append_drop] at h
  exact h
theorem ins_sorted (s : List Int) (x : Int) (h : s.Pairwise (· ≤ ·)) : (ins s x).Pairwise (· ≤ ·) := by
  have hp := pos_le s x s.length
  have ha := pos_above s x s.length
  have hb := pos_below s x s.length
  unfold ins
  generalize pos s x s.length = p at *
  have hidx := List.pairwise_iff_getElem.1 h
  rw [List.pairwise_append]
  refine ⟨h.sublist (List.take_sublist _ _), ?_, ?_⟩
  · rw [List.pairwise_cons]
    refine ⟨fun y hy => ?_, h.sublist (List.drop_sublist _ _)⟩
    obtain ⟨i, hi, rfl⟩ := List.getElem_of_mem hy
    rw [List.getElem_drop]
    have hl : p + i < s.length := by simp at hi; omega
    have := ha (p + i) (by omega) hl
    rw [getD_eq_get 0 hl] at this
    omega
  · intro y hy z hz
    obtain ⟨i, hi, rfl⟩ := List.getElem_of_mem hy
    rw [List.getElem_take]
    have hip : i < p := by simp at hi; omega
    have h0 := hb (by omega)
    have hl1 : p - 1 < s.length := by omega
    rw [getD_eq_get 0 hl1] at h0
    have hyx : s[i]'(by omega) ≤ x := by
      by_cases e : i = p - 1
      · subst e; exact h0
      · have := hidx i (p - 1) (by omega) hl1 (by omega)
        omega
    rcases List.mem_cons.1 hz with rfl | hz
    · exact hyx
    · obtain ⟨j, hj, rfl⟩ := List.getElem_of_mem hz
      rw [List.getElem_drop]
      have hl : p + j < s.length := by simp at hj; omega
      have := ha (p + j) (by omega) hl
      rw [getD_eq_get 0 hl] at this
      omega
/-- Values in the order in which they come, and in ascending order. -/
def colStep (c : Nat → Int) (j : Nat) (s : List Int) : List Int := if c j = -9999 then s else s ++ [c j]
def colIns (c : Nat → Int) (j : Nat) (s : List Int) : List Int := if c j = -9999 then s else ins s (c j)
def colI (c : Nat → Int) (n : Nat) : List Int := iter (colStep c) 0 n []
def colS (c : Nat → Int) (n : Nat) : List Int := iter (colIns c) 0 n []
theorem col_perm (c : Nat → Int) (n : Nat) : (colS c n).Perm (colI c n) := by
  have key : ∀ d i (s t : List Int), s.Perm t → (iter (colIns c) i d s).Perm (iter (colStep c) i d t) := by
    intro d
    induction d with
    | zero => intro i s t h; exact h
    | succ d ih =>
      intro i s t h
      refine ih (i + 1) _ _ ?_
      unfold colIns colStep
      split
      · exact h
      · exact (ins_perm _ _).trans ((List.Perm.cons _ h).trans (List.perm_append_singleton _ _).symm)
  exact key _ _ _ _ (List.Perm.refl _)
theorem colS_sorted (c : Nat → Int) (n : Nat) : (colS c n).Pairwise (· ≤ ·) :=
  iter_inv (colIns c) (fun _ s => s.Pairwise (· ≤ ·)) n (fun i s h _ => by unfold colIns; split; exact h; exact ins_sorted s _ h) n 0 [] (by omega) List.Pairwise.nil
theorem colStep_len {c : Nat → Int} {j : Nat} {s : List Int} (h : s.length ≤ j) : (colStep c j s).length ≤ j + 1 := by unfold colStep; split; omega; simp; omega
theorem colIns_len {c : Nat → Int} {j : Nat} {s : List Int} (h : s.length ≤ j) : (colIns c j s).length ≤ j + 1 := by
  unfold colIns
  split
  · omega
  · rw [(ins_perm s _).length_eq, List.length_cons]; omega
theorem colI_len (c : Nat → Int) (n : Nat) : (colI c n).length ≤ n :=
  iter_inv (colStep c) (fun i s => s.length ≤ i) n (fun i s h _ => colStep_len h) n 0 [] (by omega) (by simp)
/-- A hole, and what lies behind it. -/
def insAt (s : List Int) (h : Int) (j : Nat) : List Int := s.take j ++ (h :: s.drop j)
theorem insAt_set (s : List Int) (h x : Int) (j : Nat) (hj : j ≤ s.length) : (insAt s h j).set j x = insAt s x j := by
  unfold insAt
  rw [List.set_append_right _ _ (by rw [List.length_take]; omega), List.length_take, Nat.min_eq_left hj, Nat.sub_self]
  rfl
theorem insAt_len (s : List Int) (h : Int) (j : Nat) (hj : j ≤ s.length) : (insAt s h j).length = s.length + 1 := by
  unfold insAt
  simp
  omega
theorem insAt_back (s : List Int) (h : Int) (j : Nat) (hj : j < s.length) : (insAt s h (j + 1)).getD j 0 = s.getD j 0 := by
  unfold insAt
  simp only [List.getD, List.getElem?_append, List.getElem?_take, List.length_take]
  rw [if_pos (by omega), if_pos (by omega)]
theorem insAt_step (s : List Int) (j : Nat) (hj : j < s.length) : insAt s (s.getD j 0) (j + 1) = insAt s (s.getD j 0) j := by
  unfold insAt
  rw [getD_eq_get 0 hj, List.take_add_one, List.getElem?_eq_getElem hj, Option.toList_some, List.append_assoc, List.drop_eq_getElem_cons hj]
  rfl
theorem insAt_end (s : List Int) (x : Int) : s ++ [x] = insAt s x s.length := by
  unfold insAt
  simp
end Go.Proofs.Ytbjbanemmoalhaa.Pure
/- 'Within' of the program and of the reference: the same test. No conditions. -/
namespace Go.Proofs.Ytbjbanemmoalhaa.Pure
set_option linter.unusedVariables false
set_option linter.unusedSimpArgs false
open Go.RowKit Go.Proofs.Ytbjbanemmoalhaa.P Go.Proofs.YtbjbanemmoalhaaW.PrintWords Go.Proofs.YtbjbanemmoalhaaW.PrintLast
def inb (x a b : Int) : Bool := decide (a ≤ x) && decide (x ≤ b)
theorem inb_iff {x a b : Int} : inb x a b = true ↔ a ≤ x ∧ x ≤ b := by simp [inb]
theorem l1In_is (x a b : Int) : spec_l1In.f x a b = some (inb x a b) := by
  unfold spec_l1In.f inb
  split
  · rename_i h; simp [show a ≤ x from h]
  · rename_i h; simp [show ¬ a ≤ x from h]
theorem within_is (x a b : Int) : impl_within.f x a b = some (inb x a b) := l1In_is x a b
end Go.Proofs.Ytbjbanemmoalhaa.Pure
/- A field is valid in the program just when it is valid in the reference. No conditions. -/
namespace Go.Proofs.Ytbjbanemmoalhaa.Pure
set_option linter.unusedVariables false
set_option linter.unusedSimpArgs false
open Go.RowKit Go.Proofs.Ytbjbanemmoalhaa.P Go.Proofs.YtbjbanemmoalhaaW.PrintWords Go.Proofs.YtbjbanemmoalhaaW.PrintLast
def cellOk (x : Int) : Bool := decide (x = -9999) || inb x (-9000) 9000
def fieldOk (a b : Int) (l : List Int) : Bool := inb a 1 8 && (inb b 1 8 && (decide ((l.length : Int) = a * b) && l.all cellOk))
structure FieldIs (a b : Int) (l : List Int) : Prop where
  a1 : 1 ≤ a
  a8 : a ≤ 8
  b1 : 1 ≤ b
  b8 : b ≤ 8
  len : (l.length : Int) = a * b
  cells : ∀ x ∈ l, cellOk x = true
theorem fieldOk_iff {a b : Int} {l : List Int} : fieldOk a b l = true ↔ FieldIs a b l := by
  unfold fieldOk
  rw [Bool.and_eq_true, Bool.and_eq_true, Bool.and_eq_true, inb_iff, inb_iff, decide_eq_true_eq, List.all_eq_true]
  exact ⟨fun ⟨⟨h1, h2⟩, ⟨h3, h4⟩, h5, h6⟩ => ⟨h1, h2, h3, h4, h5, h6⟩, fun h => ⟨⟨h.a1, h.a8⟩, ⟨h.b1, h.b8⟩, h.len, h.cells⟩⟩
theorem mul_bd {a b : Int} (a1 : 1 ≤ a) (a8 : a ≤ 8) (b1 : 1 ≤ b) (b8 : b ≤ 8) : 1 ≤ a * b ∧ a * b ≤ 64 := by
  obtain h | h | h | h | h | h | h | h : a = 1 ∨ a = 2 ∨ a = 3 ∨ a = 4 ∨ a = 5 ∨ a = 6 ∨ a = 7 ∨ a = 8 := by omega
  all_goals subst h; omega
theorem FieldIs.len64 {a b : Int} {l : List Int} (h : FieldIs a b l) : 1 ≤ l.length ∧ l.length ≤ 64 := by
  have := mul_bd h.a1 h.a8 h.b1 h.b8
  have := h.len
  omega
theorem l2Value_is (x : Int) : spec_l2Value.f x = some (cellOk x) := by
  unfold spec_l2Value.f cellOk
  rw [l1In_is]
  by_cases h : x = -9999
  · simp [h]
  · simp [h]
theorem l2Shape_is (a b : Int) : spec_l2Shape.f a b = some (inb a 1 8 && inb b 1 8) := by
  unfold spec_l2Shape.f
  rw [l1In_is, l1In_is]
  cases inb a 1 8 <;> simp
theorem shape_iff {a b : Int} : (inb a 1 8 && inb b 1 8) = true ↔ (1 ≤ a ∧ a ≤ 8) ∧ 1 ≤ b ∧ b ≤ 8 := by rw [Bool.and_eq_true, inb_iff, inb_iff]
theorem l2Good_ev (a b : Int) (l : List Int) (hl : l.length ≤ 9223372036854775806) : Ev (fun k => spec_l2Good.f k a b l) (fieldOk a b l) := by
  have no : Ev (fun k => spec_l2Good.j0 k true a b l) false := ev_step (f := fun _ => some false) (fun k => by simp [spec_l2Good.j0]) (ev_some _)
  unfold spec_l2Good.f
  rw [l2Shape_is]
  simp only [Option.bind_some]
  by_cases hs : (inb a 1 8 && inb b 1 8) = true
  · refine ev_ifp hs ?_
    obtain ⟨⟨a1, a8⟩, b1, b8⟩ := shape_iff.1 hs
    have hm := mul_bd a1 a8 b1 b8
    rw [w64 (by omega) (by omega)]
    by_cases hl2 : (l.length : Int) = a * b
    · have h := allb_ev (fun k i => spec_l2Good.l0 k (i : Int) a b l) l.length (fun i => cellOk (l.getD i 0))
        (fun i r hi hp hh => ev_step (fun k => by
          simp only [spec_l2Good.l0, l2Value_is, Option.bind_some, rd_nat]
          rw [if_pos (by omega), if_pos (by omega), if_pos hp, w64 (by omega) (by omega)]
          rfl) hh)
        (fun i hi hp => ev_step (f := fun _ => some false) (fun k => by
          simp only [spec_l2Good.l0, l2Value_is, Option.bind_some, rd_nat]
          rw [if_pos (by omega), if_pos (by omega), if_neg (by rw [hp]; decide)]) (ev_some _))
        (ev_step (f := fun _ => some true) (fun k => by
          simp only [spec_l2Good.l0]
          rw [if_neg (by omega)]) (ev_some _))
      rw [rall_list] at h
      have e : fieldOk a b l = l.all cellOk := by
        rw [Bool.and_eq_true] at hs
        simp [fieldOk, hs.1, hs.2, hl2]
      rw [e, show ((l.length : Int) != a * b) = false by rw [bne_eq_false_iff_eq]; exact hl2]
      exact ev_step (f := fun k => spec_l2Good.l0 k 0 a b l) (fun k => by simp [spec_l2Good.j0]) h
    · have e : fieldOk a b l = false := by simp [fieldOk, hl2]
      rw [e, show ((l.length : Int) != a * b) = true by rw [bne_iff_ne]; exact hl2]
      exact no
  · refine ev_ifn hs ?_
    have e : fieldOk a b l = false := by
      cases h1 : inb a 1 8 with
      | false => simp [fieldOk, h1]
      | true =>
        cases h2 : inb b 1 8 with
        | false => simp [fieldOk, h2]
        | true => exact absurd (by rw [h1, h2]; rfl) hs
    rw [e]
    exact no
theorem isValidField_is (a b : Int) (l : List Int) : impl_IsValidField.f a b l = some (fieldOk a b l) := by
  unfold impl_IsValidField.f slices_ContainsFunc_int_at_impl_IsValidField_1.f
  rw [within_is, within_is]
  simp only [Option.bind_some]
  cases h1 : inb a 1 8 with
  | false => simp [fieldOk, h1]
  | true =>
    cases h2 : inb b 1 8 with
    | false => simp [fieldOk, h2]
    | true =>
      have hm := mul_bd (inb_iff.1 h1).1 (inb_iff.1 h1).2 (inb_iff.1 h2).1 (inb_iff.1 h2).2
      rw [w64 (by omega) (by omega)]
      by_cases hl : (l.length : Int) = a * b
      · have e : (!l.any slices_ContainsFunc_int_at_impl_IsValidField_1.p) = l.all cellOk := by
          rw [List.not_any_eq_all_not]
          congr 1
          funext x
          simp [slices_ContainsFunc_int_at_impl_IsValidField_1.p, cellOk, inb]
        simp [fieldOk, h1, h2, hl, e]
      · simp [fieldOk, hl]
end Go.Proofs.Ytbjbanemmoalhaa.Pure
namespace Go.Proofs.Ytbjbanemmoalhaa.P
open Go.RowKit Go.Proofs.YtbjbanemmoalhaaW.PrintWords Go.Proofs.YtbjbanemmoalhaaW.PrintLast Go.Proofs.YtbjbanemmoalhaaW.PrintMore
attribute [local go_sem] max2_int min2_int max_two min_two max_three min_three max_four min_four   -- for this text's walks alone
set_option linter.unusedVariables false
set_option linter.unusedSimpArgs false

/-! ### impl_isShape: function 163 -/
def impl_isShape.f (a0 : Int) (a1 : Int) : Option (Bool) := (impl_within.f a0 1 8).bind fun t101 => (if t101 = true then ((impl_within.f a1 1 8).bind fun t102 => (some t102)) else (some false))
set_option maxHeartbeats 8000000 in
set_option maxRecDepth 100000 in
theorem impl_isShape.calls (a0 : Int) (a1 : Int) (r : Bool) (w : World) (h : impl_isShape.f a0 a1 = some r) :
  Calls Try.prog 163 #[.int .i64 a0, .int .i64 a1] w fun e w' => e = .returned (.bool r) ∧ Drawn0 w w' := by
 have H : ((impl_within.f a0 1 8).bind fun t101 => (if t101 = true then ((impl_within.f a1 1 8).bind fun t102 => (some t102)) else (some false))) = some r := h
 clear h
 replace H := Option.bind_eq_some_iff.mp H
 obtain ⟨t101, A30, H⟩ := H
 replace H : (if t101 = true then ((impl_within.f a1 1 8).bind fun t102 => (some t102)) else (some false)) = some r := H
 have A3 := Aside0.mk A30
 clear A30
 by_cases c4 : t101 = true
 ·
  subst c4
  have H1 : ((impl_within.f a1 1 8).bind fun t102 => (some t102)) = some r := by rw [if_pos rfl] at H; exact H
  clear H
  have H := H1
  clear H1
  replace H := Option.bind_eq_some_iff.mp H
  obtain ⟨t102, A50, H⟩ := H
  replace H : (some t102) = some r := H
  have A5 := Aside0.mk A50
  clear A50
  obtain rfl := Option.some.inj H
  go_enter Try.func163, Try.ntmps163
  go_wp2_with (first | ((with_reducible refine gate_callee (f := 115) rfl ?_); refine goesL_ (some 6) rfl rfl Try.func115 (by kernel_rfl) rfl #[.int .i64 a0, .int .i64 1, .int .i64 8] rfl (by (try simp only [List.map_toArray, List.map_cons, List.map_nil]); first | done | rfl | (simp only [List.length_drop, List.length_take]; rfl)) ?_; (with_reducible refine (impl_within.calls a0 1 8 true _ A3.out).mono ?_); rintro e w' ⟨rfl, ⟨nd, rfl⟩⟩; refine ⟨_, rfl, ?_⟩) | (go_at_call 115; (with_reducible refine (impl_within.calls a1 1 8 t102 _ A5.out).mono ?_); rintro e w' ⟨rfl, ⟨nd, rfl⟩⟩))
  go_ret
  exact ⟨by first | rfl | (simp; done) | (simp [*]; done), by repeat (first | exact Drawn0.refl _ | apply Drawn0.step)⟩
 ·
  replace c4 := Bool.eq_false_iff.mpr c4
  subst c4
  have H1 : (some false) = some r := by rw [if_neg (show ¬ (false = true) by decide)] at H; exact H
  clear H
  have H := H1
  clear H1
  obtain rfl := Option.some.inj H
  go_enter Try.func163, Try.ntmps163
  go_wp2_with (first | ((with_reducible refine gate_callee (f := 115) rfl ?_); refine goesL_ (some 6) rfl rfl Try.func115 (by kernel_rfl) rfl #[.int .i64 a0, .int .i64 1, .int .i64 8] rfl (by (try simp only [List.map_toArray, List.map_cons, List.map_nil]); first | done | rfl | (simp only [List.length_drop, List.length_take]; rfl)) ?_; (with_reducible refine (impl_within.calls a0 1 8 false _ A3.out).mono ?_); rintro e w' ⟨rfl, ⟨nd, rfl⟩⟩; refine ⟨_, rfl, ?_⟩))
  go_ret
  exact ⟨by first | rfl | (simp; done) | (simp [*]; done), by repeat (first | exact Drawn0.refl _ | apply Drawn0.step)⟩

end Go.Proofs.Ytbjbanemmoalhaa.P
/- A shape that is good, and its numbers. No conditions. -/
namespace Go.Proofs.Ytbjbanemmoalhaa.Pure
set_option linter.unusedVariables false
set_option linter.unusedSimpArgs false
open Go.RowKit Go.Proofs.Ytbjbanemmoalhaa.P Go.Proofs.YtbjbanemmoalhaaW.PrintWords Go.Proofs.YtbjbanemmoalhaaW.PrintLast
theorem l2At_is (a b : Int) (l : List Int) (W H x y : Nat) (ha : a = W) (hx : x < W) (hy : y < H) (hl : l.length = H * W) (h64 : l.length ≤ 64) : spec_l2At.f a b l (x : Int) (y : Int) = some (l.getD (y * W + x) 0) := by
  subst ha
  have h1 : y * W + x < H * W := by
    have : (y + 1) * W ≤ H * W := Nat.mul_le_mul_right W hy
    rw [Nat.add_mul] at this
    omega
  have e : wrap64 ((wrap64 ((y : Int) * (W : Int))) + (x : Int)) = ((y * W + x : Nat) : Int) := by
    have e1 : (y : Int) * (W : Int) = ((y * W : Nat) : Int) := by simp
    rw [e1, w64n (by omega), show ((y * W : Nat) : Int) + (x : Int) = ((y * W + x : Nat) : Int) by simp]
    exact w64n (by omega)
  unfold spec_l2At.f
  rw [e, if_pos (by omega), if_pos (by omega), rd_nat]
theorem div_at {W y x : Nat} (hx : x < W) : (y * W + x) / W = y ∧ (y * W + x) % W = x := by
  have hW : 0 < W := by omega
  constructor
  · rw [Nat.mul_comm, Nat.mul_add_div hW, Nat.div_eq_of_lt hx, Nat.add_zero]
  · rw [Nat.mul_comm, Nat.mul_add_mod, Nat.mod_eq_of_lt hx]
end Go.Proofs.Ytbjbanemmoalhaa.Pure
/- The values around a cell: in the program row by row, in the reference in ascending order: the same values. No conditions. -/
namespace Go.Proofs.Ytbjbanemmoalhaa.Pure
set_option linter.unusedVariables false
set_option linter.unusedSimpArgs false
open Go.RowKit Go.Proofs.Ytbjbanemmoalhaa.P Go.Proofs.YtbjbanemmoalhaaW.PrintWords Go.Proofs.YtbjbanemmoalhaaW.PrintLast Go.Proofs.YtbjbanemmoalhaaW.PrintMore
theorem mn_is (a b : Int) : mn a b = min a b := by unfold mn; omega
theorem mx_is (a b : Int) : mx a b = max a b := by unfold mx; omega
theorem least_is (a b : Int) : spec_l1Least.f a b = some (min a b) := by unfold spec_l1Least.f; split <;> (congr 1; omega)
theorem most_is (a b : Int) : spec_l1Most.f a b = some (max a b) := by unfold spec_l1Most.f; split <;> (congr 1; omega)
/-- How many columns lie within r of column x, out of W. -/
def cn (W x r : Nat) : Nat := min W (x + r + 1) - (x - r)
def hoodC (W H : Nat) (l : List Int) (r x y j : Nat) : Int := l.getD ((y - r + j / cn W x r) * W + (x - r + j % cn W x r)) 0
def hoodN (W H r x y : Nat) : Nat := cn H y r * cn W x r
theorem hood_lo {x r : Nat} (hx : x < 8) (hr : r ≤ 3) : max (0 : Int) (wrap64 ((x : Int) - (r : Int))) = ((x - r : Nat) : Int) := by
  rw [w64 (by omega) (by omega)]; omega
theorem hood_hi {W x r : Nat} (hW : 1 ≤ W ∧ W ≤ 8) (hx : x < W) (hr : r ≤ 3) : min (wrap64 ((W : Int) - 1)) (wrap64 ((x : Int) + (r : Int))) = ((x - r + cn W x r : Nat) : Int) - 1 := by
  rw [w64 (by omega) (by omega), w64 (by omega) (by omega)]
  unfold cn
  omega
theorem hood_in {W x r u : Nat} (hx : x < W) (hu : u < cn W x r) : x - r + u < W := by unfold cn at hu; omega
theorem hood_ix {W H a b : Nat} (ha : a < W) (hb : b < H) : b * W + a < H * W := by
  have : (b + 1) * W ≤ H * W := Nat.mul_le_mul_right W hb
  rw [Nat.add_mul] at this
  omega
theorem hood_wr {W H a b : Nat} (ha : a < W) (hb : b < H) (h64 : H * W ≤ 64) : wrap64 (wrap64 (((b : Nat) : Int) * (W : Int)) + ((a : Nat) : Int)) = ((b * W + a : Nat) : Int) := by
  have := hood_ix ha hb
  rw [← Int.natCast_mul, w64n (by omega), ← Int.natCast_add, w64n (by omega)]
theorem ins_ev (s : List Int) (v : Int) (Y X : Int) (q : List Int) (hs : s.length ≤ 1000) (a b : Int) (l' : List Int) (x1 x2 x3 : Int)
    (h : Ev (fun k => spec_l6Values.l1 k x1 x2 x3 (ins s v) Y (wrap64 (X + 1)) a b l') q) :
    Ev (fun k => spec_l6Values.l2 k x1 x2 x3 s Y X v (s.length : Int) a b l') q := by
  have shift : ∀ (p j : Nat) (g : Int), p ≤ j → j ≤ s.length → Ev (fun k => spec_l6Values.l1 k x1 x2 x3 (insAt s v p) Y (wrap64 (X + 1)) a b l') q →
      Ev (fun k => spec_l6Values.l3 k x1 x2 x3 (insAt s g j) Y X v (p : Int) (j : Int) a b l') q := by
    intro p j
    induction j with
    | zero =>
      intro g h1 h2 h
      obtain rfl : p = 0 := by omega
      refine ev_step (fun k => ?_) h
      simp only [spec_l6Values.l3]
      rw [if_neg (by omega), if_pos (by omega), if_pos (by rw [insAt_len _ _ _ h2]; omega), Int.toNat_natCast, insAt_set _ _ _ _ h2]
    | succ j ih =>
      intro g h1 h2 h
      by_cases e : p = j + 1
      · subst e
        refine ev_step (fun k => ?_) h
        simp only [spec_l6Values.l3]
        rw [if_neg (by omega), if_pos (by omega), if_pos (by rw [insAt_len _ _ _ h2]; omega), Int.toNat_natCast, insAt_set _ _ _ _ h2]
      · have e1 := Aside0.mk (show wrap64 (((j + 1 : Nat) : Int) - 1) = (j : Int) by rw [w64 (by omega) (by omega)]; omega)
        refine ev_step (fun k => ?_) (ih (s.getD j 0) (by omega) (by omega) h)
        simp only [spec_l6Values.l3]
        rw [if_pos (by omega), e1.out, if_pos (by omega), if_pos (by rw [insAt_len _ _ _ h2]; omega), if_pos (by omega), if_pos (by rw [insAt_len _ _ _ h2]; omega), rd_nat, Int.toNat_natCast, insAt_back _ _ _ (by omega), insAt_set _ _ _ _ h2, insAt_step _ _ (by omega)]
  have app : ∀ p : Nat, p ≤ s.length → Ev (fun k => spec_l6Values.l1 k x1 x2 x3 (insAt s v p) Y (wrap64 (X + 1)) a b l') q → Ev (fun k => spec_l6Values.j3 k x1 x2 x3 s Y X v (p : Int) a b l') q := by
    intro p hp h
    refine ev_step (fun k => ?_) (shift p s.length v hp (Nat.le_refl _) h)
    simp only [spec_l6Values.j3, Option.bind_some]
    rw [if_pos (by omega), insAt_end, insAt_len _ _ _ (Nat.le_refl _), w64 (by omega) (by omega), show ((s.length + 1 : Nat) : Int) - 1 = (s.length : Int) by omega]
  have find : ∀ j : Nat, j ≤ s.length → Ev (fun k => spec_l6Values.l1 k x1 x2 x3 (insAt s v (pos s v j)) Y (wrap64 (X + 1)) a b l') q → Ev (fun k => spec_l6Values.l2 k x1 x2 x3 s Y X v (j : Int) a b l') q := by
    intro j
    induction j with
    | zero =>
      intro hj h
      refine ev_step (fun k => ?_) (app 0 (Nat.zero_le _) h)
      simp only [spec_l6Values.l2]
      rw [if_neg (by omega)]
    | succ j ih =>
      intro hj h
      unfold pos at h
      have e1 := Aside0.mk (show wrap64 (((j + 1 : Nat) : Int) - 1) = (j : Int) by rw [w64 (by omega) (by omega)]; omega)
      by_cases hg : s.getD j 0 > v
      · rw [if_pos hg] at h
        refine ev_step (fun k => ?_) (ih (by omega) h)
        simp only [spec_l6Values.l2]
        rw [if_pos (by omega), e1.out, if_pos (by omega), if_pos (by omega), rd_nat, if_pos hg]
      · rw [if_neg hg] at h
        refine ev_step (fun k => ?_) (app (j + 1) hj h)
        simp only [spec_l6Values.l2]
        rw [if_pos (by omega), e1.out, if_pos (by omega), if_pos (by omega), rd_nat, if_neg hg]
  exact find s.length (Nat.le_refl _) h
section
variable {W H r x y : Nat} {l : List Int} (hW : 1 ≤ W ∧ W ≤ 8) (hH : 1 ≤ H ∧ H ≤ 8) (hl : l.length = H * W) (hr : r ≤ 3) (hx : x < W) (hy : y < H)
include hW hH hl hr hx hy
theorem hood_impl : Ev (fun k => impl_neighborhood.f k (W : Int) (H : Int) l (x : Int) (y : Int) (r : Int)) (colI (hoodC W H l r x y) (hoodN W H r x y)) := by
  have h64 : H * W ≤ 64 := Nat.mul_le_mul hH.2 hW.2
  have n64 : hoodN W H r x y ≤ 64 := Nat.mul_le_mul (show cn H y r ≤ 8 by unfold cn; omega) (show cn W x r ≤ 8 by unfold cn; omega)
  have CX : cn W x r ≤ 8 := by unfold cn; omega
  have CY : cn H y r ≤ 8 := by unfold cn; omega
  have LX := Aside0.mk (hood_lo (x := x) (r := r) (by omega) hr)
  have LY := Aside0.mk (hood_lo (x := y) (r := r) (by omega) hr)
  have HX := Aside0.mk (hood_hi hW hx hr)
  have HY := Aside0.mk (hood_hi hH hy hr)
  have h := grid_ev (fun k t v => impl_neighborhood.l0 k (x : Int) (y : Int) (r : Int) t ((y - r + v : Nat) : Int) (W : Int) (H : Int) l)
    (fun k t v u => impl_neighborhood.l1 k (x : Int) (y : Int) (r : Int) t ((y - r + v : Nat) : Int) ((x - r + u : Nat) : Int) (W : Int) (H : Int) l) (cn W x r) (cn H y r)
    (colStep (hoodC W H l r x y)) (fun s => s) (fun j s => s.length ≤ j)
    (fun v s q hI hv h => ev_step (fun k => by
      simp only [impl_neighborhood.l0]
      rw [mn_is, mx_is, LX.out, HY.out, if_pos (by omega)]
      rfl) h)
    (fun v u s q hI hv hu h => ?_)
    (fun v u s hI hv hu => colStep_len hI)
    (fun v s q hI hv h => ev_step (fun k => by
      simp only [impl_neighborhood.l1]
      rw [mn_is, HX.out, if_neg (by omega), w64 (by omega) (by omega)]
      rfl) h)
    (fun s hI => ev_step (f := fun _ => some s) (fun k => by
      simp only [impl_neighborhood.l0]
      rw [mn_is, HY.out, if_neg (by omega)]) (ev_some _)) [] (by simp)
  · unfold impl_neighborhood.f
    rw [mx_is, LY.out]
    exact h
  · obtain ⟨d1, d2⟩ := div_at (y := v) hu
    have bx := hood_in hx hu
    have by_ := hood_in hy hv
    have hc : hoodC W H l r x y (v * cn W x r + u) = l.getD ((y - r + v) * W + (x - r + u)) 0 := by unfold hoodC; rw [d1, d2]
    have hj := hood_ix hu hv
    have IX := Aside0.mk (hood_wr bx by_ h64)
    have hlt := hood_ix bx by_
    refine ev_step (fun k => ?_) h
    simp only [impl_neighborhood.l1]
    unfold hoodN at n64
    rw [mn_is, HX.out, if_pos (by omega), IX.out, if_pos (Int.natCast_nonneg _), if_pos (by rw [hl]; exact_mod_cast hlt), rd_nat, w64 (x := ((x - r + u : Nat) : Int) + 1) (by omega) (by omega), if_pos (c := s.length < 17592186044416) (by omega)]
    show (if _ then _ else _) = impl_neighborhood.l1 k (x : Int) (y : Int) (r : Int) (colStep (hoodC W H l r x y) (v * cn W x r + u) s) _ _ _ _ _
    unfold colStep
    rw [hc]
    split <;> rfl
theorem hood_spec : Ev (fun k => spec_l6Values.f k (W : Int) (H : Int) l (x : Int) (y : Int) (r : Int)) (colS (hoodC W H l r x y) (hoodN W H r x y)) := by
  have h64 : H * W ≤ 64 := Nat.mul_le_mul hH.2 hW.2
  have n64 : hoodN W H r x y ≤ 64 := Nat.mul_le_mul (show cn H y r ≤ 8 by unfold cn; omega) (show cn W x r ≤ 8 by unfold cn; omega)
  have CX : cn W x r ≤ 8 := by unfold cn; omega
  have CY : cn H y r ≤ 8 := by unfold cn; omega
  have LX := Aside0.mk (hood_lo (x := x) (r := r) (by omega) hr)
  have LY := Aside0.mk (hood_lo (x := y) (r := r) (by omega) hr)
  have HX := Aside0.mk (hood_hi hW hx hr)
  have HY := Aside0.mk (hood_hi hH hy hr)
  have h := grid_ev (fun k t v => spec_l6Values.l0 k (x : Int) (y : Int) (r : Int) t ((y - r + v : Nat) : Int) (W : Int) (H : Int) l)
    (fun k t v u => spec_l6Values.l1 k (x : Int) (y : Int) (r : Int) t ((y - r + v : Nat) : Int) ((x - r + u : Nat) : Int) (W : Int) (H : Int) l) (cn W x r) (cn H y r)
    (colIns (hoodC W H l r x y)) (fun s => s) (fun j s => s.length ≤ j)
    (fun v s q hI hv h => ev_step (fun k => by
      simp only [spec_l6Values.l0]
      rw [least_is, most_is, LX.out, HY.out]
      simp only [Option.bind_some]
      rw [if_pos (by omega)]
      rfl) h)
    (fun v u s q hI hv hu h => ?_)
    (fun v u s hI hv hu => colIns_len hI)
    (fun v s q hI hv h => ev_step (fun k => by
      simp only [spec_l6Values.l1]
      rw [least_is, HX.out]
      simp only [Option.bind_some]
      rw [if_neg (by omega), w64 (by omega) (by omega)]
      rfl) h)
    (fun s hI => ev_step (f := fun _ => some s) (fun k => by
      simp only [spec_l6Values.l0]
      rw [least_is, HY.out]
      simp only [Option.bind_some]
      rw [if_neg (by omega)]) (ev_some _)) [] (by simp)
  · unfold spec_l6Values.f
    rw [most_is, LY.out]
    exact h
  · obtain ⟨d1, d2⟩ := div_at (y := v) hu
    have bx := hood_in hx hu
    have by_ := hood_in hy hv
    have hc : hoodC W H l r x y (v * cn W x r + u) = l.getD ((y - r + v) * W + (x - r + u)) 0 := by unfold hoodC; rw [d1, d2]
    have hj := hood_ix hu hv
    have AT := Aside0.mk (l2At_is (W : Int) (H : Int) l W H (x - r + u) (y - r + v) rfl bx by_ hl (by omega))
    have e1 := Aside0.mk (show wrap64 (((x - r + u : Nat) : Int) + 1) = ((x - r + (u + 1) : Nat) : Int) by rw [w64 (by omega) (by omega)]; omega)
    unfold hoodN at n64
    by_cases e : l.getD ((y - r + v) * W + (x - r + u)) 0 = -9999
    · refine ev_step (fun k => ?_) h
      simp only [spec_l6Values.l1]
      rw [least_is, HX.out]
      simp only [Option.bind_some]
      rw [if_pos (by omega), AT.out]
      simp only [Option.bind_some]
      rw [if_pos e, e1.out]
      show _ = spec_l6Values.l1 k (x : Int) (y : Int) (r : Int) (colIns (hoodC W H l r x y) (v * cn W x r + u) s) _ _ _ _ _
      unfold colIns
      rw [hc, if_pos e]
    · refine ev_step (fun k => ?_) (ins_ev (x1 := (x : Int)) (x2 := (y : Int)) (x3 := (r : Int)) s (l.getD ((y - r + v) * W + (x - r + u)) 0) ((y - r + v : Nat) : Int) ((x - r + u : Nat) : Int) q (by omega) (W : Int) (H : Int) l (by
        rw [e1.out]
        unfold colIns at h
        rw [hc, if_neg e] at h
        exact h))
      simp only [spec_l6Values.l1]
      rw [least_is, HX.out]
      simp only [Option.bind_some]
      rw [if_pos (by omega), AT.out]
      simp only [Option.bind_some]
      rw [if_neg e]
end
end Go.Proofs.Ytbjbanemmoalhaa.Pure
namespace Go.Proofs.Ytbjbanemmoalhaa.P
open Go.RowKit Go.Proofs.YtbjbanemmoalhaaW.PrintWords Go.Proofs.YtbjbanemmoalhaaW.PrintLast Go.Proofs.YtbjbanemmoalhaaW.PrintMore
attribute [local go_sem] max2_int min2_int max_two min_two max_three min_three max_four min_four   -- for this text's walks alone
set_option linter.unusedVariables false
set_option linter.unusedSimpArgs false

/-! ### spec_l2Fill: function 234 -/
def spec_l2Fill.l0 : Nat → Int → Int → Int → Int → Int → Int → List Int → Option (Int × Int × List Int)
 | 0, _, _, _, _, _, _, _ => none
 | k + 1, x0, x1, x2, x8, x103000, x103001, x103002 => if x8 < (wrap64 (x0 * x1)) then (if x103002.length < 17592186044416 then (spec_l2Fill.l0 k x0 x1 x2 (wrap64 (x8 + 1)) x103000 x103001 (x103002 ++ [x2])) else (none)) else (some (x103000, x103001, x103002))
def spec_l2Fill.f (k : Nat) (a0 : Int) (a1 : Int) (a2 : Int) : Option (Int × Int × List Int) := spec_l2Fill.l0 k a0 a1 a2 0 a0 a1 ([] : List Int)

set_option maxHeartbeats 8000000 in
set_option maxRecDepth 100000 in
theorem spec_l2Fill.calls (k : Nat) (a0 : Int) (a1 : Int) (a2 : Int) (r1 : Int) (r2 : Int) (r3 : List Int) (w : World) (h : spec_l2Fill.f k a0 a1 a2 = some (r1, r2, r3)) :
  Calls Try.prog 234 #[.int .i64 a0, .int .i64 a1, .int .i64 a2] w fun e w' => ∃ v2_ : Value, e = .returned (.agg #[.int .i64 r1, .int .i64 r2, v2_]) ∧ Kd.R (Kd.int .i64) 3 w' w.heap.size (fun _ => True) v2_ r3 ∧ Below w.heap.size w w' := by
 have hu42 := Try.underlying42
 have HB := aK (Below.refl w.heap.size w)
 have H : (spec_l2Fill.l0 k a0 a1 a2 0 a0 a1 ([] : List Int)) = some (r1, r2, r3) := h
 clear h
 have H' := Aside0.mk H
 clear H
 go_enter Try.func234, Try.ntmps234
 go_wp2_with (first | ((with_reducible refine gate_dst (N := 6) rfl ?_); refine box_event ?hg (N := 6) ?hd (cs := #[.int .i64 0, .int .i64 0, .slice none 0 0]) (t := 42) ?hr ?_; (case hd => rfl); (case hg => rfl); (case hr => first | (go_simp; done) | (go_simp; rfl)); intro gb101 hg w4 hbox hb; have BK101 := aK (hbox); have GW101 := aK (gE hg (pS HB.out)); have GE101 := aK (gE hg (pS HB.out)); replace HB := bS HB hb; clear hb hbox hg) | ((with_reducible refine gate_dst (N := 7) rfl ?_); refine box_event ?hg (N := 7) ?hd (cs := #[.int .i64 0, .int .i64 0, .slice none 0 0]) (t := 42) ?hr ?_; (case hd => rfl); (case hg => rfl); (case hr => first | (go_simp; done) | (go_simp; rfl)); intro gb102 hg w5 hbox hb; have BK102 := aK (hbox); have GW102 := aK (gE hg (pS HB.out)); have GE102 := aK (gE hg (pS HB.out)); have NB101_102 := aK (nL hg (pB BK101.out)); have NB102_101 := aK (nG hg (pB BK101.out)); replace BK101 := bB BK101 hb; replace HB := bS HB hb; clear hb hbox hg; have hnb6 := NB102_101.out; have hnc6 := NB101_102.out; have hcz7_0 : w5.cell? ⟨gb102, 0, none⟩ = some (.int .i64 0) := (blk_cell BK102.out 0).trans rfl; have hcz7_1 : w5.cell? ⟨gb102, 1, none⟩ = some (.int .i64 0) := (blk_cell BK102.out 1).trans rfl; have hcz7_2 : w5.cell? ⟨gb102, 2, none⟩ = some (.slice none 0 0) := (blk_cell BK102.out 2).trans rfl; have hfz7_0 := blk_frozen BK102.out 0; have hfz7_1 := blk_frozen BK102.out 1; have hfz7_2 := blk_frozen BK102.out 2))
 go_loopg [8] k (fun kq v8 w' => ∃ (x8_1 : Int) (x103002_1 : List Int) (u103002 : Value), v8 = .int .i64 x8_1 ∧ Aside0 (spec_l2Fill.l0 kq a0 a1 a2 x8_1 a0 a1 x103002_1 = some (r1, r2, r3)) ∧ Aside0 (kq ≤ k) ∧ Aside0 (Kd.R (Kd.int .i64) 3 w' w.heap.size (fun _ => True) u103002 x103002_1) ∧ Aside0 (w'.heap[gb101]? = some (.cells #[.int .i64 0, .int .i64 0, (.slice none 0 0)] 42 (0, 0))) ∧ Aside0 (w'.heap[gb102]? = some (.cells #[.int .i64 a0, .int .i64 a1, u103002] 42 (0, 0))) ∧ Aside0 (Below w.heap.size w w'))
 case atStart => exact ⟨(0), (([] : List Int)), (.slice none 0 0), (by first | rfl | (simp; done) | (simp [*]; done)), H', ⟨Nat.le_refl _⟩, ⟨by first | exact Kd.R_nil _ _ _ _ _ | exact Kd.N_nil _ _ _ _ _ | exact Kd.V_nil _ _ _ _ _ | exact Kd.Q_nil _ _ _ _ _ | exact Kd.S_nil _ _ _ _ _⟩, ⟨by (with_reducible repeat (first | refine blk_drewN ?_ _ | refine blk_drew ?_ | refine blk_alloc ?_ _)); refine blk_far ?_ NB101_102.out _; (with_reducible repeat (first | refine blk_drewN ?_ _ | refine blk_drew ?_ | refine blk_alloc ?_ _)); refine blk_far ?_ NB101_102.out _; (with_reducible repeat (first | refine blk_drewN ?_ _ | refine blk_drew ?_ | refine blk_alloc ?_ _)); refine blk_far ?_ NB101_102.out _; (with_reducible repeat (first | refine blk_drewN ?_ _ | refine blk_drew ?_ | refine blk_alloc ?_ _)); exact BK101.out⟩, ⟨by (with_reducible repeat (first | refine blk_drewN ?_ _ | refine blk_drew ?_ | refine blk_alloc ?_ _)); refine blk_put (cs := #[.int .i64 a0, .int .i64 a1, .slice none 0 0]) ?_ 2 _ rfl; (with_reducible repeat (first | refine blk_drewN ?_ _ | refine blk_drew ?_ | refine blk_alloc ?_ _)); refine blk_put (cs := #[.int .i64 a0, .int .i64 0, .slice none 0 0]) ?_ 1 _ rfl; (with_reducible repeat (first | refine blk_drewN ?_ _ | refine blk_drew ?_ | refine blk_alloc ?_ _)); refine blk_put (cs := #[.int .i64 0, .int .i64 0, .slice none 0 0]) ?_ 0 _ rfl; (with_reducible repeat (first | refine blk_drewN ?_ _ | refine blk_drew ?_ | refine blk_alloc ?_ _)); exact BK102.out⟩, ⟨by repeat (first | (with_reducible first | exact HB.out | apply below_alloc | apply pw_below_drewN | apply below_drew1 | refine below_set ?_ GE101.out | refine below_set ?_ GE102.out) | exact HB.out)⟩⟩
 case round =>
  clear H'
  try clear c2
  try clear p2
  try clear c6
  try clear hcz7_0
  try clear hcz7_1
  try clear hcz7_2
  try clear hfz7_0
  try clear hfz7_1
  try clear hfz7_2
  obtain ⟨x8_1, x103002_1, u103002, rfl, HA, HK1, HO_103002, BK101, BK102, HB⟩ := hrel
  cases gk with
  | zero => exact absurd HA.out (by simp [spec_l2Fill.l0])
  | succ k1 =>
   have H := HA.out
   clear HA
   simp only [spec_l2Fill.l0] at H
   by_cases c8 : x8_1 < (wrap64 (a0 * a1))
   ·
    rw [if_pos c8] at H
    have c8b0 : decide (x8_1 < (wrap64 (a0 * a1))) = true := decide_eq_true c8
    clear c8
    by_cases c9 : x103002_1.length < 17592186044416
    ·
     rw [if_pos c9] at H
     have LMc9 := Aside0.mk c9
     clear c9
     obtain ⟨y103, hy103⟩ : ∃ y_ : List Int, y_ = (x103002_1 ++ [a2]) := ⟨_, rfl⟩
     replace H : (spec_l2Fill.l0 k1 a0 a1 a2 (wrap64 (x8_1 + 1)) a0 a1 y103) = some (r1, r2, r3) := by first | (rw [hy103]; with_reducible exact H) | (have H2_ := (Option.bind_some _ _).symm.trans H; rw [hy103]; with_reducible exact H2_) | (have H2_ := (Option.bind_some _ _).symm.trans H; with_reducible exact H2_) | with_reducible exact H | (rw [hy103]; exact H) | exact H
     have Ny103 := Aside0.mk hy103
     clear hy103
     have H' := Aside0.mk H
     clear H
     have hnb10 := NB102_101.out
     have hnc10 := NB101_102.out
     have hcz11_0 : wr.cell? ⟨gb102, 0, none⟩ = some (.int .i64 a0) := (blk_cell BK102.out 0).trans rfl
     have hcz11_1 : wr.cell? ⟨gb102, 1, none⟩ = some (.int .i64 a1) := (blk_cell BK102.out 1).trans rfl
     have hcz11_2 : wr.cell? ⟨gb102, 2, none⟩ = some (u103002) := (blk_cell BK102.out 2).trans rfl
     have hfz11_0 := blk_frozen BK102.out 0
     have hfz11_1 := blk_frozen BK102.out 1
     have hfz11_2 := blk_frozen BK102.out 2
     go_wp2_with (first | ((with_reducible refine gate_builtin (b := .append) (xs := #[.tmp 20, .tmp 22]) rfl ?_); at_builtin; refine Kd.R_append (Kd.int .i64) (w0 := w) w.heap.size rfl (.tmp 20) (.tmp 22) 22 3 (.int .i64 0) 8 rfl Try.underlying22 info3 rfl (by decide) (by omega) u103002 x103002_1 a2 [.int .i64 a2] (fun _ => True) (fun _ => False) rfl rfl ?aP (fun _ hk => hk.elim) ?aF ?aO ?aB ?aS ?aL ?_; (case aP => exact rfl); (case aB => exact (pS HB.out)); (case aF => exact (fun _ _ => trivial)); (case aO => exact (pR HO_103002.out)); (case aS => exact (below_size (pS HB.out))); (case aL => have := LMc9.out; omega); intro v104 w12 ho hb hg hat; rw [← Ny103.out] at ho; have n0_ := aK (blk_grown (g := gb101) (o := .cells #[.int .i64 0, .int .i64 0, .slice none 0 0] 42 (0, 0)) (pB BK101.out) hg (Kd.R_ne HO_103002.out BK101.out (by decide))); have n1_ := aK (blk_grown (g := gb102) (o := .cells #[.int .i64 a0, .int .i64 a1, u103002] 42 (0, 0)) (pB BK102.out) hg (Kd.R_ne HO_103002.out BK102.out (by decide))); have n2_ := aK (hb); have HO105 := aK (ho); clear BK101 BK102 HB HO_103002; have BK101 := n0_; have BK102 := n1_; have HB := n2_; clear n0_ n1_ n2_ ho hb hg hat; obtain ⟨Ao13, co13, eo13⟩ := Kd.R_slice HO105.out; subst eo13; have hcz14_0 : w12.cell? ⟨gb102, 0, none⟩ = some (.int .i64 a0) := (blk_cell BK102.out 0).trans rfl; have hcz14_1 : w12.cell? ⟨gb102, 1, none⟩ = some (.int .i64 a1) := (blk_cell BK102.out 1).trans rfl; have hcz14_2 : w12.cell? ⟨gb102, 2, none⟩ = some (u103002) := (blk_cell BK102.out 2).trans rfl; have hfz14_0 := blk_frozen BK102.out 0; have hfz14_1 := blk_frozen BK102.out 1; have hfz14_2 := blk_frozen BK102.out 2))
     go_roundg k1
     case measure => have := HK1.out; omega
     case rel => exact ⟨(wrap64 (x8_1 + 1)), (y103), (.slice Ao13 y103.length co13), (by first | rfl | (simp; done) | (simp [*]; done)), H', ⟨by have := HK1.out; omega⟩, ⟨by (with_reducible repeat (first | apply Kd.R_alloc | apply Kd.R_drewN | apply Kd.R_drew)); exact Kd.R_mono (Kd.R_far (p := ⟨gb102, 2, none⟩) (Kd.R_types HO105.out BK102.out (by decide)) (fun _ hk => hk.2) (.slice Ao13 y103.length co13)) (fun _ hk => trivial)⟩, ⟨by (with_reducible repeat (first | refine blk_drewN ?_ _ | refine blk_drew ?_ | refine blk_alloc ?_ _)); refine blk_far ?_ NB101_102.out _; (with_reducible repeat (first | refine blk_drewN ?_ _ | refine blk_drew ?_ | refine blk_alloc ?_ _)); exact BK101.out⟩, ⟨by (with_reducible repeat (first | refine blk_drewN ?_ _ | refine blk_drew ?_ | refine blk_alloc ?_ _)); refine blk_put (cs := #[.int .i64 a0, .int .i64 a1, u103002]) ?_ 2 _ rfl; (with_reducible repeat (first | refine blk_drewN ?_ _ | refine blk_drew ?_ | refine blk_alloc ?_ _)); exact BK102.out⟩, ⟨by repeat (first | (with_reducible first | exact HB.out | apply below_alloc | apply pw_below_drewN | apply below_drew1 | refine below_set ?_ GE101.out | refine below_set ?_ GE102.out) | exact HB.out)⟩⟩
    ·
     rw [if_neg c9] at H
     exact absurd H (by simp)
   ·
    rw [if_neg c8] at H
    have c8b0 : decide (x8_1 < (wrap64 (a0 * a1))) = false := decide_eq_false c8
    clear c8
    simp only [Option.some.injEq, Prod.mk.injEq] at H
    obtain ⟨rfl, rfl, rfl⟩ := H
    have hnb15 := NB102_101.out
    have hnc15 := NB101_102.out
    have hcz16_0 : wr.cell? ⟨gb102, 0, none⟩ = some (.int .i64 a0) := (blk_cell BK102.out 0).trans rfl
    have hcz16_1 : wr.cell? ⟨gb102, 1, none⟩ = some (.int .i64 a1) := (blk_cell BK102.out 1).trans rfl
    have hcz16_2 : wr.cell? ⟨gb102, 2, none⟩ = some (u103002) := (blk_cell BK102.out 2).trans rfl
    have hfz16_0 := blk_frozen BK102.out 0
    have hfz16_1 := blk_frozen BK102.out 1
    have hfz16_2 := blk_frozen BK102.out 2
    have hcz17_0 : wr.cell? ⟨gb101, 0, none⟩ = some (.int .i64 0) := (blk_cell BK101.out 0).trans rfl
    have hcz17_1 : wr.cell? ⟨gb101, 1, none⟩ = some (.int .i64 0) := (blk_cell BK101.out 1).trans rfl
    have hcz17_2 : wr.cell? ⟨gb101, 2, none⟩ = some (.slice none 0 0) := (blk_cell BK101.out 2).trans rfl
    have hfz17_0 := blk_frozen BK101.out 0
    have hfz17_1 := blk_frozen BK101.out 1
    have hfz17_2 := blk_frozen BK101.out 2
    obtain ⟨Ao18, co18, eo18⟩ := Kd.R_slice HO_103002.out
    subst eo18
    go_wp2
    refine bodyPost_ret (results_cell_row rfl _ _ gb101 42 #[.int .i64 a0, .int .i64 a1, .slice Ao18 x103002_1.length co18] (0, 0) _ rfl (by (with_reducible repeat (first | refine blk_drewN ?_ _ | refine blk_drew ?_ | refine blk_alloc ?_ _)); refine blk_put (cs := #[.int .i64 a0, .int .i64 a1, .slice none 0 0]) ?_ 2 _ rfl; (with_reducible repeat (first | refine blk_drewN ?_ _ | refine blk_drew ?_ | refine blk_alloc ?_ _)); refine blk_put (cs := #[.int .i64 a0, .int .i64 0, .slice none 0 0]) ?_ 1 _ rfl; (with_reducible repeat (first | refine blk_drewN ?_ _ | refine blk_drew ?_ | refine blk_alloc ?_ _)); refine blk_put (cs := #[.int .i64 0, .int .i64 0, .slice none 0 0]) ?_ 0 _ rfl; (with_reducible repeat (first | refine blk_drewN ?_ _ | refine blk_drew ?_ | refine blk_alloc ?_ _)); exact BK101.out) Try.underlying42 rfl (by kernel_rfl)) rfl ?_
    exact ⟨_, by first | rfl | (simp [errW_none, errW_some] <;> rfl) | (simp [*, errW_none, errW_some] <;> rfl), by (with_reducible repeat (first | apply Kd.R_alloc | apply Kd.R_drewN | apply Kd.R_drew)); exact Kd.R_mono (Kd.R_far (p := ⟨gb101, 2, none⟩) (Kd.R_far (p := ⟨gb101, 1, none⟩) (Kd.R_far (p := ⟨gb101, 0, none⟩) (Kd.R_types HO_103002.out BK101.out (by decide)) (fun _ hk => hk.2) (.int .i64 a0)) (fun _ hk => hk.2) (.int .i64 a1)) (fun _ hk => hk.2) (.slice Ao18 x103002_1.length co18)) (fun _ hk => trivial), by repeat (first | (with_reducible first | exact HB.out | apply below_alloc | apply pw_below_drewN | apply below_drew1 | refine below_set ?_ GE101.out | refine below_set ?_ GE102.out) | exact HB.out)⟩

end Go.Proofs.Ytbjbanemmoalhaa.P
/- A field in which every cell is one value. No conditions but on the shape. -/
namespace Go.Proofs.Ytbjbanemmoalhaa.Pure
set_option linter.unusedVariables false
set_option linter.unusedSimpArgs false
open Go.RowKit Go.Proofs.Ytbjbanemmoalhaa.P Go.Proofs.YtbjbanemmoalhaaW.PrintWords Go.Proofs.YtbjbanemmoalhaaW.PrintLast
theorem filled_is (a b v : Int) (h0 : 1 ≤ a * b) (h1 : a * b ≤ 64) : impl_filled.f a b v = some (a, b, List.replicate (a * b).toNat v) := by
  unfold impl_filled.f slices_Repeat_int_int.f
  rw [w64 (by omega) (by omega), if_pos ⟨rfl, by omega, h1⟩]
  rfl
end Go.Proofs.Ytbjbanemmoalhaa.Pure
/- A field whose cells a function tells. No conditions but on the shape. -/
namespace Go.Proofs.Ytbjbanemmoalhaa.Pure
set_option linter.unusedVariables false
set_option linter.unusedSimpArgs false
open Go.RowKit Go.Proofs.Ytbjbanemmoalhaa.P Go.Proofs.YtbjbanemmoalhaaW.PrintWords Go.Proofs.YtbjbanemmoalhaaW.PrintLast
theorem tdiv_cast (i W : Nat) : Int.tdiv (i : Int) (W : Int) = ((i / W : Nat) : Int) := by rw [Int.tdiv_eq_ediv_of_nonneg (by omega)]; rfl
theorem tmod_cast (i W : Nat) : Int.tmod (i : Int) (W : Int) = ((i % W : Nat) : Int) := by rw [Int.tmod_eq_emod_of_nonneg (by omega)]; rfl
theorem fieldBy_at (p : Int → Int → Option Int) (q : Nat → Int) (W H : Nat) (hW : 1 ≤ W ∧ W ≤ 8) (hH : 1 ≤ H ∧ H ≤ 8) (hp : ∀ i, i < H * W → p ((i % W : Nat) : Int) ((i / W : Nat) : Int) = some (q i)) (k : Nat) (hk : 100 ≤ k) :
    impl_fieldBy_at_mp_mpGi64_i64_i64.f k p (W : Int) (H : Int) = some ((W : Int), (H : Int), tab (H * W) q) := by
  have hm : 1 ≤ (W : Int) * H ∧ (W : Int) * H ≤ 64 := mul_bd (by omega) (by omega) (by omega) (by omega)
  have hn : ((W : Int) * H).toNat = H * W := by rw [← Int.natCast_mul, Int.toNat_natCast, Nat.mul_comm]
  have h64 : H * W ≤ 64 := by have := hm.2; rw [← Int.natCast_mul] at this; rw [Nat.mul_comm]; omega
  unfold impl_fieldBy_at_mp_mpGi64_i64_i64.f
  rw [filled_is _ _ 0 hm.1 hm.2, Option.bind_some, hn]
  show impl_fieldBy_at_mp_mpGi64_i64_i64.l0 p k (W : Int) (((List.replicate (H * W) (0 : Int)).length : Nat) : Int) 0 (W : Int) (H : Int) (List.replicate (H * W) 0) = _
  rw [List.length_replicate]
  have h := loop_at (fun k s i => impl_fieldBy_at_mp_mpGi64_i64_i64.l0 p k (W : Int) ((H * W : Nat) : Int) (i : Int) (W : Int) (H : Int) s) (H * W) (fun i s => s.set i (q i)) (fun s => ((W : Int), (H : Int), s)) (fun _ s => s.length = H * W)
    (fun k i s hI hi => by
      show impl_fieldBy_at_mp_mpGi64_i64_i64.l0 p (k + 1) (W : Int) ((H * W : Nat) : Int) (i : Int) (W : Int) (H : Int) s = _
      have e1 : wrap64 ((i / W : Nat) : Int) = ((i / W : Nat) : Int) := w64n (Nat.le_trans (Nat.div_le_self _ _) (by omega))
      simp only [impl_fieldBy_at_mp_mpGi64_i64_i64.l0]
      rw [if_pos (by omega), if_neg (by omega), tmod_cast, tdiv_cast, e1, hp i hi, Option.bind_some, if_pos (by omega), if_pos (by rw [hI]; omega), w64 (by omega) (by omega), Int.toNat_natCast]
      rfl)
    (fun i s hI _ => by simpa using hI)
    (fun k s hI => by
      show impl_fieldBy_at_mp_mpGi64_i64_i64.l0 p (k + 1) (W : Int) ((H * W : Nat) : Int) ((H * W : Nat) : Int) (W : Int) (H : Int) s = _
      simp only [impl_fieldBy_at_mp_mpGi64_i64_i64.l0]
      rw [if_neg (by omega)]) (H * W) k 0 (List.replicate (H * W) 0) (by omega) (Nat.zero_le _) (by simp) (by omega)
  rw [iter_set_tab 0 q (H * W) _ (by simp)] at h
  exact h
/-- The same, where the function has rounds of its own. -/
theorem fieldBy_ev (P : Nat → Int → Int → Option Int) (q : Nat → Int) (W H : Nat) (hW : 1 ≤ W ∧ W ≤ 8) (hH : 1 ≤ H ∧ H ≤ 8) (hp : ∀ i, i < H * W → Ev (fun k => P k ((i % W : Nat) : Int) ((i / W : Nat) : Int)) (q i)) :
    Ev (fun k => impl_fieldBy_at_mp_mpGi64_i64_i64.f k (P k) (W : Int) (H : Int)) ((W : Int), (H : Int), tab (H * W) q) := by
  obtain ⟨K, hK⟩ := ev_all (fun k i => P k ((i % W : Nat) : Int) ((i / W : Nat) : Int)) q (H * W) hp
  exact ⟨K + 100, fun k hk => fieldBy_at (P k) q W H hW hH (hK k (by omega)) k (by omega)⟩
/-- A valid field's shape in natural numbers. -/
theorem shape_nat {a b : Int} {l : List Int} (f : FieldIs a b l) : ∃ W H : Nat, a = W ∧ b = H ∧ (1 ≤ W ∧ W ≤ 8) ∧ (1 ≤ H ∧ H ≤ 8) ∧ l.length = H * W ∧ H * W ≤ 64 := by
  have a1 := f.a1; have a8 := f.a8; have b1 := f.b1; have b8 := f.b8
  obtain ⟨W, rfl⟩ := Int.eq_ofNat_of_zero_le (show 0 ≤ a by omega)
  obtain ⟨H, rfl⟩ := Int.eq_ofNat_of_zero_le (show 0 ≤ b by omega)
  have hl : l.length = H * W := by have := f.len; rw [Int.mul_comm] at this; exact_mod_cast this
  have := f.len64
  exact ⟨W, H, rfl, rfl, by omega, by omega, hl, by omega⟩
theorem grid_bd {W H i : Nat} (hi : i < H * W) : i % W < W ∧ i / W < H ∧ i / W * W + i % W = i := by
  have hW : 0 < W := by
    rcases Nat.eq_zero_or_pos W with h | h
    · subst h; simp at hi
    · exact h
  refine ⟨Nat.mod_lt i hW, by rw [Nat.div_lt_iff_lt_mul hW]; omega, ?_⟩
  rw [Nat.mul_comm]
  exact Nat.div_add_mod i W
end Go.Proofs.Ytbjbanemmoalhaa.Pure
/- A field whose cells come out of their surroundings, in the program and in the reference; the largest of some values. No conditions. -/
namespace Go.Proofs.Ytbjbanemmoalhaa.Pure
set_option linter.unusedVariables false
set_option linter.unusedSimpArgs false
open Go.RowKit Go.Proofs.Ytbjbanemmoalhaa.P Go.Proofs.YtbjbanemmoalhaaW.PrintWords Go.Proofs.YtbjbanemmoalhaaW.PrintLast Go.Proofs.YtbjbanemmoalhaaW.PrintMore
/-- The values around cell i. -/
def hoodI (W H : Nat) (l : List Int) (r i : Nat) : List Int := colI (hoodC W H l r (i % W) (i / W)) (hoodN W H r (i % W) (i / W))
def hoodS (W H : Nat) (l : List Int) (r i : Nat) : List Int := colS (hoodC W H l r (i % W) (i / W)) (hoodN W H r (i % W) (i / W))
theorem hoodN_le {W H : Nat} (hW : 1 ≤ W ∧ W ≤ 8) (hH : 1 ≤ H ∧ H ≤ 8) (r x y : Nat) : hoodN W H r x y ≤ 64 := Nat.mul_le_mul (show cn H y r ≤ 8 by unfold cn; omega) (show cn W x r ≤ 8 by unfold cn; omega)
theorem hoodI_len {W H : Nat} (hW : 1 ≤ W ∧ W ≤ 8) (hH : 1 ≤ H ∧ H ≤ 8) (l : List Int) (r i : Nat) : (hoodI W H l r i).length ≤ 64 := Nat.le_trans (colI_len _ _) (hoodN_le hW hH r _ _)
theorem hood_perm (W H : Nat) (l : List Int) (r i : Nat) : (hoodS W H l r i).Perm (hoodI W H l r i) := col_perm _ _
theorem hood_sorted (W H : Nat) (l : List Int) (r i : Nat) : (hoodS W H l r i).Pairwise (· ≤ ·) := colS_sorted _ _
section
variable {W H r : Nat} {l : List Int} (hW : 1 ≤ W ∧ W ≤ 8) (hH : 1 ≤ H ∧ H ≤ 8) (hf : FieldIs (W : Int) (H : Int) l) (hl : l.length = H * W) (hr : r ≤ 3)
include hW hH hf hl hr
theorem filter_impl (p : Nat → List Int → Option Int) (q : Nat → Int)
    (hp : ∀ i, i < H * W → (hoodI W H l r i).length ≠ 0 → Ev (fun k => p k (hoodI W H l r i)) (q i)) (h0 : ∀ i, i < H * W → (hoodI W H l r i).length = 0 → q i = -9999) :
    Ev (fun k => impl_filteredField_at_mp_mpOwn.f k (p k) (W : Int) (H : Int) l (r : Int)) ((W : Int), (H : Int), tab (H * W) q, true) := by
  unfold impl_filteredField_at_mp_mpOwn.f
  rw [isValidField_is, within_is, fieldOk_iff.2 hf, inb_iff.2 (show (0 : Int) ≤ (r : Int) ∧ (r : Int) ≤ 3 by omega)]
  refine ev_bind (ev_some _) (ev_ifp rfl (ev_bind (ev_some _) (ev_ifp rfl (ev_bind (fieldBy_ev (fun k => fun z0_ z1_ => impl_filteredField_1_at_mp_mpOwn.f k (p k) z0_ z1_ (W : Int) (H : Int) l (r : Int)) q W H hW hH (fun i hi => ?_)) (ev_some _)))))
  obtain ⟨g1, g2, _⟩ := grid_bd hi
  unfold impl_filteredField_1_at_mp_mpOwn.f
  refine ev_bind (hood_impl hW hH hl hr g1 g2) ?_
  by_cases e : (hoodI W H l r i).length = 0
  · rw [h0 i hi e]
    exact ev_ifp (by show ((hoodI W H l r i).length : Int) = 0; omega) (ev_some _)
  · exact ev_ifn (by show ¬ ((hoodI W H l r i).length : Int) = 0; omega) (ev_bind (hp i hi e) (ev_some _))
theorem filter_spec (mode thr : Int) (q : Nat → Int) (hq : ∀ i, i < H * W → Ev (fun k => spec_l6Result.f k (hoodS W H l r i) mode thr) (q i)) :
    Ev (fun k => spec_l6Filter.f k (W : Int) (H : Int) l (r : Int) mode thr) ((W : Int), (H : Int), tab (H * W) q, true) := by
  have h64 : H * W ≤ 64 := Nat.mul_le_mul hH.2 hW.2
  have h := grid_ev (fun k t v => spec_l6Filter.l0 k (r : Int) mode thr (v : Int) (W : Int) (H : Int) l (W : Int) (H : Int) t)
    (fun k t v u => spec_l6Filter.l1 k (r : Int) mode thr (v : Int) (u : Int) (W : Int) (H : Int) l (W : Int) (H : Int) t) W H
    (fun i (t : List Int) => t ++ [q i]) (fun t => ((W : Int), (H : Int), t, true)) (fun j t => t.length = j)
    (fun v t s hI hv h => ev_step (fun k => by
      simp only [spec_l6Filter.l0]
      rw [if_pos (by omega)]
      rfl) h)
    (fun v u t s hI hv hu h => ?_)
    (fun v u t hI hv hu => by simp; omega)
    (fun v t s hI hv h => ev_step (fun k => by
      simp only [spec_l6Filter.l1]
      rw [if_neg (by omega), w64 (by omega) (by omega)]
      rfl) h)
    (fun t hI => ev_step (f := fun _ => some ((W : Int), (H : Int), t, true)) (fun k => by
      simp only [spec_l6Filter.l0]
      rw [if_neg (by omega)]) (ev_some _)) [] (by simp)
  · rw [iter_app0] at h
    have g1 := l2Good_ev (W : Int) (H : Int) l (by omega)
    rw [fieldOk_iff.2 hf] at g1
    unfold spec_l6Filter.f
    refine ev_bind g1 (ev_ifp rfl (ev_bind (r := true) (ev_const ((l1In_is _ _ _).trans (by rw [inb_iff.2 (show (0 : Int) ≤ (r : Int) ∧ (r : Int) ≤ 3 by omega)]))) (ev_step (fun k => spec_l6Filter.j0.eq_2 _ _ _ _ _ _ _ k) (ev_ifn (by simp) h))))
  · obtain ⟨d1, d2⟩ := div_at (y := v) hu
    have hi := hood_ix hu hv
    have hs := hood_spec hW hH hl hr hu hv
    have hq1 := hq (v * W + u) hi
    unfold hoodS at hq1
    rw [d1, d2] at hq1
    refine ev_step (fun k => spec_l6Filter.l1.eq_2 _ _ _ _ _ _ _ _ _ _ _ k) (ev_ifp (by omega) (ev_bind hs (ev_bind hq1 (ev_ifp (by omega) ?_))))
    rw [w64 (by omega) (by omega)]
    exact h
end
end Go.Proofs.Ytbjbanemmoalhaa.Pure
/- The filter that takes the middle value around each cell: one field in the program and in the reference. No conditions. -/
namespace Go.Proofs.Ytbjbanemmoalhaa.Pure
set_option linter.unusedVariables false
set_option linter.unusedSimpArgs false
open Go.RowKit Go.Proofs.Ytbjbanemmoalhaa.P Go.Proofs.YtbjbanemmoalhaaW.PrintWords Go.Proofs.YtbjbanemmoalhaaW.PrintLast Go.Proofs.YtbjbanemmoalhaaW.PrintMore
theorem sorted_unique : ∀ {s t : List Int}, s.Pairwise (· ≤ ·) → t.Pairwise (· ≤ ·) → s.Perm t → s = t
  | [], t, _, _, hp => (List.nil_perm.1 hp).symm
  | a :: s, [], _, _, hp => absurd (List.perm_nil.1 hp) (by simp)
  | a :: s, b :: t, h1, h2, hp => by
    rw [List.pairwise_cons] at h1 h2
    have ha : a ∈ b :: t := hp.mem_iff.1 (List.mem_cons_self ..)
    have hb : b ∈ a :: s := hp.mem_iff.2 (List.mem_cons_self ..)
    have hab : a = b := by
      rcases List.mem_cons.1 ha with e | e
      · exact e
      · rcases List.mem_cons.1 hb with e2 | e2
        · exact e2.symm
        · exact Int.le_antisymm (h1.1 b e2) (h2.1 a e)
    subst hab
    rw [sorted_unique h1.2 h2.2 (List.perm_cons a |>.1 hp)]
theorem srt_eq {s l : List Int} (hp : s.Perm l) (hs : s.Pairwise (· ≤ ·)) : srt l = s := by
  refine sorted_unique ?_ hs ((List.mergeSort_perm l _).trans hp.symm)
  have := List.pairwise_mergeSort (le := fun x y : Int => decide (x ≤ y)) (fun a b c h1 h2 => by simp only [decide_eq_true_eq] at *; omega) (fun a b => by simp; omega) l
  exact this.imp (fun h => by simpa using h)
def medQ (W H : Nat) (l : List Int) (r i : Nat) : Int := if (hoodS W H l r i).length = 0 then -9999 else rd (hoodS W H l r i) (wrap64 (Int.tdiv (wrap64 (((hoodS W H l r i).length : Int) - 1)) 2))
theorem mid_bd {n : Nat} (h1 : 1 ≤ n) (h2 : n ≤ 1000) : 0 ≤ wrap64 (Int.tdiv (wrap64 ((n : Int) - 1)) 2) ∧ wrap64 (Int.tdiv (wrap64 ((n : Int) - 1)) 2) < (n : Int) := by
  rw [w64 (x := (n : Int) - 1) (by omega) (by omega), Int.tdiv_eq_ediv_of_nonneg (by omega), w64 (by omega) (by omega)]
  omega
section
variable {W H r : Nat} {l : List Int} (hW : 1 ≤ W ∧ W ≤ 8) (hH : 1 ≤ H ∧ H ≤ 8) (hf : FieldIs (W : Int) (H : Int) l) (hl : l.length = H * W) (hr : r ≤ 3)
include hW hH hf hl hr
theorem medF_impl : Ev (fun k => impl_MedianFilter.f k (W : Int) (H : Int) l (r : Int)) ((W : Int), (H : Int), tab (H * W) (medQ W H l r), true) := by
  unfold impl_MedianFilter.f
  refine ev_bind (filter_impl hW hH hf hl hr (fun k z0_ => impl_MedianFilter_1.f z0_) (medQ W H l r) (fun i hi h0 => ev_const ?_) (fun i hi h0 => ?_)) (ev_some _)
  · have hn := hoodI_len hW hH l r i
    have hp := hood_perm W H l r i
    unfold impl_MedianFilter_1.f medQ
    rw [if_pos ⟨by omega, by omega⟩, srt_eq hp (hood_sorted W H l r i), if_neg (by rw [hp.length_eq]; exact h0), hp.length_eq]
  · unfold medQ
    rw [if_pos (by rw [(hood_perm W H l r i).length_eq]; exact h0)]
theorem medF_spec : Ev (fun k => spec_MedianFilter.f k (W : Int) (H : Int) l (r : Int)) ((W : Int), (H : Int), tab (H * W) (medQ W H l r), true) := by
  unfold spec_MedianFilter.f
  refine ev_bind (filter_spec hW hH hf hl hr 4 0 (medQ W H l r) (fun i hi => ?_)) (ev_some _)
  have hn := hoodI_len hW hH l r i
  have e := (hood_perm W H l r i).length_eq
  unfold spec_l6Result.f medQ
  by_cases h0 : (hoodS W H l r i).length = 0
  · rw [if_pos h0]
    exact ev_ifp (by omega) (ev_some _)
  · rw [if_neg h0]
    have m := mid_bd (n := (hoodS W H l r i).length) (by omega) (by omega)
    exact ev_ifn (by omega) (ev_ifn (by omega) (ev_ifn (by omega) (ev_ifp rfl (ev_ifp m.1 (ev_ifp m.2 (ev_some _))))))
end
theorem filtered_no {a b : Int} {l : List Int} {radius mode thr : Int} (p : Nat → List Int → Option Int) (hl : l.length ≤ 9223372036854775806) (h : ¬ (fieldOk a b l = true ∧ inb radius 0 3 = true)) :
    Ev (fun k => impl_filteredField_at_mp_mpOwn.f k (p k) a b l radius) (0, 0, [], false) ∧ Ev (fun k => spec_l6Filter.f k a b l radius mode thr) (0, 0, [], false) := by
  have g1 := l2Good_ev a b l hl
  have no : Ev (fun k => spec_l6Filter.j0 k radius mode thr true a b l) (0, 0, ([] : List Int), false) := ev_step (fun k => spec_l6Filter.j0.eq_2 _ _ _ _ _ _ _ k) (ev_ifp rfl (ev_some _))
  unfold impl_filteredField_at_mp_mpOwn.f spec_l6Filter.f
  rw [isValidField_is, within_is, l1In_is]
  cases hf : fieldOk a b l with
  | false =>
    rw [hf] at g1
    exact ⟨ev_bind (ev_some _) (ev_ifn (by simp) (ev_some _)), ev_bind g1 (ev_ifn (by simp) no)⟩
  | true =>
    rw [hf] at g1
    cases hr : inb radius 0 3 with
    | false => exact ⟨ev_bind (ev_some _) (ev_ifp rfl (ev_bind (ev_some _) (ev_ifn (by simp) (ev_some _)))), ev_bind g1 (ev_ifp rfl (ev_bind (ev_some _) no))⟩
    | true => exact absurd ⟨hf, hr⟩ h
theorem medianFilter_both (a b : Int) (l : List Int) (radius : Int) (hl : l.length ≤ 9223372036854775806) :
    ∃ r, Ev (fun k => spec_MedianFilter.f k a b l radius) r ∧ Ev (fun k => impl_MedianFilter.f k a b l radius) r ∧ r.2.2.1.length ≤ 64 := by
  by_cases h : fieldOk a b l = true ∧ inb radius 0 3 = true
  · have fi := fieldOk_iff.1 h.1
    obtain ⟨W, H, rfl, rfl, hW, hH, hlen, h64⟩ := shape_nat fi
    have hr := inb_iff.1 h.2
    obtain ⟨R, rfl⟩ := Int.eq_ofNat_of_zero_le hr.1
    refine ⟨_, medF_spec hW hH fi hlen (by omega), medF_impl hW hH fi hlen (by omega), ?_⟩
    show (tab (H * W) (medQ W H l R)).length ≤ 64
    rw [tab_length]
    omega
  · obtain ⟨n1, n2⟩ := filtered_no (mode := 4) (thr := 0) (fun k z0_ => impl_MedianFilter_1.f z0_) hl h
    unfold spec_MedianFilter.f impl_MedianFilter.f
    exact ⟨(0, 0, [], false), ev_bind n2 (ev_some _), ev_bind n1 (ev_some _), by simp⟩
end Go.Proofs.Ytbjbanemmoalhaa.Pure
/- What the laws' helpers for lists of whole numbers come to: a copy is the list, equality is equality. No conditions. -/
namespace Go.Proofs.Ytbjbanemmoalhaa.Pure
set_option linter.unusedVariables false
set_option linter.unusedSimpArgs false
open Go.RowKit Go.Proofs.Ytbjbanemmoalhaa.P Go.Proofs.YtbjbanemmoalhaaW.PrintWords Go.Proofs.YtbjbanemmoalhaaW.PrintLast

theorem toIntS_ev (xs : List Int) (hm : xs.length ≤ 35184372088832) : Ev (fun k => laws_toIntS.f k xs) xs := by
  have h := loop_ev (fun k ys i => laws_toIntS.l0 k xs ys (i : Int)) xs.length (fun i ys => ys.set i (xs.getD i 0)) (fun ys => ys)
    (fun i ys => ys.length = xs.length ∧ ∀ j, j < i → ys.getD j 0 = xs.getD j 0)
    (fun i ys r hI hi h => ev_step (fun k => by
      show laws_toIntS.l0 (k + 1) xs ys (i : Int) = laws_toIntS.l0 k xs (ys.set i (xs.getD i 0)) ((i + 1 : Nat) : Int)
      have hl := hI.1
      simp only [laws_toIntS.l0]
      rw [if_pos (by omega), if_pos (by omega), if_pos (by omega), w64 (by omega) (by omega), rd_nat]
      simp) h)
    (fun i ys hI hi => ⟨by simp [hI.1], fun j hj => by
      by_cases e : j = i
      · subst e
        have := hI.1
        simp [List.getD, List.getElem?_set_self (show j < ys.length by omega)]
      · have := hI.2 j (by omega)
        rw [← this]
        simp [List.getD, List.getElem?_set_ne (Ne.symm e)]⟩)
    (fun ys hI => ev_step (f := fun _ => some ys) (fun k => by
      simp only [laws_toIntS.l0]
      rw [if_neg (by omega)]) (ev_some _)) 0 (List.replicate xs.length 0) (Nat.zero_le _) ⟨by simp, fun j hj => by omega⟩
  have e : iter (fun i (ys : List Int) => ys.set i (xs.getD i 0)) 0 (xs.length - 0) (List.replicate xs.length 0) = xs := by
    have hi := iter_inv (fun i (ys : List Int) => ys.set i (xs.getD i 0)) (fun i ys => ys.length = xs.length ∧ ∀ j, j < i → ys.getD j 0 = xs.getD j 0) xs.length
      (fun i ys hI hi => ⟨by simp [hI.1], fun j hj => by
        by_cases e : j = i
        · subst e
          have := hI.1
          simp [List.getD, List.getElem?_set_self (show j < ys.length by omega)]
        · have := hI.2 j (by omega)
          rw [← this]
          simp [List.getD, List.getElem?_set_ne (Ne.symm e)]⟩) (xs.length - 0) 0 (List.replicate xs.length 0) (by omega) ⟨by simp, fun j hj => by omega⟩
    exact eq_index 0 hi.1 (fun j hj => hi.2 j (by have := hi.1; omega))
  rw [e] at h
  refine Ev.congr (fun k => ?_) h
  unfold laws_toIntS.f
  rw [if_pos (by omega), if_pos (by omega)]
  simp

theorem eqIntS_ev (xs ys : List Int) (hm : xs.length ≤ 9223372036854775806) : Ev (fun k => laws_eqIntS.f k xs ys) (decide (xs = ys)) := by
  by_cases hl : xs.length = ys.length
  · have h := allb_ev (fun k i => laws_eqIntS.l0 k xs ys (i : Int)) xs.length (fun i => decide (xs.getD i 0 = ys.getD i 0))
      (fun i r hi hp h => ev_step (fun k => by
        simp only [laws_eqIntS.l0]
        rw [if_pos (by omega), if_pos (by omega), if_pos (by omega), rd_nat, rd_nat, if_pos (by simpa using hp), w64 (by omega) (by omega)]
        rfl) h)
      (fun i hi hp => ev_step (f := fun _ => some false) (fun k => by
        simp only [laws_eqIntS.l0]
        rw [if_pos (by omega), if_pos (by omega), if_pos (by omega), rd_nat, rd_nat, if_neg (by simpa using hp)]) (ev_some _))
      (ev_step (f := fun _ => some true) (fun k => by
        simp only [laws_eqIntS.l0]
        rw [if_neg (by omega)]) (ev_some _))
    rw [rall_eq 0 hl] at h
    refine Ev.congr (fun k => ?_) h
    unfold laws_eqIntS.f
    rw [if_pos (by omega)]
    rfl
  · refine Ev.congr (f := fun _ => some false) (fun k => ?_) (by rw [decide_eq_false (fun e => hl (by rw [e]))]; exact ev_some _)
    unfold laws_eqIntS.f
    rw [if_neg (by omega)]
end Go.Proofs.Ytbjbanemmoalhaa.Pure
/- What the laws' helpers for fields come to: copies, equality, sizes, marks. No conditions. -/
namespace Go.Proofs.Ytbjbanemmoalhaa.Pure
set_option linter.unusedVariables false
set_option linter.unusedSimpArgs false
open Go.RowKit Go.Proofs.Ytbjbanemmoalhaa.P Go.Proofs.YtbjbanemmoalhaaW.PrintWords Go.Proofs.YtbjbanemmoalhaaW.PrintLast
theorem toField_ev (a b : Int) (l : List Int) (hl : l.length ≤ 35184372088832) : Ev (fun k => laws_toField.f k a b l) (a, b, l) := ev_bind (toIntS_ev l hl) (ev_some _)
theorem eqField_ev (a b : Int) (l : List Int) (a' b' : Int) (l' : List Int) (hl : l.length ≤ 9223372036854775806) : Ev (fun k => laws_eqField.f k a b l a' b' l') (decide (a = a' ∧ b = b' ∧ l = l')) := by
  unfold laws_eqField.f
  by_cases h1 : a = a'
  · refine ev_ifp h1 ?_
    by_cases h2 : b = b'
    · refine ev_ifp h2 (ev_bind (eqIntS_ev l l' hl) ?_)
      by_cases h3 : l = l'
      · simp only [h1, h2, h3, decide_true, and_self, if_true]
        exact ev_some _
      · simp only [h3, decide_false, and_false, Bool.false_eq_true, if_false]
        exact ev_some _
    · simp only [h2, false_and, and_false, decide_false, if_false]
      exact ev_some _
  · simp only [h1, false_and, decide_false, if_false]
    exact ev_some _
theorem eqField_self (a b : Int) (l : List Int) (hl : l.length ≤ 9223372036854775806) : Ev (fun k => laws_eqField.f k a b l a b l) true := by
  have := eqField_ev a b l a b l hl
  simpa using this
theorem szInt_is (l : List Int) (a : Int) (ha : 0 ≤ a) (ha2 : a ≤ 1048576) (hl : l.length ≤ 9223372036854775807) : laws_szIntS.f l a = some (if a < l.length then -1 else a - l.length) := by
  unfold laws_szIntS.f
  rw [w64 (by omega) (by omega)]
  split
  · rw [if_pos (by omega)]
  · rw [if_neg (by omega)]
theorem szField_at (a b : Int) (l : List Int) (s : Int) (hs : 0 ≤ s) (hs2 : s ≤ 1048576) (hl : l.length ≤ 9223372036854775807) : laws_szField.f a b l s = some (if s < l.length then -1 else s - l.length) := by
  unfold laws_szField.f
  rw [szInt_is l s hs hs2 hl]
  by_cases h : s < (l.length : Int)
  · simp [h]
  · rw [if_neg h, Option.bind_some, if_neg (by omega)]
/-- The law's guard on a field's size: too large, or the list is short. -/
theorem szField_go (a b : Int) (l : List Int) (s : Int) (hs : 0 ≤ s) (hs2 : s ≤ 1048576) (hl : l.length ≤ 9223372036854775807) :
    (∃ r, laws_szField.f a b l s = some r ∧ r < 0) ∨ ∃ r, laws_szField.f a b l s = some r ∧ ¬ r < 0 ∧ 0 ≤ r ∧ r ≤ 1048576 ∧ l.length ≤ 1048576 := by
  rw [szField_at a b l s hs hs2 hl]
  by_cases h : s < (l.length : Int)
  · rw [if_pos h]
    exact .inl ⟨_, rfl, by omega⟩
  · rw [if_neg h]
    exact .inr ⟨_, rfl, by omega, by omega, by omega, by omega⟩
end Go.Proofs.Ytbjbanemmoalhaa.Pure
/- What the laws' marks come to: a row that is written with numbers rising from a is held by the same count. No conditions. -/
namespace Go.Proofs.Ytbjbanemmoalhaa.Pure
set_option linter.unusedVariables false
set_option linter.unusedSimpArgs false
open Go.RowKit Go.Proofs.Ytbjbanemmoalhaa.P Go.Proofs.YtbjbanemmoalhaaW.PrintWords Go.Proofs.YtbjbanemmoalhaaW.PrintLast
/-- n numbers rising from a. -/
def cnt (a : Int) (n : Nat) : List Int := (List.range n).map (fun i : Nat => a + (i : Int))
theorem cnt_length (a : Int) (n : Nat) : (cnt a n).length = n := by simp [cnt]
theorem cnt_getD (a : Int) (n i : Nat) (h : i < n) : (cnt a n).getD i 0 = a + i := by simp [cnt, List.getD, h]
theorem markIntS_ev (l : List Int) (a : Int) (h0 : 0 ≤ a) (h1 : a + l.length ≤ 9223372036854775806) : Ev (fun k => laws_markIntS.f k l a) (a + l.length, cnt a l.length) := by
  have h := loop_ev (fun k s i => laws_markIntS.l0 k s (a + (i : Int)) (i : Int)) l.length (fun i s => s.set i (a + i)) (fun s => (a + (l.length : Int), s))
    (fun i s => s.length = l.length ∧ ∀ j, j < i → s.getD j 0 = a + j)
    (fun i s r hI hi h => ev_step (fun k => by
      show laws_markIntS.l0 (k + 1) s (a + (i : Int)) (i : Int) = laws_markIntS.l0 k (s.set i (a + i)) (a + ((i + 1 : Nat) : Int)) ((i + 1 : Nat) : Int)
      have := hI.1
      simp only [laws_markIntS.l0]
      rw [if_pos (by omega), if_pos (by omega), w64 (by omega) (by omega), w64 (by omega) (by omega)]
      simp [Int.add_assoc]) h)
    (fun i s hI hi => ⟨by simp [hI.1], fun j hj => by
      by_cases e : j = i
      · subst e
        have := hI.1
        simp [List.getD, List.getElem?_set_self (show j < s.length by omega)]
      · have := hI.2 j (by omega)
        rw [← this]
        simp [List.getD, List.getElem?_set_ne (Ne.symm e)]⟩)
    (fun s hI => ev_step (f := fun _ => some (a + (l.length : Int), s)) (fun k => by
      have := hI.1
      simp only [laws_markIntS.l0]
      rw [if_neg (by omega)]) (ev_some _)) 0 l (Nat.zero_le _) ⟨rfl, fun j hj => by omega⟩
  have e : iter (fun i (s : List Int) => s.set i (a + i)) 0 (l.length - 0) l = cnt a l.length := by
    have hi := iter_inv (fun i (s : List Int) => s.set i (a + i)) (fun i s => s.length = l.length ∧ ∀ j, j < i → s.getD j 0 = a + j) l.length
      (fun i s hI hi => ⟨by simp [hI.1], fun j hj => by
        by_cases e : j = i
        · subst e
          have := hI.1
          simp [List.getD, List.getElem?_set_self (show j < s.length by omega)]
        · have := hI.2 j (by omega)
          rw [← this]
          simp [List.getD, List.getElem?_set_ne (Ne.symm e)]⟩) (l.length - 0) 0 l (by omega) ⟨rfl, fun j hj => by omega⟩
    exact eq_index 0 (by rw [hi.1, cnt_length]) (fun j hj => by rw [hi.2 j (by have := hi.1; omega), cnt_getD a _ j (by have := hi.1; omega)])
  rw [e] at h
  refine Ev.congr (fun k => ?_) h
  unfold laws_markIntS.f
  simp
theorem heldIntS_ev (a : Int) (n : Nat) (h0 : 0 ≤ a) (h1 : a + n ≤ 9223372036854775806) : Ev (fun k => laws_heldIntS.f k (cnt a n) a) (a + n) := by
  have h := loop_ev (σ := Unit) (fun k _ i => laws_heldIntS.l0 k (cnt a n) (a + (i : Int)) (i : Int)) n (fun _ _ => ()) (fun _ => a + (n : Int)) (fun _ _ => True)
    (fun i s r _ hi h => ev_step (fun k => by
      show laws_heldIntS.l0 (k + 1) (cnt a n) (a + (i : Int)) (i : Int) = laws_heldIntS.l0 k (cnt a n) (a + ((i + 1 : Nat) : Int)) ((i + 1 : Nat) : Int)
      simp only [laws_heldIntS.l0, cnt_length, rd_nat, cnt_getD a n i hi]
      rw [if_pos (by omega), if_pos (by omega), if_pos trivial, w64 (by omega) (by omega), w64 (by omega) (by omega)]
      simp [Int.add_assoc]) h)
    (fun _ _ _ _ => trivial)
    (fun _ _ => ev_step (f := fun _ => some (a + (n : Int))) (fun k => by
      simp only [laws_heldIntS.l0, cnt_length]
      rw [if_neg (by omega)]) (ev_some _)) 0 () (Nat.zero_le _) trivial
  refine Ev.congr (fun k => ?_) h
  unfold laws_heldIntS.f
  simp
end Go.Proofs.Ytbjbanemmoalhaa.Pure
/- The marks of a field's row. No conditions. -/
namespace Go.Proofs.Ytbjbanemmoalhaa.Pure
set_option linter.unusedVariables false
set_option linter.unusedSimpArgs false
open Go.RowKit Go.Proofs.Ytbjbanemmoalhaa.P Go.Proofs.YtbjbanemmoalhaaW.PrintWords Go.Proofs.YtbjbanemmoalhaaW.PrintLast
theorem markField_ev (x y : Int) (l : List Int) (a : Int) (h0 : 0 ≤ a) (h1 : a + l.length ≤ 9223372036854775806) : Ev (fun k => laws_markField.f k x y l a) (a + l.length, cnt a l.length) := ev_bind (markIntS_ev l a h0 h1) (ev_some _)
end Go.Proofs.Ytbjbanemmoalhaa.Pure
/- What holds of a field's marks. No conditions. -/
namespace Go.Proofs.Ytbjbanemmoalhaa.Pure
set_option linter.unusedVariables false
set_option linter.unusedSimpArgs false
open Go.RowKit Go.Proofs.Ytbjbanemmoalhaa.P Go.Proofs.YtbjbanemmoalhaaW.PrintWords Go.Proofs.YtbjbanemmoalhaaW.PrintLast
theorem heldField_ev (x y : Int) (n : Nat) (a : Int) (h0 : 0 ≤ a) (h1 : a + n ≤ 9223372036854775806) : Ev (fun k => laws_heldField.f k x y (cnt a n) a) (a + n) :=
  ev_bind (heldIntS_ev a n h0 h1) (ev_ifn (by omega) (ev_some _))
end Go.Proofs.Ytbjbanemmoalhaa.Pure
/- The program's MedianFilter returns what the reference's MedianFilter returns, for all arguments; no conditions. -/
namespace Go.Proofs.Ytbjbanemmoalhaa.Pure
set_option linter.unusedVariables false
set_option linter.unusedSimpArgs false
open Go.RowKit Go.Proofs.Ytbjbanemmoalhaa.P Go.Proofs.YtbjbanemmoalhaaW.PrintWords Go.Proofs.YtbjbanemmoalhaaW.PrintLast
theorem FnExactMedianFilter : laws_FnExactMedianFilter.Pure := by
  intro a b l radius ha hb hl hr
  refine Ev.rounds ?_
  unfold laws_FnExactMedianFilter.f
  rcases szField_go a b l 1048576 (by first | omega | (dsimp only; omega) | (simp; omega)) (by first | omega | (dsimp only; omega) | (simp; omega)) (hl.1) with ⟨rz1, ez1, hz1⟩ | ⟨rz1, ez1, hz1, hza1, hzb1, hlz1⟩
  · exact ev_bind (ev_const ez1) (ev_ifp hz1 (ev_some _))
  refine ev_bind (ev_const ez1) ?_
  refine ev_ifn hz1 ?_
  obtain ⟨⟨ra, rb, rs, g⟩, hs, hi, hlen⟩ := medianFilter_both a b l radius (by omega); simp only at hlen
  refine ev_bind (toField_ev _ _ _ (by first | omega | (dsimp only; omega) | (simp; omega))) ?_
  refine ev_bind hs ?_
  refine ev_bind (toField_ev _ _ _ (by first | omega | (dsimp only; omega) | (simp; omega))) ?_
  refine ev_bind hi ?_
  refine ev_bind (eqField_self _ _ _ (by first | omega | (dsimp only; omega) | (simp; omega))) ?_
  refine ev_ifp rfl ?_
  refine ev_step (fun k => laws_FnExactMedianFilter.j0.eq_2 _ _ _ _ _ _ _ _ _ _ _ _ _ _ _ _ k) ?_
  refine ev_ifn (by simp) ?_
  refine ev_bind (toField_ev _ _ _ (by first | omega | (dsimp only; omega) | (simp; omega))) ?_
  refine ev_bind (eqField_self _ _ _ (by first | omega | (dsimp only; omega) | (simp; omega))) ?_
  refine ev_ifp rfl ?_
  refine ev_bind (markField_ev _ _ _ _ (by first | omega | (dsimp only; omega) | (simp; omega)) (by first | omega | (dsimp only; omega) | (simp; omega))) ?_
  refine ev_ifn (by first | (simp; done) | (simp; omega) | omega) ?_
  refine ev_bind (eqField_self _ _ _ (by first | omega | (dsimp only; omega) | (simp; omega))) ?_
  refine ev_ifp rfl ?_
  refine ev_step (fun k => laws_FnExactMedianFilter.j1.eq_2 _ _ _ _ _ _ _ _ _ _ _ _ k) ?_
  refine ev_ifn (by simp) ?_
  refine ev_bind (markField_ev _ _ _ _ (by first | omega | (dsimp only; omega) | (simp; omega)) (by first | omega | (dsimp only; omega) | (simp; omega))) ?_
  refine ev_bind (heldField_ev _ _ _ _ (by first | omega | (dsimp only; omega) | (simp; omega)) (by first | omega | (dsimp only; omega) | (simp; omega))) ?_
  refine ev_ifn (by first | (simp; done) | (simp; omega) | omega) ?_
  refine ev_ifp (by first | rfl | (simp; done)) ?_
  refine ev_bind (toField_ev _ _ _ (by first | omega | (dsimp only; omega) | (simp; omega))) ?_
  refine ev_bind hi ?_
  refine ev_bind (eqField_self _ _ _ (by first | omega | (dsimp only; omega) | (simp; omega))) ?_
  refine ev_ifp rfl ?_
  refine ev_step (fun k => laws_FnExactMedianFilter.j2.eq_2 _ _ _ _ _ k) ?_
  refine ev_ifn (by simp) ?_
  refine ev_bind (heldField_ev _ _ _ _ (by first | omega | (dsimp only; omega) | (simp; omega)) (by first | omega | (dsimp only; omega) | (simp; omega))) ?_
  refine ev_ifn (by first | (simp; done) | (simp; omega) | omega) ?_
  refine ev_ifp (by first | rfl | (simp; done)) ?_
  exact ev_some _
end Go.Proofs.Ytbjbanemmoalhaa.Pure
/- The law FnExactMedianFilter answers true whatever its arguments are; no conditions. (Written by mp.py out of the plain law and the walk.) -/
namespace Go.Proofs.Ytbjbanemmoalhaa.fnExactMedianFilter
open Go.ChangeShapes Go.WideShapes Go.ChangeAt Go.RowKit Go.Proofs.Ytbjbanemmoalhaa.Open Go.Proofs.Ytbjbanemmoalhaa.P Go.Proofs.YtbjbanemmoalhaaW.PrintWords
open Go.ChangeMaps (open_string shut_string)
set_option linter.unusedVariables false
theorem own : ownKnob Try.prog.godebug = none := by kernel_rfl
theorem laidOut : laidOutB Try.prog = true := by kernel_rfl
set_option maxRecDepth 100000 in
theorem lifted (os : Os) (started : os.Started) (H : Type) (enc : TypeId × Value → H) :
    ReturnsInHanded {} Try.checked os 6 .any (Rows.fnExactMedianFilterSpec.pre6 enc Try.prog Try.f6 Rows.fnExactMedianFilterRow.domain false) (Rows.fnExactMedianFilterSpec.post enc Try.prog Try.f6 false true false false) := by
  refine returnsInHanded_of_change_sized (C := Try.checked) own started (by kernel_rfl) Try.func6
    (ChangeSpec.witness6 (enc := enc) (C := Try.checked) false ⟨#[], #[.agg #[.int .i64 0, .int .i64 0, .slice none 0 0], .int .i64 0], []⟩ 8 (by kernel_rfl) (by kernel_rfl) (by kernel_rfl) (by kernel_rfl)) ?_
  intro W base args ds gs before hval0 hW hcnd hsz0 _
  have hsz : (DataW.weightsEach Try.prog (Try.f6.params.toList ++ Rows.fnExactMedianFilterSpec.plain.varTypes Try.prog) (ds ++ gs)).all (· ≤ reachBytes) = true := hsz0
  have hval : ∀ (j : Nat) t v, Try.f6.params[j]? = some t → args[j]? = some v → Value.okWide Try.prog W .any base t v := hval0
  have hW' := hW
  obtain ⟨p, q, hA0, hV, rfl, hfz, hnd⟩ := hW
  have hA : DataW.TrodAll enc Try.prog W 0 (fun _ => true) true Try.f6.params.toList args.toList ds p := hA0
  rw [Try.params6] at hA hval hsz
  obtain ⟨v0, vs0, d0, ds0, p0, q0, hargs, rfl, rfl, h0, r0⟩ := trodAll_cons hA
  obtain ⟨v1, vs1, d1, ds1, p1, q1, rfl, rfl, rfl, h1, r1⟩ := trodAll_cons r0
  obtain ⟨rfl, rfl, rfl⟩ := trodAll_nil r1
  obtain rfl : args = #[v0, v1] := by cases args; simp_all
  obtain ⟨rfl, rfl⟩ := trodVars_none hV
  have k0 := h0
  have lt0 : ∀ x ∈ p0, x.block < W.heap.size := by obtain ⟨m, hm⟩ := k0; exact DataW.trod_lt m _ _ _ hm
  obtain ⟨u0_0, u0_1, u0_2, b0_0, b0_1, b0_2, rfl, K0_0, w0_0, K0_1, w0_1, K0_2, w0_2⟩ := agg3_at Try.underlying40 (by kernel_rfl) (by kernel_rfl) (opens_int Try.underlying3) (opens_int Try.underlying3) (opens_slice Try.underlying22 (by kernel_rfl) (opens_int Try.underlying3)) (hval 0 40 v0 rfl rfl) h0
  obtain rfl := int_cell K0_0
  obtain rfl := int_cell K0_1
  obtain ⟨A0_2, c0_2, rfl, hc0_2, hr0_2⟩ := slice_cell K0_2
  obtain ⟨a1, rfl, rfl, rfl, w1⟩ := open_int Try.underlying3 (hval 1 3 v1 rfl rfl) h1
  clear hA0 hval0 hsz0 hsz
  obtain ⟨k, hp⟩ := Pure.FnExactMedianFilter b0_0 b0_1 b0_2 a1 w0_0 w0_1 w0_2 w1
  refine (laws_FnExactMedianFilter.calls k b0_0 b0_1 A0_2 c0_2 b0_2 a1 true W hr0_2 hc0_2 hp).mono fun e W' ⟨he, bel0⟩ => ?_
  have bel : Below W.heap.size W W' := bel0
  subst he
  exact ⟨_, rfl, _, _, _, [], _, [], hW', trodAll_mk1 (shut_bool Try.underlying4 _), (trodAll_cons_mk (Below.trod laidOut (by kernel_rfl) (of_decide_eq_true (by kernel_rfl)) k0 bel lt0) (trodAll_cons_mk (shut_int Try.underlying3 w1) trodAll_mk0)), rfl, bel.frame _, fun h => by cases h⟩
set_option maxHeartbeats 4000000 in
set_option maxRecDepth 100000 in
theorem closed : joinedFacts Try.prog 6 Try.f6 Rows.fnExactMedianFilterSpec Rows.fnExactMedianFilterRow = true := by
  unfold joinedFacts
  repeat' (with_reducible refine Bool.and_eq_true_iff.2 ⟨?_, ?_⟩)
  all_goals (as_aux_lemma => kernel_rfl)
theorem over : Rows.fnExactMedianFilterRow.holds Try.pinned (OpenSpec.ofChange Rows.fnExactMedianFilterSpec) :=
  OpenClaim.holds_of_wide 6 Try.f6 rfl rfl rfl rfl rfl rfl rfl ⟨rfl, rfl, rfl, rfl, rfl⟩ rfl rfl rfl rfl rfl (by kernel_rfl) Try.func6 closed
    (of_decide_eq_true (by kernel_rfl)) (by unfold Func.isWrapper; first | (rw [if_pos (by decide +kernel)]; kernel_rfl) | (rw [if_neg (by decide +kernel)]; exact ⟨rfl, rfl⟩))
    (fun os started H enc _ => lifted os started H enc)
theorem proved : Rows.FnExactMedianFilterSaid := over
#print axioms proved
end Go.Proofs.Ytbjbanemmoalhaa.fnExactMedianFilter
namespace Go.Proofs.Ytbjbanemmoalhaa
/-- The row, under a short name, for the claim. -/
theorem fnExactMedianFilter_holds : Rows.FnExactMedianFilterSaid := fnExactMedianFilter.proved
end Go.Proofs.Ytbjbanemmoalhaa
