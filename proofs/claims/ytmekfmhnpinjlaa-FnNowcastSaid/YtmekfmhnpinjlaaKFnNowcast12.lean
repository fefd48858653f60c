/- Texts of the claim FnNowcast, merged: part 12 of 13: the program's and the reference's functions as Lean functions, the walks that show it, and plain lemmas; no conditions. -/
import Derived.Test.YtmekfmhnpinjlaaKFnNowcast2
import Derived.ProofKit
import Derived.OpenShut
import Derived.Deep.Slices
import Derived.Deep.Strs
import Derived.Deep.Fields
import Derived.Lib.SmallJoins
import Derived.Test.YtmekfmhnpinjlaaKFnNowcast3
import Derived.Test.YtmekfmhnpinjlaaKFnNowcast4
import Derived.Test.YtmekfmhnpinjlaaKFnNowcast6
import Derived.Test.YtmekfmhnpinjlaaKFnNowcast8
import Derived.Test.YtmekfmhnpinjlaaKFnNowcast5
import Derived.Test.YtmekfmhnpinjlaaKFnNowcast10
import Derived.Test.YtmekfmhnpinjlaaKFnNowcast7
import Derived.Test.YtmekfmhnpinjlaaKFnNowcast9
import Derived.Laws.BitsLemmas
import Derived.Laws.Bits64
namespace Go.Proofs.Ytmekfmhnpinjlaa.Open
open Go.ChangeShapes Go.WideShapes Go.RowKit Go.Deep Go.Joins Go.Proofs.YtmekfmhnpinjlaaW.PrintWords
def Opens {α : Type} (P : Program) (t : TypeId) (d : Kd α) (wf : α → Prop) : Prop :=
  ∀ {H : Type} {enc : TypeId × Value → H} {W : World} {fuel : Nat} {cs : List Value} {x : DataW H × List MemPlace},
    DataW.trod enc P W 0 (fun _ => true) true fuel t cs = some x → ∃ y, d.K W y cs ∧ wf y
theorem opens_int {P : Program} {t : TypeId} {k : IntKind} (h : P.underlying t = some (.int k)) : Opens P t (Kd.int k) (fun n => (Lit.int k n).wf = true) := by
  intro H enc W fuel cs x hx
  obtain ⟨n, rfl, _, hw⟩ := DataW.trod_int h hx
  exact ⟨n, rfl, hw⟩
theorem list_of {α : Type} {p : Nat → α → Prop} : ∀ (n : Nat), (∀ i, i < n → ∃ y, p i y) → ∃ ys : List α, ys.length = n ∧ ∀ (i : Nat) (y : α), ys[i]? = some y → p i y
  | 0, _ => ⟨[], rfl, fun i y h => by simp at h⟩
  | n + 1, h => by
    obtain ⟨ys, hl, hy⟩ := list_of n (fun i hi => h i (by omega))
    obtain ⟨y, hp⟩ := h n (by omega)
    refine ⟨ys ++ [y], by simp [hl], fun i z hz => ?_⟩
    by_cases hi : i < n
    · rw [List.getElem?_append_left (by omega)] at hz
      exact hy i z hz
    · have hi2 : i = n := by
        have := (List.getElem?_eq_some_iff.1 hz).1
        simp [hl] at this
        omega
      subst hi2
      rw [List.getElem?_append_right (by omega), hl] at hz
      simp at hz
      subst hz
      exact hp
theorem opens_slice {α : Type} {P : Program} {t e : TypeId} {d : Kd α} {wf : α → Prop} (h : P.underlying t = some (.slice e)) (hc : P.cellsOf e = d.sz) (he : Opens P e d wf) :
    Opens P t (Kd.slice e d) (fun l => l.length ≤ 9223372036854775807 ∧ ∀ x ∈ l, wf x) := by
  intro H enc W fuel cs x hx
  rcases open_slice h hx with ⟨rfl, _⟩ | ⟨a, len, cap, m, n, D, Pl, rfl, _, hl, hm, hmm, _, hx⟩
  · exact ⟨[], ⟨none, 0, rfl, by simp, Kd.C_nil d W⟩, by simp, by simp⟩
  · obtain ⟨ys, hlen, hy⟩ := list_of (p := fun i y => ∃ cs', W.cells? 0 (a.add (i * P.cellsOf e)) (P.cellsOf e) = some cs' ∧ d.K W y cs' ∧ wf y) len (fun i hi => by
      obtain ⟨cs', h1, h2⟩ := hx i (by rw [hmm]; split <;> omega)
      obtain ⟨y, hK, hw⟩ := he h2
      exact ⟨y, cs', h1, hK, hw⟩)
    have hm' : cap ≤ 9223372036854775807 := by simpa [maxLen] using hm
    refine ⟨ys, ⟨some a, cap, by rw [hlen], by omega, ⟨rfl, by omega, fun _ => ⟨a, rfl, fun j y hj => ?_⟩⟩⟩, by omega, fun y hmem => ?_⟩
    · obtain ⟨cs', h1, hK, _⟩ := hy j y hj
      obtain ⟨_, hl2, hcell⟩ := World.cells?_some h1
      refine ⟨cs', d.K_len hK, hK, fun i u hu => ?_⟩
      have hi : i < P.cellsOf e := by
        have := (List.getElem?_eq_some_iff.1 hu).1
        omega
      rw [← hc, ← Go.Deep.add_add, hcell i hi]
      exact hu
    · obtain ⟨j, hj⟩ := List.getElem?_of_mem hmem
      obtain ⟨_, _, _, hw⟩ := hy j y hj
      exact hw
theorem sized_any {H : Type} {enc : TypeId × Value → H} {P : Program} {W : World} {base : Nat} {spare : Nat → Bool} {held : Bool} {t e : TypeId} {a : Option Addr} {len cap : Nat} {d : DataW H} {ps : List MemPlace} {ts : List TypeId} {ds : List (DataW H)} {j : Nat}
    (hsz : (DataW.weightsEach P ts ds).all (· ≤ reachBytes) = true) (ht : ts[j]? = some t) (hd : ds[j]? = some d) (hu : P.underlying t = some (.slice e)) {B : Nat} (hB : P.bytesOf e = B)
    (h : DataW.Trod enc P W base spare held t (.slice a len cap) d ps) : len * B ≤ 140737488351232 := by
  obtain ⟨fuel, hf⟩ := h
  rcases open_slice hu hf with ⟨hcs, _⟩ | ⟨x, l, c, m, n, D, Pl, hcs, _, hl, _, _, hx, _⟩
  · simp [Value.cells] at hcs
    obtain ⟨rfl, rfl, rfl⟩ := hcs
    simp
  · simp [Value.cells] at hcs
    obtain ⟨rfl, rfl, rfl⟩ := hcs
    obtain ⟨hx, _⟩ := Prod.mk.inj hx
    subst hx
    have z := sized_slice hsz ht hd hu
    rw [hB] at z
    refine Nat.le_trans (Nat.mul_le_mul_right _ ?_) z
    simp
theorem slice_at {α : Type} {P : Program} {W : World} {t e : TypeId} {d : Kd α} {wf : List α → Prop} {H : Type} {enc : TypeId × Value → H} {a : Option Addr} {len cap : Nat} {dd : DataW H} {ps : List MemPlace} (ho : Opens P t (Kd.slice e d) wf)
    (h : DataW.Trod enc P W 0 (fun _ => true) true t (.slice a len cap) dd ps) : ∃ l : List α, len = l.length ∧ l.length ≤ cap ∧ d.C W a l.length l ∧ wf l := by
  obtain ⟨fuel, hf⟩ := h
  obtain ⟨l, ⟨A, c, hcs, hl, hC⟩, hw⟩ := ho hf
  simp [Value.cells] at hcs
  obtain ⟨rfl, rfl, rfl⟩ := hcs
  exact ⟨l, rfl, hl, hC, hw⟩
section
variable {P : Program} {t : TypeId} {W : World} {H : Type} {enc : TypeId × Value → H} {r : Reach} {b0 : Nat} {v : Value} {d : DataW H} {p : List MemPlace}
end
end Go.Proofs.Ytmekfmhnpinjlaa.Open
namespace Go.Proofs.Ytmekfmhnpinjlaa.P
open Go.RowKit Go.Proofs.YtmekfmhnpinjlaaW.PrintWords Go.Proofs.YtmekfmhnpinjlaaW.PrintLast Go.Proofs.YtmekfmhnpinjlaaW.PrintMore
attribute [local go_sem] max2_int min2_int max_two min_two max_three min_three max_four min_four
set_option linter.unusedVariables false
set_option linter.unusedSimpArgs false
open Go.Proofs.Ytmekfmhnpinjlaa.Open
end Go.Proofs.Ytmekfmhnpinjlaa.P
namespace Go.Proofs.Ytmekfmhnpinjlaa.Pure
set_option linter.unusedVariables false
set_option linter.unusedSimpArgs false
open Go.RowKit Go.Proofs.YtmekfmhnpinjlaaW.PrintWords Go.Proofs.YtmekfmhnpinjlaaW.PrintLast Go.Proofs.YtmekfmhnpinjlaaW.PrintMore
theorem w64 {x : Int} (h0 : -9223372036854775808 ≤ x) (h1 : x ≤ 9223372036854775807) : wrap64 x = x := by
  unfold wrap64
  omega
theorem w64n {n : Nat} (h : n ≤ 9223372036854775807) : wrap64 (n : Int) = (n : Int) := w64 (by omega) (by omega)
theorem rd_nat (xs : List Int) (i : Nat) : rd xs (i : Int) = xs.getD i 0 := by simp [rd]
section
variable {α β : Type} {f g : Nat → Option α} {r : α}
theorem ev_some (r : α) : Ev (fun _ => some r) r := ⟨0, fun _ _ => rfl⟩
theorem ev_ifp {c : Prop} [Decidable c] (h : c) (k : Ev f r) : Ev (fun n => if c then f n else g n) r := Ev.congr (fun _ => if_pos h) k
theorem ev_ifn {c : Prop} [Decidable c] (h : ¬ c) (k : Ev g r) : Ev (fun n => if c then f n else g n) r := Ev.congr (fun _ => if_neg h) k
theorem ev_bind {F : Nat → α → Option β} {q : β} (h : Ev g r) (k : Ev (fun n => F n r) q) : Ev (fun n => (g n).bind (fun x => F n x)) q := by
  obtain ⟨K1, h1⟩ := h
  obtain ⟨K2, h2⟩ := k
  exact ⟨K1 + K2, fun n hn => by show (g n).bind (fun x => F n x) = some q; rw [h1 n (by omega)]; exact h2 n (by omega)⟩
theorem ev_const {a : Option α} (h : a = some r) : Ev (fun _ => a) r := ⟨0, fun _ _ => h⟩
theorem ev_step (h : ∀ k, g (k + 1) = f k) (k : Ev f r) : Ev g r := by
  obtain ⟨K, h1⟩ := k
  refine ⟨K + 1, fun n hn => ?_⟩
  obtain ⟨m, rfl⟩ : ∃ m, n = m + 1 := ⟨n - 1, by omega⟩
  rw [h m]
  exact h1 m (by omega)
end
def iter {σ : Type} (g : Nat → σ → σ) : Nat → Nat → σ → σ
  | _, 0, s => s
  | i, d + 1, s => iter g (i + 1) d (g i s)
theorem loop_ev {σ ρ : Type} (F : Nat → σ → Nat → Option ρ) (n : Nat) (g : Nat → σ → σ) (fin : σ → ρ) (I : Nat → σ → Prop)
    (hs : ∀ i s r, I i s → i < n → Ev (fun k => F k (g i s) (i + 1)) r → Ev (fun k => F k s i) r) (hI : ∀ i s, I i s → i < n → I (i + 1) (g i s))
    (he : ∀ s, I n s → Ev (fun k => F k s n) (fin s)) : ∀ i s, i ≤ n → I i s → Ev (fun k => F k s i) (fin (iter g i (n - i) s)) := by
  have key : ∀ d i s, n - i = d → i ≤ n → I i s → Ev (fun k => F k s i) (fin (iter g i d s)) := by
    intro d
    induction d with
    | zero =>
      intro i s h0 h1 h2
      obtain rfl : i = n := by omega
      exact he s h2
    | succ d ih =>
      intro i s h0 h1 h2
      exact hs i s _ h2 (by omega) (ih (i + 1) (g i s) (by omega) (by omega) (hI i s h2 (by omega)))
  exact fun i s h1 h2 => key (n - i) i s rfl h1 h2
theorem iter_inv {σ : Type} (g : Nat → σ → σ) (I : Nat → σ → Prop) (n : Nat) (hI : ∀ i s, I i s → i < n → I (i + 1) (g i s)) : ∀ d i s, i + d = n → I i s → I n (iter g i d s) := by
  intro d
  induction d with
  | zero => intro i s h0 h1; obtain rfl : i = n := by omega
            exact h1
  | succ d ih => intro i s h0 h1; exact ih (i + 1) _ (by omega) (hI i s h1 (by omega))
def rall (p : Nat → Bool) : Nat → Nat → Bool
  | _, 0 => true
  | i, d + 1 => p i && rall p (i + 1) d
theorem rall_iff (p : Nat → Bool) : ∀ d i, rall p i d = true ↔ ∀ j, i ≤ j → j < i + d → p j = true
  | 0, i => ⟨fun _ j h1 h2 => by omega, fun _ => rfl⟩
  | d + 1, i => by
    show (p i && rall p (i + 1) d) = true ↔ _
    rw [Bool.and_eq_true, rall_iff p d (i + 1)]
    constructor
    · rintro ⟨h0, h1⟩ j h2 h3
      by_cases e : j = i
      · rw [e]; exact h0
      · exact h1 j (by omega) (by omega)
    · intro h
      exact ⟨h i (Nat.le_refl _) (by omega), fun j h2 h3 => h j (by omega) (by omega)⟩
theorem all_ev {ρ : Type} (F : Nat → Nat → Option ρ) (n : Nat) (p : Nat → Bool) (no yes : ρ) (hs : ∀ i r, i < n → p i = true → Ev (fun k => F k (i + 1)) r → Ev (fun k => F k i) r)
    (hn : ∀ i, i < n → p i = false → Ev (fun k => F k i) no) (he : Ev (fun k => F k n) yes) :
    ∀ i, i ≤ n → Ev (fun k => F k i) (if rall p i (n - i) = true then yes else no) := by
  have key : ∀ d i, n - i = d → i ≤ n → Ev (fun k => F k i) (if rall p i d = true then yes else no) := by
    intro d
    induction d with
    | zero =>
      intro i h0 h1
      obtain rfl : i = n := by omega
      rw [show rall p i 0 = true from rfl, if_pos rfl]
      exact he
    | succ d ih =>
      intro i h0 h1
      have h := ih (i + 1) (by omega) (by omega)
      have e : rall p i (d + 1) = (p i && rall p (i + 1) d) := rfl
      cases hp : p i with
      | true =>
        rw [e, hp, Bool.true_and]
        exact hs i _ (by omega) hp h
      | false =>
        rw [e, hp, Bool.false_and, if_neg (by simp)]
        exact hn i (by omega) hp
  exact fun i h1 => key (n - i) i rfl h1
theorem allb_ev (F : Nat → Nat → Option Bool) (n : Nat) (p : Nat → Bool) (hs : ∀ i r, i < n → p i = true → Ev (fun k => F k (i + 1)) r → Ev (fun k => F k i) r)
    (hn : ∀ i, i < n → p i = false → Ev (fun k => F k i) false) (he : Ev (fun k => F k n) true) : Ev (fun k => F k 0) (rall p 0 n) := by
  have h := all_ev F n p false true hs hn he 0 (Nat.zero_le _)
  rw [Nat.sub_zero] at h
  cases e : rall p 0 n <;> simpa [e] using h
theorem getD_eq_get {α : Type} {xs : List α} {i : Nat} (z : α) (h : i < xs.length) : xs.getD i z = xs[i] := by simp [List.getD, List.getElem?_eq_getElem h]
theorem rall_list {α : Type} (xs : List α) (z : α) (p : α → Bool) : rall (fun j => p (xs.getD j z)) 0 xs.length = xs.all p := by
  rw [Bool.eq_iff_iff, rall_iff, List.all_eq_true]
  constructor
  · intro h x hx
    obtain ⟨i, hi, rfl⟩ := List.getElem_of_mem hx
    rw [← getD_eq_get z hi]
    exact h i (Nat.zero_le _) (by omega)
  · intro h j _ hj
    rw [getD_eq_get z (by omega)]
    exact h _ (List.getElem_mem (by omega))
theorem eq_index {α : Type} {xs ys : List α} (z : α) (h : xs.length = ys.length) (hh : ∀ j, j < xs.length → xs.getD j z = ys.getD j z) : xs = ys := by
  refine List.ext_getElem h (fun i h1 h2 => ?_)
  rw [← getD_eq_get z h1, ← getD_eq_get z h2]
  exact hh i h1
theorem iter_add {σ : Type} (g : Nat → σ → σ) : ∀ a i b s, iter g i (a + b) s = iter g (i + a) b (iter g i a s) := by
  intro a
  induction a with
  | zero => intro i b s; rw [Nat.zero_add]; rfl
  | succ a ih =>
    intro i b s
    rw [show a + 1 + b = (a + b) + 1 by omega]
    show iter g (i + 1) (a + b) (g i s) = _
    rw [ih (i + 1) b (g i s)]
    show _ = iter g (i + (a + 1)) b (iter g (i + 1) a (g i s))
    rw [show i + 1 + a = i + (a + 1) by omega]
theorem iter_congr {σ : Type} {g h : Nat → σ → σ} : ∀ d i s, (∀ j s, i ≤ j → j < i + d → g j s = h j s) → iter g i d s = iter h i d s := by
  intro d
  induction d with
  | zero => intro i s _; rfl
  | succ d ih =>
    intro i s hh
    show iter g (i + 1) d (g i s) = iter h (i + 1) d (h i s)
    rw [hh i s (Nat.le_refl _) (by omega)]
    exact ih (i + 1) _ (fun j s h1 h2 => hh j s (by omega) (by omega))
theorem grid_ev {σ ρ : Type} (F0 : Nat → σ → Nat → Option ρ) (F1 : Nat → σ → Nat → Nat → Option ρ) (w h : Nat) (g : Nat → σ → σ) (fin : σ → ρ) (I : Nat → σ → Prop)
    (hout : ∀ y s r, I (y * w) s → y < h → Ev (fun k => F1 k s y 0) r → Ev (fun k => F0 k s y) r)
    (hin : ∀ y x s r, I (y * w + x) s → y < h → x < w → Ev (fun k => F1 k (g (y * w + x) s) y (x + 1)) r → Ev (fun k => F1 k s y x) r)
    (hI : ∀ y x s, I (y * w + x) s → y < h → x < w → I (y * w + (x + 1)) (g (y * w + x) s))
    (hrow : ∀ y s r, I (y * w + w) s → y < h → Ev (fun k => F0 k s (y + 1)) r → Ev (fun k => F1 k s y w) r)
    (hend : ∀ s, I (h * w) s → Ev (fun k => F0 k s h) (fin s)) : ∀ s, I 0 s → Ev (fun k => F0 k s 0) (fin (iter g 0 (h * w) s)) := by
  have row : ∀ d y x s r, w - x = d → x ≤ w → y < h → I (y * w + x) s → Ev (fun k => F0 k (iter g (y * w + x) d s) (y + 1)) r → Ev (fun k => F1 k s y x) r := by
    intro d
    induction d with
    | zero =>
      intro y x s r h0 h1 h2 h3 h4
      obtain rfl : x = w := by omega
      exact hrow y s r h3 h2 h4
    | succ d ih =>
      intro y x s r h0 h1 h2 h3 h4
      exact hin y x s r h3 h2 (by omega) (ih y (x + 1) _ r (by omega) (by omega) h2 (hI y x s h3 h2 (by omega)) h4)
  have rowI : ∀ d y x s, w - x = d → x ≤ w → y < h → I (y * w + x) s → I (y * w + w) (iter g (y * w + x) d s) := by
    intro d
    induction d with
    | zero =>
      intro y x s h0 h1 h2 h3
      obtain rfl : x = w := by omega
      exact h3
    | succ d ih =>
      intro y x s h0 h1 h2 h3
      exact ih y (x + 1) _ (by omega) (by omega) h2 (hI y x s h3 h2 (by omega))
  have key : ∀ d y s, h - y = d → y ≤ h → I (y * w) s → Ev (fun k => F0 k s y) (fin (iter g (y * w) (d * w) s)) := by
    intro d
    induction d with
    | zero =>
      intro y s h0 h1 h2
      obtain rfl : y = h := by omega
      rw [Nat.zero_mul]
      exact hend s h2
    | succ d ih =>
      intro y s h0 h1 h2
      have hb := rowI w y 0 s (by omega) (Nat.zero_le _) (by omega) h2
      have e1 : y * w + w = (y + 1) * w := by rw [Nat.add_mul, Nat.one_mul]
      rw [Nat.add_zero] at hb
      rw [e1] at hb
      have hk := ih (y + 1) _ (by omega) (by omega) hb
      rw [show (d + 1) * w = w + d * w by rw [Nat.add_mul, Nat.one_mul]; omega, iter_add, e1]
      exact hout y s _ h2 (by omega) (row w y 0 s _ (by omega) (Nat.zero_le _) (by omega) h2 hk)
  intro s h0
  have hk := key h 0 s (by omega) (Nat.zero_le _) (by rw [Nat.zero_mul]; exact h0)
  rw [Nat.zero_mul] at hk
  exact hk
def tab {α : Type} (n : Nat) (q : Nat → α) : List α := (List.range n).map q
theorem tab_length {α : Type} (n : Nat) (q : Nat → α) : (tab n q).length = n := by simp [tab]
theorem tab_getD {α : Type} (n : Nat) (q : Nat → α) (z : α) {i : Nat} (h : i < n) : (tab n q).getD i z = q i := by simp [tab, List.getD, h]
theorem tab_mem {α : Type} {n : Nat} {q : Nat → α} {x : α} : x ∈ tab n q ↔ ∃ i, i < n ∧ q i = x := by simp [tab]
theorem iter_set_tab {α : Type} (z : α) (q : Nat → α) (n : Nat) (s : List α) (hs : s.length = n) : iter (fun i (s : List α) => s.set i (q i)) 0 n s = tab n q := by
  have hi := iter_inv (fun i (s : List α) => s.set i (q i)) (fun i s => s.length = n ∧ ∀ j, j < i → s.getD j z = q j) n
    (fun i s hI hi => ⟨by simp [hI.1], fun j hj => by
      by_cases e : j = i
      · subst e
        have := hI.1
        simp [List.getD, List.getElem?_set_self (show j < s.length by omega)]
      · rw [← hI.2 j (by omega)]
        simp [List.getD, List.getElem?_set_ne (Ne.symm e)]⟩) n 0 s (by omega) ⟨hs, fun j hj => by omega⟩
  exact eq_index z (by rw [hi.1, tab_length]) (fun j hj => by rw [hi.2 j (by have := hi.1; omega), tab_getD _ _ z (by have := hi.1; omega)])
theorem loop_at {σ ρ : Type} (F : Nat → σ → Nat → Option ρ) (n : Nat) (g : Nat → σ → σ) (fin : σ → ρ) (I : Nat → σ → Prop)
    (hs : ∀ k i s, I i s → i < n → F (k + 1) s i = F k (g i s) (i + 1)) (hI : ∀ i s, I i s → i < n → I (i + 1) (g i s))
    (he : ∀ k s, I n s → F (k + 1) s n = some (fin s)) : ∀ d k i s, n - i = d → i ≤ n → I i s → d < k → F k s i = some (fin (iter g i d s)) := by
  intro d
  induction d with
  | zero =>
    intro k i s h0 h1 h2 hk
    obtain ⟨k, rfl⟩ : ∃ m, k = m + 1 := ⟨k - 1, by omega⟩
    obtain rfl : i = n := by omega
    exact he k s h2
  | succ d ih =>
    intro k i s h0 h1 h2 hk
    obtain ⟨k, rfl⟩ : ∃ m, k = m + 1 := ⟨k - 1, by omega⟩
    rw [hs k i s h2 (by omega)]
    exact ih k (i + 1) (g i s) (by omega) (by omega) (hI i s h2 (by omega)) (by omega)
theorem ev_all {β : Type} (f : Nat → Nat → Option β) (q : Nat → β) (n : Nat) (h : ∀ i, i < n → Ev (fun k => f k i) (q i)) : ∃ K, ∀ k, K ≤ k → ∀ i, i < n → f k i = some (q i) := by
  induction n with
  | zero => exact ⟨0, fun k _ i hi => by omega⟩
  | succ n ih =>
    obtain ⟨K1, h1⟩ := ih (fun i hi => h i (by omega))
    obtain ⟨K2, h2⟩ := h n (by omega)
    refine ⟨K1 + K2, fun k hk i hi => ?_⟩
    by_cases e : i = n
    · rw [e]; exact h2 k (by omega)
    · exact h1 k (by omega) i (by omega)
end Go.Proofs.Ytmekfmhnpinjlaa.Pure
namespace Go.Proofs.Ytmekfmhnpinjlaa.Pure
set_option linter.unusedVariables false
set_option linter.unusedSimpArgs false
open Go.RowKit Go.Proofs.Ytmekfmhnpinjlaa.P Go.Proofs.YtmekfmhnpinjlaaW.PrintWords Go.Proofs.YtmekfmhnpinjlaaW.PrintLast
def inb (x a b : Int) : Bool := decide (a ≤ x) && decide (x ≤ b)
theorem inb_iff {x a b : Int} : inb x a b = true ↔ a ≤ x ∧ x ≤ b := by simp [inb]
theorem l1In_is (x a b : Int) : spec_l1In.f x a b = some (inb x a b) := by
  unfold spec_l1In.f inb
  split
  · rename_i h; simp [show a ≤ x from h]
  · rename_i h; simp [show ¬ a ≤ x from h]
theorem within_is (x a b : Int) : impl_within.f x a b = some (inb x a b) := l1In_is x a b
theorem mul_bd {a b : Int} (a1 : 1 ≤ a) (a8 : a ≤ 8) (b1 : 1 ≤ b) (b8 : b ≤ 8) : 1 ≤ a * b ∧ a * b ≤ 64 := by
  obtain h | h | h | h | h | h | h | h : a = 1 ∨ a = 2 ∨ a = 3 ∨ a = 4 ∨ a = 5 ∨ a = 6 ∨ a = 7 ∨ a = 8 := by omega
  all_goals subst h; omega
theorem l2Shape_is (a b : Int) : spec_l2Shape.f a b = some (inb a 1 8 && inb b 1 8) := by
  unfold spec_l2Shape.f
  rw [l1In_is, l1In_is]
  cases inb a 1 8 <;> simp
theorem shape_iff {a b : Int} : (inb a 1 8 && inb b 1 8) = true ↔ (1 ≤ a ∧ a ≤ 8) ∧ 1 ≤ b ∧ b ≤ 8 := by rw [Bool.and_eq_true, inb_iff, inb_iff]
def cellOk (x : Int) : Bool := decide (x = -9999) || inb x (-9000) 9000
def fieldOk (a b : Int) (l : List Int) : Bool := inb a 1 8 && (inb b 1 8 && (decide ((l.length : Int) = a * b) && l.all cellOk))
theorem cellOk_bd {x : Int} (h : cellOk x = true) : -9999 ≤ x ∧ x ≤ 9000 := by
  unfold cellOk at h
  rw [Bool.or_eq_true, decide_eq_true_eq, inb_iff] at h
  omega
structure FieldIs (a b : Int) (l : List Int) : Prop where
  a1 : 1 ≤ a
  a8 : a ≤ 8
  b1 : 1 ≤ b
  b8 : b ≤ 8
  len : (l.length : Int) = a * b
  cells : ∀ x ∈ l, cellOk x = true
theorem fieldOk_iff {a b : Int} {l : List Int} : fieldOk a b l = true ↔ FieldIs a b l := by
  unfold fieldOk
  rw [Bool.and_eq_true, Bool.and_eq_true, Bool.and_eq_true, inb_iff, inb_iff, decide_eq_true_eq, List.all_eq_true]
  exact ⟨fun ⟨⟨h1, h2⟩, ⟨h3, h4⟩, h5, h6⟩ => ⟨h1, h2, h3, h4, h5, h6⟩, fun h => ⟨⟨h.a1, h.a8⟩, ⟨h.b1, h.b8⟩, h.len, h.cells⟩⟩
theorem FieldIs.len64 {a b : Int} {l : List Int} (h : FieldIs a b l) : 1 ≤ l.length ∧ l.length ≤ 64 := by
  have := mul_bd h.a1 h.a8 h.b1 h.b8
  have := h.len
  omega
theorem l2Value_is (x : Int) : spec_l2Value.f x = some (cellOk x) := by
  unfold spec_l2Value.f cellOk
  rw [l1In_is]
  by_cases h : x = -9999
  · simp [h]
  · simp [h]
theorem l2Good_ev (a b : Int) (l : List Int) (hl : l.length ≤ 9223372036854775806) : Ev (fun k => spec_l2Good.f k a b l) (fieldOk a b l) := by
  have no : Ev (fun k => spec_l2Good.j0 k true a b l) false := ev_step (f := fun _ => some false) (fun k => by simp [spec_l2Good.j0]) (ev_some _)
  unfold spec_l2Good.f
  rw [l2Shape_is]
  simp only [Option.bind_some]
  by_cases hs : (inb a 1 8 && inb b 1 8) = true
  · refine ev_ifp hs ?_
    obtain ⟨⟨a1, a8⟩, b1, b8⟩ := shape_iff.1 hs
    have hm := mul_bd a1 a8 b1 b8
    rw [w64 (by omega) (by omega)]
    by_cases hl2 : (l.length : Int) = a * b
    · have h := allb_ev (fun k i => spec_l2Good.l0 k (i : Int) a b l) l.length (fun i => cellOk (l.getD i 0))
        (fun i r hi hp hh => ev_step (fun k => by
          simp only [spec_l2Good.l0, l2Value_is, Option.bind_some, rd_nat]
          rw [if_pos (by omega), if_pos (by omega), if_pos hp, w64 (by omega) (by omega)]
          rfl) hh)
        (fun i hi hp => ev_step (f := fun _ => some false) (fun k => by
          simp only [spec_l2Good.l0, l2Value_is, Option.bind_some, rd_nat]
          rw [if_pos (by omega), if_pos (by omega), if_neg (by rw [hp]; decide)]) (ev_some _))
        (ev_step (f := fun _ => some true) (fun k => by
          simp only [spec_l2Good.l0]
          rw [if_neg (by omega)]) (ev_some _))
      rw [rall_list] at h
      have e : fieldOk a b l = l.all cellOk := by
        rw [Bool.and_eq_true] at hs
        simp [fieldOk, hs.1, hs.2, hl2]
      rw [e, show ((l.length : Int) != a * b) = false by rw [bne_eq_false_iff_eq]; exact hl2]
      exact ev_step (f := fun k => spec_l2Good.l0 k 0 a b l) (fun k => by simp [spec_l2Good.j0]) h
    · have e : fieldOk a b l = false := by simp [fieldOk, hl2]
      rw [e, show ((l.length : Int) != a * b) = true by rw [bne_iff_ne]; exact hl2]
      exact no
  · refine ev_ifn hs ?_
    have e : fieldOk a b l = false := by
      cases h1 : inb a 1 8 with
      | false => simp [fieldOk, h1]
      | true =>
        cases h2 : inb b 1 8 with
        | false => simp [fieldOk, h2]
        | true => exact absurd (by rw [h1, h2]; rfl) hs
    rw [e]
    exact no
theorem isValidField_is (a b : Int) (l : List Int) : impl_IsValidField.f a b l = some (fieldOk a b l) := by
  unfold impl_IsValidField.f slices_ContainsFunc_int_at_impl_IsValidField_1.f
  rw [within_is, within_is]
  simp only [Option.bind_some]
  cases h1 : inb a 1 8 with
  | false => simp [fieldOk, h1]
  | true =>
    cases h2 : inb b 1 8 with
    | false => simp [fieldOk, h2]
    | true =>
      have hm := mul_bd (inb_iff.1 h1).1 (inb_iff.1 h1).2 (inb_iff.1 h2).1 (inb_iff.1 h2).2
      rw [w64 (by omega) (by omega)]
      by_cases hl : (l.length : Int) = a * b
      · have e : (!l.any slices_ContainsFunc_int_at_impl_IsValidField_1.p) = l.all cellOk := by
          rw [List.not_any_eq_all_not]
          congr 1
          funext x
          simp [slices_ContainsFunc_int_at_impl_IsValidField_1.p, cellOk, inb]
        simp [fieldOk, h1, h2, hl, e]
      · simp [fieldOk, hl]
theorem filled_is (a b v : Int) (h0 : 1 ≤ a * b) (h1 : a * b ≤ 64) : impl_filled.f a b v = some (a, b, List.replicate (a * b).toNat v) := by
  unfold impl_filled.f slices_Repeat_int_int.f
  rw [w64 (by omega) (by omega), if_pos ⟨rfl, by omega, h1⟩]
  rfl
theorem iter_rep {α : Type} (v : α) : ∀ d i (s : List α), iter (fun _ s => s ++ [v]) i d s = s ++ List.replicate d v
  | 0, i, s => by simp [iter]
  | d + 1, i, s => by
    show iter (fun _ s => s ++ [v]) (i + 1) d (s ++ [v]) = _
    rw [iter_rep v d (i + 1), List.append_assoc, List.replicate_succ]
    rfl
theorem l2Fill_ev (a b v : Int) (h0 : 1 ≤ a * b) (h1 : a * b ≤ 64) : Ev (fun k => spec_l2Fill.f k a b v) (a, b, List.replicate (a * b).toNat v) := by
  obtain ⟨n, hn⟩ := Int.eq_ofNat_of_zero_le (show 0 ≤ a * b by omega)
  have h := loop_ev (fun k s i => spec_l2Fill.l0 k a b v (i : Int) a b s) n (fun _ s => s ++ [v]) (fun s => (a, b, s)) (fun i s => s.length = i)
    (fun i s r hI hi h => ev_step (fun k => by
      simp only [spec_l2Fill.l0]
      rw [w64 (x := a * b) (by omega) (by omega), if_pos (by omega), if_pos (by omega), w64 (by omega) (by omega)]
      rfl) h)
    (fun i s hI _ => by simp [hI])
    (fun s hI => ev_step (f := fun _ => some (a, b, s)) (fun k => by
      simp only [spec_l2Fill.l0]
      rw [w64 (x := a * b) (by omega) (by omega), if_neg (by omega)]) (ev_some _)) 0 [] (Nat.zero_le _) rfl
  rw [iter_rep, List.nil_append, Nat.sub_zero] at h
  rw [hn, Int.toNat_natCast]
  exact h
theorem tdiv_cast (i W : Nat) : Int.tdiv (i : Int) (W : Int) = ((i / W : Nat) : Int) := by rw [Int.tdiv_eq_ediv_of_nonneg (by omega)]; rfl
theorem tmod_cast (i W : Nat) : Int.tmod (i : Int) (W : Int) = ((i % W : Nat) : Int) := by rw [Int.tmod_eq_emod_of_nonneg (by omega)]; rfl
theorem fieldBy_at (p : Int → Int → Option Int) (q : Nat → Int) (W H : Nat) (hW : 1 ≤ W ∧ W ≤ 8) (hH : 1 ≤ H ∧ H ≤ 8) (hp : ∀ i, i < H * W → p ((i % W : Nat) : Int) ((i / W : Nat) : Int) = some (q i)) (k : Nat) (hk : 100 ≤ k) :
    impl_fieldBy_at_mp_mpGi64_i64_i64.f k p (W : Int) (H : Int) = some ((W : Int), (H : Int), tab (H * W) q) := by
  have hm : 1 ≤ (W : Int) * H ∧ (W : Int) * H ≤ 64 := mul_bd (by omega) (by omega) (by omega) (by omega)
  have hn : ((W : Int) * H).toNat = H * W := by rw [← Int.natCast_mul, Int.toNat_natCast, Nat.mul_comm]
  have h64 : H * W ≤ 64 := by have := hm.2; rw [← Int.natCast_mul] at this; rw [Nat.mul_comm]; omega
  unfold impl_fieldBy_at_mp_mpGi64_i64_i64.f
  rw [filled_is _ _ 0 hm.1 hm.2, Option.bind_some, hn]
  show impl_fieldBy_at_mp_mpGi64_i64_i64.l0 p k (W : Int) (((List.replicate (H * W) (0 : Int)).length : Nat) : Int) 0 (W : Int) (H : Int) (List.replicate (H * W) 0) = _
  rw [List.length_replicate]
  have h := loop_at (fun k s i => impl_fieldBy_at_mp_mpGi64_i64_i64.l0 p k (W : Int) ((H * W : Nat) : Int) (i : Int) (W : Int) (H : Int) s) (H * W) (fun i s => s.set i (q i)) (fun s => ((W : Int), (H : Int), s)) (fun _ s => s.length = H * W)
    (fun k i s hI hi => by
      show impl_fieldBy_at_mp_mpGi64_i64_i64.l0 p (k + 1) (W : Int) ((H * W : Nat) : Int) (i : Int) (W : Int) (H : Int) s = _
      have e1 : wrap64 ((i / W : Nat) : Int) = ((i / W : Nat) : Int) := w64n (Nat.le_trans (Nat.div_le_self _ _) (by omega))
      simp only [impl_fieldBy_at_mp_mpGi64_i64_i64.l0]
      rw [if_pos (by omega), if_neg (by omega), tmod_cast, tdiv_cast, e1, hp i hi, Option.bind_some, if_pos (by omega), if_pos (by rw [hI]; omega), w64 (by omega) (by omega), Int.toNat_natCast]
      rfl)
    (fun i s hI _ => by simpa using hI)
    (fun k s hI => by
      show impl_fieldBy_at_mp_mpGi64_i64_i64.l0 p (k + 1) (W : Int) ((H * W : Nat) : Int) ((H * W : Nat) : Int) (W : Int) (H : Int) s = _
      simp only [impl_fieldBy_at_mp_mpGi64_i64_i64.l0]
      rw [if_neg (by omega)]) (H * W) k 0 (List.replicate (H * W) 0) (by omega) (Nat.zero_le _) (by simp) (by omega)
  rw [iter_set_tab 0 q (H * W) _ (by simp)] at h
  exact h
theorem fieldBy_ev (P : Nat → Int → Int → Option Int) (q : Nat → Int) (W H : Nat) (hW : 1 ≤ W ∧ W ≤ 8) (hH : 1 ≤ H ∧ H ≤ 8) (hp : ∀ i, i < H * W → Ev (fun k => P k ((i % W : Nat) : Int) ((i / W : Nat) : Int)) (q i)) :
    Ev (fun k => impl_fieldBy_at_mp_mpGi64_i64_i64.f k (P k) (W : Int) (H : Int)) ((W : Int), (H : Int), tab (H * W) q) := by
  obtain ⟨K, hK⟩ := ev_all (fun k i => P k ((i % W : Nat) : Int) ((i / W : Nat) : Int)) q (H * W) hp
  exact ⟨K + 100, fun k hk => fieldBy_at (P k) q W H hW hH (hK k (by omega)) k (by omega)⟩
theorem shape_nat {a b : Int} {l : List Int} (f : FieldIs a b l) : ∃ W H : Nat, a = W ∧ b = H ∧ (1 ≤ W ∧ W ≤ 8) ∧ (1 ≤ H ∧ H ≤ 8) ∧ l.length = H * W ∧ H * W ≤ 64 := by
  have a1 := f.a1; have a8 := f.a8; have b1 := f.b1; have b8 := f.b8
  obtain ⟨W, rfl⟩ := Int.eq_ofNat_of_zero_le (show 0 ≤ a by omega)
  obtain ⟨H, rfl⟩ := Int.eq_ofNat_of_zero_le (show 0 ≤ b by omega)
  have hl : l.length = H * W := by have := f.len; rw [Int.mul_comm] at this; exact_mod_cast this
  have := f.len64
  exact ⟨W, H, rfl, rfl, by omega, by omega, hl, by omega⟩
theorem grid_bd {W H i : Nat} (hi : i < H * W) : i % W < W ∧ i / W < H ∧ i / W * W + i % W = i := by
  have hW : 0 < W := by
    rcases Nat.eq_zero_or_pos W with h | h
    · subst h; simp at hi
    · exact h
  refine ⟨Nat.mod_lt i hW, by rw [Nat.div_lt_iff_lt_mul hW]; omega, ?_⟩
  rw [Nat.mul_comm]
  exact Nat.div_add_mod i W
def alike (a b : Int) (l : List Int) (a' b' : Int) (l' : List Int) : Bool := fieldOk a b l && (fieldOk a' b' l' && (decide (a = a') && decide (b = b')))
theorem alike_iff {a b : Int} {l : List Int} {a' b' : Int} {l' : List Int} : alike a b l a' b' l' = true ↔ FieldIs a b l ∧ FieldIs a' b' l' ∧ a = a' ∧ b = b' := by
  unfold alike
  rw [Bool.and_eq_true, Bool.and_eq_true, Bool.and_eq_true, decide_eq_true_eq, decide_eq_true_eq, fieldOk_iff, fieldOk_iff]
theorem l2Same_ev (a b : Int) (l : List Int) (a' b' : Int) (l' : List Int) (hl : l.length ≤ 9223372036854775806) (hl' : l'.length ≤ 9223372036854775806) : Ev (fun k => spec_l2Same.f k a b l a' b' l') (alike a b l a' b' l') := by
  unfold spec_l2Same.f alike
  refine ev_bind (l2Good_ev a b l hl) ?_
  cases fieldOk a b l with
  | false => exact ev_ifn (by simp) (ev_some _)
  | true =>
    refine ev_ifp rfl (ev_bind (l2Good_ev a' b' l' hl') ?_)
    cases fieldOk a' b' l' with
    | false => exact ev_ifn (by simp) (ev_some _)
    | true =>
      refine ev_ifp rfl ?_
      by_cases h : a = a'
      · rw [decide_eq_true h]
        refine ev_ifp h (ev_const ?_)
        simp only [Bool.true_and]
        rfl
      · rw [decide_eq_false h]
        exact ev_ifn h (ev_some _)
theorem sameShape_at (a b : Int) (l : List Int) (a' b' : Int) (l' : List Int) : impl_sameShape.f a b l a' b' l' = some (decide (a = a') && decide (b = b')) := by
  unfold impl_sameShape.f
  by_cases h : a = a'
  · rw [if_pos h, decide_eq_true h, Bool.true_and]
    congr 1
  · rw [if_neg h, decide_eq_false h, Bool.false_and]
theorem alike2_ev (a b : Int) (l : List Int) (a' b' : Int) (l' : List Int) : Ev (fun k => impl_areAlike.f k [(⟨a, b, l⟩ : S26), (⟨a', b', l'⟩ : S26)]) (alike a b l a' b' l') := by
  have e2 : ∀ k, impl_areAlike.l0 (k + 1) [(⟨a, b, l⟩ : S26), (⟨a', b', l'⟩ : S26)] [(⟨a, b, l⟩ : S26), (⟨a', b', l'⟩ : S26)] 2 2 = some true := fun k => by
    simp only [impl_areAlike.l0]
    rw [if_neg (by omega)]
  have e1 : ∀ k, impl_areAlike.l0 (k + 1) [(⟨a, b, l⟩ : S26), (⟨a', b', l'⟩ : S26)] [(⟨a, b, l⟩ : S26), (⟨a', b', l'⟩ : S26)] 2 1 = if fieldOk a' b' l' = true then (if (decide (a' = a) && decide (b' = b)) = true then impl_areAlike.l0 k [(⟨a, b, l⟩ : S26), (⟨a', b', l'⟩ : S26)] [(⟨a, b, l⟩ : S26), (⟨a', b', l'⟩ : S26)] 2 2 else some false) else some false := fun k => by
    simp [impl_areAlike.l0, rd_T26, isValidField_is, sameShape_at, w64]
  have e0 : ∀ k, impl_areAlike.l0 (k + 1) [(⟨a, b, l⟩ : S26), (⟨a', b', l'⟩ : S26)] [(⟨a, b, l⟩ : S26), (⟨a', b', l'⟩ : S26)] 2 0 = if fieldOk a b l = true then impl_areAlike.l0 k [(⟨a, b, l⟩ : S26), (⟨a', b', l'⟩ : S26)] [(⟨a, b, l⟩ : S26), (⟨a', b', l'⟩ : S26)] 2 1 else some false := fun k => by
    simp [impl_areAlike.l0, rd_T26, isValidField_is, sameShape_at, w64]
  refine Ev.congr (f := fun k => impl_areAlike.l0 k [(⟨a, b, l⟩ : S26), (⟨a', b', l'⟩ : S26)] [(⟨a, b, l⟩ : S26), (⟨a', b', l'⟩ : S26)] 2 0) (fun k => rfl) (ev_step e0 ?_)
  unfold alike
  cases fieldOk a b l with
  | false => exact ev_ifn (by simp) (ev_some _)
  | true =>
    refine ev_ifp rfl (ev_step e1 ?_)
    cases fieldOk a' b' l' with
    | false => exact ev_ifn (by simp) (ev_some _)
    | true =>
      refine ev_ifp rfl ?_
      by_cases h : a = a'
      · by_cases h2 : b = b'
        · rw [decide_eq_true h, decide_eq_true h2]
          exact ev_ifp (by simp [h, h2]) (ev_step e2 (ev_some _))
        · rw [decide_eq_false h2]
          simp only [Bool.and_false]
          exact ev_ifn (by simp [Ne.symm h2]) (ev_some _)
      · rw [decide_eq_false h]
        simp only [Bool.false_and, Bool.and_false]
        exact ev_ifn (by simp [Ne.symm h]) (ev_some _)
def absZ (x : Int) : Int := if x < 0 then -x else x
def diffStep (u v : List Int) (i : Nat) (s : Int × Int) : Int × Int := if u.getD i 0 = -9999 then s else if v.getD i 0 = -9999 then s else (s.1 + absZ (u.getD i 0 - v.getD i 0), s.2 + 1)
def diffInv (i : Nat) (s : Int × Int) : Prop := 0 ≤ s.1 ∧ s.1 ≤ 20000 * i ∧ 0 ≤ s.2 ∧ s.2 ≤ i
theorem absZ_bd {x y : Int} (hx : -9999 ≤ x ∧ x ≤ 9000) (hy : -9999 ≤ y ∧ y ≤ 9000) : 0 ≤ absZ (x - y) ∧ absZ (x - y) ≤ 18999 := by
  unfold absZ
  split <;> omega
theorem absOf_at (x : Int) (h0 : -9223372036854775807 ≤ x) (h1 : x ≤ 9223372036854775807) : impl_absOf.f x = some (absZ x) := by
  unfold impl_absOf.f absZ
  rw [w64 (by omega) (by omega)]
  split <;> rfl
theorem cell_bd {l : List Int} (hl : ∀ x ∈ l, cellOk x = true) (i : Nat) : -9999 ≤ l.getD i 0 ∧ l.getD i 0 ≤ 9000 := by
  by_cases hi : i < l.length
  · rw [getD_eq_get 0 hi]
    exact cellOk_bd (hl _ (List.getElem_mem hi))
  · simp [List.getD, List.getElem?_eq_none (show l.length ≤ i by omega)]
theorem diffStep_inv {u v : List Int} (hu : ∀ x ∈ u, cellOk x = true) (hv : ∀ x ∈ v, cellOk x = true) (i : Nat) (s : Int × Int) (h : diffInv i s) : diffInv (i + 1) (diffStep u v i s) := by
  obtain ⟨h1, h2, h3, h4⟩ := h
  unfold diffStep
  split
  · exact ⟨h1, by omega, h3, by omega⟩
  · split
    · exact ⟨h1, by omega, h3, by omega⟩
    · have hb := absZ_bd (cell_bd hu i) (cell_bd hv i)
      refine ⟨?_, ?_, ?_, ?_⟩
      · show 0 ≤ s.1 + absZ (u.getD i 0 - v.getD i 0); omega
      · show s.1 + absZ (u.getD i 0 - v.getD i 0) ≤ 20000 * ((i + 1 : Nat) : Int); omega
      · show 0 ≤ s.2 + 1; omega
      · show s.2 + 1 ≤ ((i + 1 : Nat) : Int); omega
def diffs (u v : List Int) : Int × Int := iter (diffStep u v) 0 u.length (0, 0)
theorem differences_ev (a b : Int) (u : List Int) (a' b' : Int) (v : List Int) (hu : ∀ x ∈ u, cellOk x = true) (hv : ∀ x ∈ v, cellOk x = true) (hl : u.length = v.length) (h64 : u.length ≤ 64) :
    Ev (fun k => impl_differences.f k a b u a' b' v) (diffs u v) := by
  exact loop_ev (fun k s i => impl_differences.l0 k s.1 s.2 u (u.length : Int) (i : Int) a' b' v) u.length (diffStep u v) (fun s => s) diffInv
    (fun i s r hI hi h => ev_step (fun k => by
      obtain ⟨h1, h2, h3, h4⟩ := hI
      have b1 := cell_bd hu i
      have b2 := cell_bd hv i
      have hb := absZ_bd b1 b2
      simp only [impl_differences.l0, rd_nat]
      rw [w64 (show -9223372036854775808 ≤ u.getD i 0 - v.getD i 0 by omega) (by omega), absOf_at _ (by omega) (by omega), if_pos (by omega), if_pos (by omega), if_pos (by omega), if_pos (by omega), w64 (show -9223372036854775808 ≤ (i : Int) + 1 by omega) (by omega)]
      simp only [Option.bind_some]
      rw [w64 (show -9223372036854775808 ≤ s.1 + absZ (u.getD i 0 - v.getD i 0) by omega) (by omega), w64 (show -9223372036854775808 ≤ s.2 + 1 by omega) (by omega)]
      unfold diffStep
      split
      · rfl
      · split <;> rfl) h)
    (fun i s hI hi => diffStep_inv hu hv i s hI)
    (fun s hI => ev_step (f := fun _ => some (s.1, s.2)) (fun k => by
      simp only [impl_differences.l0]
      rw [if_neg (by omega)]) (ev_some _)) 0 (0, 0) (Nat.zero_le _) ⟨by omega, by omega, by omega, by omega⟩
theorem l2At_is (a b : Int) (l : List Int) (W H x y : Nat) (ha : a = W) (hx : x < W) (hy : y < H) (hl : l.length = H * W) (h64 : l.length ≤ 64) : spec_l2At.f a b l (x : Int) (y : Int) = some (l.getD (y * W + x) 0) := by
  subst ha
  have h1 : y * W + x < H * W := by
    have : (y + 1) * W ≤ H * W := Nat.mul_le_mul_right W hy
    rw [Nat.add_mul] at this
    omega
  have e : wrap64 ((wrap64 ((y : Int) * (W : Int))) + (x : Int)) = ((y * W + x : Nat) : Int) := by
    have e1 : (y : Int) * (W : Int) = ((y * W : Nat) : Int) := by simp
    rw [e1, w64n (by omega), show ((y * W : Nat) : Int) + (x : Int) = ((y * W + x : Nat) : Int) by simp]
    exact w64n (by omega)
  unfold spec_l2At.f
  rw [e, if_pos (by omega), if_pos (by omega), rd_nat]
theorem l2Has_is (a b : Int) (l : List Int) (x y : Int) (ha : 1 ≤ a ∧ a ≤ 8) (hb : 1 ≤ b ∧ b ≤ 8) : spec_l2Has.f a b l x y = some (inb x 0 (a - 1) && inb y 0 (b - 1)) := by
  unfold spec_l2Has.f
  rw [w64 (by omega) (by omega), w64 (by omega) (by omega), l1In_is, l1In_is]
  cases inb x 0 (a - 1) <;> simp
theorem absS_at (x : Int) (h0 : -9223372036854775807 ≤ x) (h1 : x ≤ 9223372036854775807) : spec_l11Abs.f x = some (absZ x) := by
  unfold spec_l11Abs.f spec_l1Most.f absZ
  rw [w64 (by omega) (by omega)]
  by_cases h : x < 0
  · rw [if_neg (by omega), if_pos h]; rfl
  · by_cases h2 : x = 0
    · subst h2; simp
    · rw [if_pos (by omega), if_neg h]; rfl
def matchStep (W H : Nat) (u v : List Int) (mx my : Int) (i : Nat) (s : Int × Int) : Int × Int :=
  if inb (((i % W : Nat) : Int) + mx) 0 ((W : Int) - 1) = true ∧ inb (((i / W : Nat) : Int) + my) 0 ((H : Int) - 1) = true then
    (if u.getD i 0 = -9999 then s else if v.getD ((((i / W : Nat) : Int) + my).toNat * W + (((i % W : Nat) : Int) + mx).toNat) 0 = -9999 then s else
      (s.1 + absZ (u.getD i 0 - v.getD ((((i / W : Nat) : Int) + my).toNat * W + (((i % W : Nat) : Int) + mx).toNat) 0), s.2 + 1))
  else s
theorem matchStep_inv {W H : Nat} {u v : List Int} {mx my : Int} (hu : ∀ x ∈ u, cellOk x = true) (hv : ∀ x ∈ v, cellOk x = true) (i : Nat) (s : Int × Int) (h : diffInv i s) : diffInv (i + 1) (matchStep W H u v mx my i s) := by
  obtain ⟨h1, h2, h3, h4⟩ := h
  unfold matchStep
  split
  · split
    · exact ⟨h1, by omega, h3, by omega⟩
    · split
      · exact ⟨h1, by omega, h3, by omega⟩
      · have hb := absZ_bd (cell_bd hu i) (cell_bd hv ((((i / W : Nat) : Int) + my).toNat * W + (((i % W : Nat) : Int) + mx).toNat))
        refine ⟨?_, ?_, ?_, ?_⟩
        · show 0 ≤ s.1 + _; omega
        · show s.1 + _ ≤ 20000 * ((i + 1 : Nat) : Int); omega
        · show 0 ≤ s.2 + 1; omega
        · show s.2 + 1 ≤ ((i + 1 : Nat) : Int); omega
  · exact ⟨h1, by omega, h3, by omega⟩
theorem div_at {W y x : Nat} (hx : x < W) : (y * W + x) / W = y ∧ (y * W + x) % W = x := by
  have hW : 0 < W := by omega
  constructor
  · rw [Nat.mul_comm, Nat.mul_add_div hW, Nat.div_eq_of_lt hx, Nat.add_zero]
  · rw [Nat.mul_comm, Nat.mul_add_mod, Nat.mod_eq_of_lt hx]
def matchS (W H : Nat) (u v : List Int) (mx my : Int) : Int × Int := iter (matchStep W H u v mx my) 0 (H * W) (0, 0)
theorem l11Match_ev (a b : Int) (u : List Int) (v : List Int) (mx my : Int) (W H : Nat) (ha : a = W) (hb : b = H) (fu : FieldIs a b u) (fv : FieldIs a b v) (hmx : -2 ≤ mx ∧ mx ≤ 2) (hmy : -2 ≤ my ∧ my ≤ 2) :
    Ev (fun k => spec_l11Match.f k a b u a b v mx my) (matchS W H u v mx my) := by
  have hW : 1 ≤ W ∧ W ≤ 8 := by have := fu.a1; have := fu.a8; omega
  have hH : 1 ≤ H ∧ H ≤ 8 := by have := fu.b1; have := fu.b8; omega
  have hlu : u.length = H * W := by have := fu.len; rw [ha, hb, Int.mul_comm] at this; exact_mod_cast this
  have hlv : v.length = H * W := by have := fv.len; rw [ha, hb, Int.mul_comm] at this; exact_mod_cast this
  have h64 : H * W ≤ 64 := by have := fu.len64; omega
  refine grid_ev (fun k s y => spec_l11Match.l0 k s.1 s.2 (y : Int) a b u a b v mx my) (fun k s y x => spec_l11Match.l1 k s.1 s.2 (y : Int) (x : Int) a b u a b v mx my) W H (matchStep W H u v mx my) (fun s => s) diffInv
    (fun y s r hI hy h => ev_step (fun k => by
      simp only [spec_l11Match.l0]
      rw [if_pos (by omega)]
      rfl) h)
    (fun y x s r hI hy hx h => ?_)
    (fun y x s hI hy hx => matchStep_inv fu.cells fv.cells _ s hI)
    (fun y s r hI hy h => ev_step (fun k => by
      simp only [spec_l11Match.l1]
      rw [if_neg (by omega), w64 (by omega) (by omega)]
      rfl) h)
    (fun s hI => ev_step (f := fun _ => some (s.1, s.2)) (fun k => by
      simp only [spec_l11Match.l0]
      rw [if_neg (by omega)]) (ev_some _)) (0, 0) ⟨by omega, by omega, by omega, by omega⟩
  refine ev_step (fun k => ?_) h
  obtain ⟨h1, h2, h3, h4⟩ := hI
  have hyx : y * W + x < H * W := by
    have : (y + 1) * W ≤ H * W := Nat.mul_le_mul_right W hy
    rw [Nat.add_mul] at this
    omega
  obtain ⟨d1, d2⟩ := div_at (y := y) hx
  simp only [spec_l11Match.l1]
  rw [if_pos (by omega), w64 (show -9223372036854775808 ≤ (x : Int) + mx by omega) (by omega), w64 (show -9223372036854775808 ≤ (y : Int) + my by omega) (by omega), l2Has_is a b v _ _ ⟨fv.a1, fv.a8⟩ ⟨fv.b1, fv.b8⟩,
    w64 (show -9223372036854775808 ≤ (x : Int) + 1 by omega) (by omega)]
  simp only [Option.bind_some]
  unfold matchStep
  rw [d1, d2, ← ha, ← hb]
  by_cases hin : inb ((x : Int) + mx) 0 (a - 1) = true ∧ inb ((y : Int) + my) 0 (b - 1) = true
  · rw [if_pos hin, if_pos (by rw [hin.1, hin.2]; rfl), l2At_is a b u W H x y ha hx hy hlu (by omega)]
    obtain ⟨i1, i2⟩ := hin
    rw [inb_iff] at i1 i2
    have ex : (x : Int) + mx = (((x : Int) + mx).toNat : Int) := by omega
    have ey : (y : Int) + my = (((y : Int) + my).toNat : Int) := by omega
    have hb1 := cell_bd fu.cells (y * W + x)
    have hb2 := cell_bd fv.cells (((y : Int) + my).toNat * W + ((x : Int) + mx).toNat)
    have hbb := absZ_bd hb1 hb2
    have eAt : spec_l2At.f a b v ((x : Int) + mx) ((y : Int) + my) = some (v.getD (((y : Int) + my).toNat * W + ((x : Int) + mx).toNat) 0) := by
      have := l2At_is a b v W H ((x : Int) + mx).toNat ((y : Int) + my).toNat ha (by omega) (by omega) hlv (by omega)
      rw [← ex, ← ey] at this
      exact this
    rw [eAt]
    simp only [Option.bind_some]
    rw [w64 (show -9223372036854775808 ≤ u.getD (y * W + x) 0 - v.getD (((y : Int) + my).toNat * W + ((x : Int) + mx).toNat) 0 by omega) (by omega), absS_at _ (by omega) (by omega)]
    simp only [Option.bind_some]
    rw [w64 (show -9223372036854775808 ≤ s.1 + absZ (u.getD (y * W + x) 0 - v.getD (((y : Int) + my).toNat * W + ((x : Int) + mx).toNat) 0) by omega) (by omega), w64 (show -9223372036854775808 ≤ s.2 + 1 by omega) (by omega)]
    split
    · rfl
    · split <;> rfl
  · rw [if_neg hin, if_neg (by rw [Bool.and_eq_true]; exact hin)]
    rfl
def moveCell (W H : Nat) (l : List Int) (mx my : Int) (i : Nat) : Int :=
  if inb (((i % W : Nat) : Int) - mx) 0 ((W : Int) - 1) = true ∧ inb (((i / W : Nat) : Int) - my) 0 ((H : Int) - 1) = true then l.getD ((((i / W : Nat) : Int) - my).toNat * W + (((i % W : Nat) : Int) - mx).toNat) 0 else -9999
theorem hasCell_is (a b : Int) (l : List Int) (x y : Int) (ha : 1 ≤ a ∧ a ≤ 8) (hb : 1 ≤ b ∧ b ≤ 8) : impl_hasCell.f a b l x y = some (inb x 0 (a - 1) && inb y 0 (b - 1)) := by
  unfold impl_hasCell.f
  rw [w64 (by omega) (by omega), w64 (by omega) (by omega), within_is, within_is]
  cases inb x 0 (a - 1) <;> simp
theorem at_lt {W H x y : Nat} (hx : x < W) (hy : y < H) : y * W + x < H * W := by
  have : (y + 1) * W ≤ H * W := Nat.mul_le_mul_right W hy
  rw [Nat.add_mul] at this
  omega
theorem move1_is (W H : Nat) (l : List Int) (mx my : Int) (hW : 1 ≤ W ∧ W ≤ 8) (hH : 1 ≤ H ∧ H ≤ 8) (hl : l.length = H * W) (hmx : -2 ≤ mx ∧ mx ≤ 2) (hmy : -2 ≤ my ∧ my ≤ 2) (x y : Nat) (hx : x < W) (hy : y < H) :
    impl_moveField_1.f (x : Int) (y : Int) (W : Int) (H : Int) l mx my = some (moveCell W H l mx my (y * W + x)) := by
  obtain ⟨d1, d2⟩ := div_at (y := y) hx
  unfold impl_moveField_1.f moveCell
  rw [d1, d2, hasCell_is _ _ _ _ _ (by omega) (by omega), Option.bind_some, w64 (show -9223372036854775808 ≤ (x : Int) - mx by omega) (by omega), w64 (show -9223372036854775808 ≤ (y : Int) - my by omega) (by omega)]
  by_cases hin : inb ((x : Int) - mx) 0 ((W : Int) - 1) = true ∧ inb ((y : Int) - my) 0 ((H : Int) - 1) = true
  · rw [if_pos hin, if_pos (by rw [hin.1, hin.2]; rfl)]
    obtain ⟨i1, i2⟩ := hin
    rw [inb_iff] at i1 i2
    have ex : (x : Int) - mx = (((x : Int) - mx).toNat : Int) := by omega
    have ey : (y : Int) - my = (((y : Int) - my).toNat : Int) := by omega
    generalize ((x : Int) - mx).toNat = u at ex ⊢
    generalize ((y : Int) - my).toNat = v at ey ⊢
    have hu : u < W := by omega
    have hv : v < H := by omega
    have hlt := at_lt hu hv
    have h64 : H * W ≤ 64 := Nat.mul_le_mul hH.2 hW.2
    have e0 : ((y : Int) - my) * (W : Int) = ((v * W : Nat) : Int) := by rw [ey, Int.natCast_mul]
    have e : wrap64 (wrap64 (wrap64 (((y : Int) - my) * (W : Int)) + (x : Int)) - mx) = ((v * W + u : Nat) : Int) := by
      rw [e0, w64n (by omega), w64 (x := ((v * W : Nat) : Int) + (x : Int)) (by omega) (by omega), w64 (by omega) (by omega)]
      omega
    rw [e, if_pos (by omega), if_pos (by omega), rd_nat]
  · rw [if_neg hin, if_neg (by rw [Bool.and_eq_true]; exact hin)]
theorem moveField_ev (W H : Nat) (l : List Int) (mx my : Int) (hW : 1 ≤ W ∧ W ≤ 8) (hH : 1 ≤ H ∧ H ≤ 8) (hl : l.length = H * W) (hmx : -2 ≤ mx ∧ mx ≤ 2) (hmy : -2 ≤ my ∧ my ≤ 2) :
    Ev (fun k => impl_moveField.f k (W : Int) (H : Int) l mx my) ((W : Int), (H : Int), tab (H * W) (moveCell W H l mx my)) := by
  unfold impl_moveField.f
  refine ev_bind (fieldBy_ev (fun _ => fun z0_ z1_ => impl_moveField_1.f z0_ z1_ (W : Int) (H : Int) l mx my) (moveCell W H l mx my) W H hW hH (fun i hi => ev_const ?_)) (ev_some _)
  obtain ⟨g1, g2, g3⟩ := grid_bd hi
  have := move1_is W H l mx my hW hH hl hmx hmy (i % W) (i / W) g1 g2
  rw [g3] at this
  exact this
theorem l2Own_is (a b : Int) (l : List Int) (hl : l.length < 17592186044416) : spec_l2Own.f a b l = some (a, b, l) := by
  unfold spec_l2Own.f spec_l1Own.f
  rw [Option.bind_some, if_pos (by simpa using hl)]
  rfl
theorem l11Move_ev (W H : Nat) (l : List Int) (mx my : Int) (hW : 1 ≤ W ∧ W ≤ 8) (hH : 1 ≤ H ∧ H ≤ 8) (hl : l.length = H * W) (hmx : -2 ≤ mx ∧ mx ≤ 2) (hmy : -2 ≤ my ∧ my ≤ 2) :
    Ev (fun k => spec_l11Move.f k (W : Int) (H : Int) l mx my) ((W : Int), (H : Int), tab (H * W) (moveCell W H l mx my)) := by
  have h64 : H * W ≤ 64 := Nat.mul_le_mul hH.2 hW.2
  unfold spec_l11Move.f
  rw [l2Own_is _ _ _ (by omega)]
  refine ev_bind (ev_some _) ?_
  have h := grid_ev (fun k s y => spec_l11Move.l0 k (y : Int) (W : Int) (H : Int) l mx my (W : Int) (H : Int) s) (fun k s y x => spec_l11Move.l1 k (y : Int) (x : Int) (W : Int) (H : Int) l mx my (W : Int) (H : Int) s) W H
    (fun i (s : List Int) => s.set i (moveCell W H l mx my i)) (fun s => ((W : Int), (H : Int), s)) (fun _ s => s.length = H * W)
    (fun y s r hI hy h => ev_step (fun k => by
      simp only [spec_l11Move.l0]
      rw [if_pos (by omega)]
      rfl) h)
    (fun y x s r hI hy hx h => ?_)
    (fun y x s hI hy hx => by simpa using hI)
    (fun y s r hI hy h => ev_step (fun k => by
      simp only [spec_l11Move.l1]
      rw [if_neg (by omega), w64 (by omega) (by omega)]
      rfl) h)
    (fun s hI => ev_step (f := fun _ => some ((W : Int), (H : Int), s)) (fun k => by
      simp only [spec_l11Move.l0]
      rw [if_neg (by omega)]) (ev_some _)) l hl
  · rw [iter_set_tab 0 _ (H * W) l hl] at h
    exact h
  refine ev_step (fun k => ?_) h
  have hyx := at_lt hx hy
  obtain ⟨d1, d2⟩ := div_at (y := y) hx
  have e : wrap64 (wrap64 ((y : Int) * (W : Int)) + (x : Int)) = ((y * W + x : Nat) : Int) := by
    rw [← Int.natCast_mul, w64n (by omega), ← Int.natCast_add, w64n (by omega)]
  have c1 : (0 : Int) ≤ ((y * W + x : Nat) : Int) := Int.natCast_nonneg _
  have c2 : ((y * W + x : Nat) : Int) < (s.length : Int) := by rw [hI]; exact_mod_cast hyx
  simp only [spec_l11Move.l1]
  rw [if_pos (by omega), w64 (show -9223372036854775808 ≤ (x : Int) - mx by omega) (by omega), w64 (show -9223372036854775808 ≤ (y : Int) - my by omega) (by omega), l2Has_is _ _ l _ _ (by omega) (by omega),
    w64 (show -9223372036854775808 ≤ (x : Int) + 1 by omega) (by omega), e]
  simp only [Option.bind_some]
  unfold moveCell
  rw [d1, d2]
  by_cases hin : inb ((x : Int) - mx) 0 ((W : Int) - 1) = true ∧ inb ((y : Int) - my) 0 ((H : Int) - 1) = true
  · rw [if_pos hin, if_pos (by rw [hin.1, hin.2]; rfl)]
    obtain ⟨i1, i2⟩ := hin
    rw [inb_iff] at i1 i2
    have ex : (x : Int) - mx = (((x : Int) - mx).toNat : Int) := by omega
    have ey : (y : Int) - my = (((y : Int) - my).toNat : Int) := by omega
    have eAt := l2At_is (W : Int) (H : Int) l W H ((x : Int) - mx).toNat ((y : Int) - my).toNat rfl (by omega) (by omega) hl (by omega)
    rw [← ex, ← ey] at eAt
    rw [eAt, Option.bind_some, if_pos c1, if_pos c2, Int.toNat_natCast]
    rfl
  · rw [if_neg hin, if_neg (by rw [Bool.and_eq_true]; exact hin), if_pos c1, if_pos c2, Int.toNat_natCast]
    rfl
def motionOk (x y : Int) : Bool := inb x (-2) 2 && inb y (-2) 2
theorem motionOk_iff {x y : Int} : motionOk x y = true ↔ (-2 ≤ x ∧ x ≤ 2) ∧ -2 ≤ y ∧ y ≤ 2 := by unfold motionOk; rw [Bool.and_eq_true, inb_iff, inb_iff]
theorem l11Good_is (x y : Int) : spec_l11Good.f x y = some (motionOk x y) := by
  unfold spec_l11Good.f motionOk
  rw [l1In_is, l1In_is]
  cases inb x (-2) 2 <;> simp
theorem isMotion_is (x y : Int) : impl_isMotion.f x y = some (motionOk x y) := by
  unfold impl_isMotion.f motionOk
  rw [within_is, within_is]
  cases inb x (-2) 2 <;> simp
end Go.Proofs.Ytmekfmhnpinjlaa.Pure
namespace Go.Proofs.Ytmekfmhnpinjlaa.Pure
set_option linter.unusedVariables false
set_option linter.unusedSimpArgs false
def pstep (f : Nat → Int × Int) (i : Nat) (s : Int × Int) : Int × Int := (s.1 + (f i).1, s.2 + (f i).2)
def psum (n : Nat) (f : Nat → Int × Int) : Int × Int := iter (pstep f) 0 n (0, 0)
theorem psum_zero (f : Nat → Int × Int) : psum 0 f = (0, 0) := rfl
theorem psum_succ (n : Nat) (f : Nat → Int × Int) : psum (n + 1) f = ((psum n f).1 + (f n).1, (psum n f).2 + (f n).2) := by
  unfold psum
  rw [iter_add _ n 0 1 (0, 0), Nat.zero_add]
  rfl
theorem psum_congr {f g : Nat → Int × Int} : ∀ n, (∀ i, i < n → f i = g i) → psum n f = psum n g
  | 0, _ => rfl
  | n + 1, h => by rw [psum_succ, psum_succ, psum_congr n (fun i hi => h i (by omega)), h n (by omega)]
theorem psum_grid (W : Nat) (f : Nat → Int × Int) : ∀ H, psum (H * W) f = psum H (fun y => psum W (fun x => f (y * W + x)))
  | 0 => by rw [Nat.zero_mul]; rfl
  | H + 1 => by
    rw [psum_succ, ← psum_grid W f H, Nat.add_mul, Nat.one_mul]
    have key : ∀ w, psum (H * W + w) f = ((psum (H * W) f).1 + (psum w (fun x => f (H * W + x))).1, (psum (H * W) f).2 + (psum w (fun x => f (H * W + x))).2) := by
      intro w
      induction w with
      | zero => simp [psum_zero]
      | succ w ih =>
        rw [← Nat.add_assoc, psum_succ, ih, psum_succ]
        refine Prod.ext ?_ ?_ <;> (simp only; omega)
    exact key W
theorem psum_nil : ∀ n, psum n (fun _ => ((0, 0) : Int × Int)) = (0, 0)
  | 0 => rfl
  | n + 1 => by rw [psum_succ, psum_nil n]; rfl
def sh (w : Nat) (m : Int) (f : Nat → Int × Int) (x : Nat) : Int × Int := if 0 ≤ (x : Int) - m ∧ (x : Int) - m < w then f ((x : Int) - m).toNat else (0, 0)
def shb (w : Nat) (m : Int) (f : Nat → Int × Int) (x : Nat) : Int × Int := if 0 ≤ (x : Int) + m ∧ (x : Int) + m < w then f x else (0, 0)
theorem psum_part (f : Nat → Int × Int) (a : Nat) : ∀ n, a ≤ n → psum n (fun x => if x < a then f x else (0, 0)) = psum a f
  | 0, h => by obtain rfl : a = 0 := by omega
               rfl
  | n + 1, h => by
    by_cases e : a = n + 1
    · rw [e]; exact psum_congr _ (fun i hi => by rw [if_pos hi])
    · rw [psum_succ, psum_part f a n (by omega), if_neg (by omega)]
      refine Prod.ext ?_ ?_ <;> simp
theorem psum_drop (f : Nat → Int × Int) (a : Nat) : ∀ n, a ≤ n → psum n (fun x => if a ≤ x then f x else (0, 0)) = psum (n - a) (fun x => f (x + a))
  | 0, h => by obtain rfl : a = 0 := by omega
               rfl
  | n + 1, h => by
    by_cases e : a = n + 1
    · rw [e, Nat.sub_self, psum_zero]
      exact (psum_congr _ (fun i hi => by rw [if_neg (by omega)])).trans (psum_nil (n + 1))
    · rw [psum_succ, psum_drop f a n (by omega), if_pos (by omega), show n + 1 - a = (n - a) + 1 by omega, psum_succ, show n - a + a = n by omega]
theorem psum_shift (w : Nat) (m : Int) (f : Nat → Int × Int) : psum w (sh w m f) = psum w (shb w m f) := by
  by_cases h0 : 0 ≤ m
  · obtain ⟨a, rfl⟩ := Int.eq_ofNat_of_zero_le h0
    by_cases ha : a ≤ w
    · have e1 : psum w (sh w (a : Int) f) = psum (w - a) f := by
        rw [show psum w (sh w (a : Int) f) = psum w (fun x => if a ≤ x then f (x - a) else (0, 0)) from psum_congr _ (fun x hx => by
          unfold sh
          by_cases h : a ≤ x
          · rw [if_pos (by omega), if_pos h, show ((x : Int) - (a : Int)).toNat = x - a by omega]
          · rw [if_neg (by omega), if_neg h]), psum_drop (fun x => f (x - a)) a w ha]
        exact psum_congr _ (fun x _ => by show f (x + a - a) = f x; rw [Nat.add_sub_cancel])
      have e2 : psum w (shb w (a : Int) f) = psum (w - a) f := by
        rw [← psum_part f (w - a) w (by omega)]
        exact psum_congr _ (fun x hx => by
          unfold shb
          by_cases h : x < w - a
          · rw [if_pos (by omega), if_pos h]
          · rw [if_neg (by omega), if_neg h])
      rw [e1, e2]
    · rw [show psum w (sh w (a : Int) f) = psum w (fun _ => (0, 0)) from psum_congr _ (fun x hx => by unfold sh; rw [if_neg (by omega)]), show psum w (shb w (a : Int) f) = psum w (fun _ => (0, 0)) from psum_congr _ (fun x hx => by unfold shb; rw [if_neg (by omega)])]
  · obtain ⟨a, hm⟩ : ∃ a : Nat, m = -(a : Int) := ⟨(-m).toNat, by omega⟩
    subst hm
    by_cases ha : a ≤ w
    · have e1 : psum w (sh w (-(a : Int)) f) = psum (w - a) (fun x => f (x + a)) := by
        rw [← psum_part (fun x => f (x + a)) (w - a) w (by omega)]
        exact psum_congr _ (fun x hx => by
          unfold sh
          by_cases h : x < w - a
          · rw [if_pos (by omega), if_pos h, show ((x : Int) - -(a : Int)).toNat = x + a by omega]
          · rw [if_neg (by omega), if_neg h])
      have e2 : psum w (shb w (-(a : Int)) f) = psum (w - a) (fun x => f (x + a)) := by
        rw [← psum_drop f a w ha]
        exact psum_congr _ (fun x hx => by
          unfold shb
          by_cases h : a ≤ x
          · rw [if_pos (by omega), if_pos h]
          · rw [if_neg (by omega), if_neg h])
      rw [e1, e2]
    · rw [show psum w (sh w (-(a : Int)) f) = psum w (fun _ => (0, 0)) from psum_congr _ (fun x hx => by unfold sh; rw [if_neg (by omega)]), show psum w (shb w (-(a : Int)) f) = psum w (fun _ => (0, 0)) from psum_congr _ (fun x hx => by unfold shb; rw [if_neg (by omega)])]
end Go.Proofs.Ytmekfmhnpinjlaa.Pure
namespace Go.Proofs.Ytmekfmhnpinjlaa.Pure
set_option linter.unusedVariables false
set_option linter.unusedSimpArgs false
open Go.RowKit Go.Proofs.Ytmekfmhnpinjlaa.P Go.Proofs.YtmekfmhnpinjlaaW.PrintWords Go.Proofs.YtmekfmhnpinjlaaW.PrintLast
def dphi (x y : Int) : Int × Int := if x = -9999 then (0, 0) else if y = -9999 then (0, 0) else (absZ (x - y), 1)
theorem diffs_psum (u v : List Int) : diffs u v = psum u.length (fun i => dphi (u.getD i 0) (v.getD i 0)) := by
  unfold diffs psum
  refine iter_congr _ _ _ (fun j s _ _ => ?_)
  unfold diffStep pstep dphi
  dsimp only
  generalize u.getD j 0 = x
  generalize v.getD j 0 = y
  by_cases h1 : x = -9999
  · simp [h1]
  · by_cases h2 : y = -9999 <;> simp [h1, h2]
theorem matchS_psum (W H : Nat) (u v : List Int) (mx my : Int) : matchS W H u v mx my = psum (H * W) (fun i => if inb (((i % W : Nat) : Int) + mx) 0 ((W : Int) - 1) = true ∧ inb (((i / W : Nat) : Int) + my) 0 ((H : Int) - 1) = true then
    dphi (u.getD i 0) (v.getD ((((i / W : Nat) : Int) + my).toNat * W + (((i % W : Nat) : Int) + mx).toNat) 0) else (0, 0)) := by
  unfold matchS psum
  refine iter_congr _ _ _ (fun j s _ _ => ?_)
  unfold matchStep pstep dphi
  dsimp only
  generalize u.getD j 0 = x
  generalize v.getD ((((j / W : Nat) : Int) + my).toNat * W + (((j % W : Nat) : Int) + mx).toNat) 0 = y
  by_cases h0 : inb (((j % W : Nat) : Int) + mx) 0 ((W : Int) - 1) = true ∧ inb (((j / W : Nat) : Int) + my) 0 ((H : Int) - 1) = true
  · rw [if_pos h0, if_pos h0]
    by_cases h1 : x = -9999
    · simp [h1]
    · by_cases h2 : y = -9999 <;> simp [h1, h2]
  · rw [if_neg h0, if_neg h0]
    simp
theorem moved_match (W H : Nat) (u v : List Int) (mx my : Int) (hu : u.length = H * W) : diffs (tab (H * W) (moveCell W H u mx my)) v = matchS W H u v mx my := by
  rw [diffs_psum, matchS_psum, tab_length, psum_grid, psum_grid]
  have eL : psum H (fun y => psum W (fun x => dphi ((tab (H * W) (moveCell W H u mx my)).getD (y * W + x) 0) (v.getD (y * W + x) 0))) =
      psum H (sh H my (fun y => psum W (sh W mx (fun x => dphi (u.getD (y * W + x) 0) (v.getD (((y : Int) + my).toNat * W + ((x : Int) + mx).toNat) 0))))) := by
    refine psum_congr _ (fun y hy => ?_)
    unfold sh
    by_cases cy : 0 ≤ (y : Int) - my ∧ (y : Int) - my < H
    · rw [if_pos cy]
      refine psum_congr _ (fun x hx => ?_)
      obtain ⟨d1, d2⟩ := div_at (y := y) hx
      rw [tab_getD _ _ 0 (at_lt hx hy)]
      unfold moveCell
      rw [d1, d2]
      by_cases cx : 0 ≤ (x : Int) - mx ∧ (x : Int) - mx < W
      · rw [if_pos ⟨by rw [inb_iff]; omega, by rw [inb_iff]; omega⟩, if_pos cx, show (((((y : Int) - my).toNat : Nat) : Int) + my).toNat = y by omega]
        dsimp only
        rw [show (((((x : Int) - mx).toNat : Nat) : Int) + mx).toNat = x by omega]
      · rw [if_neg (by rw [inb_iff]; omega), if_neg cx]
        rfl
    · rw [if_neg cy]
      refine (psum_congr _ (fun x hx => ?_)).trans (psum_nil W)
      obtain ⟨d1, d2⟩ := div_at (y := y) hx
      rw [tab_getD _ _ 0 (at_lt hx hy)]
      unfold moveCell
      rw [d1, d2, if_neg (by rw [inb_iff, inb_iff]; omega)]
      rfl
  have eR : psum H (fun y => psum W (fun x => if inb ((((y * W + x) % W : Nat) : Int) + mx) 0 ((W : Int) - 1) = true ∧ inb ((((y * W + x) / W : Nat) : Int) + my) 0 ((H : Int) - 1) = true then
      dphi (u.getD (y * W + x) 0) (v.getD (((((y * W + x) / W : Nat) : Int) + my).toNat * W + ((((y * W + x) % W : Nat) : Int) + mx).toNat) 0) else (0, 0))) =
      psum H (shb H my (fun y => psum W (shb W mx (fun x => dphi (u.getD (y * W + x) 0) (v.getD (((y : Int) + my).toNat * W + ((x : Int) + mx).toNat) 0))))) := by
    refine psum_congr _ (fun y hy => ?_)
    unfold shb
    by_cases cy : 0 ≤ (y : Int) + my ∧ (y : Int) + my < H
    · rw [if_pos cy]
      refine psum_congr _ (fun x hx => ?_)
      obtain ⟨d1, d2⟩ := div_at (y := y) hx
      rw [d1, d2]
      by_cases cx : 0 ≤ (x : Int) + mx ∧ (x : Int) + mx < W
      · rw [if_pos ⟨by rw [inb_iff]; omega, by rw [inb_iff]; omega⟩, if_pos cx]
      · rw [if_neg (by rw [inb_iff]; omega), if_neg cx]
    · rw [if_neg cy]
      refine (psum_congr _ (fun x hx => ?_)).trans (psum_nil W)
      obtain ⟨d1, d2⟩ := div_at (y := y) hx
      rw [d1, d2, if_neg (by rw [inb_iff, inb_iff]; omega)]
  rw [eL, eR, psum_shift]
  refine psum_congr _ (fun y hy => ?_)
  unfold shb
  split
  · exact psum_shift W mx _
  · rfl
theorem moveCell_ok {W H : Nat} {l : List Int} {mx my : Int} (h : ∀ x ∈ l, cellOk x = true) : ∀ x ∈ tab (H * W) (moveCell W H l mx my), cellOk x = true := by
  intro x hx
  obtain ⟨i, hi, rfl⟩ := tab_mem.1 hx
  unfold moveCell
  split
  · by_cases hj : (((i / W : Nat) : Int) - my).toNat * W + (((i % W : Nat) : Int) - mx).toNat < l.length
    · rw [getD_eq_get 0 hj]
      exact h _ (List.getElem_mem hj)
    · rw [List.getD, List.getElem?_eq_none (by omega)]
      rfl
  · rfl
theorem matchOf_ev (W H : Nat) (u v : List Int) (mx my : Int) (fu : FieldIs (W : Int) (H : Int) u) (fv : FieldIs (W : Int) (H : Int) v) (hmx : -2 ≤ mx ∧ mx ≤ 2) (hmy : -2 ≤ my ∧ my ≤ 2) :
    Ev (fun k => impl_matchOf.f k (W : Int) (H : Int) u (W : Int) (H : Int) v mx my) (matchS W H u v mx my) := by
  have hW : 1 ≤ W ∧ W ≤ 8 := by have := fu.a1; have := fu.a8; omega
  have hH : 1 ≤ H ∧ H ≤ 8 := by have := fu.b1; have := fu.b8; omega
  have hlu : u.length = H * W := by have := fu.len; rw [Int.mul_comm] at this; exact_mod_cast this
  have hlv : v.length = H * W := by have := fv.len; rw [Int.mul_comm] at this; exact_mod_cast this
  have h64 : H * W ≤ 64 := Nat.mul_le_mul hH.2 hW.2
  unfold impl_matchOf.f
  refine ev_bind (moveField_ev W H u mx my hW hH hlu hmx hmy) ?_
  have d := differences_ev (W : Int) (H : Int) (tab (H * W) (moveCell W H u mx my)) (W : Int) (H : Int) v (moveCell_ok fu.cells) fv.cells (by rw [tab_length, hlv]) (by rw [tab_length]; exact h64)
  rw [moved_match W H u v mx my hlu] at d
  exact ev_bind d (ev_some _)
end Go.Proofs.Ytmekfmhnpinjlaa.Pure
namespace Go.Proofs.Ytmekfmhnpinjlaa.Pure
set_option linter.unusedVariables false
set_option linter.unusedSimpArgs false
section
variable {α : Type}
def Srt (lt : α → α → Bool) (l : List α) : Prop := l.Pairwise fun a b => lt b a = false
theorem srt_one {lt : α → α → Bool} : ∀ {l1 l2 : List α}, l1.Perm l2 → Srt lt l1 → Srt lt l2 → (∀ a ∈ l1, ∀ b ∈ l1, lt a b = false → lt b a = false → a = b) → l1 = l2
  | [], l2, h, _, _, _ => (h.symm.eq_nil).symm
  | a :: t, [], h, _, _, _ => absurd h.length_eq (by simp)
  | a :: t, b :: t2, h, h1, h2, hc => by
    obtain ⟨u1, v1⟩ := List.pairwise_cons.1 h1
    obtain ⟨u2, v2⟩ := List.pairwise_cons.1 h2
    have e : a = b := by
      rcases List.mem_cons.1 (h.subset (List.mem_cons_self)) with e | m2
      · exact e
      · rcases List.mem_cons.1 (h.symm.subset (List.mem_cons_self)) with e | m1
        · exact e.symm
        · exact hc a List.mem_cons_self b (List.mem_cons_of_mem _ m1) (u2 a m2) (u1 b m1)
    subst e
    rw [srt_one (List.perm_cons a |>.1 h) v1 v2 (fun x hx y hy => hc x (List.mem_cons_of_mem _ hx) y (List.mem_cons_of_mem _ hy))]
def ipos (lt : α → α → Bool) (z m : α) (out : List α) : Nat → Nat
  | 0 => 0
  | k + 1 => if lt m (out.getD k z) = true then ipos lt z m out k else k + 1
theorem ipos_le (lt : α → α → Bool) (z m : α) (out : List α) : ∀ k, ipos lt z m out k ≤ k
  | 0 => Nat.le_refl _
  | k + 1 => by
    show (if _ then _ else _) ≤ _
    split
    · exact Nat.le_succ_of_le (ipos_le lt z m out k)
    · exact Nat.le_refl _
theorem ipos_right (lt : α → α → Bool) (z m : α) (out : List α) : ∀ k j, ipos lt z m out k ≤ j → j < k → lt m (out.getD j z) = true
  | 0, j, _, h => absurd h (by omega)
  | k + 1, j, h0, h1 => by
    by_cases h : lt m (out.getD k z) = true
    · rw [show ipos lt z m out (k + 1) = ipos lt z m out k from if_pos h] at h0
      by_cases e : j = k
      · rw [e]; exact h
      · exact ipos_right lt z m out k j h0 (by omega)
    · rw [show ipos lt z m out (k + 1) = k + 1 from if_neg h] at h0
      omega
theorem ipos_left (lt : α → α → Bool) (z m : α) (out : List α) : ∀ k, ipos lt z m out k = 0 ∨ lt m (out.getD (ipos lt z m out k - 1) z) = false
  | 0 => .inl rfl
  | k + 1 => by
    by_cases h : lt m (out.getD k z) = true
    · rw [show ipos lt z m out (k + 1) = ipos lt z m out k from if_pos h]
      exact ipos_left lt z m out k
    · rw [show ipos lt z m out (k + 1) = k + 1 from if_neg h]
      exact .inr (by simpa using h)
def insR (lt : α → α → Bool) (z m : α) (out : List α) : List α := out.take (ipos lt z m out out.length) ++ [m] ++ out.drop (ipos lt z m out out.length)
theorem insR_perm (lt : α → α → Bool) (z m : α) (out : List α) : (insR lt z m out).Perm (out ++ [m]) := by
  unfold insR
  generalize ipos lt z m out out.length = p
  rw [List.append_assoc]
  refine (List.Perm.append_left _ List.perm_append_comm).trans ?_
  rw [← List.append_assoc, List.take_append_drop]
theorem insR_srt {lt : α → α → Bool} {z m : α} {out : List α} (G : α → Prop) (hm : G m) (ho : ∀ x ∈ out, G x) (tr : ∀ x y z, G x → G y → G z → lt x y = true → lt y z = true → lt x z = true) (ir : ∀ x, lt x x = false)
    (nt : ∀ x y z, G x → G y → G z → lt x y = false → lt y z = false → lt x z = false) (h : Srt lt out) : Srt lt (insR lt z m out) := by
  have hp := ipos_le lt z m out out.length
  have hr := ipos_right lt z m out out.length
  have hl := ipos_left lt z m out out.length
  unfold insR
  generalize ipos lt z m out out.length = p at hp hr hl ⊢
  have hd : Srt lt (out.drop p) := h.sublist (List.drop_sublist _ _)
  have ht : Srt lt (out.take p) := h.sublist (List.take_sublist _ _)
  have hR : ∀ x ∈ out.drop p, lt x m = false := by
    intro x hx
    obtain ⟨i, hi, rfl⟩ := List.getElem_of_mem hx
    rw [List.length_drop] at hi
    have e : out.getD (p + i) z = (out.drop p)[i]'(by rw [List.length_drop]; exact hi) := by rw [getD_eq_get z (by omega), List.getElem_drop]
    have h1 := hr (p + i) (by omega) (by omega)
    rw [e] at h1
    have g := ho _ (List.mem_of_mem_drop hx)
    cases h2 : lt ((out.drop p)[i]'(by rw [List.length_drop]; exact hi)) m with
    | false => rfl
    | true => have := tr _ _ _ g hm g h2 h1; rw [ir] at this; cases this
  have hL : ∀ x ∈ out.take p, lt m x = false := by
    intro x hx
    obtain ⟨i, hi, rfl⟩ := List.getElem_of_mem hx
    rw [List.length_take] at hi
    rcases hl with h0 | h1
    · omega
    · rw [List.getElem_take]
      rw [getD_eq_get z (by omega)] at h1
      by_cases e : i = p - 1
      · subst e; exact h1
      · have h3 := List.pairwise_iff_getElem.1 h i (p - 1) (by omega) (by omega) (by omega)
        exact nt _ _ _ hm (ho _ (List.getElem_mem _)) (ho _ (List.getElem_mem _)) h1 h3
  have hLR : ∀ x ∈ out.take p, ∀ y ∈ out.drop p, lt y x = false := by
    have := h
    unfold Srt at this
    rw [← List.take_append_drop p out, List.pairwise_append] at this
    exact this.2.2
  show List.Pairwise _ _
  rw [List.pairwise_append, List.pairwise_append]
  refine ⟨⟨ht, List.pairwise_singleton _ _, fun x hx y hy => ?_⟩, hd, fun x hx y hy => ?_⟩
  · rw [List.mem_singleton.1 hy]; exact hL x hx
  · rcases List.mem_append.1 hx with h1 | h1
    · exact hLR x h1 y hy
    · rw [List.mem_singleton.1 h1]; exact hR y hy
end
end Go.Proofs.Ytmekfmhnpinjlaa.Pure
namespace Go.Proofs.Ytmekfmhnpinjlaa.Pure
set_option linter.unusedVariables false
set_option linter.unusedSimpArgs false
open Go.RowKit Go.Proofs.Ytmekfmhnpinjlaa.P Go.Proofs.YtmekfmhnpinjlaaW.PrintWords Go.Proofs.YtmekfmhnpinjlaaW.PrintLast
def rkAt (W H : Nat) (u v : List Int) (j : Nat) : S82 :=
  ⟨⟨((j % 5 : Nat) : Int) - 2, ((j / 5 : Nat) : Int) - 2⟩, (matchS W H u v (((j % 5 : Nat) : Int) - 2) (((j / 5 : Nat) : Int) - 2)).1, (matchS W H u v (((j % 5 : Nat) : Int) - 2) (((j / 5 : Nat) : Int) - 2)).2⟩
def rkQ (n : Nat) (x : S82) : Bool := decide (x.f2 ≥ 1) && decide (2 * x.f2 ≥ (n : Int))
def gI (W H : Nat) (u v : List Int) (j : Nat) (L : List S82) : List S82 := if rkQ u.length (rkAt W H u v j) = true then L ++ [rkAt W H u v j] else L
def gS (W H : Nat) (u v : List Int) (j : Nat) (M : List S82) : List S82 := if rkQ u.length (rkAt W H u v j) = true then insR rkLt z82 (rkAt W H u v j) M else M
def RkMem (W H : Nat) (u v : List Int) (j : Nat) (L : List S82) : Prop := L.length ≤ j ∧ ∀ x ∈ L, ∃ i, i < j ∧ x = rkAt W H u v i ∧ rkQ u.length x = true
theorem matchS_bd {W H : Nat} {u v : List Int} {mx my : Int} (hu : ∀ x ∈ u, cellOk x = true) (hv : ∀ x ∈ v, cellOk x = true) : diffInv (H * W) (matchS W H u v mx my) := by
  unfold matchS
  exact iter_inv _ diffInv (H * W) (fun i s h _ => matchStep_inv hu hv i s h) (H * W) 0 _ (by omega) ⟨by simp, by simp, by simp, by simp⟩
theorem rkAt_bd {W H : Nat} {u v : List Int} (hu : ∀ x ∈ u, cellOk x = true) (hv : ∀ x ∈ v, cellOk x = true) (h64 : H * W ≤ 64) {j : Nat} (hj : j < 25) :
    (-2 ≤ (rkAt W H u v j).f0.f0 ∧ (rkAt W H u v j).f0.f0 ≤ 2) ∧ (-2 ≤ (rkAt W H u v j).f0.f1 ∧ (rkAt W H u v j).f0.f1 ≤ 2) ∧ (0 ≤ (rkAt W H u v j).f1 ∧ (rkAt W H u v j).f1 ≤ 1280000) ∧ 0 ≤ (rkAt W H u v j).f2 ∧ (rkAt W H u v j).f2 ≤ 64 := by
  obtain ⟨h1, h2, h3, h4⟩ := matchS_bd (W := W) (H := H) (mx := ((j % 5 : Nat) : Int) - 2) (my := ((j / 5 : Nat) : Int) - 2) hu hv
  refine ⟨?_, ?_, ?_, ?_⟩
  · show -2 ≤ ((j % 5 : Nat) : Int) - 2 ∧ ((j % 5 : Nat) : Int) - 2 ≤ 2
    omega
  · show -2 ≤ ((j / 5 : Nat) : Int) - 2 ∧ ((j / 5 : Nat) : Int) - 2 ≤ 2
    omega
  · show 0 ≤ (matchS W H u v _ _).1 ∧ (matchS W H u v _ _).1 ≤ 1280000
    omega
  · show 0 ≤ (matchS W H u v _ _).2 ∧ (matchS W H u v _ _).2 ≤ 64
    omega
theorem rkQ_iff {n : Nat} {x : S82} : rkQ n x = true ↔ 1 ≤ x.f2 ∧ (n : Int) ≤ 2 * x.f2 := by
  unfold rkQ
  rw [Bool.and_eq_true, decide_eq_true_eq, decide_eq_true_eq]
theorem rkAt_inj {W H : Nat} {u v : List Int} {i j : Nat} (h1 : (rkAt W H u v i).f0.f1 = (rkAt W H u v j).f0.f1) (h0 : (rkAt W H u v i).f0.f0 = (rkAt W H u v j).f0.f0) : i = j := by
  have a : ((i / 5 : Nat) : Int) - 2 = ((j / 5 : Nat) : Int) - 2 := h1
  have b : ((i % 5 : Nat) : Int) - 2 = ((j % 5 : Nat) : Int) - 2 := h0
  omega
section
variable {W H : Nat} {u v : List Int}
theorem rkMem_ok (hu : ∀ x ∈ u, cellOk x = true) (hv : ∀ x ∈ v, cellOk x = true) (h64 : H * W ≤ 64) {j : Nat} (hj : j ≤ 25) {L : List S82} (h : RkMem W H u v j L) : ∀ x ∈ L, rkOk x = true := by
  intro x hx
  obtain ⟨i, hi, rfl, hq⟩ := h.2 x hx
  obtain ⟨⟨a1, a2⟩, ⟨b1, b2⟩, ⟨c1, c2⟩, d1, d2⟩ := rkAt_bd (W := W) (H := H) hu hv h64 (show i < 25 by omega)
  have := (rkQ_iff.1 hq).1
  exact rkOk_iff.2 ⟨a1, a2, b1, b2, c1, by omega, this, by omega⟩
theorem gI_mem (j : Nat) (L : List S82) (h : RkMem W H u v j L) : RkMem W H u v (j + 1) (gI W H u v j L) := by
  unfold gI
  split
  · rename_i hq
    refine ⟨by rw [List.length_append]; have := h.1; simp; omega, fun x hx => ?_⟩
    rcases List.mem_append.1 hx with h1 | h1
    · obtain ⟨i, hi, e, q⟩ := h.2 x h1
      exact ⟨i, by omega, e, q⟩
    · rw [List.mem_singleton.1 h1]
      exact ⟨j, by omega, rfl, hq⟩
  · refine ⟨Nat.le_succ_of_le h.1, fun x hx => ?_⟩
    obtain ⟨i, hi, e, q⟩ := h.2 x hx
    exact ⟨i, by omega, e, q⟩
theorem gS_mem (j : Nat) (L : List S82) (h : RkMem W H u v j L) : RkMem W H u v (j + 1) (gS W H u v j L) := by
  unfold gS
  split
  · rename_i hq
    have hp := insR_perm rkLt z82 (rkAt W H u v j) L
    refine ⟨by rw [hp.length_eq, List.length_append]; have := h.1; simp; omega, fun x hx => ?_⟩
    rcases List.mem_append.1 (hp.subset hx) with h1 | h1
    · obtain ⟨i, hi, e, q⟩ := h.2 x h1
      exact ⟨i, by omega, e, q⟩
    · rw [List.mem_singleton.1 h1]
      exact ⟨j, by omega, rfl, hq⟩
  · refine ⟨Nat.le_succ_of_le h.1, fun x hx => ?_⟩
    obtain ⟨i, hi, e, q⟩ := h.2 x hx
    exact ⟨i, by omega, e, q⟩
theorem rk_pos2 {n : Nat} {x : S82} (h : rkQ n x = true) : 0 < x.f2 := by have := (rkQ_iff.1 h).1; omega
theorem gS_srt (j : Nat) (M : List S82) (h : RkMem W H u v j M) (hs : Srt rkLt M) : Srt rkLt (gS W H u v j M) := by
  unfold gS
  split
  · rename_i hq
    exact insR_srt (fun x => 0 < x.f2) (rk_pos2 hq) (fun x hx => by obtain ⟨i, _, _, q⟩ := h.2 x hx; exact rk_pos2 q) (fun x y z a b c => rLt_trans a b c) (fun x => rLt_irrefl _ _ _ _ _) (fun x y z a b c => rLt_ntrans a b c) hs
  · exact hs
theorem g_two : ∀ d i (M L : List S82), M.Perm L → Srt rkLt M → RkMem W H u v i M → (iter (gS W H u v) i d M).Perm (iter (gI W H u v) i d L) ∧ Srt rkLt (iter (gS W H u v) i d M)
  | 0, i, M, L, hp, hs, _ => ⟨hp, hs⟩
  | d + 1, i, M, L, hp, hs, hm => by
    refine g_two d (i + 1) (gS W H u v i M) (gI W H u v i L) ?_ (gS_srt i M hm hs) (gS_mem i M hm)
    unfold gS gI
    split
    · exact (insR_perm _ _ _ _).trans (hp.append_right _)
    · exact hp
def ranked (W H : Nat) (u v : List Int) : List S82 := iter (gS W H u v) 0 25 []
theorem ranked_mem : RkMem W H u v 25 (ranked W H u v) :=
  iter_inv (gS W H u v) (RkMem W H u v) 25 (fun i s h _ => gS_mem i s h) 25 0 [] (by omega) ⟨Nat.le_refl _, fun x hx => absurd hx (by simp)⟩
theorem ranked_srt : Srt rkLt (ranked W H u v) := (g_two 25 0 [] [] (List.Perm.refl _) List.Pairwise.nil ⟨Nat.le_refl _, fun x hx => absurd hx (by simp)⟩).2
theorem listed_mem : RkMem W H u v 25 (iter (gI W H u v) 0 25 []) :=
  iter_inv (gI W H u v) (RkMem W H u v) 25 (fun i s h _ => gI_mem i s h) 25 0 [] (by omega) ⟨Nat.le_refl _, fun x hx => absurd hx (by simp)⟩
theorem ranked_is (hu : ∀ x ∈ u, cellOk x = true) (hv : ∀ x ∈ v, cellOk x = true) (h64 : H * W ≤ 64) : rkSort (iter (gI W H u v) 0 25 []) = ranked W H u v := by
  have hp := (g_two (W := W) (H := H) (u := u) (v := v) 25 0 [] [] (List.Perm.refl _) List.Pairwise.nil ⟨Nat.le_refl _, fun x hx => absurd hx (by simp)⟩).1
  have hok := rkMem_ok hu hv h64 (Nat.le_refl _) (listed_mem (W := W) (H := H) (u := u) (v := v))
  refine srt_one ((rkSort_perm _).trans hp.symm) (rkSort_srt _ hok) ranked_srt (fun a ha b hb h1 h2 => ?_)
  obtain ⟨i, hi, rfl, _⟩ := (listed_mem (W := W) (H := H) (u := u) (v := v)).2 a ((rkSort_perm _).subset ha)
  obtain ⟨j, hj, rfl, _⟩ := (listed_mem (W := W) (H := H) (u := u) (v := v)).2 b ((rkSort_perm _).subset hb)
  obtain ⟨e1, e0⟩ := rLt_conn h1 h2
  rw [rkAt_inj e1 e0]
end
theorem copyM_ev (S : List S82) (hS : S.length ≤ 25) : Ev (fun k => impl_RankMotions.l2 k ([] : List S28) S (S.length : Int) 0) (S.map (fun x => x.f0), true) := by
  have h := loop_ev (fun k (out : List S28) i => impl_RankMotions.l2 k out S (S.length : Int) (i : Int)) S.length (fun i out => out ++ [(S.getD i z82).f0]) (fun out => (out, true)) (fun i out => out = (S.take i).map (fun x => x.f0))
    (fun i out r hI hi h => ev_step (fun k => by
      have hl : out.length = i := by rw [hI, List.length_map, List.length_take]; omega
      simp only [impl_RankMotions.l2]
      rw [if_pos (by omega), if_pos (by omega), if_pos (by omega), if_pos (by omega), w64 (by omega) (by omega)]
      rfl) h)
    (fun i out hI hi => by
      show out ++ [(S.getD i z82).f0] = _
      rw [hI, getD_eq_get _ hi, List.take_add_one, List.getElem?_eq_getElem hi, List.map_append]
      rfl)
    (fun out hI => ev_step (f := fun _ => some (out, true)) (fun k => by
      simp only [impl_RankMotions.l2]
      rw [if_neg (by omega)]) (ev_some _)) 0 [] (Nat.zero_le _) (by simp)
  have hi := iter_inv (fun i out => out ++ [(S.getD i z82).f0]) (fun i (out : List S28) => out = (S.take i).map (fun x => x.f0)) S.length (fun i out hI hi => by
      show out ++ [(S.getD i z82).f0] = _
      rw [hI, getD_eq_get _ hi, List.take_add_one, List.getElem?_eq_getElem hi, List.map_append]
      rfl) (S.length - 0) 0 [] (by omega) (by simp)
  rw [hi, List.take_length] at h
  exact h
theorem sortF_is (L : List S82) (h : ∀ x ∈ L, rkOk x = true) (hl : L.length ≤ 25) : slices_SortFunc_ranked_at_impl_RankMotions_1.f L = some (rkSort L) := by
  unfold slices_SortFunc_ranked_at_impl_RankMotions_1.f
  rw [if_pos ⟨by omega, List.all_eq_true.2 h⟩]
theorem rankI_ev (W H : Nat) (u v : List Int) (fu : FieldIs (W : Int) (H : Int) u) (fv : FieldIs (W : Int) (H : Int) v) :
    Ev (fun k => impl_RankMotions.l0 k ([] : List S82) (-2) (W : Int) (H : Int) u (W : Int) (H : Int) v) ((ranked W H u v).map (fun x => x.f0), true) := by
  have hlen := fu.len64
  have hlu : u.length = H * W := by have := fu.len; rw [Int.mul_comm] at this; exact_mod_cast this
  have h64 : H * W ≤ 64 := by omega
  have h := grid_ev (fun k L y => impl_RankMotions.l0 k L ((y : Int) - 2) (W : Int) (H : Int) u (W : Int) (H : Int) v) (fun k L y x => impl_RankMotions.l1 k L ((y : Int) - 2) ((x : Int) - 2) (W : Int) (H : Int) u (W : Int) (H : Int) v) 5 5 (gI W H u v)
    (fun L => ((rkSort L).map (fun x => x.f0), true)) (RkMem W H u v)
    (fun y L r hI hy h => ev_step (fun k => by
      simp only [impl_RankMotions.l0]
      rw [if_pos (by omega)]
      rfl) h)
    (fun y x L r hI hy hx h => ?_)
    (fun y x L hI hy hx => gI_mem _ L hI)
    (fun y L r hI hy h => ev_step (fun k => by
      simp only [impl_RankMotions.l1]
      rw [if_neg (by omega), w64 (by omega) (by omega), show ((y : Int) - 2 + 1) = ((y + 1 : Nat) : Int) - 2 by omega]) h)
    (fun L hI => ?_) [] ⟨Nat.le_refl _, fun x hx => absurd hx (by simp)⟩
  · have e := ranked_is (W := W) (H := H) fu.cells fv.cells h64
    rw [e] at h
    exact h
  · have hj : y * 5 + x < 25 := by omega
    have em : (y * 5 + x) % 5 = x := by omega
    have ed : (y * 5 + x) / 5 = y := by omega
    have hb := rkAt_bd (W := W) (H := H) fu.cells fv.cells h64 hj
    have hm := matchOf_ev W H u v ((x : Int) - 2) ((y : Int) - 2) fu fv ⟨by omega, by omega⟩ ⟨by omega, by omega⟩
    have hI1 := hI.1
    refine ev_step (g := fun k => impl_RankMotions.l1 k L ((y : Int) - 2) ((x : Int) - 2) (W : Int) (H : Int) u (W : Int) (H : Int) v) (fun k => by simp only [impl_RankMotions.l1]; rw [if_pos (show (x : Int) - 2 ≤ 2 by omega)]) (ev_bind hm ?_)
    have er : rkAt W H u v (y * 5 + x) = ⟨⟨(x : Int) - 2, (y : Int) - 2⟩, (matchS W H u v ((x : Int) - 2) ((y : Int) - 2)).1, (matchS W H u v ((x : Int) - 2) ((y : Int) - 2)).2⟩ := by unfold rkAt; rw [em, ed]
    have ex : ((x : Int) - 2 + 1) = ((x + 1 : Nat) : Int) - 2 := by omega
    unfold gI at h
    rw [er] at h hb
    obtain ⟨_, _, _, b1, b2⟩ := hb
    simp only at b1 b2
    rw [w64 (show -9223372036854775808 ≤ (x : Int) - 2 + 1 by omega) (by omega), ex]
    have ew := w64 (x := 2 * (matchS W H u v ((x : Int) - 2) ((y : Int) - 2)).2) (by omega) (by omega)
    by_cases q1 : (matchS W H u v ((x : Int) - 2) ((y : Int) - 2)).2 ≥ 1
    · refine ev_ifp q1 ?_
      by_cases q2 : 2 * (matchS W H u v ((x : Int) - 2) ((y : Int) - 2)).2 ≥ (u.length : Int)
      · refine ev_ifp (by rw [ew]; exact q2) (ev_ifp (by omega) ?_)
        rw [if_pos (rkQ_iff.2 ⟨q1, q2⟩)] at h
        exact h
      · refine ev_ifn (by rw [ew]; exact q2) ?_
        rw [if_neg (by rw [rkQ_iff]; exact fun hh => q2 hh.2)] at h
        exact h
    · refine ev_ifn q1 ?_
      rw [if_neg (by rw [rkQ_iff]; exact fun hh => q1 hh.1)] at h
      exact h
  · have hok := rkMem_ok fu.cells fv.cells h64 (Nat.le_refl _) hI
    have hl := hI.1
    have hc := copyM_ev (rkSort L) (by rw [rkSort_len]; exact hl)
    rw [rkSort_len] at hc
    refine ev_step (fun k => ?_) hc
    simp only [impl_RankMotions.l0]
    rw [if_neg (by omega), sortF_is L hok hl]
    rfl
theorem rkA_abs (x : Int) : rkA x = absZ x := rfl
theorem better_ev (W H : Nat) (u v : List Int) (fu : FieldIs (W : Int) (H : Int) u) (fv : FieldIs (W : Int) (H : Int) v) (i j : Nat) (hi : i < 25) (hj : j < 25) :
    Ev (fun k => spec_l11Better.f k (W : Int) (H : Int) u (W : Int) (H : Int) v (rkAt W H u v i).f0.f0 (rkAt W H u v i).f0.f1 (rkAt W H u v j).f0.f0 (rkAt W H u v j).f0.f1) (rkLt (rkAt W H u v i) (rkAt W H u v j)) := by
  have hlen := fu.len64
  have hlu : u.length = H * W := by have := fu.len; rw [Int.mul_comm] at this; exact_mod_cast this
  have h64 : H * W ≤ 64 := by omega
  obtain ⟨ax, ay, a1, a2⟩ := rkAt_bd (W := W) (H := H) fu.cells fv.cells h64 hi
  obtain ⟨bx, bY, b1, b2⟩ := rkAt_bd (W := W) (H := H) fu.cells fv.cells h64 hj
  have m1 := l11Match_ev (W : Int) (H : Int) u v (rkAt W H u v i).f0.f0 (rkAt W H u v i).f0.f1 W H rfl rfl fu fv ax ay
  have m2 := l11Match_ev (W : Int) (H : Int) u v (rkAt W H u v j).f0.f0 (rkAt W H u v j).f0.f1 W H rfl rfl fu fv bx bY
  unfold spec_l11Better.f
  refine ev_bind m1 (ev_bind m2 ?_)
  have e1 : matchS W H u v (rkAt W H u v i).f0.f0 (rkAt W H u v i).f0.f1 = ((rkAt W H u v i).f1, (rkAt W H u v i).f2) := rfl
  have e2 : matchS W H u v (rkAt W H u v j).f0.f0 (rkAt W H u v j).f0.f1 = ((rkAt W H u v j).f1, (rkAt W H u v j).f2) := rfl
  rw [e1, e2]
  have hmul : ∀ a b : Int, 0 ≤ a ∧ a ≤ 1280000 → 0 ≤ b ∧ b ≤ 64 → wrap64 (a * b) = a * b := fun a b h k => by
    have h1 : 0 ≤ a * b := Int.mul_nonneg h.1 k.1
    have h2 : a * b ≤ 1280000 * 64 := Int.mul_le_mul h.2 k.2 k.1 (by omega)
    exact w64 (by omega) (by omega)
  have hs : ∀ a b : Int, -2 ≤ a ∧ a ≤ 2 → -2 ≤ b ∧ b ≤ 2 → wrap64 (absZ a + absZ b) = absZ a + absZ b := fun a b h k => by
    unfold absZ
    exact w64 (by split <;> split <;> omega) (by split <;> split <;> omega)
  simp only
  rw [hmul _ _ a1 b2, hmul _ _ b1 a2, absS_at _ (by omega) (by omega), absS_at _ (by omega) (by omega), absS_at _ (by omega) (by omega), absS_at _ (by omega) (by omega)]
  simp only [Option.bind_some]
  rw [hs _ _ ax ay, hs _ _ bx bY]
  unfold rkLt
  rw [rkA_abs, rkA_abs, rkA_abs, rkA_abs]
  have e := @rLt_iff (rkAt W H u v i).f1 (rkAt W H u v i).f2 (absZ (rkAt W H u v i).f0.f0 + absZ (rkAt W H u v i).f0.f1) (rkAt W H u v i).f0.f1 (rkAt W H u v i).f0.f0 (rkAt W H u v j).f1 (rkAt W H u v j).f2 (absZ (rkAt W H u v j).f0.f0 + absZ (rkAt W H u v j).f0.f1) (rkAt W H u v j).f0.f1 (rkAt W H u v j).f0.f0
  generalize rLt _ _ _ _ _ _ _ _ _ _ = b at e ⊢
  generalize (rkAt W H u v i).f1 * (rkAt W H u v j).f2 = p at e ⊢
  generalize (rkAt W H u v j).f1 * (rkAt W H u v i).f2 = q at e ⊢
  generalize absZ (rkAt W H u v i).f0.f0 + absZ (rkAt W H u v i).f0.f1 = d1 at e ⊢
  generalize absZ (rkAt W H u v j).f0.f0 + absZ (rkAt W H u v j).f0.f1 = d2 at e ⊢
  generalize (rkAt W H u v i).f0.f1 = y1 at e ⊢
  generalize (rkAt W H u v j).f0.f1 = y2 at e ⊢
  generalize (rkAt W H u v i).f0.f0 = x1 at e ⊢
  generalize (rkAt W H u v j).f0.f0 = x2 at e ⊢
  refine ev_const ?_
  have eb : b = decide (p < q ∨ p = q ∧ (d1 < d2 ∨ d1 = d2 ∧ (y1 < y2 ∨ y1 = y2 ∧ x1 < x2))) := by
    rw [Bool.eq_iff_iff, e, decide_eq_true_eq]
  rw [eb]
  by_cases c1 : p = q
  · rw [if_pos c1]
    by_cases c2 : d1 = d2
    · rw [if_pos c2]
      by_cases c3 : y1 < y2
      · rw [if_pos c3, decide_eq_true (by omega)]
      · rw [if_neg c3]
        by_cases c4 : y1 = y2
        · rw [if_pos c4]
          congr 1
          rw [decide_eq_decide]
          omega
        · rw [if_neg c4, decide_eq_false (by omega)]
    · rw [if_neg c2]
      congr 1
      rw [decide_eq_decide]
      omega
  · rw [if_neg c1]
    congr 1
    rw [decide_eq_decide]
    omega
theorem qual_ev (W H : Nat) (u v : List Int) (fu : FieldIs (W : Int) (H : Int) u) (fv : FieldIs (W : Int) (H : Int) v) (j : Nat) (hj : j < 25) :
    Ev (fun k => spec_l11Qualifies.f k (W : Int) (H : Int) u (W : Int) (H : Int) v (rkAt W H u v j).f0.f0 (rkAt W H u v j).f0.f1) (rkQ u.length (rkAt W H u v j)) := by
  have hlen := fu.len64
  have hlu : u.length = H * W := by have := fu.len; rw [Int.mul_comm] at this; exact_mod_cast this
  have h64 : H * W ≤ 64 := by omega
  obtain ⟨ax, ay, a1, a2⟩ := rkAt_bd (W := W) (H := H) fu.cells fv.cells h64 hj
  have m1 := l11Match_ev (W : Int) (H : Int) u v (rkAt W H u v j).f0.f0 (rkAt W H u v j).f0.f1 W H rfl rfl fu fv ax ay
  unfold spec_l11Qualifies.f
  refine ev_bind m1 ?_
  have e1 : matchS W H u v (rkAt W H u v j).f0.f0 (rkAt W H u v j).f0.f1 = ((rkAt W H u v j).f1, (rkAt W H u v j).f2) := rfl
  rw [e1]
  simp only
  generalize (rkAt W H u v j) = x at *
  refine ev_const ?_
  unfold rkQ
  rw [w64 (by omega) (by omega)]
  by_cases h : x.f2 > 0
  · rw [if_pos h, decide_eq_true (show x.f2 ≥ 1 by omega), Bool.true_and]
  · rw [if_neg h, decide_eq_false (show ¬ x.f2 ≥ 1 by omega), Bool.false_and]
theorem mapD (M : List S82) (i : Nat) : (M.map (fun x => x.f0)).getD i z28 = (M.getD i z82).f0 := by
  simp only [List.getD, List.getElem?_map]
  cases M[i]? <;> rfl
theorem rankK_ev (W H : Nat) (u v : List Int) (fu : FieldIs (W : Int) (H : Int) u) (fv : FieldIs (W : Int) (H : Int) v) (j : Nat) (hj : j < 25) (M : List S82) (hM : RkMem W H u v j M) (y x : Int) (mx my : Int) (emx : mx = (rkAt W H u v j).f0.f0) (emy : my = (rkAt W H u v j).f0.f1) (r : List S28)
    (h : Ev (fun k => spec_l11Rank.l1 k ((insR rkLt z82 (rkAt W H u v j) M).map (fun x => x.f0)) y (wrap64 (x + 1)) (W : Int) (H : Int) u (W : Int) (H : Int) v) r) : ∀ p, p ≤ M.length → ipos rkLt z82 (rkAt W H u v j) M p = ipos rkLt z82 (rkAt W H u v j) M M.length →
      Ev (fun k => spec_l11Rank.l2 k (M.map (fun x => x.f0)) y x (p : Int) (W : Int) (H : Int) u (W : Int) (H : Int) v mx my) r := by
  have hl := hM.1
  have em : (⟨mx, my⟩ : S28) = (rkAt W H u v j).f0 := by rw [emx, emy]
  have fin : ∀ p : Nat, p ≤ M.length → p = ipos rkLt z82 (rkAt W H u v j) M M.length → (((M.map (fun x => x.f0)).take p ++ [(⟨mx, my⟩ : S28)]) ++ (M.map (fun x => x.f0)).drop p) = (insR rkLt z82 (rkAt W H u v j) M).map (fun x => x.f0) := by
    intro p hp e
    unfold insR
    rw [← e, List.map_append, List.map_append, List.map_take, List.map_drop, em]
    rfl
  intro p
  induction p with
  | zero =>
    intro _ e
    refine ev_step (fun k => ?_) h
    simp only [spec_l11Rank.l2]
    rw [if_neg (by simp)]
    simp only [Option.bind_some, List.nil_append, Int.toNat_natCast, List.length_nil, List.length_take, List.length_map, List.length_append, List.length_drop, List.length_singleton]
    rw [if_pos (by omega), if_pos (by omega), if_pos (by omega), if_pos (by omega), if_pos (by omega)]
    rw [fin 0 (Nat.zero_le _) e]
  | succ p ih =>
    intro hp e
    have hpl : p < M.length := by omega
    obtain ⟨i, hi, ei, _⟩ := hM.2 _ (List.getElem_mem hpl)
    have eg : M.getD p z82 = rkAt W H u v i := by rw [getD_eq_get _ hpl, ei]
    have hb := better_ev W H u v fu fv j i hj (by omega)
    have w1 : wrap64 (((p + 1 : Nat) : Int) - 1) = (p : Int) := by rw [w64 (by omega) (by omega)]; omega
    have er : rd_T28 (M.map (fun x => x.f0)) (p : Int) = (rkAt W H u v i).f0 := by
      unfold rd_T28
      rw [Int.toNat_natCast, mapD, eg]
    refine ev_step (g := fun k => spec_l11Rank.l2 k (M.map (fun x => x.f0)) y x ((p + 1 : Nat) : Int) (W : Int) (H : Int) u (W : Int) (H : Int) v mx my) (fun k => by
      simp only [spec_l11Rank.l2]
      rw [w1, if_pos (by omega), if_pos (by omega), if_pos (by rw [List.length_map]; omega), er, emx, emy]) (ev_bind hb ?_)
    cases hlt : rkLt (rkAt W H u v j) (rkAt W H u v i) with
    | true =>
      refine ev_ifp rfl ?_
      have e2 : ipos rkLt z82 (rkAt W H u v j) M (p + 1) = ipos rkLt z82 (rkAt W H u v j) M p := by
        show (if rkLt (rkAt W H u v j) (M.getD p z82) = true then _ else _) = _
        rw [eg, if_pos hlt]
      have := ih (by omega) (e2.symm.trans e)
      rw [emx, emy] at this
      exact this
    | false =>
      refine ev_ifn (by simp) ?_
      have e2 : ipos rkLt z82 (rkAt W H u v j) M (p + 1) = p + 1 := by
        show (if rkLt (rkAt W H u v j) (M.getD p z82) = true then _ else _) = _
        rw [eg, if_neg (by rw [hlt]; simp)]
      have f := fin (p + 1) hp (e2.symm.trans e)
      refine Ev.congr (fun k => ?_) h
      simp only [Option.bind_some, List.nil_append, Int.toNat_natCast, List.length_nil, List.length_take, List.length_map, List.length_append, List.length_drop, List.length_singleton]
      rw [if_pos (by omega), if_pos (by omega), if_pos (by omega), if_pos (by omega), if_pos (by omega)]
      rw [← f, emx, emy]
theorem rankS_ev (W H : Nat) (u v : List Int) (fu : FieldIs (W : Int) (H : Int) u) (fv : FieldIs (W : Int) (H : Int) v) :
    Ev (fun k => spec_l11Rank.f k (W : Int) (H : Int) u (W : Int) (H : Int) v) ((ranked W H u v).map (fun x => x.f0)) := by
  refine grid_ev (fun k M y => spec_l11Rank.l0 k (M.map (fun x => x.f0)) ((y : Int) - 2) (W : Int) (H : Int) u (W : Int) (H : Int) v) (fun k M y x => spec_l11Rank.l1 k (M.map (fun x => x.f0)) ((y : Int) - 2) ((x : Int) - 2) (W : Int) (H : Int) u (W : Int) (H : Int) v) 5 5 (gS W H u v)
    (fun M => M.map (fun x => x.f0)) (RkMem W H u v)
    (fun y M r hI hy h => ev_step (fun k => by
      simp only [spec_l11Rank.l0]
      rw [if_pos (by omega)]
      rfl) h)
    (fun y x M r hI hy hx h => ?_)
    (fun y x M hI hy hx => gS_mem _ M hI)
    (fun y M r hI hy h => ev_step (fun k => by
      simp only [spec_l11Rank.l1]
      rw [if_neg (by omega), w64 (by omega) (by omega), show ((y : Int) - 2 + 1) = ((y + 1 : Nat) : Int) - 2 by omega]) h)
    (fun M hI => ev_step (f := fun _ => some (M.map (fun x => x.f0))) (fun k => by
      simp only [spec_l11Rank.l0]
      rw [if_neg (by omega)]) (ev_some _)) [] ⟨Nat.le_refl _, fun x hx => absurd hx (by simp)⟩
  have hj : y * 5 + x < 25 := by omega
  have em : (y * 5 + x) % 5 = x := by omega
  have ed : (y * 5 + x) / 5 = y := by omega
  have ex : (rkAt W H u v (y * 5 + x)).f0.f0 = (x : Int) - 2 := by show (((y * 5 + x) % 5 : Nat) : Int) - 2 = _; rw [em]
  have ey : (rkAt W H u v (y * 5 + x)).f0.f1 = (y : Int) - 2 := by show (((y * 5 + x) / 5 : Nat) : Int) - 2 = _; rw [ed]
  have hq := qual_ev W H u v fu fv (y * 5 + x) hj
  rw [ex, ey] at hq
  have e1 : wrap64 ((x : Int) - 2 + 1) = ((x + 1 : Nat) : Int) - 2 := by rw [w64 (by omega) (by omega)]; omega
  refine ev_step (g := fun k => spec_l11Rank.l1 k (M.map (fun x => x.f0)) ((y : Int) - 2) ((x : Int) - 2) (W : Int) (H : Int) u (W : Int) (H : Int) v) (fun k => by simp only [spec_l11Rank.l1]; rw [if_pos (show (x : Int) - 2 ≤ 2 by omega)]) (ev_bind hq ?_)
  unfold gS at h
  cases hb : rkQ u.length (rkAt W H u v (y * 5 + x)) with
  | true =>
    rw [if_pos hb] at h
    refine ev_ifp rfl ?_
    have hk := rankK_ev W H u v fu fv (y * 5 + x) hj M hI ((y : Int) - 2) ((x : Int) - 2) ((x : Int) - 2) ((y : Int) - 2) ex.symm ey.symm r (by rw [e1]; exact h) M.length (Nat.le_refl _) rfl
    rw [List.length_map]
    exact hk
  | false =>
    rw [if_neg (by rw [hb]; simp)] at h
    refine ev_ifn (by simp) ?_
    rw [e1]
    exact h
abbrev MO := S28
theorem rdmo (xs : List MO) (i : Nat) : rd_T28 xs (i : Int) = xs.getD i z28 := by simp [rd_T28]
theorem best_both (a b : Int) (u : List Int) (a' b' : Int) (v : List Int) (hu : u.length ≤ 9223372036854775806) (hv : v.length ≤ 9223372036854775806) :
    ∃ (l : List MO) (ok : Bool) (r : Int × Int × Bool), Ev (fun k => impl_RankMotions.f k a b u a' b' v) (l, ok) ∧ Ev (fun k => spec_BestMotion.f k a b u a' b' v) r ∧ Ev (fun k => impl_BestMotion.f k a b u a' b' v) r ∧ l.length ≤ 25 ∧
      (ok = false → l = []) ∧ (ok = true → ∃ W H : Nat, a = W ∧ b = H ∧ a' = W ∧ b' = H ∧ FieldIs (W : Int) (H : Int) u ∧ FieldIs (W : Int) (H : Int) v ∧ l = (ranked W H u v).map (fun x => x.f0)) ∧
      r = (if 0 < l.length then ((l.getD 0 z28).f0, (l.getD 0 z28).f1, true) else (0, 0, false)) := by
  have tail : ∀ l : List MO, Ev (fun _ => (if (l.length : Int) = 0 then (some ((0 : Int), (0 : Int), false)) else (if 0 < (l.length : Int) then (some ((rd_T28 l 0).f0, (rd_T28 l 0).f1, true)) else none))) (if 0 < l.length then ((l.getD 0 z28).f0, (l.getD 0 z28).f1, true) else (0, 0, false)) := by
    intro l
    by_cases h : 0 < l.length
    · rw [if_pos h]
      refine ev_ifn (by omega) (ev_ifp (by omega) ?_)
      have e := rdmo l 0
      rw [show ((0 : Nat) : Int) = 0 from rfl] at e
      rw [e]
      exact ev_some _
    · rw [if_neg h]
      exact ev_ifp (by omega) (ev_some _)
  have g1 := l2Same_ev a b u a' b' v hu hv
  have g2 := alike2_ev a b u a' b' v
  cases h : alike a b u a' b' v with
  | false =>
    rw [h] at g1 g2
    have hi : Ev (fun k => impl_RankMotions.f k a b u a' b' v) (([] : List MO), false) := by
      unfold impl_RankMotions.f
      exact ev_bind g2 (ev_ifn (by simp) (ev_some _))
    refine ⟨[], false, (0, 0, false), hi, ?_, ?_, by simp, fun _ => rfl, fun hh => absurd hh (by simp), rfl⟩
    · unfold spec_BestMotion.f
      exact ev_bind g1 (ev_ifn (by simp) (ev_some _))
    · unfold impl_BestMotion.f
      exact ev_bind hi (ev_ifn (by simp) (ev_some _))
  | true =>
    rw [h] at g1 g2
    obtain ⟨fu, fv, ea, eb⟩ := alike_iff.1 h
    subst ea
    subst eb
    obtain ⟨W, H, rfl, rfl, hW, hH, hlen, h64⟩ := shape_nat fu
    have hi : Ev (fun k => impl_RankMotions.f k (W : Int) (H : Int) u (W : Int) (H : Int) v) ((ranked W H u v).map (fun x => x.f0), true) := by
      unfold impl_RankMotions.f
      exact ev_bind g2 (ev_ifp rfl (rankI_ev W H u v fu fv))
    refine ⟨(ranked W H u v).map (fun x => x.f0), true, _, hi, ?_, ?_, by rw [List.length_map]; exact ranked_mem.1, fun hh => absurd hh (by simp), fun _ => ⟨W, H, rfl, rfl, rfl, rfl, fu, fv, rfl⟩, rfl⟩
    · unfold spec_BestMotion.f
      exact ev_bind g1 (ev_ifp rfl (ev_bind (rankS_ev W H u v fu fv) (tail _)))
    · unfold impl_BestMotion.f
      exact ev_bind hi (ev_ifp rfl (tail _))
abbrev NF := S26
def nStep (W H : Nat) (mx my : Int) (s : List NF × List Int) : List NF × List Int := (s.1 ++ [(⟨(W : Int), (H : Int), tab (H * W) (moveCell W H s.2 mx my)⟩ : NF)], tab (H * W) (moveCell W H s.2 mx my))
def nCast (W H : Nat) (mx my : Int) (n : Nat) (v : List Int) : List NF × List Int := iter (fun _ s => nStep W H mx my s) 0 n ([], v)
def NInv (W H : Nat) (mx my : Int) (v : List Int) (i : Nat) (s : List NF × List Int) : Prop := s.1.length = i ∧ s.2.length = H * W ∧ (∀ x ∈ s.1, x.f0 = (W : Int) ∧ x.f1 = (H : Int) ∧ x.f2.length = H * W) ∧ (0 < i → s.1.getD 0 z26 = ⟨(W : Int), (H : Int), tab (H * W) (moveCell W H v mx my)⟩) ∧ (i = 0 → s.2 = v)
theorem nStep_inv {W H : Nat} {mx my : Int} {v : List Int} (i : Nat) (s : List NF × List Int) (h : NInv W H mx my v i s) : NInv W H mx my v (i + 1) (nStep W H mx my s) := by
  obtain ⟨h1, h2, h3, h4, h5⟩ := h
  unfold nStep
  refine ⟨by simp [h1], by simp only [tab_length], fun x hx => ?_, fun _ => ?_, fun h => by omega⟩
  · rcases List.mem_append.1 hx with hx | hx
    · exact h3 x hx
    · rw [List.mem_singleton.1 hx]
      exact ⟨rfl, rfl, tab_length _ _⟩
  · by_cases h0 : i = 0
    · have e : s.1 = [] := List.length_eq_zero_iff.1 (by omega)
      rw [e, h5 h0]
      rfl
    · rw [← h4 (by omega)]
      simp only [List.getD]
      rw [List.getElem?_append_left (by omega)]
theorem nInv0 {W H : Nat} {mx my : Int} {v : List Int} (hv : v.length = H * W) : NInv W H mx my v 0 ([], v) := ⟨rfl, hv, fun x hx => (by cases hx), fun h => by omega, fun _ => rfl⟩
theorem nCast_inv {W H : Nat} {mx my : Int} {v : List Int} (hv : v.length = H * W) (n : Nat) : NInv W H mx my v n (nCast W H mx my n v) :=
  iter_inv (fun _ s => nStep W H mx my s) (NInv W H mx my v) n (fun i s h _ => nStep_inv i s h) n 0 _ (by omega) (nInv0 hv)
theorem nowS_ev (W H : Nat) (mx my : Int) (v : List Int) (n : Nat) (hn : n ≤ 6) (hW : 1 ≤ W ∧ W ≤ 8) (hH : 1 ≤ H ∧ H ≤ 8) (hv : v.length = H * W) (m1 : -2 ≤ mx ∧ mx ≤ 2) (m2 : -2 ≤ my ∧ my ≤ 2) :
    Ev (fun k => spec_Nowcast.l0 k (n : Int) ([] : List NF) 0 mx my (W : Int) (H : Int) v) ((nCast W H mx my n v).1, true) := by
  refine loop_ev (fun k (s : List NF × List Int) i => spec_Nowcast.l0 k (n : Int) s.1 (i : Int) mx my (W : Int) (H : Int) s.2) n (fun _ s => nStep W H mx my s) (fun s => (s.1, true)) (NInv W H mx my v)
    (fun i s r hI hi h => ?_) (fun i s hI _ => nStep_inv i s hI)
    (fun s hI => ev_step (f := fun _ => some (s.1, true)) (fun k => by
      simp only [spec_Nowcast.l0]
      rw [if_neg (by omega)]) (ev_some _)) 0 ([], v) (Nat.zero_le _) (nInv0 hv)
  obtain ⟨h1, h2, _⟩ := hI
  refine ev_step (g := fun k => spec_Nowcast.l0 k (n : Int) s.1 (i : Int) mx my (W : Int) (H : Int) s.2) (fun k => by simp only [spec_Nowcast.l0]; rw [if_pos (by omega)]) (ev_bind (l11Move_ev W H s.2 mx my hW hH h2 m1 m2) ?_)
  refine ev_ifp (by omega) ?_
  rw [w64 (x := (i : Int) + 1) (by omega) (by omega)]
  exact h
theorem nowI_ev (W H : Nat) (mx my : Int) (v : List Int) (n : Nat) (hn : n ≤ 6) (hW : 1 ≤ W ∧ W ≤ 8) (hH : 1 ≤ H ∧ H ≤ 8) (hv : v.length = H * W) (m1 : -2 ≤ mx ∧ mx ≤ 2) (m2 : -2 ≤ my ∧ my ≤ 2) :
    Ev (fun k => impl_Nowcast.l0 k ([] : List NF) (n : Int) 0 (W : Int) (H : Int) v mx my) ((nCast W H mx my n v).1, true) := by
  refine loop_ev (fun k (s : List NF × List Int) i => impl_Nowcast.l0 k s.1 (n : Int) (i : Int) (W : Int) (H : Int) s.2 mx my) n (fun _ s => nStep W H mx my s) (fun s => (s.1, true)) (NInv W H mx my v)
    (fun i s r hI hi h => ?_) (fun i s hI _ => nStep_inv i s hI)
    (fun s hI => ev_step (f := fun _ => some (s.1, true)) (fun k => by
      simp only [impl_Nowcast.l0]
      rw [if_neg (by omega)]) (ev_some _)) 0 ([], v) (Nat.zero_le _) (nInv0 hv)
  obtain ⟨h1, h2, _⟩ := hI
  refine ev_step (g := fun k => impl_Nowcast.l0 k s.1 (n : Int) (i : Int) (W : Int) (H : Int) s.2 mx my) (fun k => by simp only [impl_Nowcast.l0]; rw [if_pos (by omega)]) (ev_bind (moveField_ev W H s.2 mx my hW hH h2 m1 m2) ?_)
  refine ev_ifp (by omega) ?_
  rw [w64 (x := (i : Int) + 1) (by omega) (by omega)]
  exact h
theorem nowcast_both (a b : Int) (u : List Int) (a' b' : Int) (v : List Int) (steps : Int) (hu : u.length ≤ 9223372036854775806) (hv : v.length ≤ 9223372036854775806) :
    ∃ r : List NF × Bool, Ev (fun k => spec_Nowcast.f k a b u a' b' v steps) r ∧ Ev (fun k => impl_Nowcast.f k a b u a' b' v steps) r ∧ (r.1.length ≤ 6 ∧ ∀ x ∈ r.1, x.f2.length ≤ 64) ∧
      (r.2 = true → ∃ (W H : Nat) (mx my : Int), a = W ∧ b = H ∧ a' = W ∧ b' = H ∧ FieldIs (W : Int) (H : Int) u ∧ FieldIs (W : Int) (H : Int) v ∧ (-2 ≤ mx ∧ mx ≤ 2) ∧ (-2 ≤ my ∧ my ≤ 2) ∧ v.length = H * W ∧ Ev (fun k => impl_BestMotion.f k a b u a' b' v) (mx, my, true) ∧
        (r.1.length : Int) = steps ∧ 1 ≤ steps ∧ r.1.getD 0 z26 = ⟨(W : Int), (H : Int), tab (H * W) (moveCell W H v mx my)⟩) := by
  obtain ⟨ms, ok, best, _, hbs, hbi, hlen, hf, ht, hbest⟩ := best_both a b u a' b' v hu hv
  unfold spec_Nowcast.f impl_Nowcast.f
  have no : ∀ (mx my : Int), Ev (fun k => spec_Nowcast.j0 k steps ([] : List NF) true a' b' v mx my) (([] : List NF), false) ∧ Ev (fun k => impl_Nowcast.j0 k steps true a' b' v mx my) (([] : List NF), false) := fun mx my =>
    ⟨ev_step (fun k => spec_Nowcast.j0.eq_2 _ _ _ _ _ _ _ _ k) (ev_ifp rfl (ev_some _)), ev_step (fun k => impl_Nowcast.j0.eq_2 _ _ _ _ _ _ _ k) (ev_ifp rfl (ev_some _))⟩
  by_cases h0 : 0 < ms.length
  · rw [if_pos h0] at hbest
    have hok : ok = true := by
      cases ok with
      | true => rfl
      | false => rw [hf rfl] at h0; exact absurd h0 (by simp)
    obtain ⟨W, H, rfl, rfl, rfl, rfl, fu, fv, hms⟩ := ht hok
    have hlen64 := fu.len64
    have hlu : u.length = H * W := by have := fu.len; rw [Int.mul_comm] at this; exact_mod_cast this
    have hlv : v.length = H * W := by have := fv.len; rw [Int.mul_comm] at this; exact_mod_cast this
    have h64 : H * W ≤ 64 := by omega
    have hW : 1 ≤ W ∧ W ≤ 8 := by have := fu.a1; have := fu.a8; omega
    have hH : 1 ≤ H ∧ H ≤ 8 := by have := fu.b1; have := fu.b8; omega
    have hr0 : 0 < (ranked W H u v).length := by rw [hms, List.length_map] at h0; exact h0
    obtain ⟨j, hj, ej, _⟩ := (ranked_mem (W := W) (H := H) (u := u) (v := v)).2 _ (List.getElem_mem hr0)
    obtain ⟨ax, ay, _, _⟩ := rkAt_bd (W := W) (H := H) fu.cells fv.cells h64 hj
    rw [hms, mapD, getD_eq_get _ hr0, ej] at hbest
    rw [hbest] at hbs hbi
    generalize (rkAt W H u v j).f0.f0 = mx at *
    generalize (rkAt W H u v j).f0.f1 = my at *
    cases hst : inb steps 1 6 with
    | false =>
      have es : spec_l1In.f steps 1 6 = some false := by rw [l1In_is, hst]
      have ei : impl_within.f steps 1 6 = some false := by rw [within_is, hst]
      exact ⟨([], false), ev_bind (ev_some _) (ev_bind hbs (ev_ifp rfl (ev_bind (ev_const es) (no mx my).1))), ev_bind hbi (ev_ifp rfl (ev_bind (ev_const ei) (no mx my).2)), ⟨by simp, by simp⟩, fun hh => absurd hh (by simp)⟩
    | true =>
      have es : spec_l1In.f steps 1 6 = some true := by rw [l1In_is, hst]
      have ei : impl_within.f steps 1 6 = some true := by rw [within_is, hst]
      rw [inb_iff] at hst
      obtain ⟨n, rfl⟩ := Int.eq_ofNat_of_zero_le (show 0 ≤ steps by omega)
      have hs := nowS_ev W H mx my v n (by omega) hW hH hlv ax ay
      have hi := nowI_ev W H mx my v n (by omega) hW hH hlv ax ay
      obtain ⟨i1, i2, i3, i4, _⟩ := nCast_inv (mx := mx) (my := my) hlv n
      exact ⟨((nCast W H mx my n v).1, true), ev_bind (ev_some _) (ev_bind hbs (ev_ifp rfl (ev_bind (ev_const es) (ev_step (fun k => spec_Nowcast.j0.eq_2 _ _ _ _ _ _ _ _ k) (ev_ifn (by simp) hs))))),
        ev_bind hbi (ev_ifp rfl (ev_bind (ev_const ei) (ev_step (fun k => impl_Nowcast.j0.eq_2 _ _ _ _ _ _ _ k) (ev_ifn (by simp) hi)))), ⟨by simp only; omega, fun x hx => by rw [(i3 x hx).2.2]; exact h64⟩,
        fun _ => ⟨W, H, mx, my, rfl, rfl, rfl, rfl, fu, fv, ax, ay, hlv, hbi, by simp only; omega, by omega, i4 (by omega)⟩⟩
  · rw [if_neg h0] at hbest
    rw [hbest] at hbs hbi
    exact ⟨([], false), ev_bind (ev_some _) (ev_bind hbs (ev_ifn (by simp) (no 0 0).1)), ev_bind hbi (ev_ifn (by simp) (no 0 0).2), ⟨by simp, by simp⟩, fun hh => absurd hh (by simp)⟩
theorem matchI_ok (W H : Nat) (u v : List Int) (mx my : Int) (fu : FieldIs (W : Int) (H : Int) u) (fv : FieldIs (W : Int) (H : Int) v) (m1 : -2 ≤ mx ∧ mx ≤ 2) (m2 : -2 ≤ my ∧ my ≤ 2) :
    Ev (fun k => impl_MatchOf.f k (W : Int) (H : Int) u (W : Int) (H : Int) v mx my) ((matchS W H u v mx my).1, (matchS W H u v mx my).2, true) := by
  unfold impl_MatchOf.f
  have g2 := alike2_ev (W : Int) (H : Int) u (W : Int) (H : Int) v
  rw [alike_iff.2 ⟨fu, fv, rfl, rfl⟩] at g2
  rw [isMotion_is]
  simp only [Option.bind_some]
  exact ev_bind g2 (ev_ifp rfl (ev_ifp (motionOk_iff.2 ⟨m1, m2⟩) (ev_bind (matchOf_ev W H u v mx my fu fv m1 m2) (ev_some _))))
end Go.Proofs.Ytmekfmhnpinjlaa.Pure
namespace Go.Proofs.Ytmekfmhnpinjlaa.Pure
set_option linter.unusedVariables false
open Go.RowKit Go.Proofs.YtmekfmhnpinjlaaW.PrintWords Go.Proofs.YtmekfmhnpinjlaaW.PrintLast
theorem ends_inv {σ ρ : Type} (F : Nat → σ → Nat → Option ρ) (n : Nat) (I : Nat → σ → Prop) (P : ρ → Prop)
    (hs : ∀ i s, I i s → i < n → ∃ s', I (i + 1) s' ∧ ∀ r, Ev (fun k => F k s' (i + 1)) r → Ev (fun k => F k s i) r)
    (he : ∀ s, I n s → ∃ r, Ev (fun k => F k s n) r ∧ P r) : ∀ i s, i ≤ n → I i s → ∃ r, Ev (fun k => F k s i) r ∧ P r := by
  have key : ∀ d i s, n - i = d → i ≤ n → I i s → ∃ r, Ev (fun k => F k s i) r ∧ P r := by
    intro d
    induction d with
    | zero =>
      intro i s h0 h1 h2
      obtain rfl : i = n := by omega
      exact he s h2
    | succ d ih =>
      intro i s h0 h1 h2
      obtain ⟨s', h3, h4⟩ := hs i s h2 (by omega)
      obtain ⟨r, h5, h6⟩ := ih (i + 1) s' (by omega) (by omega) h3
      exact ⟨r, h4 r h5, h6⟩
  exact fun i s h1 h2 => key (n - i) i s rfl h1 h2
end Go.Proofs.Ytmekfmhnpinjlaa.Pure
namespace Go.Proofs.Ytmekfmhnpinjlaa.Pure
set_option linter.unusedVariables false
set_option linter.unusedSimpArgs false
open Go Go.RowKit Go.Proofs.Ytmekfmhnpinjlaa.P Go.Proofs.YtmekfmhnpinjlaaW.PrintWords Go.Proofs.YtmekfmhnpinjlaaW.PrintLast
theorem u64_bd (x : Int) : 0 ≤ IntKind.u64.wrap x ∧ IntKind.u64.wrap x < 18446744073709551616 := by
  rw [IntKind.wrap_u64]
  omega
theorem wraps63 (n : Int) (h0 : 0 ≤ n) (h1 : n < 2 ^ 63) : IntKind.u64.wrap n = n := by
  rw [IntKind.wrap_u64]
  omega
theorem and255 (v : Int) (h0 : 0 ≤ v) (h1 : v < 18446744073709551616) : 0 ≤ Go.bits .and .u64 (v / 1099511627776) 255 ∧ Go.bits .and .u64 (v / 1099511627776) 255 ≤ 255 := by
  have h := bits_mask .u64 63 (by decide) wraps63 8 (by decide) (v / 1099511627776) (by omega) (by omega)
  have e : ((2 : Int) ^ 8 - 1) = 255 := by decide
  have e2 : ((2 : Int) ^ 8) = 256 := by decide
  rw [e, e2] at h
  rw [h]
  omega
structure Code (l : List Int) : Prop where
  len : l.length ≤ 65536
  byte : ∀ x ∈ l, 0 ≤ x ∧ x ≤ 255
theorem Code.bd {l : List Int} (h : Code l) (i : Int) : 0 ≤ rd l i ∧ rd l i ≤ 255 := by
  unfold rd
  by_cases hi : i.toNat < l.length
  · rw [getD_eq_get 0 hi]
    exact h.byte _ (List.getElem_mem hi)
  · simp [List.getD, List.getElem?_eq_none (show l.length ≤ i.toNat by omega)]
theorem next_at {l : List Int} (hl : Code l) (i s : Int) (h0 : 0 ≤ i) (h1 : i ≤ 1000000000) : ∃ x s', spec_l1Cur_next.f l i s = some (x, i + 1, s') ∧ 0 ≤ x ∧ x ≤ 255 := by
  unfold spec_l1Cur_next.f
  have hr := hl.bd i
  have w1 : wrap64 (i + 1) = i + 1 := w64 (by omega) (by omega)
  rw [w1]
  by_cases c1 : i < (l.length : Int)
  · rw [if_pos c1, if_pos h0, if_pos (by omega)]
    exact ⟨_, _, rfl, by rw [w64 (by omega) (by omega)]; exact hr.1, by rw [w64 (by omega) (by omega)]; exact hr.2⟩
  · rw [if_neg c1, if_neg (by omega)]
    have hb := u64_bd (IntKind.u64.wrap (IntKind.u64.wrap (s * 6364136223846793005)) + 889889)
    have ha := and255 _ hb.1 hb.2
    exact ⟨_, _, rfl, by rw [w64 (by omega) (by omega)]; exact ha.1, by rw [w64 (by omega) (by omega)]; exact ha.2⟩
theorem pick_at {l : List Int} (hl : Code l) (i s n : Int) (h0 : 0 ≤ i) (h1 : i ≤ 100000000) :
    ∃ x i' s', spec_l1Cur_pick.f l i s n = some (x, i', s') ∧ 0 ≤ x ∧ (1 ≤ n → x < n) ∧ i ≤ i' ∧ i' ≤ i + 2 := by
  unfold spec_l1Cur_pick.f
  by_cases c1 : n ≤ 1
  · rw [if_pos c1]
    exact ⟨_, _, _, rfl, by omega, fun h => by omega, by omega, by omega⟩
  · rw [if_neg c1]
    obtain ⟨x, s1, e1, b1, b2⟩ := next_at hl i s h0 (by omega)
    rw [e1, Option.bind_some]
    have cn : ¬ n = 0 := by omega
    by_cases c2 : n > 200
    · rw [if_pos c2]
      obtain ⟨y, s2, e2, b3, b4⟩ := next_at hl (i + 1) s1 (by omega) (by omega)
      simp only
      rw [e2, Option.bind_some, if_neg cn]
      simp only
      rw [w64 (x := x * 256) (by omega) (by omega), w64 (by omega) (by omega), Int.tmod_eq_emod_of_nonneg (by omega)]
      exact ⟨_, _, _, rfl, Int.emod_nonneg _ cn, fun _ => Int.emod_lt_of_pos _ (by omega), by omega, by omega⟩
    · rw [if_neg c2, if_neg cn]
      simp only
      rw [Int.tmod_eq_emod_of_nonneg (by omega)]
      exact ⟨_, _, _, rfl, Int.emod_nonneg _ cn, fun _ => Int.emod_lt_of_pos _ (by omega), by omega, by omega⟩
theorem one_at {l : List Int} (hl : Code l) (i s n : Int) (h0 : 0 ≤ i) (h1 : i ≤ 100000000) : ∃ b i' s', spec_l1Cur_one.f l i s n = some (b, i', s') ∧ i ≤ i' ∧ i' ≤ i + 2 := by
  unfold spec_l1Cur_one.f
  obtain ⟨x, i', s', e, _, _, b3, b4⟩ := pick_at hl i s n h0 h1
  rw [e, Option.bind_some]
  exact ⟨_, _, _, rfl, b3, b4⟩
theorem among_at {l : List Int} (hl : Code l) (i s : Int) (xs : List Int) (hx : 1 ≤ xs.length) (h0 : 0 ≤ i) (h1 : i ≤ 100000000) :
    ∃ x i' s', spec_l1Cur_among.f l i s xs = some (x, i', s') ∧ x ∈ xs ∧ i ≤ i' ∧ i' ≤ i + 2 := by
  unfold spec_l1Cur_among.f
  obtain ⟨x, i', s', e, b1, b2, b3, b4⟩ := pick_at hl i s (xs.length : Int) h0 h1
  have b5 := b2 (by omega)
  rw [e, Option.bind_some, if_pos b1, if_pos b5]
  refine ⟨_, _, _, rfl, ?_, b3, b4⟩
  unfold rd
  simp only
  have hlt : x.toNat < xs.length := by omega
  rw [getD_eq_get 0 hlt]
  exact List.getElem_mem hlt
theorem field_j1 {l : List Int} (hl : Code l) (i s : Int) (h0 : 0 ≤ i) (h1 : i ≤ 90000000) (w h : Int) (c : List Int) (hc : 1 ≤ c.length ∧ c.length ≤ 64) :
    ∃ r : Int × Int × List Int × Int × Int, Ev (fun k => spec_l1Cur_field.j1 k l i s w h c) r ∧ (1 ≤ r.2.2.1.length ∧ r.2.2.1.length ≤ 64) ∧ i ≤ r.2.2.2.1 ∧ r.2.2.2.1 ≤ i + 2 := by
  obtain ⟨b, i1, s1, e1, b1, b2⟩ := one_at hl i s 24 h0 (by omega)
  cases b with
  | true =>
    have hf := l2Fill_ev 8 8 3 (by decide) (by decide)
    refine ⟨(8, 8, List.replicate (8 * 8 : Int).toNat 3, i1, s1), ev_step (fun k => spec_l1Cur_field.j1.eq_2 _ _ _ _ _ _ k) (ev_bind (ev_const e1) (ev_ifp rfl (ev_bind hf (ev_some _)))), by simp, b1, b2⟩
  | false =>
    exact ⟨(w, h, c, i1, s1), ev_step (fun k => spec_l1Cur_field.j1.eq_2 _ _ _ _ _ _ k) (ev_bind (ev_const e1) (ev_ifn (by simp) (ev_some _))), hc, b1, b2⟩
theorem field_at {l : List Int} (hl : Code l) (i s : Int) (h0 : 0 ≤ i) (h1 : i ≤ 80000000) :
    ∃ r : Int × Int × List Int × Int × Int, Ev (fun k => spec_l1Cur_field.f k l i s) r ∧ (1 ≤ r.2.2.1.length ∧ r.2.2.1.length ≤ 64) ∧ i ≤ r.2.2.2.1 ∧ r.2.2.2.1 ≤ i + 200 := by
  obtain ⟨x1, i1, s1, e1, p1, q1, b1, b2⟩ := pick_at hl i s 5 h0 (by omega)
  obtain ⟨x2, i2, s2, e2, p2, q2, b3, b4⟩ := pick_at hl i1 s1 5 (by omega) (by omega)
  obtain ⟨x3, i3, s3, e3, _, b5, b6⟩ := among_at hl i2 s2 [0, 10, 100, (-50)] (by simp) (by omega) (by omega)
  have q1' := q1 (by omega)
  have q2' := q2 (by omega)
  obtain ⟨W, hW⟩ := Int.eq_ofNat_of_zero_le (show 0 ≤ 1 + x1 by omega)
  obtain ⟨H, hH⟩ := Int.eq_ofNat_of_zero_le (show 0 ≤ 1 + x2 by omega)
  have hm : W * H ≤ 25 := Nat.mul_le_mul (show W ≤ 5 by omega) (show H ≤ 5 by omega)
  have hm1 : 1 ≤ W * H := Nat.mul_pos (by omega) (by omega)
  have ew := Aside0.mk (show wrap64 ((W : Int) * (H : Int)) = ((W * H : Nat) : Int) by rw [← Int.natCast_mul, w64n (by omega)])
  obtain ⟨r, hr, hp⟩ := ends_inv (fun k (st : Int × Int × List Int) j => spec_l1Cur_field.l0 k x3 (j : Int) l st.1 st.2.1 (W : Int) (H : Int) st.2.2) (W * H) (fun j st => i3 ≤ st.1 ∧ st.1 ≤ i3 + 4 * (j : Int) ∧ st.2.2.length = j)
    (fun r => (1 ≤ r.2.2.1.length ∧ r.2.2.1.length ≤ 64) ∧ i ≤ r.2.2.2.1 ∧ r.2.2.2.1 ≤ i + 200)
    (fun j st hI hj => by
      obtain ⟨at_, sd, c⟩ := st
      obtain ⟨c1, c2, c3⟩ := hI
      simp only at c1 c2 c3
      obtain ⟨y, i4, s4, e4, _, _, d1, d2⟩ := pick_at hl at_ sd 40 (by omega) (by omega)
      obtain ⟨b, i5, s5, e5, d3, d4⟩ := one_at hl i4 s4 12 (by omega) (by omega)
      have ej := Aside0.mk (show wrap64 ((j : Int) + 1) = ((j + 1 : Nat) : Int) by rw [w64 (by omega) (by omega)]; rfl)
      cases b with
      | true =>
        refine ⟨(i5, s5, c ++ [(-9999)]), ⟨by simp only; omega, by simp only; omega, by simp [c3]⟩, fun r h => ev_step (fun k => ?_) h⟩
        simp only [spec_l1Cur_field.l0]
        rw [ew.out, if_pos (by omega), e4]
        simp only [Option.bind_some]
        rw [e5]
        simp only [Option.bind_some, if_true]
        rw [if_pos (by omega), ej.out]
      | false =>
        refine ⟨(i5, s5, c ++ [wrap64 (x3 + y)]), ⟨by simp only; omega, by simp only; omega, by simp [c3]⟩, fun r h => ev_step (fun k => ?_) h⟩
        simp only [spec_l1Cur_field.l0]
        rw [ew.out, if_pos (by omega), e4]
        simp only [Option.bind_some]
        rw [e5]
        simp only [Option.bind_some, Bool.false_eq_true, if_false]
        rw [if_pos (by omega), ej.out])
    (fun st hI => by
      obtain ⟨at_, sd, c⟩ := st
      obtain ⟨c1, c2, c3⟩ := hI
      simp only at c1 c2 c3
      obtain ⟨b, i4, s4, e4, d1, d2⟩ := one_at hl at_ sd 10 (by omega) (by omega)
      cases b with
      | true =>
        obtain ⟨y, i5, s5, e5, d3, d4, d5, d6⟩ := pick_at hl i4 s4 (c.length : Int) (by omega) (by omega)
        obtain ⟨z, i6, s6, e6, _, d7, d8⟩ := among_at hl i5 s5 [9000, (-9000), 0] (by simp) (by omega) (by omega)
        have d4' := d4 (by omega)
        obtain ⟨r, hr, hc, d9, d10⟩ := field_j1 hl i6 s6 (by omega) (by omega) (W : Int) (H : Int) (c.set y.toNat z) (by simp; omega)
        refine ⟨r, ev_step (fun k => ?_) hr, hc, by omega, by omega⟩
        simp only [spec_l1Cur_field.l0]
        rw [ew.out, if_neg (by omega), e4]
        simp only [Option.bind_some, if_true]
        rw [e5]
        simp only [Option.bind_some]
        rw [e6]
        simp only [Option.bind_some]
        rw [if_pos d3, if_pos d4']
      | false =>
        obtain ⟨r, hr, hc, d9, d10⟩ := field_j1 hl i4 s4 (by omega) (by omega) (W : Int) (H : Int) c (by omega)
        refine ⟨r, ev_step (fun k => ?_) hr, hc, by omega, by omega⟩
        simp only [spec_l1Cur_field.l0]
        rw [ew.out, if_neg (by omega), e4]
        simp only [Option.bind_some, Bool.false_eq_true, if_false]) 0 (i3, s3, []) (Nat.zero_le _) ⟨by simp only; omega, by simp only; omega, rfl⟩
  refine ⟨r, ?_, hp⟩
  unfold spec_l1Cur_field.f
  refine ev_bind (ev_const e1) (ev_bind (ev_const e2) (ev_bind (ev_const e3) ?_))
  simp only
  rw [w64 (x := 1 + x1) (by omega) (by omega), w64 (x := 1 + x2) (by omega) (by omega), hW, hH]
  exact hr
theorem anyField_at {l : List Int} (hl : Code l) (i s : Int) (h0 : 0 ≤ i) (h1 : i ≤ 70000000) :
    ∃ r : Int × Int × List Int × Int × Int, Ev (fun k => spec_l1Cur_anyField.f k l i s) r ∧ r.2.2.1.length ≤ 64 ∧ i ≤ r.2.2.2.1 ∧ r.2.2.2.1 ≤ i + 300 := by
  obtain ⟨⟨w, h, c, i1, s1⟩, hr, hc, b1, b2⟩ := field_at hl i s h0 (by omega)
  simp only at hc b1 b2
  obtain ⟨x, i2, s2, e2, _, _, b3, b4⟩ := pick_at hl i1 s1 24 (by omega) (by omega)
  unfold spec_l1Cur_anyField.f
  by_cases c0 : x = 0
  · obtain ⟨y, i3, s3, e3, _, b5, b6⟩ := among_at hl i2 s2 [0, 9, 8, h] (by simp) (by omega) (by omega)
    exact ⟨(y, h, c, i3, s3), ev_bind hr (ev_bind (ev_const e2) (ev_ifp c0 (ev_bind (ev_const e3) (ev_some _)))), by simp only; omega, by simp only; omega, by simp only; omega⟩
  · by_cases c1 : x = 1
    · obtain ⟨y, i3, s3, e3, p3, q3, b5, b6⟩ := pick_at hl i2 s2 (c.length : Int) (by omega) (by omega)
      obtain ⟨z, i4, s4, e4, _, b7, b8⟩ := among_at hl i3 s3 [9001, (-9001), (-9998), (-9999)] (by simp) (by omega) (by omega)
      exact ⟨(w, h, c.set y.toNat z, i4, s4), ev_bind hr (ev_bind (ev_const e2) (ev_ifn c0 (ev_ifp c1 (ev_bind (ev_const e3) (ev_bind (ev_const e4) (ev_ifp p3 (ev_ifp (q3 (by omega)) (ev_some _)))))))), by simp; omega, by simp only; omega, by simp only; omega⟩
    · by_cases c2 : x = 2
      · exact ⟨(w, h, c.drop (1 : Int).toNat, i2, s2), ev_bind hr (ev_bind (ev_const e2) (ev_ifn c0 (ev_ifn c1 (ev_ifp c2 (ev_ifp (by simp only; omega) (ev_some _)))))), by simp; omega, by simp only; omega, by simp only; omega⟩
      · exact ⟨(w, h, c, i2, s2), ev_bind hr (ev_bind (ev_const e2) (ev_ifn c0 (ev_ifn c1 (ev_ifn c2 (ev_some _))))), by simp only; omega, by simp only; omega, by simp only; omega⟩
theorem codeM {l : List Int} (hl : l.length ≤ 9223372036854775807 ∧ ∀ z ∈ l, (Lit.int .u8 z).wf = true) (h : l.length ≤ 65536) : Code l :=
  ⟨h, fun x hx => by
    have := hl.2 x hx
    simp [Lit.wf, IntKind.min, IntKind.max, IntKind.signed, IntKind.bits] at this
    omega⟩
theorem like_at {l : List Int} (hl : Code l) (i s : Int) (h0 : 0 ≤ i) (h1 : i ≤ 60000000) (a b : Int) (c : List Int) (hc : c.length ≤ 64) :
    ∃ r : Int × Int × List Int × Int × Int, Ev (fun k => spec_l1Cur_like.f k l i s a b c) r ∧ r.2.2.1.length ≤ 64 ∧ i ≤ r.2.2.2.1 ∧ r.2.2.2.1 ≤ i + 700 := by
  obtain ⟨r, hr, hp⟩ := ends_inv (fun k (st : Int × Int × List Int) j => spec_l1Cur_like.l0 k (j : Int) l st.1 st.2.1 a b st.2.2) c.length (fun j st => i ≤ st.1 ∧ st.1 ≤ i + 4 * (j : Int) ∧ st.2.2.length = c.length)
    (fun r => r.2.2.1.length ≤ 64 ∧ i ≤ r.2.2.2.1 ∧ r.2.2.2.1 ≤ i + 700)
    (fun j st hI hj => by
      obtain ⟨at_, sd, d⟩ := st
      obtain ⟨c1, c2, c3⟩ := hI
      simp only at c1 c2 c3
      obtain ⟨x, i2, s2, e2, _, _, d1, d2⟩ := pick_at hl at_ sd 5 (by omega) (by omega)
      have ej := Aside0.mk (show wrap64 ((j : Int) + 1) = ((j + 1 : Nat) : Int) by rw [w64 (by omega) (by omega)]; rfl)
      by_cases x0 : x = 0
      · obtain ⟨y, i3, s3, e3, _, _, d3, d4⟩ := pick_at hl i2 s2 40 (by omega) (by omega)
        refine ⟨(i3, s3, d.set (j : Int).toNat y), ⟨by simp only; omega, by simp only; omega, by simp [c3]⟩, fun r h => ev_step (fun k => ?_) h⟩
        simp only [spec_l1Cur_like.l0]
        rw [if_pos (by omega), e2]
        simp only [Option.bind_some]
        rw [if_pos x0, e3]
        simp only [Option.bind_some]
        rw [if_pos (by omega), ej.out]
      · by_cases x1 : x = 1
        · obtain ⟨bb, i3, s3, e3, d3, d4⟩ := one_at hl i2 s2 3 (by omega) (by omega)
          cases bb with
          | true =>
            refine ⟨(i3, s3, d.set (j : Int).toNat (-9999)), ⟨by simp only; omega, by simp only; omega, by simp [c3]⟩, fun r h => ev_step (fun k => ?_) h⟩
            simp only [spec_l1Cur_like.l0]
            rw [if_pos (by omega), e2]
            simp only [Option.bind_some]
            rw [if_neg x0, if_pos x1, e3]
            simp only [Option.bind_some, if_true]
            rw [if_pos (by omega), ej.out]
          | false =>
            refine ⟨(i3, s3, d), ⟨by simp only; omega, by simp only; omega, by simp [c3]⟩, fun r h => ev_step (fun k => ?_) h⟩
            simp only [spec_l1Cur_like.l0]
            rw [if_pos (by omega), e2]
            simp only [Option.bind_some]
            rw [if_neg x0, if_pos x1, e3]
            simp only [Option.bind_some, Bool.false_eq_true, if_false]
            rw [ej.out]
        · refine ⟨(i2, s2, d), ⟨by simp only; omega, by simp only; omega, by simp [c3]⟩, fun r h => ev_step (fun k => ?_) h⟩
          simp only [spec_l1Cur_like.l0]
          rw [if_pos (by omega), e2]
          simp only [Option.bind_some]
          rw [if_neg x0, if_neg x1, ej.out])
    (fun st hI => by
      obtain ⟨at_, sd, d⟩ := st
      obtain ⟨c1, c2, c3⟩ := hI
      simp only at c1 c2 c3
      obtain ⟨bb, i2, s2, e2, d1, d2⟩ := one_at hl at_ sd 16 (by omega) (by omega)
      cases bb with
      | true =>
        obtain ⟨r, hr, hc, d3, d4⟩ := field_at hl i2 s2 (by omega) (by omega)
        refine ⟨(r.1, r.2.1, r.2.2.1, r.2.2.2.1, r.2.2.2.2), ev_step (g := fun k => spec_l1Cur_like.l0 k (c.length : Int) l at_ sd a b d) (fun k => ?_) (ev_bind hr (ev_some _)), by simp only; omega, by simp only; omega, by simp only; omega⟩
        simp only [spec_l1Cur_like.l0]
        rw [if_neg (by omega), e2]
        simp only [Option.bind_some, if_true]
      | false =>
        refine ⟨(a, b, d, i2, s2), ev_step (g := fun k => spec_l1Cur_like.l0 k (c.length : Int) l at_ sd a b d) (f := fun _ => some (a, b, d, i2, s2)) (fun k => ?_) (ev_some _), by simp only; omega, by simp only; omega, by simp only; omega⟩
        simp only [spec_l1Cur_like.l0]
        rw [if_neg (by omega), e2]
        simp only [Option.bind_some, Bool.false_eq_true, if_false]) 0 (i, s, c) (Nat.zero_le _) ⟨by simp only; omega, by simp only; omega, rfl⟩
  refine ⟨r, ?_, hp⟩
  unfold spec_l1Cur_like.f
  exact ev_bind (ev_const (l2Own_is a b c (by omega))) hr
theorem moved_l0 {l : List Int} (hl : Code l) (i s : Int) (h0 : 0 ≤ i) (h1 : i ≤ 70000000) (a b : Int) (u : List Int) (w h : Int) (c : List Int) (hc : c.length ≤ 64) :
    ∃ r : Int × Int × List Int × Int × Int × List Int × Int × Int, Ev (fun k => spec_l1Cur_moved.l0 k 0 l i s a b u w h c) r ∧ (r.2.2.1 = u ∧ r.2.2.2.2.2.1.length ≤ 64) ∧ i ≤ r.2.2.2.2.2.2.1 ∧ r.2.2.2.2.2.2.1 ≤ i + 200 := by
  refine ends_inv (fun k (st : Int × Int × List Int) j => spec_l1Cur_moved.l0 k (j : Int) l st.1 st.2.1 a b u w h st.2.2) c.length (fun j st => i ≤ st.1 ∧ st.1 ≤ i + 2 * (j : Int) ∧ st.2.2.length = c.length)
    (fun r => (r.2.2.1 = u ∧ r.2.2.2.2.2.1.length ≤ 64) ∧ i ≤ r.2.2.2.2.2.2.1 ∧ r.2.2.2.2.2.2.1 ≤ i + 200)
    (fun j st hI hj => by
      obtain ⟨at_, sd, d⟩ := st
      obtain ⟨c1, c2, c3⟩ := hI
      simp only at c1 c2 c3
      have ej := Aside0.mk (show wrap64 ((j : Int) + 1) = ((j + 1 : Nat) : Int) by rw [w64 (by omega) (by omega)]; rfl)
      by_cases hm : rd d (j : Int) = -9999
      · obtain ⟨x, i2, s2, e2, _, _, d1, d2⟩ := pick_at hl at_ sd 30 (by omega) (by omega)
        refine ⟨(i2, s2, d.set (j : Int).toNat x), ⟨by simp only; omega, by simp only; omega, by simp [c3]⟩, fun r h => ev_step (fun k => ?_) h⟩
        simp only [spec_l1Cur_moved.l0]
        rw [if_pos (by omega), if_pos (by omega), if_pos hm, e2]
        simp only [Option.bind_some]
        rw [ej.out]
      · refine ⟨(at_, sd, d), ⟨by simp only; omega, by simp only; omega, by simp [c3]⟩, fun r h => ev_step (fun k => ?_) h⟩
        simp only [spec_l1Cur_moved.l0]
        rw [if_pos (by omega), if_pos (by omega), if_neg hm, ej.out])
    (fun st hI => by
      obtain ⟨at_, sd, d⟩ := st
      obtain ⟨c1, c2, c3⟩ := hI
      simp only at c1 c2 c3
      refine ⟨(a, b, u, w, h, d, at_, sd), ev_step (f := fun _ => some (a, b, u, w, h, d, at_, sd)) (fun k => ?_) (ev_some _), ⟨rfl, by simp only; omega⟩, by simp only; omega, by simp only; omega⟩
      simp only [spec_l1Cur_moved.l0]
      rw [if_neg (by omega)]) 0 (i, s, c) (Nat.zero_le _) ⟨by simp only; omega, by simp only; omega, rfl⟩
theorem moved_j0 {l : List Int} (hl : Code l) (i s : Int) (h0 : 0 ≤ i) (h1 : i ≤ 50000000) (a b : Int) (u : List Int) (hu : u.length ≤ 64) :
    ∃ r : Int × Int × List Int × Int × Int × List Int × Int × Int, Ev (fun k => spec_l1Cur_moved.j0 k l i s a b u) r ∧ (r.2.2.1.length ≤ 64 ∧ r.2.2.2.2.2.1.length ≤ 64) ∧ i ≤ r.2.2.2.2.2.2.1 ∧ r.2.2.2.2.2.2.1 ≤ i + 2000 := by
  obtain ⟨⟨w, h, c, i1, s1⟩, hr, hc, b1, b2⟩ := like_at hl i s h0 (by omega) a b u hu
  simp only at hc b1 b2
  have hg := l2Good_ev a b u (by omega)
  have no : ∀ i2 s2, Ev (fun k => spec_l1Cur_moved.j1 k false l i2 s2 a b u w h c) (a, b, u, w, h, c, i2, s2) := fun i2 s2 => ev_step (f := fun _ => some (a, b, u, w, h, c, i2, s2)) (fun k => by simp [spec_l1Cur_moved.j1]) (ev_some _)
  cases hf : fieldOk a b u with
  | false =>
    rw [hf] at hg
    exact ⟨_, ev_step (fun k => spec_l1Cur_moved.j0.eq_2 _ _ _ _ _ _ k) (ev_bind hr (ev_bind hg (ev_ifn (by simp) (no i1 s1)))), ⟨hu, hc⟩, by simp only; omega, by simp only; omega⟩
  | true =>
    rw [hf] at hg
    obtain ⟨bb, i2, s2, e2, d1, d2⟩ := one_at hl i1 s1 3 (by omega) (by omega)
    cases bb with
    | true => exact ⟨_, ev_step (fun k => spec_l1Cur_moved.j0.eq_2 _ _ _ _ _ _ k) (ev_bind hr (ev_bind hg (ev_ifp rfl (ev_bind (ev_const e2) (no i2 s2))))), ⟨hu, hc⟩, by simp only; omega, by simp only; omega⟩
    | false =>
      obtain ⟨x, i3, s3, e3, p3, q3, d3, d4⟩ := pick_at hl i2 s2 3 (by omega) (by omega)
      obtain ⟨y, i4, s4, e4, p4, q4, d5, d6⟩ := pick_at hl i3 s3 3 (by omega) (by omega)
      have q3' := q3 (by omega)
      have q4' := q4 (by omega)
      obtain ⟨W, H, rfl, rfl, hW, hH, hlen, h64⟩ := shape_nat (fieldOk_iff.1 hf)
      have hm := l11Move_ev W H u (wrap64 (x - 1)) (wrap64 (y - 1)) hW hH hlen (by rw [w64 (by omega) (by omega)]; omega) (by rw [w64 (by omega) (by omega)]; omega)
      obtain ⟨r, h7, ⟨h8, h9⟩, h10, h11⟩ := moved_l0 hl i4 s4 (by omega) (by omega) (W : Int) (H : Int) u (W : Int) (H : Int) (tab (H * W) (moveCell W H u (wrap64 (x - 1)) (wrap64 (y - 1)))) (by rw [tab_length]; omega)
      exact ⟨r, ev_step (fun k => spec_l1Cur_moved.j0.eq_2 _ _ _ _ _ _ k) (ev_bind hr (ev_bind hg (ev_ifp rfl (ev_bind (ev_const e2) (ev_step (fun k => spec_l1Cur_moved.j1.eq_2 _ _ _ _ _ _ _ _ _ _ k) (ev_ifp rfl (ev_bind (ev_const e3) (ev_bind (ev_const e4) (ev_bind hm h7))))))))), ⟨by rw [h8]; exact hu, h9⟩, by omega, by omega⟩
theorem moved_at {l : List Int} (hl : Code l) (i s : Int) (h0 : 0 ≤ i) (h1 : i ≤ 40000000) :
    ∃ r : Int × Int × List Int × Int × Int × List Int × Int × Int, Ev (fun k => spec_l1Cur_moved.f k l i s) r ∧ (r.2.2.1.length ≤ 64 ∧ r.2.2.2.2.2.1.length ≤ 64) ∧ i ≤ r.2.2.2.2.2.2.1 ∧ r.2.2.2.2.2.2.1 ≤ i + 3000 := by
  obtain ⟨⟨w, h, c, i1, s1⟩, hr, hc, b1, b2⟩ := field_at hl i s h0 (by omega)
  simp only at hc b1 b2
  obtain ⟨bb, i2, s2, e2, d1, d2⟩ := one_at hl i1 s1 16 (by omega) (by omega)
  unfold spec_l1Cur_moved.f
  cases bb with
  | true =>
    obtain ⟨⟨w', h', c', i3, s3⟩, hr', hc', d3, d4⟩ := anyField_at hl i2 s2 (by omega) (by omega)
    simp only at hc' d3 d4
    obtain ⟨r, h7, h8, h9, h10⟩ := moved_j0 hl i3 s3 (by omega) (by omega) w' h' c' hc'
    exact ⟨r, ev_bind hr (ev_bind (ev_const e2) (ev_ifp rfl (ev_bind hr' h7))), h8, by omega, by omega⟩
  | false =>
    obtain ⟨r, h7, h8, h9, h10⟩ := moved_j0 hl i2 s2 (by omega) (by omega) w h c hc.2
    exact ⟨r, ev_bind hr (ev_bind (ev_const e2) (ev_ifn (by simp) h7)), h8, by omega, by omega⟩
theorem motion_at {l : List Int} (hl : Code l) (i s : Int) (h0 : 0 ≤ i) (h1 : i ≤ 60000000) :
    ∃ x y i' s' : Int, spec_l1Cur_motion.f l i s = some (x, y, i', s') := by
  obtain ⟨x, i1, s1, e1, p1, q1, b1, b2⟩ := pick_at hl i s 5 h0 (by omega)
  obtain ⟨y, i2, s2, e2, p2, q2, b3, b4⟩ := pick_at hl i1 s1 5 (by omega) (by omega)
  obtain ⟨bb, i3, s3, e3, b5, b6⟩ := one_at hl i2 s2 16 (by omega) (by omega)
  unfold spec_l1Cur_motion.f
  rw [e1, Option.bind_some, e2, Option.bind_some, e3, Option.bind_some]
  cases bb with
  | true =>
    obtain ⟨z, i4, s4, e4, _⟩ := among_at hl i3 s3 [3, (-3)] (by simp) (by omega) (by omega)
    simp only [if_true]
    rw [e4]
    exact ⟨_, _, _, _, rfl⟩
  | false => exact ⟨_, _, _, _, rfl⟩
end Go.Proofs.Ytmekfmhnpinjlaa.Pure
namespace Go.Proofs.Ytmekfmhnpinjlaa.Pure
set_option linter.unusedVariables false
set_option linter.unusedSimpArgs false
open Go.RowKit Go.Proofs.Ytmekfmhnpinjlaa.P Go.Proofs.YtmekfmhnpinjlaaW.PrintWords Go.Proofs.YtmekfmhnpinjlaaW.PrintLast
theorem vInts_self (l : List Int) (hl : l.length ≤ 9223372036854775806) : Ev (fun k => laws_vInts.f k l l) true := by
  have h := loop_ev (σ := Unit) (fun k _ i => laws_vInts.l0 k l l (i : Int)) l.length (fun _ _ => ()) (fun _ => true) (fun _ _ => True)
    (fun i s r _ hi h => ev_step (fun k => by
      simp only [laws_vInts.l0]
      rw [if_pos (by omega), if_pos (by omega), if_pos (by omega), if_pos trivial, w64 (by omega) (by omega)]
      rfl) h)
    (fun _ _ _ _ => trivial)
    (fun _ _ => ev_step (f := fun _ => some true) (fun k => by
      simp only [laws_vInts.l0]
      rw [if_neg (by omega)]) (ev_some _)) 0 () (Nat.zero_le _) trivial
  unfold laws_vInts.f
  exact ev_ifp rfl h
theorem vField_self (a b : Int) (l : List Int) (hl : l.length ≤ 9223372036854775806) : Ev (fun k => laws_vField.f k a b l a b l) true := by
  unfold laws_vField.f
  exact ev_ifp rfl (ev_ifp rfl (ev_bind (vInts_self l hl) (ev_some _)))
end Go.Proofs.Ytmekfmhnpinjlaa.Pure
