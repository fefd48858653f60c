/- Texts of the claim FnRegrid, merged: part 12 of 13: the program's and the reference's functions as Lean functions, the walks that show it, and plain lemmas; no conditions. -/
import Derived.Test.YthlmikigjhgpdaaKFnRegrid2
import Derived.ProofKit
import Derived.OpenShut
import Derived.Deep.Slices
import Derived.Deep.Strs
import Derived.Deep.Fields
import Derived.Lib.SmallJoins
import Derived.Test.YthlmikigjhgpdaaKFnRegrid3
import Derived.Test.YthlmikigjhgpdaaKFnRegrid7
import Derived.Test.YthlmikigjhgpdaaKFnRegrid6
import Derived.Test.YthlmikigjhgpdaaKFnRegrid5
import Derived.Test.YthlmikigjhgpdaaKFnRegrid8
import Derived.Test.YthlmikigjhgpdaaKFnRegrid9
import Derived.Test.YthlmikigjhgpdaaKFnRegrid10
namespace Go.Proofs.Ythlmikigjhgpdaa.Open
open Go.ChangeShapes Go.WideShapes Go.RowKit Go.Deep Go.Joins Go.Proofs.YthlmikigjhgpdaaW.PrintWords
def Opens {α : Type} (P : Program) (t : TypeId) (d : Kd α) (wf : α → Prop) : Prop :=
  ∀ {H : Type} {enc : TypeId × Value → H} {W : World} {fuel : Nat} {cs : List Value} {x : DataW H × List MemPlace},
    DataW.trod enc P W 0 (fun _ => true) true fuel t cs = some x → ∃ y, d.K W y cs ∧ wf y
theorem opens_int {P : Program} {t : TypeId} {k : IntKind} (h : P.underlying t = some (.int k)) : Opens P t (Kd.int k) (fun n => (Lit.int k n).wf = true) := by
  intro H enc W fuel cs x hx
  obtain ⟨n, rfl, _, hw⟩ := DataW.trod_int h hx
  exact ⟨n, rfl, hw⟩
theorem list_of {α : Type} {p : Nat → α → Prop} : ∀ (n : Nat), (∀ i, i < n → ∃ y, p i y) → ∃ ys : List α, ys.length = n ∧ ∀ (i : Nat) (y : α), ys[i]? = some y → p i y
  | 0, _ => ⟨[], rfl, fun i y h => by simp at h⟩
  | n + 1, h => by
    obtain ⟨ys, hl, hy⟩ := list_of n (fun i hi => h i (by omega))
    obtain ⟨y, hp⟩ := h n (by omega)
    refine ⟨ys ++ [y], by simp [hl], fun i z hz => ?_⟩
    by_cases hi : i < n
    · rw [List.getElem?_append_left (by omega)] at hz
      exact hy i z hz
    · have hi2 : i = n := by
        have := (List.getElem?_eq_some_iff.1 hz).1
        simp [hl] at this
        omega
      subst hi2
      rw [List.getElem?_append_right (by omega), hl] at hz
      simp at hz
      subst hz
      exact hp
theorem opens_slice {α : Type} {P : Program} {t e : TypeId} {d : Kd α} {wf : α → Prop} (h : P.underlying t = some (.slice e)) (hc : P.cellsOf e = d.sz) (he : Opens P e d wf) :
    Opens P t (Kd.slice e d) (fun l => l.length ≤ 9223372036854775807 ∧ ∀ x ∈ l, wf x) := by
  intro H enc W fuel cs x hx
  rcases open_slice h hx with ⟨rfl, _⟩ | ⟨a, len, cap, m, n, D, Pl, rfl, _, hl, hm, hmm, _, hx⟩
  · exact ⟨[], ⟨none, 0, rfl, by simp, Kd.C_nil d W⟩, by simp, by simp⟩
  · obtain ⟨ys, hlen, hy⟩ := list_of (p := fun i y => ∃ cs', W.cells? 0 (a.add (i * P.cellsOf e)) (P.cellsOf e) = some cs' ∧ d.K W y cs' ∧ wf y) len (fun i hi => by
      obtain ⟨cs', h1, h2⟩ := hx i (by rw [hmm]; split <;> omega)
      obtain ⟨y, hK, hw⟩ := he h2
      exact ⟨y, cs', h1, hK, hw⟩)
    have hm' : cap ≤ 9223372036854775807 := by simpa [maxLen] using hm
    refine ⟨ys, ⟨some a, cap, by rw [hlen], by omega, ⟨rfl, by omega, fun _ => ⟨a, rfl, fun j y hj => ?_⟩⟩⟩, by omega, fun y hmem => ?_⟩
    · obtain ⟨cs', h1, hK, _⟩ := hy j y hj
      obtain ⟨_, hl2, hcell⟩ := World.cells?_some h1
      refine ⟨cs', d.K_len hK, hK, fun i u hu => ?_⟩
      have hi : i < P.cellsOf e := by
        have := (List.getElem?_eq_some_iff.1 hu).1
        omega
      rw [← hc, ← Go.Deep.add_add, hcell i hi]
      exact hu
    · obtain ⟨j, hj⟩ := List.getElem?_of_mem hmem
      obtain ⟨_, _, _, hw⟩ := hy j y hj
      exact hw
theorem sized_any {H : Type} {enc : TypeId × Value → H} {P : Program} {W : World} {base : Nat} {spare : Nat → Bool} {held : Bool} {t e : TypeId} {a : Option Addr} {len cap : Nat} {d : DataW H} {ps : List MemPlace} {ts : List TypeId} {ds : List (DataW H)} {j : Nat}
    (hsz : (DataW.weightsEach P ts ds).all (· ≤ reachBytes) = true) (ht : ts[j]? = some t) (hd : ds[j]? = some d) (hu : P.underlying t = some (.slice e)) {B : Nat} (hB : P.bytesOf e = B)
    (h : DataW.Trod enc P W base spare held t (.slice a len cap) d ps) : len * B ≤ 140737488351232 := by
  obtain ⟨fuel, hf⟩ := h
  rcases open_slice hu hf with ⟨hcs, _⟩ | ⟨x, l, c, m, n, D, Pl, hcs, _, hl, _, _, hx, _⟩
  · simp [Value.cells] at hcs
    obtain ⟨rfl, rfl, rfl⟩ := hcs
    simp
  · simp [Value.cells] at hcs
    obtain ⟨rfl, rfl, rfl⟩ := hcs
    obtain ⟨hx, _⟩ := Prod.mk.inj hx
    subst hx
    have z := sized_slice hsz ht hd hu
    rw [hB] at z
    refine Nat.le_trans (Nat.mul_le_mul_right _ ?_) z
    simp
theorem slice_at {α : Type} {P : Program} {W : World} {t e : TypeId} {d : Kd α} {wf : List α → Prop} {H : Type} {enc : TypeId × Value → H} {a : Option Addr} {len cap : Nat} {dd : DataW H} {ps : List MemPlace} (ho : Opens P t (Kd.slice e d) wf)
    (h : DataW.Trod enc P W 0 (fun _ => true) true t (.slice a len cap) dd ps) : ∃ l : List α, len = l.length ∧ l.length ≤ cap ∧ d.C W a l.length l ∧ wf l := by
  obtain ⟨fuel, hf⟩ := h
  obtain ⟨l, ⟨A, c, hcs, hl, hC⟩, hw⟩ := ho hf
  simp [Value.cells] at hcs
  obtain ⟨rfl, rfl, rfl⟩ := hcs
  exact ⟨l, rfl, hl, hC, hw⟩
section
variable {P : Program} {t : TypeId} {W : World} {H : Type} {enc : TypeId × Value → H} {r : Reach} {b0 : Nat} {v : Value} {d : DataW H} {p : List MemPlace}
end
end Go.Proofs.Ythlmikigjhgpdaa.Open
namespace Go.Proofs.Ythlmikigjhgpdaa.P
open Go.RowKit Go.Proofs.YthlmikigjhgpdaaW.PrintWords Go.Proofs.YthlmikigjhgpdaaW.PrintLast Go.Proofs.YthlmikigjhgpdaaW.PrintMore
attribute [local go_sem] max2_int min2_int max_two min_two max_three min_three max_four min_four
set_option linter.unusedVariables false
set_option linter.unusedSimpArgs false
open Go.Proofs.Ythlmikigjhgpdaa.Open
end Go.Proofs.Ythlmikigjhgpdaa.P
namespace Go.Proofs.Ythlmikigjhgpdaa.Pure
set_option linter.unusedVariables false
set_option linter.unusedSimpArgs false
open Go.RowKit Go.Proofs.YthlmikigjhgpdaaW.PrintWords Go.Proofs.YthlmikigjhgpdaaW.PrintLast Go.Proofs.YthlmikigjhgpdaaW.PrintMore
theorem w64 {x : Int} (h0 : -9223372036854775808 ≤ x) (h1 : x ≤ 9223372036854775807) : wrap64 x = x := by
  unfold wrap64
  omega
theorem w64n {n : Nat} (h : n ≤ 9223372036854775807) : wrap64 (n : Int) = (n : Int) := w64 (by omega) (by omega)
theorem rd_nat (xs : List Int) (i : Nat) : rd xs (i : Int) = xs.getD i 0 := by simp [rd]
section
variable {α β : Type} {f g : Nat → Option α} {r : α}
theorem ev_some (r : α) : Ev (fun _ => some r) r := ⟨0, fun _ _ => rfl⟩
theorem ev_ifp {c : Prop} [Decidable c] (h : c) (k : Ev f r) : Ev (fun n => if c then f n else g n) r := Ev.congr (fun _ => if_pos h) k
theorem ev_ifn {c : Prop} [Decidable c] (h : ¬ c) (k : Ev g r) : Ev (fun n => if c then f n else g n) r := Ev.congr (fun _ => if_neg h) k
theorem ev_bind {F : Nat → α → Option β} {q : β} (h : Ev g r) (k : Ev (fun n => F n r) q) : Ev (fun n => (g n).bind (fun x => F n x)) q := by
  obtain ⟨K1, h1⟩ := h
  obtain ⟨K2, h2⟩ := k
  exact ⟨K1 + K2, fun n hn => by show (g n).bind (fun x => F n x) = some q; rw [h1 n (by omega)]; exact h2 n (by omega)⟩
theorem ev_const {a : Option α} (h : a = some r) : Ev (fun _ => a) r := ⟨0, fun _ _ => h⟩
theorem ev_step (h : ∀ k, g (k + 1) = f k) (k : Ev f r) : Ev g r := by
  obtain ⟨K, h1⟩ := k
  refine ⟨K + 1, fun n hn => ?_⟩
  obtain ⟨m, rfl⟩ : ∃ m, n = m + 1 := ⟨n - 1, by omega⟩
  rw [h m]
  exact h1 m (by omega)
theorem ev_two {f : Nat → Option α} {g : Nat → Option β} {a : α} {b : β} (h : Ev f a) (k : Ev g b) : ∃ K, ∀ n, K ≤ n → f n = some a ∧ g n = some b := by
  obtain ⟨K1, h1⟩ := h
  obtain ⟨K2, h2⟩ := k
  exact ⟨K1 + K2, fun n hn => ⟨h1 n (by omega), h2 n (by omega)⟩⟩
end
def iter {σ : Type} (g : Nat → σ → σ) : Nat → Nat → σ → σ
  | _, 0, s => s
  | i, d + 1, s => iter g (i + 1) d (g i s)
theorem loop_ev {σ ρ : Type} (F : Nat → σ → Nat → Option ρ) (n : Nat) (g : Nat → σ → σ) (fin : σ → ρ) (I : Nat → σ → Prop)
    (hs : ∀ i s r, I i s → i < n → Ev (fun k => F k (g i s) (i + 1)) r → Ev (fun k => F k s i) r) (hI : ∀ i s, I i s → i < n → I (i + 1) (g i s))
    (he : ∀ s, I n s → Ev (fun k => F k s n) (fin s)) : ∀ i s, i ≤ n → I i s → Ev (fun k => F k s i) (fin (iter g i (n - i) s)) := by
  have key : ∀ d i s, n - i = d → i ≤ n → I i s → Ev (fun k => F k s i) (fin (iter g i d s)) := by
    intro d
    induction d with
    | zero =>
      intro i s h0 h1 h2
      obtain rfl : i = n := by omega
      exact he s h2
    | succ d ih =>
      intro i s h0 h1 h2
      exact hs i s _ h2 (by omega) (ih (i + 1) (g i s) (by omega) (by omega) (hI i s h2 (by omega)))
  exact fun i s h1 h2 => key (n - i) i s rfl h1 h2
theorem iter_inv {σ : Type} (g : Nat → σ → σ) (I : Nat → σ → Prop) (n : Nat) (hI : ∀ i s, I i s → i < n → I (i + 1) (g i s)) : ∀ d i s, i + d = n → I i s → I n (iter g i d s) := by
  intro d
  induction d with
  | zero => intro i s h0 h1; obtain rfl : i = n := by omega
            exact h1
  | succ d ih => intro i s h0 h1; exact ih (i + 1) _ (by omega) (hI i s h1 (by omega))
theorem iter_foldl {σ α : Type} (f : σ → α → σ) (z : α) (xs : List α) : ∀ d i s, i + d = xs.length → iter (fun i s => f s (xs.getD i z)) i d s = (xs.drop i).foldl f s := by
  intro d
  induction d with
  | zero =>
    intro i s h
    rw [List.drop_of_length_le (by omega)]
    rfl
  | succ d ih =>
    intro i s h
    have hlt : i < xs.length := by omega
    rw [List.drop_eq_getElem_cons hlt]
    show iter _ (i + 1) d _ = _
    rw [ih (i + 1) _ (by omega), List.foldl_cons]
    simp [List.getD, List.getElem?_eq_getElem hlt]
def rall (p : Nat → Bool) : Nat → Nat → Bool
  | _, 0 => true
  | i, d + 1 => p i && rall p (i + 1) d
theorem rall_iff (p : Nat → Bool) : ∀ d i, rall p i d = true ↔ ∀ j, i ≤ j → j < i + d → p j = true
  | 0, i => ⟨fun _ j h1 h2 => by omega, fun _ => rfl⟩
  | d + 1, i => by
    show (p i && rall p (i + 1) d) = true ↔ _
    rw [Bool.and_eq_true, rall_iff p d (i + 1)]
    constructor
    · rintro ⟨h0, h1⟩ j h2 h3
      by_cases e : j = i
      · rw [e]; exact h0
      · exact h1 j (by omega) (by omega)
    · intro h
      exact ⟨h i (Nat.le_refl _) (by omega), fun j h2 h3 => h j (by omega) (by omega)⟩
theorem rall_congr {p q : Nat → Bool} : ∀ d i, (∀ j, i ≤ j → j < i + d → p j = q j) → rall p i d = rall q i d
  | 0, _, _ => rfl
  | d + 1, i, h => by
    show (p i && rall p (i + 1) d) = (q i && rall q (i + 1) d)
    rw [h i (Nat.le_refl _) (by omega), rall_congr d (i + 1) (fun j h1 h2 => h j (by omega) (by omega))]
theorem all_ev {ρ : Type} (F : Nat → Nat → Option ρ) (n : Nat) (p : Nat → Bool) (no yes : ρ) (hs : ∀ i r, i < n → p i = true → Ev (fun k => F k (i + 1)) r → Ev (fun k => F k i) r)
    (hn : ∀ i, i < n → p i = false → Ev (fun k => F k i) no) (he : Ev (fun k => F k n) yes) :
    ∀ i, i ≤ n → Ev (fun k => F k i) (if rall p i (n - i) = true then yes else no) := by
  have key : ∀ d i, n - i = d → i ≤ n → Ev (fun k => F k i) (if rall p i d = true then yes else no) := by
    intro d
    induction d with
    | zero =>
      intro i h0 h1
      obtain rfl : i = n := by omega
      rw [show rall p i 0 = true from rfl, if_pos rfl]
      exact he
    | succ d ih =>
      intro i h0 h1
      have h := ih (i + 1) (by omega) (by omega)
      have e : rall p i (d + 1) = (p i && rall p (i + 1) d) := rfl
      cases hp : p i with
      | true =>
        rw [e, hp, Bool.true_and]
        exact hs i _ (by omega) hp h
      | false =>
        rw [e, hp, Bool.false_and, if_neg (by simp)]
        exact hn i (by omega) hp
  exact fun i h1 => key (n - i) i rfl h1
theorem allb_ev (F : Nat → Nat → Option Bool) (n : Nat) (p : Nat → Bool) (hs : ∀ i r, i < n → p i = true → Ev (fun k => F k (i + 1)) r → Ev (fun k => F k i) r)
    (hn : ∀ i, i < n → p i = false → Ev (fun k => F k i) false) (he : Ev (fun k => F k n) true) : Ev (fun k => F k 0) (rall p 0 n) := by
  have h := all_ev F n p false true hs hn he 0 (Nat.zero_le _)
  rw [Nat.sub_zero] at h
  cases e : rall p 0 n <;> simpa [e] using h
theorem getD_eq_get {α : Type} {xs : List α} {i : Nat} (z : α) (h : i < xs.length) : xs.getD i z = xs[i] := by simp [List.getD, List.getElem?_eq_getElem h]
theorem rall_list {α : Type} (xs : List α) (z : α) (p : α → Bool) : rall (fun j => p (xs.getD j z)) 0 xs.length = xs.all p := by
  rw [Bool.eq_iff_iff, rall_iff, List.all_eq_true]
  constructor
  · intro h x hx
    obtain ⟨i, hi, rfl⟩ := List.getElem_of_mem hx
    rw [← getD_eq_get z hi]
    exact h i (Nat.zero_le _) (by omega)
  · intro h j _ hj
    rw [getD_eq_get z (by omega)]
    exact h _ (List.getElem_mem (by omega))
theorem eq_index {α : Type} {xs ys : List α} (z : α) (h : xs.length = ys.length) (hh : ∀ j, j < xs.length → xs.getD j z = ys.getD j z) : xs = ys := by
  refine List.ext_getElem h (fun i h1 h2 => ?_)
  rw [← getD_eq_get z h1, ← getD_eq_get z h2]
  exact hh i h1
def fidx (p : Nat → Bool) : Nat → Nat → Int
  | _, 0 => -1
  | i, d + 1 => if p i = true then (i : Int) else fidx p (i + 1) d
theorem fidx_nonneg (p : Nat → Bool) : ∀ d i, decide (fidx p i d ≥ 0) = !rall (fun j => !p j) i d
  | 0, i => rfl
  | d + 1, i => by
    have h := fidx_nonneg p d (i + 1)
    show decide ((if p i = true then (i : Int) else fidx p (i + 1) d) ≥ 0) = !((!p i) && rall (fun j => !p j) (i + 1) d)
    cases e : p i with
    | true => simp
    | false => simpa using h
theorem find_ev (F : Nat → Nat → Option Int) (n : Nat) (p : Nat → Bool) (hs : ∀ i r, i < n → p i = false → Ev (fun k => F k (i + 1)) r → Ev (fun k => F k i) r) (hx : ∀ i, i < n → p i = true → Ev (fun k => F k i) (i : Int))
    (he : Ev (fun k => F k n) (-1)) : Ev (fun k => F k 0) (fidx p 0 n) := by
  have key : ∀ d i, n - i = d → i ≤ n → Ev (fun k => F k i) (fidx p i d) := by
    intro d
    induction d with
    | zero =>
      intro i h0 h1
      obtain rfl : i = n := by omega
      exact he
    | succ d ih =>
      intro i h0 h1
      show Ev (fun k => F k i) (if p i = true then (i : Int) else fidx p (i + 1) d)
      cases e : p i with
      | true => rw [if_pos rfl]; exact hx i (by omega) e
      | false => rw [if_neg (by simp)]; exact hs i _ (by omega) e (ih (i + 1) (by omega) (by omega))
  exact key n 0 (by omega) (Nat.zero_le _)
theorem ev_ite {α : Type} {f g : Nat → Option α} {a b : α} {c : Bool} (h : c = true → Ev f a) (k : c = false → Ev g b) : Ev (fun n => if c = true then f n else g n) (if c = true then a else b) := by
  cases c with
  | true => exact h rfl
  | false => exact k rfl
theorem iter_add {σ : Type} (g : Nat → σ → σ) : ∀ a i b s, iter g i (a + b) s = iter g (i + a) b (iter g i a s) := by
  intro a
  induction a with
  | zero => intro i b s; rw [Nat.zero_add]; rfl
  | succ a ih =>
    intro i b s
    rw [show a + 1 + b = (a + b) + 1 by omega]
    show iter g (i + 1) (a + b) (g i s) = _
    rw [ih (i + 1) b (g i s)]
    show _ = iter g (i + (a + 1)) b (iter g (i + 1) a (g i s))
    rw [show i + 1 + a = i + (a + 1) by omega]
theorem grid_ev {σ ρ : Type} (F0 : Nat → σ → Nat → Option ρ) (F1 : Nat → σ → Nat → Nat → Option ρ) (w h : Nat) (g : Nat → σ → σ) (fin : σ → ρ) (I : Nat → σ → Prop)
    (hout : ∀ y s r, I (y * w) s → y < h → Ev (fun k => F1 k s y 0) r → Ev (fun k => F0 k s y) r)
    (hin : ∀ y x s r, I (y * w + x) s → y < h → x < w → Ev (fun k => F1 k (g (y * w + x) s) y (x + 1)) r → Ev (fun k => F1 k s y x) r)
    (hI : ∀ y x s, I (y * w + x) s → y < h → x < w → I (y * w + (x + 1)) (g (y * w + x) s))
    (hrow : ∀ y s r, I (y * w + w) s → y < h → Ev (fun k => F0 k s (y + 1)) r → Ev (fun k => F1 k s y w) r)
    (hend : ∀ s, I (h * w) s → Ev (fun k => F0 k s h) (fin s)) : ∀ s, I 0 s → Ev (fun k => F0 k s 0) (fin (iter g 0 (h * w) s)) := by
  have row : ∀ d y x s r, w - x = d → x ≤ w → y < h → I (y * w + x) s → Ev (fun k => F0 k (iter g (y * w + x) d s) (y + 1)) r → Ev (fun k => F1 k s y x) r := by
    intro d
    induction d with
    | zero =>
      intro y x s r h0 h1 h2 h3 h4
      obtain rfl : x = w := by omega
      exact hrow y s r h3 h2 h4
    | succ d ih =>
      intro y x s r h0 h1 h2 h3 h4
      exact hin y x s r h3 h2 (by omega) (ih y (x + 1) _ r (by omega) (by omega) h2 (hI y x s h3 h2 (by omega)) h4)
  have rowI : ∀ d y x s, w - x = d → x ≤ w → y < h → I (y * w + x) s → I (y * w + w) (iter g (y * w + x) d s) := by
    intro d
    induction d with
    | zero =>
      intro y x s h0 h1 h2 h3
      obtain rfl : x = w := by omega
      exact h3
    | succ d ih =>
      intro y x s h0 h1 h2 h3
      exact ih y (x + 1) _ (by omega) (by omega) h2 (hI y x s h3 h2 (by omega))
  have key : ∀ d y s, h - y = d → y ≤ h → I (y * w) s → Ev (fun k => F0 k s y) (fin (iter g (y * w) (d * w) s)) := by
    intro d
    induction d with
    | zero =>
      intro y s h0 h1 h2
      obtain rfl : y = h := by omega
      rw [Nat.zero_mul]
      exact hend s h2
    | succ d ih =>
      intro y s h0 h1 h2
      have hb := rowI w y 0 s (by omega) (Nat.zero_le _) (by omega) h2
      have e1 : y * w + w = (y + 1) * w := by rw [Nat.add_mul, Nat.one_mul]
      rw [Nat.add_zero] at hb
      rw [e1] at hb
      have hk := ih (y + 1) _ (by omega) (by omega) hb
      rw [show (d + 1) * w = w + d * w by rw [Nat.add_mul, Nat.one_mul]; omega, iter_add, e1]
      exact hout y s _ h2 (by omega) (row w y 0 s _ (by omega) (Nat.zero_le _) (by omega) h2 hk)
  intro s h0
  have hk := key h 0 s (by omega) (Nat.zero_le _) (by rw [Nat.zero_mul]; exact h0)
  rw [Nat.zero_mul] at hk
  exact hk
def tab {α : Type} (n : Nat) (q : Nat → α) : List α := (List.range n).map q
theorem tab_length {α : Type} (n : Nat) (q : Nat → α) : (tab n q).length = n := by simp [tab]
theorem tab_getD {α : Type} (n : Nat) (q : Nat → α) (z : α) {i : Nat} (h : i < n) : (tab n q).getD i z = q i := by simp [tab, List.getD, h]
theorem iter_set_tab {α : Type} (z : α) (q : Nat → α) (n : Nat) (s : List α) (hs : s.length = n) : iter (fun i (s : List α) => s.set i (q i)) 0 n s = tab n q := by
  have hi := iter_inv (fun i (s : List α) => s.set i (q i)) (fun i s => s.length = n ∧ ∀ j, j < i → s.getD j z = q j) n
    (fun i s hI hi => ⟨by simp [hI.1], fun j hj => by
      by_cases e : j = i
      · subst e
        have := hI.1
        simp [List.getD, List.getElem?_set_self (show j < s.length by omega)]
      · rw [← hI.2 j (by omega)]
        simp [List.getD, List.getElem?_set_ne (Ne.symm e)]⟩) n 0 s (by omega) ⟨hs, fun j hj => by omega⟩
  exact eq_index z (by rw [hi.1, tab_length]) (fun j hj => by rw [hi.2 j (by have := hi.1; omega), tab_getD _ _ z (by have := hi.1; omega)])
theorem loop_at {σ ρ : Type} (F : Nat → σ → Nat → Option ρ) (n : Nat) (g : Nat → σ → σ) (fin : σ → ρ) (I : Nat → σ → Prop)
    (hs : ∀ k i s, I i s → i < n → F (k + 1) s i = F k (g i s) (i + 1)) (hI : ∀ i s, I i s → i < n → I (i + 1) (g i s))
    (he : ∀ k s, I n s → F (k + 1) s n = some (fin s)) : ∀ d k i s, n - i = d → i ≤ n → I i s → d < k → F k s i = some (fin (iter g i d s)) := by
  intro d
  induction d with
  | zero =>
    intro k i s h0 h1 h2 hk
    obtain ⟨k, rfl⟩ : ∃ m, k = m + 1 := ⟨k - 1, by omega⟩
    obtain rfl : i = n := by omega
    exact he k s h2
  | succ d ih =>
    intro k i s h0 h1 h2 hk
    obtain ⟨k, rfl⟩ : ∃ m, k = m + 1 := ⟨k - 1, by omega⟩
    rw [hs k i s h2 (by omega)]
    exact ih k (i + 1) (g i s) (by omega) (by omega) (hI i s h2 (by omega)) (by omega)
theorem ev_all {β : Type} (f : Nat → Nat → Option β) (q : Nat → β) (n : Nat) (h : ∀ i, i < n → Ev (fun k => f k i) (q i)) : ∃ K, ∀ k, K ≤ k → ∀ i, i < n → f k i = some (q i) := by
  induction n with
  | zero => exact ⟨0, fun k _ i hi => by omega⟩
  | succ n ih =>
    obtain ⟨K1, h1⟩ := ih (fun i hi => h i (by omega))
    obtain ⟨K2, h2⟩ := h n (by omega)
    refine ⟨K1 + K2, fun k hk i hi => ?_⟩
    by_cases e : i = n
    · rw [e]; exact h2 k (by omega)
    · exact h1 k (by omega) i (by omega)
end Go.Proofs.Ythlmikigjhgpdaa.Pure
namespace Go.Proofs.Ythlmikigjhgpdaa.Pure
set_option linter.unusedVariables false
set_option linter.unusedSimpArgs false
def isum (f : Nat → Int) : Nat → Int
  | 0 => 0
  | n + 1 => isum f n + f n
theorem isum_congr {f g : Nat → Int} : ∀ n, (∀ i, i < n → f i = g i) → isum f n = isum g n
  | 0, _ => rfl
  | n + 1, h => by simp only [isum]; rw [isum_congr n (fun i hi => h i (by omega)), h n (by omega)]
theorem isum_iter (f : Nat → Int) : ∀ n i (s : Int), iter (fun i s => s + f i) i n s = s + isum (fun j => f (i + j)) n := by
  have key : ∀ n i (s : Int), iter (fun i s => s + f i) i n s = s + isum (fun j => f (i + j)) n := by
    intro n
    induction n with
    | zero => intro i s; simp [iter, isum]
    | succ n ih =>
      intro i s
      rw [iter_add (fun i s => s + f i) n i 1 s, ih i s]
      show s + isum (fun j => f (i + j)) n + f (i + n) = s + (isum (fun j => f (i + j)) n + f (i + n))
      omega
  exact key
theorem isum_zero : ∀ n, isum (fun _ => 0) n = 0
  | 0 => rfl
  | n + 1 => by simp only [isum]; rw [isum_zero n]; rfl
theorem isum_add (f g : Nat → Int) : ∀ n, isum (fun i => f i + g i) n = isum f n + isum g n
  | 0 => rfl
  | n + 1 => by simp only [isum]; rw [isum_add f g n]; omega
theorem isum_mul (c : Int) (f : Nat → Int) : ∀ n, isum (fun i => c * f i) n = c * isum f n
  | 0 => by simp [isum]
  | n + 1 => by simp only [isum]; rw [isum_mul c f n, Int.mul_add]
theorem isum_le {f g : Nat → Int} : ∀ n, (∀ i, i < n → f i ≤ g i) → isum f n ≤ isum g n
  | 0, _ => by simp [isum]
  | n + 1, h => by simp only [isum]; have := isum_le n (fun i hi => h i (by omega)); have := h n (by omega); omega
theorem isum_bd {f : Nat → Int} {B : Int} : ∀ n : Nat, (∀ i, i < n → -B ≤ f i ∧ f i ≤ B) → -(n : Int) * B ≤ isum f n ∧ isum f n ≤ (n : Int) * B
  | 0, _ => by simp [isum]
  | n + 1, h => by
    have h1 := isum_bd n (fun i hi => h i (by omega))
    have h2 := h n (by omega)
    have e1 : ((n + 1 : Nat) : Int) * B = (n : Int) * B + B := by rw [Int.natCast_add, Int.add_mul]; simp
    have e2 : -((n + 1 : Nat) : Int) * B = -(n : Int) * B - B := by rw [Int.neg_mul, Int.neg_mul, e1]; omega
    simp only [isum]
    rw [e1, e2]
    omega
theorem isum_update {f g : Nat → Int} {j : Nat} : ∀ n, j < n → (∀ i, i < n → i ≠ j → f i = g i) → isum g n = isum f n + g j - f j
  | 0, h, _ => by omega
  | n + 1, h, hh => by
    simp only [isum]
    by_cases e : j = n
    · rw [e, isum_congr n (fun i hi => hh i (by omega) (by omega))]
      omega
    · rw [isum_update n (by omega) (fun i hi hn => hh i (by omega) hn), hh n (by omega) (Ne.symm e)]
      omega
theorem isum_grid (W : Nat) (f : Nat → Int) : ∀ H, isum f (H * W) = isum (fun y => isum (fun x => f (y * W + x)) W) H
  | 0 => by rw [Nat.zero_mul]; rfl
  | H + 1 => by
    show isum f ((H + 1) * W) = isum (fun y => isum (fun x => f (y * W + x)) W) H + isum (fun x => f (H * W + x)) W
    rw [← isum_grid W f H, Nat.add_mul, Nat.one_mul]
    have key : ∀ w, isum f (H * W + w) = isum f (H * W) + isum (fun x => f (H * W + x)) w := by
      intro w
      induction w with
      | zero => simp [isum]
      | succ w ih =>
        rw [← Nat.add_assoc]
        simp only [isum]
        rw [ih]
        omega
    exact key W
theorem isum_prod (f g : Nat → Int) (W H : Nat) (hW : 0 < W) : isum (fun i => f (i % W) * g (i / W)) (H * W) = isum f W * isum g H := by
  rw [isum_grid, ← isum_mul]
  refine isum_congr H (fun y hy => ?_)
  rw [show (isum f W * g y) = g y * isum f W from Int.mul_comm _ _, ← isum_mul]
  refine isum_congr W (fun x hx => ?_)
  have d1 : (y * W + x) / W = y := by rw [Nat.mul_comm, Nat.mul_add_div hW, Nat.div_eq_of_lt hx, Nat.add_zero]
  have d2 : (y * W + x) % W = x := by rw [Nat.mul_comm, Nat.mul_add_mod, Nat.mod_eq_of_lt hx]
  simp only [d1, d2]
  exact Int.mul_comm _ _
end Go.Proofs.Ythlmikigjhgpdaa.Pure
namespace Go.Proofs.Ythlmikigjhgpdaa.Pure
set_option linter.unusedVariables false
set_option linter.unusedSimpArgs false
open Go.RowKit Go.Proofs.Ythlmikigjhgpdaa.P Go.Proofs.YthlmikigjhgpdaaW.PrintWords Go.Proofs.YthlmikigjhgpdaaW.PrintLast
theorem ediv_of {a b t : Int} (hb : 0 < b) (h1 : b * t ≤ a) (h2 : a < b * t + b) : a / b = t :=
  ((Int.ediv_emod_unique (r := a - b * t) hb).2 ⟨by omega, by omega, by omega⟩).1
theorem ediv_bd {a b : Int} (hb : 0 < b) : b * (a / b) ≤ a ∧ a < b * (a / b) + b := by
  have h1 := Int.mul_ediv_add_emod a b
  have h2 := Int.emod_nonneg a (show b ≠ 0 by omega)
  have h3 := Int.emod_lt_of_pos a hb
  omega
theorem tdiv_pos {n b : Int} (hn : 0 ≤ n) : Int.tdiv n b = n / b := Int.tdiv_eq_ediv_of_nonneg hn
theorem div_small {n b : Int} (hn : 0 ≤ n) (hb : 0 < b) (h : n ≤ 1000000000) : 0 ≤ n / b ∧ n / b ≤ 1000000000 := by
  refine ⟨Int.ediv_nonneg hn (by omega), Int.le_trans (Int.ediv_le_self b hn) h⟩
theorem floorDiv_is {a b : Int} (hb : 0 < b) (hb2 : b ≤ 1000000000) (h0 : -1000000000 ≤ a) (h1 : a ≤ 1000000000) : impl_floorDiv.f a b = some (a / b) := by
  unfold impl_floorDiv.f
  rw [if_neg (by omega)]
  by_cases ha : 0 ≤ a
  · have hs := div_small ha hb h1
    rw [tdiv_pos ha, Int.tmod_eq_emod_of_nonneg ha, if_neg (by have := Int.emod_nonneg a (show b ≠ 0 by omega); omega), w64 (by omega) (by omega)]
  · obtain ⟨n, rfl⟩ : ∃ n, a = -n := ⟨-a, by omega⟩
    have hn : 0 ≤ n := by omega
    have hs := div_small hn hb (by omega)
    have hd := ediv_bd (a := n) hb
    have he := Int.mul_ediv_add_emod n b
    have h3 := Int.emod_nonneg n (show b ≠ 0 by omega)
    have h4 := Int.emod_lt_of_pos n hb
    rw [Int.neg_tdiv, Int.neg_tmod, tdiv_pos hn, Int.tmod_eq_emod_of_nonneg hn, w64 (x := -(n / b)) (by omega) (by omega)]
    by_cases hr : -(n % b) < 0
    · rw [if_pos hr, w64 (by omega) (by omega)]
      congr 1
      refine (ediv_of hb ?_ ?_).symm
      · rw [Int.mul_sub, Int.mul_neg, Int.mul_one]; omega
      · rw [Int.mul_sub, Int.mul_neg, Int.mul_one]; omega
    · rw [if_neg hr]
      congr 1
      refine (ediv_of hb ?_ ?_).symm
      · rw [Int.mul_neg]; omega
      · rw [Int.mul_neg]; omega
theorem l4Floor_is {a b : Int} (hb : 0 < b) (hb2 : b ≤ 1000000000) (h0 : -1000000000 ≤ a) (h1 : a ≤ 1000000000) : spec_l4Floor.f a b = some (a / b) := by
  unfold spec_l4Floor.f
  by_cases ha : a < 0
  · rw [if_pos ha, if_neg (by omega), w64 (x := -a) (by omega) (by omega), w64 (x := -a + b) (by omega) (by omega), w64 (x := -a + b - 1) (by omega) (by omega)]
    have hn : 0 ≤ -a + b - 1 := by omega
    rw [tdiv_pos hn]
    have hs : 0 ≤ (-a + b - 1) / b ∧ (-a + b - 1) / b ≤ -a + b - 1 := ⟨Int.ediv_nonneg hn (by omega), Int.ediv_le_self b hn⟩
    have hd := ediv_bd (a := -a + b - 1) hb
    rw [w64 (x := (-a + b - 1) / b) (by omega) (by omega), w64 (by omega) (by omega)]
    congr 1
    refine (ediv_of hb ?_ ?_).symm
    · rw [Int.mul_neg]; omega
    · rw [Int.mul_neg]; omega
  · have hs := div_small (show 0 ≤ a by omega) hb h1
    rw [if_neg ha, if_neg (by omega), tdiv_pos (by omega), w64 (by omega) (by omega)]
def inb (x a b : Int) : Bool := decide (a ≤ x) && decide (x ≤ b)
theorem inb_iff {x a b : Int} : inb x a b = true ↔ a ≤ x ∧ x ≤ b := by simp [inb]
theorem l1In_is (x a b : Int) : spec_l1In.f x a b = some (inb x a b) := by
  unfold spec_l1In.f inb
  split
  · rename_i h; simp [show a ≤ x from h]
  · rename_i h; simp [show ¬ a ≤ x from h]
theorem within_is (x a b : Int) : impl_within.f x a b = some (inb x a b) := l1In_is x a b
theorem allWithin_ev (l : List Int) (a b : Int) (hl : l.length ≤ 9223372036854775806) : Ev (fun k => impl_allWithin.f k l a b) (rall (fun i => inb (l.getD i 0) a b) 0 l.length) :=
  allb_ev (fun k i => impl_allWithin.l0 k a b l (l.length : Int) (i : Int)) l.length (fun i => inb (l.getD i 0) a b)
    (fun i r hi hp h => ev_step (fun k => by
      simp only [impl_allWithin.l0, within_is, Option.bind_some, rd_nat]
      rw [if_pos (by omega), if_pos (by omega), if_pos (by omega), if_pos hp, w64 (by omega) (by omega)]
      rfl) h)
    (fun i hi hp => ev_step (f := fun _ => some false) (fun k => by
      simp only [impl_allWithin.l0, within_is, Option.bind_some, rd_nat]
      rw [if_pos (by omega), if_pos (by omega), if_pos (by omega), if_neg (by rw [hp]; decide)]) (ev_some _))
    (ev_step (f := fun _ => some true) (fun k => by
      simp only [impl_allWithin.l0]
      rw [if_neg (by omega)]) (ev_some _))
def amStep (l : List Int) (i : Nat) (b : Nat) : Nat := if l.getD i 0 > l.getD b 0 then i else b
def amax (l : List Int) : Nat := iter (amStep l) 1 (l.length - 1) 0
theorem amax_inv (l : List Int) (h : 1 ≤ l.length) : amax l < l.length ∧ (∀ j, j < l.length → l.getD j 0 ≤ l.getD (amax l) 0) ∧ ∀ j, j < amax l → l.getD j 0 < l.getD (amax l) 0 := by
  have := iter_inv (amStep l) (fun i b => b < i ∧ (∀ j, j < i → l.getD j 0 ≤ l.getD b 0) ∧ ∀ j, j < b → l.getD j 0 < l.getD b 0) l.length
    (fun i b hI hi => by
      obtain ⟨h1, h2, h3⟩ := hI
      unfold amStep
      by_cases e : l.getD i 0 > l.getD b 0
      · rw [if_pos e]
        refine ⟨by omega, fun j hj => ?_, fun j hj => ?_⟩
        · by_cases ej : j = i
          · rw [ej]; exact Int.le_refl _
          · have := h2 j (by omega); omega
        · have := h2 j (by omega); omega
      · rw [if_neg e]
        refine ⟨by omega, fun j hj => ?_, h3⟩
        by_cases ej : j = i
        · rw [ej]; omega
        · exact h2 j (by omega)) (l.length - 1) 1 0 (by omega) ⟨by omega, fun j hj => by rw [show j = 0 by omega]; exact Int.le_refl _, fun j hj => by omega⟩
  exact ⟨this.1, this.2.1, this.2.2⟩
theorem max_ev (l : List Int) (h : 1 ≤ l.length) (hl : l.length ≤ 9223372036854775806) : Ev (fun k => slices_Max_int_int.f k l) (l.getD (amax l) 0) := by
  have key : Ev (fun k => slices_Max_int_int.l0 k l (l.getD 0 0) ((1 : Nat) : Int)) ((fun b : Nat => l.getD b 0) (iter (amStep l) 1 (l.length - 1) 0)) :=
    loop_ev (fun k b i => slices_Max_int_int.l0 k l (l.getD b 0) (i : Int)) l.length (amStep l) (fun b => l.getD b 0) (fun _ _ => True)
      (fun i b r _ hi h => ev_step (fun k => by
        simp only [slices_Max_int_int.l0, rd_nat]
        rw [if_pos (by omega), if_pos (by omega), w64 (by omega) (by omega)]
        have e : mx (l.getD b 0) (l.getD i 0) = l.getD (amStep l i b) 0 := by
          unfold amStep mx
          split <;> rfl
        rw [e]
        rfl) h) (fun _ _ _ _ => trivial)
      (fun b _ => ev_step (fun k => slices_Max_int_int.l0.eq_2 _ _ _ k) (ev_ifn (by omega) (ev_some _))) 1 0 (by omega) trivial
  unfold slices_Max_int_int.f
  refine ev_ifn (by omega) (ev_ifp (by omega) ?_)
  exact key
theorem index_ev (l : List Int) (h : 1 ≤ l.length) (hl : l.length ≤ 9223372036854775806) : Ev (fun k => slices_Index_int_int.f k l (l.getD (amax l) 0)) (amax l : Int) := by
  obtain ⟨h1, h2, h3⟩ := amax_inv l h
  have hh := find_ev (fun k i => slices_Index_int_int.l0 k l (l.getD (amax l) 0) (l.length : Int) (i : Int)) l.length (fun i => decide (l.getD i 0 = l.getD (amax l) 0))
    (fun i r hi hp h => ev_step (fun k => by
      simp only [slices_Index_int_int.l0, rd_nat]
      rw [if_pos (by omega), if_pos (by omega), if_pos (by omega), if_neg (by intro e; rw [← e] at hp; simp at hp), w64 (by omega) (by omega)]
      rfl) h)
    (fun i hi hp => ev_step (f := fun _ => some (i : Int)) (fun k => by
      simp only [slices_Index_int_int.l0, rd_nat]
      rw [if_pos (by omega), if_pos (by omega), if_pos (by omega), if_pos (by have := of_decide_eq_true hp; exact this.symm)]) (ev_some _))
    (ev_step (f := fun _ => some (-1)) (fun k => by
      simp only [slices_Index_int_int.l0]
      rw [if_neg (by omega)]) (ev_some _))
  have e : fidx (fun i => decide (l.getD i 0 = l.getD (amax l) 0)) 0 l.length = (amax l : Int) := by
    have gen : ∀ d i, i ≤ amax l → amax l < i + d → fidx (fun i => decide (l.getD i 0 = l.getD (amax l) 0)) i d = (amax l : Int) := by
      intro d
      induction d with
      | zero => intro i h4 h5; omega
      | succ d ih =>
        intro i h4 h5
        show (if decide (l.getD i 0 = l.getD (amax l) 0) = true then (i : Int) else _) = _
        by_cases ei : i = amax l
        · subst ei; simp
        · have := h3 i (by omega)
          rw [if_neg (by rw [decide_eq_true_eq]; omega)]
          exact ih (i + 1) (by omega) (by omega)
    exact gen l.length 0 (Nat.zero_le _) (by omega)
  rw [e] at hh
  exact hh
def hand : Nat → List Int → List Int → List Int
  | 0, ps, _ => ps
  | n + 1, ps, rs => hand n (ps.set (amax rs) (wrap64 (rd ps (amax rs : Int) + 1))) (rs.set (amax rs) (-1))
theorem hand_len : ∀ n ps rs, (hand n ps rs).length = ps.length
  | 0, ps, rs => rfl
  | n + 1, ps, rs => by rw [hand, hand_len n]; simp
theorem impl_hand (L : Int) (hL : L ≤ 9223372036854775807) : ∀ (n : Nat) (ps rs : List Int), ps.length = rs.length → 1 ≤ rs.length → rs.length ≤ 9223372036854775806 → n ≤ 9223372036854775807 → Ev (fun k => impl_splitValue.l1 k ps rs (n : Int)) (hand n ps rs)
  | 0, ps, rs, h, h1, h2, _ => ev_step (fun k => impl_splitValue.l1.eq_2 _ _ _ k) (ev_ifn (by omega) (ev_some _))
  | n + 1, ps, rs, h, h1, h2, hn => by
    obtain ⟨a1, _, _⟩ := amax_inv rs h1
    refine ev_step (fun k => impl_splitValue.l1.eq_2 _ _ _ k) (ev_ifp (by omega) (ev_bind (max_ev rs h1 h2) (ev_bind (index_ev rs h1 h2) (ev_ifp (by omega) (ev_ifp (by omega) (ev_ifp (by omega) ?_))))))
    rw [show wrap64 (((n + 1 : Nat) : Int) - 1) = (n : Int) by rw [w64 (by omega) (by omega)]; omega, Int.toNat_natCast]
    exact impl_hand L hL n _ _ (by simp [h]) (by simpa using h1) (by simpa using h2) (by omega)
theorem spec_best (ps rs : List Int) (n : Int) (r : List Int) (h1 : 1 ≤ rs.length) (h2 : rs.length ≤ 9223372036854775806)
    (h : Ev (fun k => if 0 ≤ (amax rs : Int) then (if (amax rs : Int) < (ps.length : Int) then (if (amax rs : Int) < (rs.length : Int) then (spec_l7Split.l2 k (ps.set ((amax rs : Int)).toNat (wrap64 ((rd ps (amax rs : Int)) + 1))) (rs.set ((amax rs : Int)).toNat (-1)) (wrap64 (n - 1))) else (none)) else (none)) else (none)) r) :
    Ev (fun k => spec_l7Split.l3 k ps rs n 0 1) r := by
  have key : ∀ d i b, i + d = rs.length → b < i → 1 ≤ i → iter (amStep rs) i d b = amax rs → Ev (fun k => spec_l7Split.l3 k ps rs n (b : Int) (i : Int)) r := by
    intro d
    induction d with
    | zero =>
      intro i b hi hb h1i he
      obtain rfl : b = amax rs := he
      exact ev_step (fun k => spec_l7Split.l3.eq_2 _ _ _ _ _ k) (ev_ifn (by omega) h)
    | succ d ih =>
      intro i b hi hb h1i he
      have := ih (i + 1) (amStep rs i b) (by omega) (by unfold amStep; split <;> omega) (by omega) he
      refine ev_step (fun k => spec_l7Split.l3.eq_2 _ _ _ _ _ k) (ev_ifp (by omega) (ev_ifp (by omega) (ev_ifp (by omega) (ev_ifp (by omega) ?_))))
      rw [rd_nat, rd_nat, show wrap64 ((i : Int) + 1) = ((i + 1 : Nat) : Int) by rw [w64 (by omega) (by omega)]; rfl]
      unfold amStep at this
      by_cases e : rs.getD i 0 > rs.getD b 0
      · rw [if_pos e] at this; exact ev_ifp e this
      · rw [if_neg e] at this; exact ev_ifn e this
  exact key (rs.length - 1) 1 0 (by omega) (by omega) (by omega) rfl
theorem spec_hand : ∀ (n : Nat) (ps rs : List Int), ps.length = rs.length → 1 ≤ rs.length → rs.length ≤ 9223372036854775806 → n ≤ 9223372036854775807 → Ev (fun k => spec_l7Split.l2 k ps rs (n : Int)) (hand n ps rs)
  | 0, ps, rs, h, h1, h2, _ => ev_step (fun k => spec_l7Split.l2.eq_2 _ _ _ k) (ev_ifn (by omega) (ev_some _))
  | n + 1, ps, rs, h, h1, h2, hn => by
    obtain ⟨a1, _, _⟩ := amax_inv rs h1
    refine ev_step (fun k => spec_l7Split.l2.eq_2 _ _ _ k) (ev_ifp (by omega) (spec_best ps rs _ _ h1 h2 (ev_ifp (by omega) (ev_ifp (by omega) (ev_ifp (by omega) ?_)))))
    rw [show wrap64 (((n + 1 : Nat) : Int) - 1) = (n : Int) by rw [w64 (by omega) (by omega)]; omega, Int.toNat_natCast]
    exact spec_hand n _ _ (by simp [h]) (by simpa using h1) (by simpa using h2) (by omega)
theorem wrap64_le (x : Int) : wrap64 x ≤ 9223372036854775807 := by unfold wrap64; omega
theorem impl_hand' (L : Int) (hL : L ≤ 9223372036854775807) (ps rs : List Int) (h : ps.length = rs.length) (h1 : 1 ≤ rs.length) (h2 : rs.length ≤ 9223372036854775806) : Ev (fun k => impl_splitValue.l1 k ps rs L) (hand L.toNat ps rs) := by
  by_cases hp : L > 0
  · have := impl_hand L hL L.toNat ps rs h h1 h2 (by omega)
    rw [Int.toNat_of_nonneg (by omega)] at this
    exact this
  · rw [show L.toNat = 0 by omega]
    exact ev_step (fun k => impl_splitValue.l1.eq_2 _ _ _ k) (ev_ifn hp (ev_some _))
theorem spec_hand' (L : Int) (hL : L ≤ 9223372036854775807) (ps rs : List Int) (h : ps.length = rs.length) (h1 : 1 ≤ rs.length) (h2 : rs.length ≤ 9223372036854775806) : Ev (fun k => spec_l7Split.l2 k ps rs L) (hand L.toNat ps rs) := by
  by_cases hp : L > 0
  · have := spec_hand L.toNat ps rs h h1 h2 (by omega)
    rw [Int.toNat_of_nonneg (by omega)] at this
    exact this
  · rw [show L.toNat = 0 by omega]
    exact ev_step (fun k => spec_l7Split.l2.eq_2 _ _ _ k) (ev_ifn hp (ev_some _))
def sumStep (l : List Int) (i : Nat) (s : Int) : Int := s + l.getD i 0
def ssum (l : List Int) : Int := iter (sumStep l) 0 l.length 0
structure WOk (l : List Int) : Prop where
  n1 : 1 ≤ l.length
  n64 : l.length ≤ 64
  at_ : ∀ i, i < l.length → 0 ≤ l.getD i 0 ∧ l.getD i 0 ≤ 64
theorem ssum_bd {l : List Int} (h : WOk l) : 0 ≤ ssum l ∧ ssum l ≤ 4096 := by
  have := iter_inv (sumStep l) (fun i s => 0 ≤ s ∧ s ≤ 64 * i) l.length (fun i s hI hi => by have := h.at_ i hi; unfold sumStep; omega) l.length 0 0 (by omega) (by omega)
  have h64 := h.n64
  unfold ssum
  omega
theorem sumOf_ev {l : List Int} (h : WOk l) : Ev (fun k => impl_sumOf.f k l) (ssum l) :=
  loop_ev (fun k s i => impl_sumOf.l0 k s l (l.length : Int) (i : Int)) l.length (sumStep l) (fun s => s) (fun i s => 0 ≤ s ∧ s ≤ 64 * i)
    (fun i s r hI hi hh => ev_step (fun k => by
      have := h.at_ i hi; have := h.n64
      simp only [impl_sumOf.l0, rd_nat]
      rw [if_pos (by omega), if_pos (by omega), if_pos (by omega), w64 (x := s + l.getD i 0) (by omega) (by omega), w64 (by omega) (by omega)]
      rfl) hh)
    (fun i s hI hi => by have := h.at_ i hi; unfold sumStep; omega)
    (fun s hI => ev_step (fun k => impl_sumOf.l0.eq_2 _ _ _ _ k) (ev_ifn (by omega) (ev_some _))) 0 0 (Nat.zero_le _) (by omega)
def part (a : Int) (l : List Int) (i : Nat) : Int := a * l.getD i 0 / ssum l
def rest (a : Int) (l : List Int) (i : Nat) : Int := wrap64 (a * l.getD i 0 - wrap64 (part a l i * ssum l))
def leftStep (a : Int) (l : List Int) (i : Nat) (s : Int) : Int := wrap64 (s - part a l i)
def split (a : Int) (l : List Int) : List Int := hand (iter (leftStep a l) 0 l.length a).toNat ((List.range l.length).map (part a l)) ((List.range l.length).map (rest a l))
theorem split_len (a : Int) (l : List Int) : (split a l).length = l.length := by unfold split; rw [hand_len]; simp
theorem prod_bd {a x : Int} (h0 : -9000 ≤ a) (h1 : a ≤ 9000) (x0 : 0 ≤ x) (x1 : x ≤ 64) : -576000 ≤ a * x ∧ a * x ≤ 576000 := by
  have h2 : a * x ≤ 9000 * x := Int.mul_le_mul_of_nonneg_right h1 x0
  have h3 : -9000 * x ≤ a * x := Int.mul_le_mul_of_nonneg_right h0 x0
  omega
theorem set_next (f : Nat → Int) (n i : Nat) (h : i < n) : ((List.range i).map f ++ List.replicate (n - i) 0).set i (f i) = (List.range (i + 1)).map f ++ List.replicate (n - (i + 1)) 0 := by
  rw [show n - i = (n - (i + 1)) + 1 by omega, List.replicate_succ, List.set_append_right _ _ (by simp), List.range_succ, List.map_append]
  simp
theorem rd_next (f : Nat → Int) (n i : Nat) : rd ((List.range (i + 1)).map f ++ List.replicate n 0) (i : Int) = f i := by
  rw [rd_nat, List.getD, List.getElem?_append_left (by simp)]
  simp
theorem splitValue_ev {a : Int} {l : List Int} (h0 : -9000 ≤ a) (h1 : a ≤ 9000) (h : WOk l) (hs : ssum l ≠ 0) : Ev (fun k => impl_splitValue.f k a l) (split a l) := by
  have hb := ssum_bd h
  have n1 := h.n1; have n64 := h.n64
  unfold impl_splitValue.f
  refine ev_bind (sumOf_ev h) (ev_ifp (by omega) (ev_ifp (by omega) ?_))
  have e0 : ((l.length : Int) : Int).toNat = l.length := Int.toNat_natCast _
  rw [e0]
  have hh := loop_ev (fun k s i => impl_splitValue.l0 k a (ssum l) ((List.range i).map (part a l) ++ List.replicate (l.length - i) 0) ((List.range i).map (rest a l) ++ List.replicate (l.length - i) 0) s l (l.length : Int) (i : Int)) l.length (leftStep a l)
    (fun s => hand s.toNat ((List.range l.length).map (part a l)) ((List.range l.length).map (rest a l))) (fun _ s => s ≤ 9223372036854775807)
    (fun i s r hI hi hh => by
      have hw := h.at_ i hi
      have hp := prod_bd h0 h1 hw.1 hw.2
      have hf := floorDiv_is (a := a * l.getD i 0) (b := ssum l) (by omega) (by omega) (by omega) (by omega)
      refine ev_step (fun k => impl_splitValue.l0.eq_2 _ _ _ _ _ _ _ _ k) (ev_ifp (by omega) (ev_ifp (by omega) (ev_ifp (by omega) ?_)))
      rw [rd_nat, w64 (x := a * l.getD i 0) (by omega) (by omega)]
      refine ev_bind (ev_const hf) (ev_ifp (by simp; omega) (ev_bind (ev_some _) (ev_ifp (by simp; omega) ?_)))
      rw [Int.toNat_natCast]
      show Ev (fun k => impl_splitValue.l0 k a (ssum l) (((List.range i).map (part a l) ++ List.replicate (l.length - i) 0).set i (part a l i)) (((List.range i).map (rest a l) ++ List.replicate (l.length - i) 0).set i (wrap64 (a * l.getD i 0 - wrap64 (rd (((List.range i).map (part a l) ++ List.replicate (l.length - i) 0).set i (part a l i)) (i : Int) * ssum l)))) (wrap64 (s - rd (((List.range i).map (part a l) ++ List.replicate (l.length - i) 0).set i (part a l i)) (i : Int))) l (l.length : Int) (wrap64 ((i : Int) + 1))) r
      rw [set_next (part a l) l.length i hi, rd_next, w64 (x := (i : Int) + 1) (by omega) (by omega)]
      have e2 := set_next (rest a l) l.length i hi
      unfold rest at e2 hh ⊢
      rw [e2]
      exact hh)
    (fun i s _ _ => wrap64_le _)
    (fun s hI => ev_step (fun k => impl_splitValue.l0.eq_2 _ _ _ _ _ _ _ _ k) (ev_ifn (by omega) (by
      rw [Nat.sub_self, List.replicate_zero, List.append_nil, List.append_nil]
      exact impl_hand' s hI _ _ (by simp) (by simpa using n1) (by simp; omega)))) 0 a (Nat.zero_le _) (by omega)
  exact hh
theorem l7Split_ev {a : Int} {l : List Int} (h0 : -9000 ≤ a) (h1 : a ≤ 9000) (h : WOk l) (hs : ssum l ≠ 0) : Ev (fun k => spec_l7Split.f k a l) (split a l) := by
  have hb := ssum_bd h
  have n1 := h.n1; have n64 := h.n64
  have h2 := loop_ev (fun k s i => spec_l7Split.l1 k a l (ssum l) ((List.range i).map (part a l)) ((List.range i).map (rest a l)) s (i : Int)) l.length (leftStep a l)
    (fun s => hand s.toNat ((List.range l.length).map (part a l)) ((List.range l.length).map (rest a l))) (fun _ s => s ≤ 9223372036854775807)
    (fun i s r hI hi hh => by
      have hw := h.at_ i hi
      have hp := prod_bd h0 h1 hw.1 hw.2
      have hf := l4Floor_is (a := a * l.getD i 0) (b := ssum l) (by omega) (by omega) (by omega) (by omega)
      refine ev_step (fun k => spec_l7Split.l1.eq_2 _ _ _ _ _ _ _ k) (ev_ifp (by omega) (ev_ifp (by omega) ?_))
      rw [rd_nat, w64 (x := a * l.getD i 0) (by omega) (by omega)]
      refine ev_bind (ev_const hf) (ev_ifp (by simp; omega) (ev_ifp (by simp; omega) ?_))
      rw [w64 (x := (i : Int) + 1) (by omega) (by omega)]
      have e1 : (List.range i).map (part a l) ++ [a * l.getD i 0 / ssum l] = (List.range (i + 1)).map (part a l) := by rw [List.range_succ, List.map_append]; rfl
      have e2 : (List.range i).map (rest a l) ++ [wrap64 (a * l.getD i 0 - wrap64 (a * l.getD i 0 / ssum l * ssum l))] = (List.range (i + 1)).map (rest a l) := by rw [List.range_succ, List.map_append]; rfl
      rw [e1, e2]
      exact hh)
    (fun i s _ _ => wrap64_le _)
    (fun s hI => ev_step (fun k => spec_l7Split.l1.eq_2 _ _ _ _ _ _ _ k) (ev_ifn (by omega) (spec_hand' s hI _ _ (by simp) (by simpa using n1) (by simp; omega)))) 0 a (Nat.zero_le _) (by omega)
  exact loop_ev (fun k s i => spec_l7Split.l0 k a l s (i : Int)) l.length (sumStep l) (fun _ => split a l) (fun i s => (0 ≤ s ∧ s ≤ 64 * i) ∧ s = iter (sumStep l) 0 i 0)
    (fun i s r hI hi hh => ev_step (fun k => by
      have := h.at_ i hi
      simp only [spec_l7Split.l0, rd_nat]
      rw [if_pos (by omega), if_pos (by omega), w64 (x := s + l.getD i 0) (by omega) (by omega), w64 (by omega) (by omega)]
      rfl) hh)
    (fun i s hI hi => by
      have := h.at_ i hi
      refine ⟨by unfold sumStep; omega, ?_⟩
      rw [iter_add (sumStep l) i 0 1 0, ← hI.2, Nat.zero_add]
      rfl)
    (fun s hI => ev_step (fun k => spec_l7Split.l0.eq_2 _ _ _ _ k) (ev_ifn (by omega) (by rw [hI.2]; exact h2))) 0 0 (Nat.zero_le _) ⟨by omega, rfl⟩
theorem ssum_isum (l : List Int) : ssum l = isum (fun i => l.getD i 0) l.length := by
  unfold ssum
  have := isum_iter (fun i => l.getD i 0) l.length 0 0
  simp only [Nat.zero_add, Int.zero_add] at this
  exact this
theorem getD_set (l : List Int) (j i : Nat) (v : Int) (hj : j < l.length) : (l.set j v).getD i 0 = if i = j then v else l.getD i 0 := by
  by_cases e : i = j
  · subst e
    rw [if_pos rfl]
    simp [List.getD, List.getElem?_set_self hj]
  · rw [if_neg e]
    simp [List.getD, List.getElem?_set_ne (Ne.symm e)]
theorem hand_sum : ∀ (n : Nat) (ps rs : List Int), ps.length = rs.length → 1 ≤ rs.length → (∀ i, -1000000000000 ≤ ps.getD i 0 ∧ ps.getD i 0 + n ≤ 1000000000000) →
    isum (fun i => (hand n ps rs).getD i 0) ps.length = isum (fun i => ps.getD i 0) ps.length + n ∧ ∀ i, ps.getD i 0 ≤ (hand n ps rs).getD i 0 ∧ (hand n ps rs).getD i 0 ≤ ps.getD i 0 + n
  | 0, ps, rs, _, _, _ => by simp [hand]
  | n + 1, ps, rs, h, h1, hb => by
    obtain ⟨a1, _, _⟩ := amax_inv rs h1
    have hj : amax rs < ps.length := by omega
    have b0 := hb (amax rs)
    have ew : wrap64 (rd ps (amax rs : Int) + 1) = ps.getD (amax rs) 0 + 1 := by rw [rd_nat, w64 (by omega) (by omega)]
    rw [hand, ew]
    have hg := fun i => getD_set ps (amax rs) i (ps.getD (amax rs) 0 + 1) hj
    obtain ⟨s1, s2⟩ := hand_sum n (ps.set (amax rs) (ps.getD (amax rs) 0 + 1)) (rs.set (amax rs) (-1)) (by simp [h]) (by simpa using h1) (fun i => by
      have := hb i
      rw [hg i]
      split <;> omega)
    rw [List.length_set] at s1
    refine ⟨?_, fun i => ?_⟩
    · rw [s1, isum_update (f := fun i => ps.getD i 0) (g := fun i => (ps.set (amax rs) (ps.getD (amax rs) 0 + 1)).getD i 0) (j := amax rs) ps.length hj (fun i hi hn => by rw [hg i, if_neg hn])]
      rw [hg (amax rs), if_pos rfl]
      omega
    · have := s2 i
      rw [hg i] at this
      split at this
      · rename_i e; subst e; omega
      · omega
theorem part_bd {a : Int} {l : List Int} (h0 : -9000 ≤ a) (h1 : a ≤ 9000) (h : WOk l) (hs : ssum l ≠ 0) (i : Nat) (hi : i < l.length) :
    (-576000 ≤ part a l i ∧ part a l i ≤ 576000) ∧ ssum l * part a l i ≤ a * l.getD i 0 := by
  have hw := h.at_ i hi
  have hp := prod_bd h0 h1 hw.1 hw.2
  have hb := ssum_bd h
  have hS : 0 < ssum l := by omega
  have hd := ediv_bd (a := a * l.getD i 0) hS
  unfold part
  refine ⟨⟨?_, ?_⟩, hd.1⟩
  · have : -576000 ≤ a * l.getD i 0 / ssum l := by
      rw [Int.le_ediv_iff_mul_le hS]
      have : -576000 * ssum l ≤ -576000 * 1 := Int.mul_le_mul_of_nonpos_left (by omega) (by omega)
      omega
    exact this
  · have : a * l.getD i 0 / ssum l < 576001 := by
      rw [Int.ediv_lt_iff_lt_mul hS]
      have : 576001 * 1 ≤ 576001 * ssum l := Int.mul_le_mul_of_nonneg_left (by omega) (by omega)
      omega
    omega
theorem parts_le {a : Int} {l : List Int} (h0 : -9000 ≤ a) (h1 : a ≤ 9000) (h : WOk l) (hs : ssum l ≠ 0) : isum (part a l) l.length ≤ a := by
  have hb := ssum_bd h
  have hS : 0 < ssum l := by omega
  have e1 : ssum l * isum (part a l) l.length ≤ a * ssum l := by
    rw [← isum_mul, show a * ssum l = isum (fun i => a * l.getD i 0) l.length by rw [isum_mul, ← ssum_isum]]
    exact isum_le l.length (fun i hi => (part_bd h0 h1 h hs i hi).2)
  rw [Int.mul_comm a] at e1
  exact Int.le_of_mul_le_mul_left e1 hS
theorem left_is {a : Int} {l : List Int} (h0 : -9000 ≤ a) (h1 : a ≤ 9000) (h : WOk l) (hs : ssum l ≠ 0) : iter (leftStep a l) 0 l.length a = a - isum (part a l) l.length := by
  have key : ∀ n, n ≤ l.length → iter (leftStep a l) 0 n a = a - isum (part a l) n := by
    intro n
    induction n with
    | zero => intro _; simp [iter, isum]
    | succ n ih =>
      intro hn
      rw [iter_add (leftStep a l) n 0 1 a, ih (by omega), Nat.zero_add]
      show wrap64 (a - isum (part a l) n - part a l n) = a - (isum (part a l) n + part a l n)
      have b1 := isum_bd (f := part a l) (B := 576000) n (fun i hi => (part_bd h0 h1 h hs i (by omega)).1)
      have b2 := (part_bd h0 h1 h hs n (by omega)).1
      have h64 := h.n64
      have c1 : (n : Int) * 576000 ≤ 64 * 576000 := Int.mul_le_mul_of_nonneg_right (by omega) (by decide)
      have c2 : -(n : Int) * 576000 = -((n : Int) * 576000) := Int.neg_mul _ _
      rw [c2] at b1
      generalize (n : Int) * 576000 = Z at *
      rw [w64 (by omega) (by omega)]
      omega
  exact key l.length (Nat.le_refl _)
theorem split_sum {a : Int} {l : List Int} (h0 : -9000 ≤ a) (h1 : a ≤ 9000) (h : WOk l) (hs : ssum l ≠ 0) :
    isum (fun i => (split a l).getD i 0) l.length = a ∧ ∀ i, -100000000 ≤ (split a l).getD i 0 ∧ (split a l).getD i 0 ≤ 100000000 := by
  have hle := parts_le h0 h1 h hs
  have b1 := isum_bd (f := part a l) (B := 576000) l.length (fun i hi => (part_bd h0 h1 h hs i hi).1)
  have h64 := h.n64
  have c1 : (l.length : Int) * 576000 ≤ 64 * 576000 := Int.mul_le_mul_of_nonneg_right (by omega) (by decide)
  have c2 : -(l.length : Int) * 576000 = -((l.length : Int) * 576000) := Int.neg_mul _ _
  rw [c2] at b1
  have hg : ∀ i, ((List.range l.length).map (part a l)).getD i 0 = if i < l.length then part a l i else 0 := by
    intro i
    by_cases hi : i < l.length
    · rw [if_pos hi]; simp [List.getD, hi]
    · rw [if_neg hi]; simp [List.getD, hi]
  have hbd : ∀ i, -576000 ≤ ((List.range l.length).map (part a l)).getD i 0 ∧ ((List.range l.length).map (part a l)).getD i 0 ≤ 576000 := by
    intro i
    rw [hg i]
    split
    · exact (part_bd h0 h1 h hs i ‹_›).1
    · omega
  unfold split
  rw [left_is h0 h1 h hs]
  generalize hZ : (l.length : Int) * 576000 = Z at *
  have hn : (((a - isum (part a l) l.length).toNat : Nat) : Int) = a - isum (part a l) l.length := Int.toNat_of_nonneg (by omega)
  obtain ⟨s1, s2⟩ := hand_sum (a - isum (part a l) l.length).toNat ((List.range l.length).map (part a l)) ((List.range l.length).map (rest a l)) (by simp) (by have := h.n1; simpa using this) (fun i => by
    have := hbd i
    omega)
  refine ⟨?_, fun i => ?_⟩
  · have e : ((List.range l.length).map (part a l)).length = l.length := by simp
    rw [e] at s1
    rw [s1, isum_congr l.length (g := part a l) (fun i hi => by rw [hg i, if_pos hi]), hn]
    omega
  · have := s2 i
    have := hbd i
    omega
def cellOk (x : Int) : Bool := decide (x = -9999) || inb x (-9000) 9000
def fieldOk (a b : Int) (l : List Int) : Bool := inb a 1 8 && (inb b 1 8 && (decide ((l.length : Int) = a * b) && l.all cellOk))
theorem cellOk_bd {x : Int} (h : cellOk x = true) : -9999 ≤ x ∧ x ≤ 9000 := by
  unfold cellOk at h
  rw [Bool.or_eq_true, decide_eq_true_eq, inb_iff] at h
  omega
structure FieldIs (a b : Int) (l : List Int) : Prop where
  a1 : 1 ≤ a
  a8 : a ≤ 8
  b1 : 1 ≤ b
  b8 : b ≤ 8
  len : (l.length : Int) = a * b
  cells : ∀ x ∈ l, cellOk x = true
theorem fieldOk_iff {a b : Int} {l : List Int} : fieldOk a b l = true ↔ FieldIs a b l := by
  unfold fieldOk
  rw [Bool.and_eq_true, Bool.and_eq_true, Bool.and_eq_true, inb_iff, inb_iff, decide_eq_true_eq, List.all_eq_true]
  exact ⟨fun ⟨⟨h1, h2⟩, ⟨h3, h4⟩, h5, h6⟩ => ⟨h1, h2, h3, h4, h5, h6⟩, fun h => ⟨⟨h.a1, h.a8⟩, ⟨h.b1, h.b8⟩, h.len, h.cells⟩⟩
theorem mul_bd {a b : Int} (a1 : 1 ≤ a) (a8 : a ≤ 8) (b1 : 1 ≤ b) (b8 : b ≤ 8) : 1 ≤ a * b ∧ a * b ≤ 64 := by
  obtain h | h | h | h | h | h | h | h : a = 1 ∨ a = 2 ∨ a = 3 ∨ a = 4 ∨ a = 5 ∨ a = 6 ∨ a = 7 ∨ a = 8 := by omega
  all_goals subst h; omega
theorem FieldIs.len64 {a b : Int} {l : List Int} (h : FieldIs a b l) : 1 ≤ l.length ∧ l.length ≤ 64 := by
  have := mul_bd h.a1 h.a8 h.b1 h.b8
  have := h.len
  omega
theorem l2Value_is (x : Int) : spec_l2Value.f x = some (cellOk x) := by
  unfold spec_l2Value.f cellOk
  rw [l1In_is]
  by_cases h : x = -9999
  · simp [h]
  · simp [h]
theorem l2Shape_is (a b : Int) : spec_l2Shape.f a b = some (inb a 1 8 && inb b 1 8) := by
  unfold spec_l2Shape.f
  rw [l1In_is, l1In_is]
  cases inb a 1 8 <;> simp
theorem shape_iff {a b : Int} : (inb a 1 8 && inb b 1 8) = true ↔ (1 ≤ a ∧ a ≤ 8) ∧ 1 ≤ b ∧ b ≤ 8 := by rw [Bool.and_eq_true, inb_iff, inb_iff]
theorem l2Good_ev (a b : Int) (l : List Int) (hl : l.length ≤ 9223372036854775806) : Ev (fun k => spec_l2Good.f k a b l) (fieldOk a b l) := by
  have no : Ev (fun k => spec_l2Good.j0 k true a b l) false := ev_step (f := fun _ => some false) (fun k => by simp [spec_l2Good.j0]) (ev_some _)
  unfold spec_l2Good.f
  rw [l2Shape_is]
  simp only [Option.bind_some]
  by_cases hs : (inb a 1 8 && inb b 1 8) = true
  · refine ev_ifp hs ?_
    obtain ⟨⟨a1, a8⟩, b1, b8⟩ := shape_iff.1 hs
    have hm := mul_bd a1 a8 b1 b8
    rw [w64 (by omega) (by omega)]
    by_cases hl2 : (l.length : Int) = a * b
    · have h := allb_ev (fun k i => spec_l2Good.l0 k (i : Int) a b l) l.length (fun i => cellOk (l.getD i 0))
        (fun i r hi hp hh => ev_step (fun k => by
          simp only [spec_l2Good.l0, l2Value_is, Option.bind_some, rd_nat]
          rw [if_pos (by omega), if_pos (by omega), if_pos hp, w64 (by omega) (by omega)]
          rfl) hh)
        (fun i hi hp => ev_step (f := fun _ => some false) (fun k => by
          simp only [spec_l2Good.l0, l2Value_is, Option.bind_some, rd_nat]
          rw [if_pos (by omega), if_pos (by omega), if_neg (by rw [hp]; decide)]) (ev_some _))
        (ev_step (f := fun _ => some true) (fun k => by
          simp only [spec_l2Good.l0]
          rw [if_neg (by omega)]) (ev_some _))
      rw [rall_list] at h
      have e : fieldOk a b l = l.all cellOk := by
        rw [Bool.and_eq_true] at hs
        simp [fieldOk, hs.1, hs.2, hl2]
      rw [e, show ((l.length : Int) != a * b) = false by rw [bne_eq_false_iff_eq]; exact hl2]
      exact ev_step (f := fun k => spec_l2Good.l0 k 0 a b l) (fun k => by simp [spec_l2Good.j0]) h
    · have e : fieldOk a b l = false := by simp [fieldOk, hl2]
      rw [e, show ((l.length : Int) != a * b) = true by rw [bne_iff_ne]; exact hl2]
      exact no
  · refine ev_ifn hs ?_
    have e : fieldOk a b l = false := by
      cases h1 : inb a 1 8 with
      | false => simp [fieldOk, h1]
      | true =>
        cases h2 : inb b 1 8 with
        | false => simp [fieldOk, h2]
        | true => exact absurd (by rw [h1, h2]; rfl) hs
    rw [e]
    exact no
theorem isValidField_is (a b : Int) (l : List Int) : impl_IsValidField.f a b l = some (fieldOk a b l) := by
  unfold impl_IsValidField.f slices_ContainsFunc_int_at_impl_IsValidField_1.f
  rw [within_is, within_is]
  simp only [Option.bind_some]
  cases h1 : inb a 1 8 with
  | false => simp [fieldOk, h1]
  | true =>
    cases h2 : inb b 1 8 with
    | false => simp [fieldOk, h2]
    | true =>
      have hm := mul_bd (inb_iff.1 h1).1 (inb_iff.1 h1).2 (inb_iff.1 h2).1 (inb_iff.1 h2).2
      rw [w64 (by omega) (by omega)]
      by_cases hl : (l.length : Int) = a * b
      · have e : (!l.any slices_ContainsFunc_int_at_impl_IsValidField_1.p) = l.all cellOk := by
          rw [List.not_any_eq_all_not]
          congr 1
          funext x
          simp [slices_ContainsFunc_int_at_impl_IsValidField_1.p, cellOk, inb]
        simp [fieldOk, h1, h2, hl, e]
      · simp [fieldOk, hl]
end Go.Proofs.Ythlmikigjhgpdaa.Pure
namespace Go.Proofs.Ythlmikigjhgpdaa.Pure
set_option linter.unusedVariables false
set_option linter.unusedSimpArgs false
open Go.RowKit Go.Proofs.Ythlmikigjhgpdaa.P Go.Proofs.YthlmikigjhgpdaaW.PrintWords Go.Proofs.YthlmikigjhgpdaaW.PrintLast Go.Proofs.YthlmikigjhgpdaaW.PrintMore
def ov (a c i k : Int) : Int := max 0 (min ((i + 1) * c) ((k + 1) * a) - max (i * c) (k * a))
theorem mx_max (a b : Int) : mx a b = max a b := by unfold mx; omega
theorem mn_min (a b : Int) : mn a b = min a b := by unfold mn; omega
theorem prod8 {x c : Int} (hx : 0 ≤ x ∧ x ≤ 8) (hc : 1 ≤ c ∧ c ≤ 8) : 0 ≤ x * c ∧ x * c ≤ 64 := by
  refine ⟨Int.mul_nonneg hx.1 (by omega), ?_⟩
  have := Int.mul_le_mul hx.2 hc.2 (by omega) (by decide)
  omega
theorem overlap_is {a c i k : Int} (ha : 1 ≤ a ∧ a ≤ 8) (hc : 1 ≤ c ∧ c ≤ 8) (hi : 0 ≤ i ∧ i ≤ a - 1) (hk : 0 ≤ k ∧ k ≤ c - 1) : impl_overlapUnits.f a c i k = some (ov a c i k) ∧ spec_l7Overlap.f a c i k = some (ov a c i k) := by
  have p1 := prod8 (x := i + 1) (c := c) (by omega) hc
  have p2 := prod8 (x := k + 1) (c := a) (by omega) ha
  have p3 := prod8 (x := i) (c := c) (by omega) hc
  have p4 := prod8 (x := k) (c := a) (by omega) ha
  have e1 : wrap64 (i + 1) = i + 1 := w64 (by omega) (by omega)
  have e2 : wrap64 (k + 1) = k + 1 := w64 (by omega) (by omega)
  have e3 : wrap64 ((i + 1) * c) = (i + 1) * c := w64 (by omega) (by omega)
  have e4 : wrap64 ((k + 1) * a) = (k + 1) * a := w64 (by omega) (by omega)
  have e5 : wrap64 (i * c) = i * c := w64 (by omega) (by omega)
  have e6 : wrap64 (k * a) = k * a := w64 (by omega) (by omega)
  constructor
  · unfold impl_overlapUnits.f
    rw [e1, e2, e3, e4, e5, e6, mn_min, mx_max, mx_max]
    clear e1 e2 e3 e4 e5 e6
    unfold ov
    generalize (i + 1) * c = A at *
    generalize (k + 1) * a = B at *
    generalize i * c = C at *
    generalize k * a = D at *
    rw [w64 (by omega) (by omega)]
  · unfold spec_l7Overlap.f spec_l1Least.f spec_l1Most.f
    rw [e1, e2, e3, e4, e5, e6]
    clear e1 e2 e3 e4 e5 e6
    unfold ov
    generalize (i + 1) * c = A at *
    generalize (k + 1) * a = B at *
    generalize i * c = C at *
    generalize k * a = D at *
    have m1 : (if A < B then some A else some B) = some (min A B) := by split <;> (congr 1; omega)
    have m2 : (if C > D then some C else some D) = some (max C D) := by split <;> (congr 1; omega)
    rw [m1, Option.bind_some, m2, Option.bind_some, w64 (by omega) (by omega)]
    have m3 : (if 0 > min A B - max C D then some 0 else some (min A B - max C D)) = some (max 0 (min A B - max C D)) := by split <;> (congr 1; omega)
    rw [m3]
    rfl
def cover (a c i m : Int) : Int := min (max (m * a) (i * c)) ((i + 1) * c) - i * c
theorem cover_step {a c i m : Int} (ha : 1 ≤ a) (hc : 1 ≤ c) : cover a c i (m + 1) = cover a c i m + ov a c i m := by
  unfold cover ov
  have e1 : (m + 1) * a = m * a + a := by rw [Int.add_mul, Int.one_mul]
  have e2 : (i + 1) * c = i * c + c := by rw [Int.add_mul, Int.one_mul]
  rw [e1, e2]
  generalize m * a = A
  generalize i * c = C
  omega
theorem cover_zero {a c i : Int} (hc : 1 ≤ c) (hi : 0 ≤ i) : cover a c i 0 = 0 := by
  unfold cover
  have h : 0 ≤ i * c := Int.mul_nonneg hi (by omega)
  have e2 : (i + 1) * c = i * c + c := by rw [Int.add_mul, Int.one_mul]
  rw [e2, Int.zero_mul]
  generalize i * c = C at *
  omega
theorem cover_all {a c i : Int} (hc : 1 ≤ c) (hi : 0 ≤ i ∧ i ≤ a - 1) : cover a c i c = c := by
  unfold cover
  have h : (i + 1) * c ≤ a * c := Int.mul_le_mul_of_nonneg_right (by omega) (by omega)
  have e2 : (i + 1) * c = i * c + c := by rw [Int.add_mul, Int.one_mul]
  rw [Int.mul_comm c a]
  rw [e2] at h ⊢
  generalize i * c = C at *
  generalize a * c = A at *
  omega
end Go.Proofs.Ythlmikigjhgpdaa.Pure
namespace Go.Proofs.Ythlmikigjhgpdaa.Pure
set_option linter.unusedVariables false
set_option linter.unusedSimpArgs false
open Go.RowKit Go.Proofs.Ythlmikigjhgpdaa.P Go.Proofs.YthlmikigjhgpdaaW.PrintWords Go.Proofs.YthlmikigjhgpdaaW.PrintLast
theorem filled_is (a b v : Int) (h0 : 1 ≤ a * b) (h1 : a * b ≤ 64) : impl_filled.f a b v = some (a, b, List.replicate (a * b).toNat v) := by
  unfold impl_filled.f slices_Repeat_int_int.f
  rw [w64 (by omega) (by omega), if_pos ⟨rfl, by omega, h1⟩]
  rfl
theorem iter_rep {α : Type} (v : α) : ∀ d i (s : List α), iter (fun _ s => s ++ [v]) i d s = s ++ List.replicate d v
  | 0, i, s => by simp [iter]
  | d + 1, i, s => by
    show iter (fun _ s => s ++ [v]) (i + 1) d (s ++ [v]) = _
    rw [iter_rep v d (i + 1), List.append_assoc, List.replicate_succ]
    rfl
theorem l2Fill_ev (a b v : Int) (h0 : 1 ≤ a * b) (h1 : a * b ≤ 64) : Ev (fun k => spec_l2Fill.f k a b v) (a, b, List.replicate (a * b).toNat v) := by
  obtain ⟨n, hn⟩ := Int.eq_ofNat_of_zero_le (show 0 ≤ a * b by omega)
  have h := loop_ev (fun k s i => spec_l2Fill.l0 k a b v (i : Int) a b s) n (fun _ s => s ++ [v]) (fun s => (a, b, s)) (fun i s => s.length = i)
    (fun i s r hI hi h => ev_step (fun k => by
      simp only [spec_l2Fill.l0]
      rw [w64 (x := a * b) (by omega) (by omega), if_pos (by omega), if_pos (by omega), w64 (by omega) (by omega)]
      rfl) h)
    (fun i s hI _ => by simp [hI])
    (fun s hI => ev_step (f := fun _ => some (a, b, s)) (fun k => by
      simp only [spec_l2Fill.l0]
      rw [w64 (x := a * b) (by omega) (by omega), if_neg (by omega)]) (ev_some _)) 0 [] (Nat.zero_le _) rfl
  rw [iter_rep, List.nil_append, Nat.sub_zero] at h
  rw [hn, Int.toNat_natCast]
  exact h
theorem tdiv_cast (i W : Nat) : Int.tdiv (i : Int) (W : Int) = ((i / W : Nat) : Int) := by rw [Int.tdiv_eq_ediv_of_nonneg (by omega)]; rfl
theorem tmod_cast (i W : Nat) : Int.tmod (i : Int) (W : Int) = ((i % W : Nat) : Int) := by rw [Int.tmod_eq_emod_of_nonneg (by omega)]; rfl
theorem fieldBy_at (p : Int → Int → Option Int) (q : Nat → Int) (W H : Nat) (hW : 1 ≤ W ∧ W ≤ 8) (hH : 1 ≤ H ∧ H ≤ 8) (hp : ∀ i, i < H * W → p ((i % W : Nat) : Int) ((i / W : Nat) : Int) = some (q i)) (k : Nat) (hk : 100 ≤ k) :
    impl_fieldBy_at_mp_mpGi64_i64_i64.f k p (W : Int) (H : Int) = some ((W : Int), (H : Int), tab (H * W) q) := by
  have hm : 1 ≤ (W : Int) * H ∧ (W : Int) * H ≤ 64 := mul_bd (by omega) (by omega) (by omega) (by omega)
  have hn : ((W : Int) * H).toNat = H * W := by rw [← Int.natCast_mul, Int.toNat_natCast, Nat.mul_comm]
  have h64 : H * W ≤ 64 := by have := hm.2; rw [← Int.natCast_mul] at this; rw [Nat.mul_comm]; omega
  unfold impl_fieldBy_at_mp_mpGi64_i64_i64.f
  rw [filled_is _ _ 0 hm.1 hm.2, Option.bind_some, hn]
  show impl_fieldBy_at_mp_mpGi64_i64_i64.l0 p k (W : Int) (((List.replicate (H * W) (0 : Int)).length : Nat) : Int) 0 (W : Int) (H : Int) (List.replicate (H * W) 0) = _
  rw [List.length_replicate]
  have h := loop_at (fun k s i => impl_fieldBy_at_mp_mpGi64_i64_i64.l0 p k (W : Int) ((H * W : Nat) : Int) (i : Int) (W : Int) (H : Int) s) (H * W) (fun i s => s.set i (q i)) (fun s => ((W : Int), (H : Int), s)) (fun _ s => s.length = H * W)
    (fun k i s hI hi => by
      show impl_fieldBy_at_mp_mpGi64_i64_i64.l0 p (k + 1) (W : Int) ((H * W : Nat) : Int) (i : Int) (W : Int) (H : Int) s = _
      have e1 : wrap64 ((i / W : Nat) : Int) = ((i / W : Nat) : Int) := w64n (Nat.le_trans (Nat.div_le_self _ _) (by omega))
      simp only [impl_fieldBy_at_mp_mpGi64_i64_i64.l0]
      rw [if_pos (by omega), if_neg (by omega), tmod_cast, tdiv_cast, e1, hp i hi, Option.bind_some, if_pos (by omega), if_pos (by rw [hI]; omega), w64 (by omega) (by omega), Int.toNat_natCast]
      rfl)
    (fun i s hI _ => by simpa using hI)
    (fun k s hI => by
      show impl_fieldBy_at_mp_mpGi64_i64_i64.l0 p (k + 1) (W : Int) ((H * W : Nat) : Int) ((H * W : Nat) : Int) (W : Int) (H : Int) s = _
      simp only [impl_fieldBy_at_mp_mpGi64_i64_i64.l0]
      rw [if_neg (by omega)]) (H * W) k 0 (List.replicate (H * W) 0) (by omega) (Nat.zero_le _) (by simp) (by omega)
  rw [iter_set_tab 0 q (H * W) _ (by simp)] at h
  exact h
theorem fieldBy_ev (P : Nat → Int → Int → Option Int) (q : Nat → Int) (W H : Nat) (hW : 1 ≤ W ∧ W ≤ 8) (hH : 1 ≤ H ∧ H ≤ 8) (hp : ∀ i, i < H * W → Ev (fun k => P k ((i % W : Nat) : Int) ((i / W : Nat) : Int)) (q i)) :
    Ev (fun k => impl_fieldBy_at_mp_mpGi64_i64_i64.f k (P k) (W : Int) (H : Int)) ((W : Int), (H : Int), tab (H * W) q) := by
  obtain ⟨K, hK⟩ := ev_all (fun k i => P k ((i % W : Nat) : Int) ((i / W : Nat) : Int)) q (H * W) hp
  exact ⟨K + 100, fun k hk => fieldBy_at (P k) q W H hW hH (hK k (by omega)) k (by omega)⟩
theorem shape_nat {a b : Int} {l : List Int} (f : FieldIs a b l) : ∃ W H : Nat, a = W ∧ b = H ∧ (1 ≤ W ∧ W ≤ 8) ∧ (1 ≤ H ∧ H ≤ 8) ∧ l.length = H * W ∧ H * W ≤ 64 := by
  have a1 := f.a1; have a8 := f.a8; have b1 := f.b1; have b8 := f.b8
  obtain ⟨W, rfl⟩ := Int.eq_ofNat_of_zero_le (show 0 ≤ a by omega)
  obtain ⟨H, rfl⟩ := Int.eq_ofNat_of_zero_le (show 0 ≤ b by omega)
  have hl : l.length = H * W := by have := f.len; rw [Int.mul_comm] at this; exact_mod_cast this
  have := f.len64
  exact ⟨W, H, rfl, rfl, by omega, by omega, hl, by omega⟩
theorem grid_bd {W H i : Nat} (hi : i < H * W) : i % W < W ∧ i / W < H ∧ i / W * W + i % W = i := by
  have hW : 0 < W := by
    rcases Nat.eq_zero_or_pos W with h | h
    · subst h; simp at hi
    · exact h
  refine ⟨Nat.mod_lt i hW, by rw [Nat.div_lt_iff_lt_mul hW]; omega, ?_⟩
  rw [Nat.mul_comm]
  exact Nat.div_add_mod i W
theorem isShape_is (a b : Int) : impl_isShape.f a b = some (inb a 1 8 && inb b 1 8) := by
  unfold impl_isShape.f
  rw [within_is, within_is]
  cases inb a 1 8 <;> simp
theorem shape_nat2 {a b : Int} (h : (inb a 1 8 && inb b 1 8) = true) : ∃ W H : Nat, a = W ∧ b = H ∧ (1 ≤ W ∧ W ≤ 8) ∧ (1 ≤ H ∧ H ≤ 8) := by
  obtain ⟨⟨a1, a8⟩, b1, b8⟩ := shape_iff.1 h
  obtain ⟨W, rfl⟩ := Int.eq_ofNat_of_zero_le (show 0 ≤ a by omega)
  obtain ⟨H, rfl⟩ := Int.eq_ofNat_of_zero_le (show 0 ≤ b by omega)
  exact ⟨W, H, rfl, rfl, by omega, by omega⟩
theorem l2At_is (a b : Int) (l : List Int) (W H x y : Nat) (ha : a = W) (hx : x < W) (hy : y < H) (hl : l.length = H * W) (h64 : l.length ≤ 64) : spec_l2At.f a b l (x : Int) (y : Int) = some (l.getD (y * W + x) 0) := by
  subst ha
  have h1 : y * W + x < H * W := by
    have : (y + 1) * W ≤ H * W := Nat.mul_le_mul_right W hy
    rw [Nat.add_mul] at this
    omega
  have e : wrap64 ((wrap64 ((y : Int) * (W : Int))) + (x : Int)) = ((y * W + x : Nat) : Int) := by
    have e1 : (y : Int) * (W : Int) = ((y * W : Nat) : Int) := by simp
    rw [e1, w64n (by omega), show ((y * W : Nat) : Int) + (x : Int) = ((y * W + x : Nat) : Int) by simp]
    exact w64n (by omega)
  unfold spec_l2At.f
  rw [e, if_pos (by omega), if_pos (by omega), rd_nat]
theorem div_at {W y x : Nat} (hx : x < W) : (y * W + x) / W = y ∧ (y * W + x) % W = x := by
  have hW : 0 < W := by omega
  constructor
  · rw [Nat.mul_comm, Nat.mul_add_div hW, Nat.div_eq_of_lt hx, Nat.add_zero]
  · rw [Nat.mul_comm, Nat.mul_add_mod, Nat.mod_eq_of_lt hx]
theorem mem_rall (l : List Int) (x : Int) : decide (x ∈ l) = !rall (fun i => decide (l.getD i 0 ≠ x)) 0 l.length := by
  rw [rall_list l 0 (fun y => decide (y ≠ x))]
  rw [Bool.eq_iff_iff, decide_eq_true_eq, Bool.not_eq_true', ← Bool.not_eq_true, List.all_eq_true]
  constructor
  · intro h hh
    have := hh x h
    simp at this
  · intro h
    rw [Classical.not_forall] at h
    obtain ⟨y, hy⟩ := h
    rw [Classical.not_imp] at hy
    obtain ⟨h1, h2⟩ := hy
    simp at h2
    rw [← h2]
    exact h1
theorem contains_is (l : List Int) (x : Int) (hl : l.length ≤ 9223372036854775806) : Ev (fun k => slices_Contains_int_int.f k l x) (decide (x ∈ l)) := by
  have h := find_ev (fun k i => slices_Index_int_int.l0 k l x (l.length : Int) (i : Int)) l.length (fun i => decide (l.getD i 0 = x))
    (fun i r hi hp h => ev_step (fun k => by
      simp only [slices_Index_int_int.l0, rd_nat]
      rw [if_pos (by omega), if_pos (by omega), if_pos (by omega), if_neg (by intro e; rw [← e] at hp; simp at hp), w64 (by omega) (by omega)]
      rfl) h)
    (fun i hi hp => ev_step (f := fun _ => some (i : Int)) (fun k => by
      simp only [slices_Index_int_int.l0, rd_nat]
      rw [if_pos (by omega), if_pos (by omega), if_pos (by omega), if_pos (by have := of_decide_eq_true hp; exact this.symm)]) (ev_some _))
    (ev_step (f := fun _ => some (-1)) (fun k => by
      simp only [slices_Index_int_int.l0]
      rw [if_neg (by omega)]) (ev_some _))
  have e : decide (x ∈ l) = decide (fidx (fun i => decide (l.getD i 0 = x)) 0 l.length ≥ 0) := by
    rw [fidx_nonneg, mem_rall]
    congr 1
    exact rall_congr _ _ (fun j _ _ => by simp)
  rw [e]
  exact ev_bind h (ev_some _)
def fullOk (a b : Int) (l : List Int) : Bool := fieldOk a b l && !decide (-9999 ∈ l)
theorem l7Full_ev (a b : Int) (l : List Int) (hl : l.length ≤ 9223372036854775806) : Ev (fun k => spec_l7Full.f k a b l) (fullOk a b l) := by
  have h := all_ev (fun k i => spec_l7Full.l0 k (i : Int) a b l) l.length (fun i => decide (l.getD i 0 ≠ -9999)) false (fieldOk a b l)
    (fun i r hi hp h => ev_step (fun k => by
      simp only [spec_l7Full.l0, rd_nat]
      rw [if_pos (by omega), if_pos (by omega), if_neg (by simpa using hp), w64 (by omega) (by omega)]
      rfl) h)
    (fun i hi hp => ev_step (f := fun _ => some false) (fun k => by
      simp only [spec_l7Full.l0, rd_nat]
      rw [if_pos (by omega), if_pos (by omega), if_pos (by simpa using hp)]) (ev_some _))
    (ev_step (fun k => spec_l7Full.l0.eq_2 _ _ _ _ k) (ev_ifn (by omega) (ev_bind (l2Good_ev a b l hl) (ev_some _)))) 0 (Nat.zero_le _)
  rw [Nat.sub_zero] at h
  have e : fullOk a b l = if rall (fun i => decide (l.getD i 0 ≠ -9999)) 0 l.length = true then fieldOk a b l else false := by
    unfold fullOk
    rw [mem_rall, Bool.not_not]
    cases fieldOk a b l <;> cases rall (fun i => decide (l.getD i 0 ≠ -9999)) 0 l.length <;> rfl
  rw [e]
  exact h
theorem isFull_ev (a b : Int) (l : List Int) (hl : l.length ≤ 9223372036854775806) : Ev (fun k => impl_isFull.f k a b l) (fullOk a b l) := by
  unfold impl_isFull.f fullOk
  refine ev_bind (ev_const (isValidField_is a b l)) ?_
  cases fieldOk a b l with
  | false => exact ev_ifn (by simp) (ev_some _)
  | true => exact ev_ifp rfl (ev_bind (contains_is l (-9999) hl) (ev_some _))
def sumsOk (l : List Int) : Bool := rall (fun i => inb (l.getD i 0) (-9000) 9000) 0 l.length
theorem sumsOk_full {a b : Int} {l : List Int} (hs : (1 ≤ a ∧ a ≤ 8) ∧ 1 ≤ b ∧ b ≤ 8) (hl : (l.length : Int) = a * b) : fullOk a b l = sumsOk l := by
  unfold fullOk sumsOk
  rw [Bool.eq_iff_iff, Bool.and_eq_true, fieldOk_iff, rall_list l 0 (fun x => inb x (-9000) 9000), List.all_eq_true]
  constructor
  · rintro ⟨h1, h2⟩ x hx
    have h3 := h1.cells x hx
    unfold cellOk at h3
    rw [Bool.or_eq_true, decide_eq_true_eq] at h3
    rcases h3 with e | h3
    · subst e; simp [hx] at h2
    · exact h3
  · intro h
    refine ⟨⟨hs.1.1, hs.1.2, hs.2.1, hs.2.2, hl, fun x hx => ?_⟩, ?_⟩
    · unfold cellOk
      rw [h x hx]
      simp
    · by_cases hm : -9999 ∈ l
      · have := inb_iff.1 (h _ hm)
        omega
      · simp [hm]
theorem checkedSums_ev (a b : Int) (l : List Int) (hl : l.length ≤ 9223372036854775806) : Ev (fun k => impl_checkedSums.f k a b l) (if sumsOk l = true then (a, b, l, true) else (0, 0, [], false)) :=
  ev_bind (allWithin_ev l (-9000) 9000 hl) (ev_ite (fun _ => ev_some _) (fun _ => ev_some _))
theorem ov_bd {a c i k : Int} (ha : 1 ≤ a ∧ a ≤ 8) (hc : 1 ≤ c ∧ c ≤ 8) : 0 ≤ ov a c i k ∧ ov a c i k ≤ 8 := by
  unfold ov
  have e1 : (k + 1) * a = k * a + a := by rw [Int.add_mul, Int.one_mul]
  have e2 : (i + 1) * c = i * c + c := by rw [Int.add_mul, Int.one_mul]
  rw [e1, e2]
  generalize k * a = A
  generalize i * c = C
  omega
theorem ov_sum (a i : Nat) (C : Nat) (ha : 1 ≤ a ∧ a ≤ 8) (hc : 1 ≤ C ∧ C ≤ 8) (hi : i < a) : isum (fun k => ov (a : Int) (C : Int) (i : Int) (k : Int)) C = (C : Int) := by
  have key : ∀ m : Nat, isum (fun k => ov (a : Int) (C : Int) (i : Int) (k : Int)) m = cover (a : Int) (C : Int) (i : Int) (m : Int) := by
    intro m
    induction m with
    | zero => exact (cover_zero (by omega) (by omega)).symm
    | succ m ih =>
      simp only [isum]
      rw [ih, show ((m + 1 : Nat) : Int) = (m : Int) + 1 by omega, cover_step (by omega) (by omega)]
  rw [key C, cover_all (by omega) (by omega)]
def wt (W H W' H' j i : Nat) : Int := ov (W : Int) (W' : Int) ((j % W : Nat) : Int) ((i % W' : Nat) : Int) * ov (H : Int) (H' : Int) ((j / W : Nat) : Int) ((i / W' : Nat) : Int)
def wts (W H W' H' j : Nat) : List Int := tab (H' * W') (wt W H W' H' j)
structure Sides (W H W' H' : Nat) : Prop where
  a : 1 ≤ W ∧ W ≤ 8
  b : 1 ≤ H ∧ H ≤ 8
  c : 1 ≤ W' ∧ W' ≤ 8
  d : 1 ≤ H' ∧ H' ≤ 8
theorem Sides.n {W H W' H' : Nat} (s : Sides W H W' H') : (1 ≤ H * W ∧ H * W ≤ 64) ∧ 1 ≤ H' * W' ∧ H' * W' ≤ 64 :=
  ⟨⟨Nat.mul_pos s.b.1 s.a.1, Nat.mul_le_mul s.b.2 s.a.2⟩, Nat.mul_pos s.d.1 s.c.1, Nat.mul_le_mul s.d.2 s.c.2⟩
theorem wt_bd {W H W' H' : Nat} (s : Sides W H W' H') (j i : Nat) : 0 ≤ wt W H W' H' j i ∧ wt W H W' H' j i ≤ 64 := by
  have := s.a; have := s.b; have := s.c; have := s.d
  have h1 := ov_bd (a := (W : Int)) (c := (W' : Int)) (i := ((j % W : Nat) : Int)) (k := ((i % W' : Nat) : Int)) (by omega) (by omega)
  have h2 := ov_bd (a := (H : Int)) (c := (H' : Int)) (i := ((j / W : Nat) : Int)) (k := ((i / W' : Nat) : Int)) (by omega) (by omega)
  unfold wt
  refine ⟨Int.mul_nonneg h1.1 h2.1, ?_⟩
  have := Int.mul_le_mul h1.2 h2.2 h2.1 (by decide)
  omega
theorem wts_ok {W H W' H' : Nat} (s : Sides W H W' H') (j : Nat) (hj : j < H * W) : WOk (wts W H W' H' j) ∧ ssum (wts W H W' H' j) ≠ 0 := by
  have hn := s.n
  have hl : (wts W H W' H' j).length = H' * W' := tab_length _ _
  refine ⟨⟨by rw [hl]; exact hn.2.1, by rw [hl]; exact hn.2.2, fun i hi => ?_⟩, ?_⟩
  · rw [hl] at hi
    unfold wts
    rw [tab_getD _ _ 0 hi]
    exact wt_bd s j i
  · obtain ⟨g1, g2, _⟩ := grid_bd hj
    rw [ssum_isum, hl, isum_congr (H' * W') (g := wt W H W' H' j) (fun i hi => by unfold wts; exact tab_getD _ _ 0 hi)]
    have e := isum_prod (fun x => ov (W : Int) (W' : Int) ((j % W : Nat) : Int) (x : Int)) (fun y => ov (H : Int) (H' : Int) ((j / W : Nat) : Int) (y : Int)) W' H' (by have := s.c; omega)
    rw [ov_sum W (j % W) W' s.a s.c g1, ov_sum H (j / W) H' s.b s.d g2] at e
    show isum (fun i => wt W H W' H' j i) (H' * W') ≠ 0
    unfold wt
    rw [e]
    have := s.c; have := s.d
    have : 0 < (W' : Int) * (H' : Int) := Int.mul_pos (by omega) (by omega)
    omega
def addL (out ps : List Int) : List Int := tab out.length (fun k => out.getD k 0 + ps.getD k 0)
def rstep (W H W' H' : Nat) (l : List Int) (j : Nat) (out : List Int) : List Int := addL out (split (l.getD j 0) (wts W H W' H' j))
theorem addL_len (out ps : List Int) : (addL out ps).length = out.length := tab_length _ _
def RInv (n : Nat) (j : Nat) (out : List Int) : Prop := out.length = n ∧ ∀ k, -100000000 * (j : Int) ≤ out.getD k 0 ∧ out.getD k 0 ≤ 100000000 * (j : Int)
theorem full_val {a b : Int} {l : List Int} (h : fullOk a b l = true) (j : Nat) : -9000 ≤ l.getD j 0 ∧ l.getD j 0 ≤ 9000 := by
  unfold fullOk at h
  rw [Bool.and_eq_true, fieldOk_iff] at h
  by_cases hj : j < l.length
  · rw [getD_eq_get 0 hj]
    have hm := List.getElem_mem hj
    have hc := h.1.cells _ hm
    unfold cellOk at hc
    rw [Bool.or_eq_true, decide_eq_true_eq, inb_iff] at hc
    rcases hc with e | hc
    · have h2 := h.2
      rw [e] at hm
      simp [hm] at h2
    · exact hc
  · simp [List.getD, List.getElem?_eq_none (show l.length ≤ j by omega)]
theorem rstep_inv {W H W' H' : Nat} (s : Sides W H W' H') {a b : Int} {l : List Int} (hf : fullOk a b l = true) (j : Nat) (out : List Int) (hI : RInv (H' * W') j out) (hj : j < H * W) : RInv (H' * W') (j + 1) (rstep W H W' H' l j out) := by
  obtain ⟨w1, w2⟩ := wts_ok s j hj
  have hv := full_val hf j
  obtain ⟨_, hb⟩ := split_sum hv.1 hv.2 w1 w2
  refine ⟨by unfold rstep; rw [addL_len]; exact hI.1, fun k => ?_⟩
  unfold rstep addL
  by_cases hk : k < out.length
  · rw [tab_getD _ _ 0 hk]
    have := hI.2 k
    have := hb k
    omega
  · rw [List.getD, List.getElem?_eq_none (by rw [tab_length]; omega)]
    simp only [Option.getD_none]
    omega
def regrid (W H W' H' : Nat) (l : List Int) : List Int := iter (rstep W H W' H' l) 0 (H * W) (List.replicate (H' * W') 0)
theorem add_iter (n : Nat) (out ps : List Int) (ho : out.length = n) : iter (fun k (s : List Int) => s.set k (s.getD k 0 + ps.getD k 0)) 0 n out = addL out ps := by
  have hi := iter_inv (fun k (s : List Int) => s.set k (s.getD k 0 + ps.getD k 0)) (fun i s => s.length = n ∧ (∀ j, j < i → s.getD j 0 = out.getD j 0 + ps.getD j 0) ∧ ∀ j, i ≤ j → s.getD j 0 = out.getD j 0) n
    (fun i s hI hi => by
      obtain ⟨h1, h2, h3⟩ := hI
      have hg := fun j => getD_set s i j (s.getD i 0 + ps.getD i 0) (by omega)
      refine ⟨by simp [h1], fun j hj => ?_, fun j hj => ?_⟩
      · rw [hg j]
        by_cases e : j = i
        · rw [if_pos e, e, h3 i (Nat.le_refl _)]
        · rw [if_neg e, h2 j (by omega)]
      · rw [hg j, if_neg (by omega), h3 j (by omega)]) n 0 out (by omega) ⟨ho, fun j hj => by omega, fun j _ => rfl⟩
  refine eq_index 0 (by rw [hi.1, addL_len, ho]) (fun j hj => ?_)
  rw [hi.2.1 j (by have := hi.1; omega)]
  unfold addL
  rw [tab_getD _ _ 0 (by have := hi.1; omega)]
theorem replicate_inv (n : Nat) : RInv n 0 (List.replicate n 0) := by
  refine ⟨by simp, fun k => ?_⟩
  by_cases hk : k < n
  · simp [List.getD, hk]
  · simp [List.getD, hk]
theorem regrid_inv {W H W' H' : Nat} (s : Sides W H W' H') {a b : Int} {l : List Int} (hf : fullOk a b l = true) : RInv (H' * W') (H * W) (regrid W H W' H' l) :=
  iter_inv (rstep W H W' H' l) (RInv (H' * W')) (H * W) (fun i t hI hi => rstep_inv s hf i t hI hi) (H * W) 0 _ (by omega) (replicate_inv _)
theorem regrid_sum {W H W' H' : Nat} (s : Sides W H W' H') {a b : Int} {l : List Int} (hf : fullOk a b l = true) (hl : l.length = H * W) :
    isum (fun k => (regrid W H W' H' l).getD k 0) (H' * W') = isum (fun j => l.getD j 0) l.length := by
  have key : ∀ n, n ≤ H * W → (iter (rstep W H W' H' l) 0 n (List.replicate (H' * W') 0)).length = H' * W' ∧ isum (fun k => (iter (rstep W H W' H' l) 0 n (List.replicate (H' * W') 0)).getD k 0) (H' * W') = isum (fun j => l.getD j 0) n := by
    intro n
    induction n with
    | zero =>
      intro _
      refine ⟨by simp [iter], ?_⟩
      rw [isum_congr (H' * W') (g := fun _ => 0) (fun k hk => by simp [iter, List.getD, hk]), isum_zero]
      rfl
    | succ n ih =>
      intro hn
      obtain ⟨h1, h2⟩ := ih (by omega)
      rw [iter_add (rstep W H W' H' l) n 0 1 _, Nat.zero_add]
      generalize iter (rstep W H W' H' l) 0 n (List.replicate (H' * W') 0) = out at *
      show (addL out (split (l.getD n 0) (wts W H W' H' n))).length = H' * W' ∧ isum (fun k => (addL out (split (l.getD n 0) (wts W H W' H' n))).getD k 0) (H' * W') = isum (fun j => l.getD j 0) n + l.getD n 0
      obtain ⟨w1, w2⟩ := wts_ok s n (by omega)
      have hv := full_val hf n
      obtain ⟨hs, _⟩ := split_sum hv.1 hv.2 w1 w2
      rw [show (wts W H W' H' n).length = H' * W' from tab_length _ _] at hs
      refine ⟨by rw [addL_len, h1], ?_⟩
      rw [isum_congr (H' * W') (g := fun k => out.getD k 0 + (split (l.getD n 0) (wts W H W' H' n)).getD k 0) (fun k hk => by unfold addL; rw [h1]; exact tab_getD _ _ 0 hk), isum_add, h2, hs]
  rw [hl]
  exact (key (H * W) (Nat.le_refl _)).2
theorem wts_impl {W H W' H' : Nat} (s : Sides W H W' H') (l : List Int) (j : Nat) (hj : j < H * W) :
    Ev (fun k => impl_fieldBy_at_mp_mpGi64_i64_i64.f k (fun z0_ z1_ => impl_RegridTotal_1.f z0_ z1_ (W : Int) (H : Int) l (W' : Int) (j : Int) (H' : Int)) (W' : Int) (H' : Int)) ((W' : Int), (H' : Int), wts W H W' H' j) := by
  have := s.a; have := s.b; have := s.c; have := s.d
  have hn := s.n
  refine fieldBy_ev (fun _ => fun z0_ z1_ => impl_RegridTotal_1.f z0_ z1_ (W : Int) (H : Int) l (W' : Int) (j : Int) (H' : Int)) (wt W H W' H' j) W' H' s.c s.d (fun i hi => ev_const ?_)
  obtain ⟨g1, g2, _⟩ := grid_bd hi
  obtain ⟨q1, q2, _⟩ := grid_bd hj
  have b := wt_bd s j i
  have z1 : (0 : Int) ≤ ((j / W : Nat) : Int) := Int.natCast_nonneg _
  have z2 : (0 : Int) ≤ ((i / W' : Nat) : Int) := Int.natCast_nonneg _
  have z3 : (0 : Int) ≤ ((j % W : Nat) : Int) := Int.natCast_nonneg _
  have z4 : (0 : Int) ≤ ((i % W' : Nat) : Int) := Int.natCast_nonneg _
  unfold impl_RegridTotal_1.f
  rw [if_neg (by omega), tmod_cast, tdiv_cast, w64n (n := j / W) (by omega),
    (overlap_is (a := (W : Int)) (c := (W' : Int)) (i := ((j % W : Nat) : Int)) (k := ((i % W' : Nat) : Int)) (by omega) (by omega) (by omega) (by omega)).1, Option.bind_some,
    (overlap_is (a := (H : Int)) (c := (H' : Int)) (i := ((j / W : Nat) : Int)) (k := ((i / W' : Nat) : Int)) (by omega) (by omega) (by omega) (by omega)).1, Option.bind_some]
  unfold wt at b ⊢
  rw [w64 (by omega) (by omega)]
theorem impl_add (W H W' H' : Nat) (l : List Int) (n : Nat) (hn : n ≤ 64) (j : Int) (len : Int) (ps : List Int) (hp : ps.length = n) (hpb : ∀ i, -100000000 ≤ ps.getD i 0 ∧ ps.getD i 0 ≤ 100000000) (out : List Int) (ho : out.length = n)
    (hob : ∀ k, -100000000 * 64 ≤ out.getD k 0 ∧ out.getD k 0 ≤ 100000000 * 64) (r : Int × Int × List Int × Bool)
    (h : Ev (fun k => impl_RegridTotal.l0 k l len (wrap64 (j + 1)) (W : Int) (H : Int) l (W' : Int) (H' : Int) (W' : Int) (H' : Int) (addL out ps)) r) :
    Ev (fun k => impl_RegridTotal.l1 k l len j ps (n : Int) 0 (W : Int) (H : Int) l (W' : Int) (H' : Int) (W' : Int) (H' : Int) out) r := by
  rw [← add_iter n out ps ho] at h
  have hr : Ev (fun k => impl_RegridTotal.l1 k l len j ps (n : Int) ((0 : Nat) : Int) (W : Int) (H : Int) l (W' : Int) (H' : Int) (W' : Int) (H' : Int) out) ((fun _ => r) (iter (fun k (s : List Int) => s.set k (s.getD k 0 + ps.getD k 0)) 0 (n - 0) out)) :=
    loop_ev (fun k (t : List Int) i => impl_RegridTotal.l1 k l len j ps (n : Int) (i : Int) (W : Int) (H : Int) l (W' : Int) (H' : Int) (W' : Int) (H' : Int) t) n (fun k (s : List Int) => s.set k (s.getD k 0 + ps.getD k 0)) (fun _ => r)
    (fun i t => t.length = n ∧ (∀ q, i ≤ q → t.getD q 0 = out.getD q 0) ∧ iter (fun k (s : List Int) => s.set k (s.getD k 0 + ps.getD k 0)) i (n - i) t = iter (fun k (s : List Int) => s.set k (s.getD k 0 + ps.getD k 0)) 0 n out)
    (fun i t q hI hi hh => by
      obtain ⟨h1, h2, _⟩ := hI
      have b1 := hpb i
      have b2 := hob i
      rw [← h2 i (Nat.le_refl _)] at b2
      refine ev_step (fun k => impl_RegridTotal.l1.eq_2 _ _ _ _ _ _ _ _ _ _ _ _ _ _ k) (ev_ifp (by omega) (ev_ifp (by omega) (ev_ifp (by omega) (ev_ifp (by omega) ?_))))
      rw [rd_nat, rd_nat, w64 (x := t.getD i 0 + ps.getD i 0) (by omega) (by omega), w64 (x := (i : Int) + 1) (by omega) (by omega), Int.toNat_natCast]
      exact hh)
    (fun i t hI hi => by
      obtain ⟨h1, h2, h3⟩ := hI
      have hg := fun q => getD_set t i q (t.getD i 0 + ps.getD i 0) (by omega)
      refine ⟨by simp [h1], fun q hq => by rw [hg q, if_neg (by omega), h2 q (by omega)], ?_⟩
      rw [← h3, show n - i = (n - (i + 1)) + 1 by omega]
      rfl)
    (fun t hI => ev_step (fun k => impl_RegridTotal.l1.eq_2 _ _ _ _ _ _ _ _ _ _ _ _ _ _ k) (ev_ifn (by omega) (by
      have := hI.2.2
      rw [Nat.sub_self] at this
      rw [show t = iter (fun k (s : List Int) => s.set k (s.getD k 0 + ps.getD k 0)) 0 n out from this]
      exact h))) 0 out (Nat.zero_le _) ⟨ho, fun _ _ => rfl, rfl⟩
  exact hr
theorem spec_add (W H W' H' : Nat) (l : List Int) (n : Nat) (hn : n ≤ 64) (y x : Int) (ps : List Int) (hp : ps.length = n) (hpb : ∀ i, -100000000 ≤ ps.getD i 0 ∧ ps.getD i 0 ≤ 100000000) (out : List Int) (ho : out.length = n)
    (hob : ∀ k, -100000000 * 64 ≤ out.getD k 0 ∧ out.getD k 0 ≤ 100000000 * 64) (r : Int × Int × List Int × Bool)
    (h : Ev (fun k => spec_RegridTotal.l1 k (W' : Int) (H' : Int) y (wrap64 (x + 1)) (W : Int) (H : Int) l (W' : Int) (H' : Int) (addL out ps)) r) :
    Ev (fun k => spec_RegridTotal.l4 k (W' : Int) (H' : Int) y x ps 0 (W : Int) (H : Int) l (W' : Int) (H' : Int) out) r := by
  rw [← add_iter n out ps ho] at h
  have hr : Ev (fun k => spec_RegridTotal.l4 k (W' : Int) (H' : Int) y x ps ((0 : Nat) : Int) (W : Int) (H : Int) l (W' : Int) (H' : Int) out) ((fun _ => r) (iter (fun k (s : List Int) => s.set k (s.getD k 0 + ps.getD k 0)) 0 (n - 0) out)) :=
    loop_ev (fun k (t : List Int) i => spec_RegridTotal.l4 k (W' : Int) (H' : Int) y x ps (i : Int) (W : Int) (H : Int) l (W' : Int) (H' : Int) t) n (fun k (s : List Int) => s.set k (s.getD k 0 + ps.getD k 0)) (fun _ => r)
    (fun i t => t.length = n ∧ (∀ q, i ≤ q → t.getD q 0 = out.getD q 0) ∧ iter (fun k (s : List Int) => s.set k (s.getD k 0 + ps.getD k 0)) i (n - i) t = iter (fun k (s : List Int) => s.set k (s.getD k 0 + ps.getD k 0)) 0 n out)
    (fun i t q hI hi hh => by
      obtain ⟨h1, h2, _⟩ := hI
      have b1 := hpb i
      have b2 := hob i
      rw [← h2 i (Nat.le_refl _)] at b2
      refine ev_step (fun k => spec_RegridTotal.l4.eq_2 _ _ _ _ _ _ _ _ _ _ _ _ k) (ev_ifp (by omega) (ev_ifp (by omega) (ev_ifp (by omega) ?_)))
      rw [rd_nat, rd_nat, w64 (x := t.getD i 0 + ps.getD i 0) (by omega) (by omega), w64 (x := (i : Int) + 1) (by omega) (by omega), Int.toNat_natCast]
      exact hh)
    (fun i t hI hi => by
      obtain ⟨h1, h2, h3⟩ := hI
      have hg := fun q => getD_set t i q (t.getD i 0 + ps.getD i 0) (by omega)
      refine ⟨by simp [h1], fun q hq => by rw [hg q, if_neg (by omega), h2 q (by omega)], ?_⟩
      rw [← h3, show n - i = (n - (i + 1)) + 1 by omega]
      rfl)
    (fun t hI => ev_step (fun k => spec_RegridTotal.l4.eq_2 _ _ _ _ _ _ _ _ _ _ _ _ k) (ev_ifn (by omega) (by
      have := hI.2.2
      rw [Nat.sub_self] at this
      rw [show t = iter (fun k (s : List Int) => s.set k (s.getD k 0 + ps.getD k 0)) 0 n out from this]
      exact h))) 0 out (Nat.zero_le _) ⟨ho, fun _ _ => rfl, rfl⟩
  exact hr
theorem spec_wts {W H W' H' : Nat} (s : Sides W H W' H') (l out : List Int) (y x : Nat) (hx : x < W) (hy : y < H) (r : Int × Int × List Int × Bool)
    (h : Ev (fun k => spec_RegridTotal.l2 k (W' : Int) (H' : Int) (y : Int) (x : Int) (wts W H W' H' (y * W + x)) (H' : Int) (W : Int) (H : Int) l (W' : Int) (H' : Int) out) r) :
    Ev (fun k => spec_RegridTotal.l2 k (W' : Int) (H' : Int) (y : Int) (x : Int) [] 0 (W : Int) (H : Int) l (W' : Int) (H' : Int) out) r := by
  have := s.a; have := s.b; have := s.c; have := s.d
  have hn := s.n
  obtain ⟨d1, d2⟩ := div_at (y := y) hx
  have hr := grid_ev (fun k (t : List Int) v => spec_RegridTotal.l2 k (W' : Int) (H' : Int) (y : Int) (x : Int) t (v : Int) (W : Int) (H : Int) l (W' : Int) (H' : Int) out)
    (fun k (t : List Int) v u => spec_RegridTotal.l3 k (W' : Int) (H' : Int) (y : Int) (x : Int) t (v : Int) (u : Int) (W : Int) (H : Int) l (W' : Int) (H' : Int) out) W' H'
    (fun i (t : List Int) => t ++ [wt W H W' H' (y * W + x) i]) (fun _ => r) (fun i t => t = tab i (wt W H W' H' (y * W + x)))
    (fun v t q hI hv h => ev_step (fun k => by
      simp only [spec_RegridTotal.l2]
      rw [if_pos (by omega)]
      rfl) h)
    (fun v u t q hI hv hu hh => ?_)
    (fun v u t hI hv hu => by
      show t ++ [wt W H W' H' (y * W + x) (v * W' + u)] = tab (v * W' + (u + 1)) (wt W H W' H' (y * W + x))
      rw [hI, ← Nat.add_assoc]
      unfold tab
      rw [List.range_succ, List.map_append]
      rfl)
    (fun v t q hI hv hh => ev_step (fun k => by
      simp only [spec_RegridTotal.l3]
      rw [if_neg (by omega), w64 (by omega) (by omega)]
      rfl) hh)
    (fun t hI => by
      rw [hI]
      exact h) [] (by simp [tab])
  · exact hr
  · obtain ⟨e1, e2⟩ := div_at (y := v) hu
    have hlen : t.length ≤ 64 := by
      rw [hI, tab_length]
      have : (v + 1) * W' ≤ H' * W' := Nat.mul_le_mul_right W' hv
      rw [Nat.add_mul] at this
      omega
    have o1 := (overlap_is (a := (W : Int)) (c := (W' : Int)) (i := (x : Int)) (k := (u : Int)) (by omega) (by omega) (by omega) (by omega)).2
    have o2 := (overlap_is (a := (H : Int)) (c := (H' : Int)) (i := (y : Int)) (k := (v : Int)) (by omega) (by omega) (by omega) (by omega)).2
    have b := wt_bd s (y * W + x) (v * W' + u)
    have ew : wt W H W' H' (y * W + x) (v * W' + u) = ov (W : Int) (W' : Int) (x : Int) (u : Int) * ov (H : Int) (H' : Int) (y : Int) (v : Int) := by
      unfold wt
      rw [d1, d2, e1, e2]
    rw [ew] at b hh
    refine ev_step (fun k => spec_RegridTotal.l3.eq_2 _ _ _ _ _ _ _ _ _ _ _ _ _ k) (ev_ifp (by omega) (ev_bind (ev_const o1) (ev_bind (ev_const o2) (ev_ifp (by omega) ?_))))
    rw [w64 (x := ov (W : Int) (W' : Int) (x : Int) (u : Int) * ov (H : Int) (H' : Int) (y : Int) (v : Int)) (by omega) (by omega), w64 (x := (u : Int) + 1) (by omega) (by omega)]
    exact hh
def regridRes (W' H' : Nat) (g : List Int) : Int × Int × List Int × Bool := if sumsOk g = true then ((W' : Int), (H' : Int), g, true) else (0, 0, [], false)
theorem regrid_impl {W H W' H' : Nat} (s : Sides W H W' H') {l : List Int} (hf : fullOk (W : Int) (H : Int) l = true) (hl : l.length = H * W) :
    Ev (fun k => impl_RegridTotal.l0 k l (l.length : Int) 0 (W : Int) (H : Int) l (W' : Int) (H' : Int) (W' : Int) (H' : Int) (List.replicate (H' * W') 0)) (regridRes W' H' (regrid W H W' H' l)) := by
  have hn := s.n
  exact loop_ev (fun k (t : List Int) j => impl_RegridTotal.l0 k l (l.length : Int) (j : Int) (W : Int) (H : Int) l (W' : Int) (H' : Int) (W' : Int) (H' : Int) t) (H * W) (rstep W H W' H' l) (regridRes W' H') (RInv (H' * W'))
    (fun j t q hI hj hh => by
      obtain ⟨w1, w2⟩ := wts_ok s j hj
      have hv := full_val hf j
      obtain ⟨_, hb⟩ := split_sum hv.1 hv.2 w1 w2
      have hsl : (split (l.getD j 0) (wts W H W' H' j)).length = H' * W' := by rw [split_len]; exact tab_length _ _
      refine ev_step (fun k => impl_RegridTotal.l0.eq_2 _ _ _ _ _ _ _ _ _ _ _ k) (ev_ifp (by omega) (ev_ifp (by omega) (ev_ifp (by omega) (ev_bind (wts_impl s l j hj) (ev_bind (by rw [rd_nat]; exact splitValue_ev hv.1 hv.2 w1 w2) ?_)))))
      rw [hsl]
      refine impl_add W H W' H' l (H' * W') hn.2.2 (j : Int) (l.length : Int) _ hsl hb t hI.1 (fun k => by have := hI.2 k; omega) q ?_
      rw [w64 (by omega) (by omega)]
      exact hh)
    (fun j t hI hj => rstep_inv s hf j t hI hj)
    (fun t hI => ev_step (fun k => impl_RegridTotal.l0.eq_2 _ _ _ _ _ _ _ _ _ _ _ k) (ev_ifn (by omega) (ev_bind (checkedSums_ev (W' : Int) (H' : Int) t (by have := hI.1; omega)) (by
      unfold regridRes
      split <;> exact ev_some _)))) 0 _ (Nat.zero_le _) (replicate_inv _)
theorem regrid_spec {W H W' H' : Nat} (s : Sides W H W' H') {l : List Int} (hf : fullOk (W : Int) (H : Int) l = true) (hl : l.length = H * W) :
    Ev (fun k => spec_RegridTotal.l0 k (W' : Int) (H' : Int) 0 (W : Int) (H : Int) l (W' : Int) (H' : Int) (List.replicate (H' * W') 0)) (regridRes W' H' (regrid W H W' H' l)) := by
  have := s.a; have := s.b; have := s.c; have := s.d
  have hn := s.n
  exact grid_ev (fun k (t : List Int) y => spec_RegridTotal.l0 k (W' : Int) (H' : Int) (y : Int) (W : Int) (H : Int) l (W' : Int) (H' : Int) t) (fun k (t : List Int) y x => spec_RegridTotal.l1 k (W' : Int) (H' : Int) (y : Int) (x : Int) (W : Int) (H : Int) l (W' : Int) (H' : Int) t) W H
    (rstep W H W' H' l) (regridRes W' H') (RInv (H' * W'))
    (fun y t q hI hy h => ev_step (fun k => by
      simp only [spec_RegridTotal.l0]
      rw [if_pos (by omega)]
      rfl) h)
    (fun y x t q hI hy hx hh => by
      have hj : y * W + x < H * W := by
        have : (y + 1) * W ≤ H * W := Nat.mul_le_mul_right W hy
        rw [Nat.add_mul] at this
        omega
      obtain ⟨w1, w2⟩ := wts_ok s (y * W + x) hj
      have hv := full_val hf (y * W + x)
      obtain ⟨_, hb⟩ := split_sum hv.1 hv.2 w1 w2
      have hsl : (split (l.getD (y * W + x) 0) (wts W H W' H' (y * W + x))).length = H' * W' := by rw [split_len]; exact tab_length _ _
      have eAt := l2At_is (W : Int) (H : Int) l W H x y rfl hx hy hl (by omega)
      refine ev_step (fun k => spec_RegridTotal.l1.eq_2 _ _ _ _ _ _ _ _ _ _ k) (ev_ifp (by omega) (spec_wts s l t y x hx hy q ?_))
      refine ev_step (fun k => spec_RegridTotal.l2.eq_2 _ _ _ _ _ _ _ _ _ _ _ _ k) (ev_ifn (by omega) (ev_bind (ev_const eAt) (ev_bind (l7Split_ev hv.1 hv.2 w1 w2) ?_)))
      refine spec_add W H W' H' l (H' * W') hn.2.2 (y : Int) (x : Int) _ hsl hb t hI.1 (fun k => by have := hI.2 k; omega) q ?_
      rw [w64 (by omega) (by omega)]
      exact hh)
    (fun y x t hI hy hx => rstep_inv s hf (y * W + x) t hI (by
      have : (y + 1) * W ≤ H * W := Nat.mul_le_mul_right W hy
      rw [Nat.add_mul] at this
      omega))
    (fun y t q hI hy hh => ev_step (fun k => by
      simp only [spec_RegridTotal.l1]
      rw [if_neg (by omega), w64 (by omega) (by omega)]
      rfl) hh)
    (fun t hI => by
      have hfull := l7Full_ev (W' : Int) (H' : Int) t (by have := hI.1; omega)
      rw [sumsOk_full ⟨by omega, by omega⟩ (by rw [hI.1, Nat.mul_comm]; simp)] at hfull
      refine ev_step (fun k => spec_RegridTotal.l0.eq_2 _ _ _ _ _ _ _ _ _ k) (ev_ifn (by omega) (ev_bind hfull ?_))
      unfold regridRes
      cases sumsOk t with
      | true => exact ev_ifp rfl (ev_some _)
      | false => exact ev_ifn (by simp) (ev_some _)) _ (replicate_inv _)
def RegRes (a b : Int) (l : List Int) (wide high : Int) (r : Int × Int × List Int × Bool) : Prop :=
  r = (0, 0, [], false) ∨ ∃ W H W' H' : Nat, a = W ∧ b = H ∧ wide = W' ∧ high = H' ∧ Sides W H W' H' ∧ l.length = H * W ∧ fullOk a b l = true ∧ r = ((W' : Int), (H' : Int), regrid W H W' H' l, true)
theorem regridTotal_both (a b : Int) (l : List Int) (wide high : Int) (hl : l.length ≤ 9223372036854775806) :
    ∃ r, Ev (fun k => spec_RegridTotal.f k a b l wide high) r ∧ Ev (fun k => impl_RegridTotal.f k a b l wide high) r ∧ RegRes a b l wide high r := by
  have g1 := l7Full_ev a b l hl
  have g2 := isFull_ev a b l hl
  have no : Ev (fun k => spec_RegridTotal.j0 k wide high true a b l) (0, 0, ([] : List Int), false) := ev_step (fun k => spec_RegridTotal.j0.eq_2 _ _ _ _ _ _ k) (ev_ifp rfl (ev_some _))
  have no2 : Ev (fun k => impl_RegridTotal.j0 k true a b l wide high) (0, 0, ([] : List Int), false) := ev_step (fun k => impl_RegridTotal.j0.eq_2 _ _ _ _ _ _ k) (ev_ifp rfl (ev_some _))
  unfold spec_RegridTotal.f impl_RegridTotal.f
  cases hf : fullOk a b l with
  | false =>
    rw [hf] at g1 g2
    exact ⟨(0, 0, [], false), ev_bind g1 (ev_ifn (by simp) no), ev_bind g2 (ev_ifn (by simp) no2), .inl rfl⟩
  | true =>
    rw [hf] at g1 g2
    cases hm : (inb wide 1 8 && inb high 1 8) with
    | false => exact ⟨(0, 0, [], false), ev_bind g1 (ev_ifp rfl (ev_bind (r := false) (ev_const ((l2Shape_is wide high).trans (by rw [hm]))) no)), ev_bind g2 (ev_ifp rfl (ev_bind (r := false) (ev_const ((isShape_is wide high).trans (by rw [hm]))) no2)), .inl rfl⟩
    | true =>
      have fi : FieldIs a b l := by
        have h2 := hf
        unfold fullOk at h2
        rw [Bool.and_eq_true, fieldOk_iff] at h2
        exact h2.1
      obtain ⟨W, H, rfl, rfl, hW, hH, hlen, h64⟩ := shape_nat fi
      obtain ⟨W', H', rfl, rfl, hW', hH'⟩ := shape_nat2 hm
      have s : Sides W H W' H' := ⟨hW, hH, hW', hH'⟩
      have hmm : 1 ≤ (W' : Int) * H' ∧ (W' : Int) * H' ≤ 64 := mul_bd (by omega) (by omega) (by omega) (by omega)
      have hn : ((W' : Int) * H').toNat = H' * W' := by rw [← Int.natCast_mul, Int.toNat_natCast, Nat.mul_comm]
      have hfill := l2Fill_ev (W' : Int) (H' : Int) 0 hmm.1 hmm.2
      have hfill2 := filled_is (W' : Int) (H' : Int) 0 hmm.1 hmm.2
      rw [hn] at hfill hfill2
      refine ⟨regridRes W' H' (regrid W H W' H' l),
        ev_bind g1 (ev_ifp rfl (ev_bind (ev_const ((l2Shape_is _ _).trans (by rw [hm]))) (ev_step (fun k => spec_RegridTotal.j0.eq_2 _ _ _ _ _ _ k) (ev_ifn (by simp) (ev_bind hfill (regrid_spec s hf hlen)))))),
        ev_bind g2 (ev_ifp rfl (ev_bind (ev_const ((isShape_is _ _).trans (by rw [hm]))) (ev_step (fun k => impl_RegridTotal.j0.eq_2 _ _ _ _ _ _ k) (ev_ifn (by simp) (ev_bind (ev_const hfill2) (regrid_impl s hf hlen)))))), ?_⟩
      unfold regridRes
      by_cases hok : sumsOk (regrid W H W' H' l) = true
      · rw [if_pos hok]
        exact .inr ⟨W, H, W', H', rfl, rfl, rfl, rfl, s, hlen, hf, rfl⟩
      · rw [if_neg hok]
        exact .inl rfl
def blk (x y a b : Int) : Bool := inb x 1 a && (inb y 1 b && (decide (Int.tmod a x = 0) && decide (Int.tmod b y = 0)))
theorem tmod_le {a x : Int} (ha : 1 ≤ a) (hx : 1 ≤ x) (h : Int.tmod a x = 0) : x ≤ a := by
  rw [Int.tmod_eq_emod_of_nonneg (by omega)] at h
  by_cases hx2 : x ≤ a
  · exact hx2
  · rw [Int.emod_eq_of_lt (by omega) (by omega)] at h
    omega
theorem areBlocks_is {a b : Int} (l : List Int) (x y : Int) (hs : (1 ≤ a ∧ a ≤ 8) ∧ 1 ≤ b ∧ b ≤ 8) : impl_areBlocks.f a b l x y = some (blk x y a b) := by
  unfold impl_areBlocks.f blk
  by_cases h1 : x ≥ 1
  · rw [if_pos h1]
    by_cases h2 : y ≥ 1
    · rw [if_pos h2, if_neg (by omega)]
      by_cases h3 : Int.tmod a x = 0
      · have := tmod_le (by omega) h1 h3
        rw [if_pos h3, if_neg (by omega), (inb_iff (x := x)).2 ⟨h1, this⟩, decide_eq_true h3, Bool.true_and]
        by_cases h4 : Int.tmod b y = 0
        · have := tmod_le (by omega) h2 h4
          rw [(inb_iff (x := y)).2 ⟨h2, this⟩, decide_eq_true h4, h4]
          rfl
        · rw [decide_eq_false h4]
          simp [h4]
      · rw [if_neg h3, decide_eq_false h3]
        simp
    · rw [if_neg h2, show inb y 1 b = false by rw [← Bool.not_eq_true, inb_iff]; omega]
      simp
  · rw [if_neg h1, show inb x 1 a = false by rw [← Bool.not_eq_true, inb_iff]; omega]
    simp
theorem l7Divides_ev (a b : Int) (l : List Int) (x y : Int) (hl : l.length ≤ 9223372036854775806) : Ev (fun k => spec_l7Divides.f k a b l x y) (fullOk a b l && blk x y a b) := by
  unfold spec_l7Divides.f
  refine ev_bind (l7Full_ev a b l hl) ?_
  cases hf : fullOk a b l with
  | false => exact ev_ifn (by simp) (ev_some _)
  | true =>
    refine ev_ifp rfl (ev_const ?_)
    unfold blk
    rw [l1In_is, Option.bind_some, Bool.true_and]
    cases h1 : inb x 1 a with
    | false => simp
    | true =>
      rw [if_pos rfl, l1In_is, Option.bind_some, Bool.true_and]
      cases h2 : inb y 1 b with
      | false => simp
      | true =>
        rw [inb_iff] at h1 h2
        rw [if_pos rfl, if_neg (by omega), Bool.true_and]
        by_cases h3 : Int.tmod a x = 0
        · rw [if_pos h3, if_neg (by omega), decide_eq_true h3, Bool.true_and]
          by_cases h4 : Int.tmod b y = 0
          · rw [h4]; rfl
          · simp [h4]
        · rw [if_neg h3, decide_eq_false h3]
          simp
def bidx (W W' p q i : Nat) : Nat := i / W / q * W' + i % W / p
theorem bidx_lt {W H W' H' p q i : Nat} (hW : W = p * W') (hH : H = q * H') (hp : 0 < p) (hq : 0 < q) (hi : i < H * W) : i / W / q < H' ∧ i % W / p < W' ∧ bidx W W' p q i < W' * H' := by
  have hW0 : 0 < W := by
    rcases Nat.eq_zero_or_pos W with h | h
    · rw [h] at hi; simp at hi
    · exact h
  have h1 : i / W < H := by rw [Nat.div_lt_iff_lt_mul hW0]; exact hi
  have h2 : i / W / q < H' := by rw [Nat.div_lt_iff_lt_mul hq, Nat.mul_comm, ← hH]; exact h1
  have h3 : i % W / p < W' := by rw [Nat.div_lt_iff_lt_mul hp, Nat.mul_comm, ← hW]; exact Nat.mod_lt _ hW0
  refine ⟨h2, h3, ?_⟩
  unfold bidx
  have h4 : i / W / q * W' + W' ≤ H' * W' := by
    have := Nat.mul_le_mul_right W' (show i / W / q + 1 ≤ H' by omega)
    rw [Nat.add_mul, Nat.one_mul] at this
    exact this
  rw [Nat.mul_comm W' H']
  omega
def blkStep (l : List Int) (W W' p q i : Nat) (s : List Int) : List Int := s.set (bidx W W' p q i) (wrap64 (rd s (bidx W W' p q i : Int) + rd l (i : Int)))
theorem blkStep_len (l : List Int) (W W' p q i : Nat) (s : List Int) : (blkStep l W W' p q i s).length = s.length := by simp [blkStep]
def blks (l : List Int) (W H W' H' p q : Nat) : List Int := iter (blkStep l W W' p q) 0 (H * W) (List.replicate (W' * H') 0)
theorem blks_len (l : List Int) (W H W' H' p q : Nat) : (blks l W H W' H' p q).length = W' * H' :=
  iter_inv (blkStep l W W' p q) (fun _ s => s.length = W' * H') (H * W) (fun i s hI _ => by rw [blkStep_len]; exact hI) (H * W) 0 _ (by omega) (by simp)
theorem tdiv_nat (a b : Nat) : Int.tdiv (a : Int) (b : Int) = ((a / b : Nat) : Int) := rfl
theorem tmod_nat (a b : Nat) : Int.tmod (a : Int) (b : Int) = ((a % b : Nat) : Int) := rfl
theorem shape_of {W W' p : Nat} (hW : W = p * W') (hp : 0 < p) : wrap64 (Int.tdiv (W : Int) (p : Int)) = wrap64 (W' : Int) := by
  rw [tdiv_nat, hW, Nat.mul_div_cancel_left W' hp]
theorem idx_impl (i W W' p q : Nat) (h1 : i / W ≤ 64) (h2 : i / W / q ≤ 64) (h3 : i / W / q * W' ≤ 64) (h4 : i % W / p ≤ 64) :
    wrap64 (wrap64 (wrap64 (Int.tdiv (wrap64 (Int.tdiv (i : Int) (W : Int))) (q : Int)) * (W' : Int)) + wrap64 (Int.tdiv (Int.tmod (i : Int) (W : Int)) (p : Int))) = ((bidx W W' p q i : Nat) : Int) := by
  unfold bidx
  rw [tdiv_nat, w64n (Nat.le_trans h1 (by decide)), tdiv_nat, w64n (Nat.le_trans h2 (by decide)), tmod_nat, tdiv_nat, w64n (Nat.le_trans h4 (by decide)), ← Int.natCast_mul, w64n (Nat.le_trans h3 (by decide)), ← Int.natCast_add,
    w64n (Nat.le_trans (Nat.add_le_add h3 h4) (by decide))]
theorem idx_spec (x y W W' p q : Nat) (d1 : (y * W + x) / W = y) (d2 : (y * W + x) % W = x) (h2 : y / q ≤ 64) (h3 : y / q * W' ≤ 64) (h4 : x / p ≤ 64) :
    wrap64 (wrap64 (wrap64 (Int.tdiv (y : Int) (q : Int)) * (W' : Int)) + wrap64 (Int.tdiv (x : Int) (p : Int))) = ((bidx W W' p q (y * W + x) : Nat) : Int) := by
  unfold bidx
  rw [d1, d2, tdiv_nat, w64n (Nat.le_trans h2 (by decide)), tdiv_nat, w64n (Nat.le_trans h4 (by decide)), ← Int.natCast_mul, w64n (Nat.le_trans h3 (by decide)), ← Int.natCast_add, w64n (Nat.le_trans (Nat.add_le_add h3 h4) (by decide))]
theorem bidx_bds {W H W' H' p q i : Nat} (hW : W = p * W') (hH : H = q * H') (hp : 0 < p) (hq : 0 < q) (hi : i < H * W) (hn : H * W ≤ 64) (hm : W' * H' ≤ 64) :
    i / W ≤ 64 ∧ i / W / q ≤ 64 ∧ i / W / q * W' ≤ 64 ∧ i % W / p ≤ 64 ∧ bidx W W' p q i < W' * H' := by
  obtain ⟨b1, b2, b3⟩ := bidx_lt hW hH hp hq hi
  have hi64 : i ≤ 64 := Nat.le_of_lt (Nat.lt_of_lt_of_le hi hn)
  have h1 : i / W ≤ 64 := Nat.le_trans (Nat.div_le_self _ _) hi64
  have hb : bidx W W' p q i ≤ 64 := Nat.le_of_lt (Nat.lt_of_lt_of_le b3 hm)
  exact ⟨h1, Nat.le_trans (Nat.div_le_self _ _) h1, Nat.le_trans (Nat.le_add_right _ _) hb, Nat.le_trans (Nat.le_add_left _ _) hb, b3⟩
theorem blockSums_ev (l : List Int) (W H W' H' p q : Nat) (hW : W = p * W') (hH : H = q * H') (hp : 0 < p) (hq : 0 < q) (hl : l.length = H * W) (w8 : 1 ≤ W' ∧ W' ≤ 8) (h8 : 1 ≤ H' ∧ H' ≤ 8) (W8 : W ≤ 8) (H8 : H ≤ 8) :
    Ev (fun k => impl_blockSums.f k (W : Int) (H : Int) l (p : Int) (q : Int)) ((W' : Int), (H' : Int), blks l W H W' H' p q) := by
  have hm : 1 ≤ (W' : Int) * H' ∧ (W' : Int) * H' ≤ 64 := mul_bd (by omega) (by omega) (by omega) (by omega)
  have hm3 : W' * H' ≤ 64 := by have := hm.2; rw [← Int.natCast_mul] at this; omega
  have hn : H * W ≤ 64 := Nat.mul_le_mul H8 W8
  have hW0 : 0 < W := by rw [hW]; exact Nat.mul_pos hp w8.1
  unfold impl_blockSums.f
  refine ev_ifn (by omega) (ev_ifn (by omega) ?_)
  rw [shape_of hW hp, shape_of hH hq, w64n (by omega), w64n (by omega)]
  refine ev_bind (ev_const (filled_is (W' : Int) (H' : Int) 0 hm.1 hm.2)) ?_
  have e0 : ((W' : Int) * H').toNat = W' * H' := by rw [← Int.natCast_mul, Int.toNat_natCast]
  rw [e0]
  have zp : ¬ (p : Int) = 0 := by omega
  have zq : ¬ (q : Int) = 0 := by omega
  have zW : ¬ (W : Int) = 0 := by omega
  have h := loop_ev (fun k s i => impl_blockSums.l0 k (p : Int) (q : Int) l (l.length : Int) (i : Int) (W : Int) (H : Int) l (W' : Int) (H' : Int) s) (H * W) (blkStep l W W' p q) (fun s => ((W' : Int), (H' : Int), s)) (fun _ s => s.length = W' * H')
    (fun i s r hI hi h => ev_step (fun k => by
      obtain ⟨c1, c2, c3, c4, c5⟩ := bidx_bds hW hH hp hq hi hn hm3
      have ei := idx_impl i W W' p q c1 c2 c3 c4
      have hil : (i : Int) < (l.length : Int) := by rw [hl]; exact_mod_cast hi
      have hml : ((bidx W W' p q i : Nat) : Int) < (s.length : Int) := by rw [hI]; exact_mod_cast c5
      have hi1 : wrap64 ((i : Int) + 1) = ((i + 1 : Nat) : Int) := by
        have : i < 64 := Nat.lt_of_lt_of_le hi hn
        rw [w64 (by omega) (by omega)]; rfl
      simp only [impl_blockSums.l0]
      rw [ei, if_pos hil, if_pos (Int.natCast_nonneg i), if_pos hil, if_neg zW, if_neg zq, if_neg zp, if_pos (Int.natCast_nonneg _), if_pos hml, hi1, Int.toNat_natCast]
      rfl) h)
    (fun i s hI _ => by rw [blkStep_len]; exact hI)
    (fun s hI => ev_step (fun k => impl_blockSums.l0.eq_2 _ _ _ _ _ _ _ _ _ _ _ k) (ev_ifn (by rw [hl]; omega) (ev_some _))) 0 (List.replicate (W' * H') 0) (Nat.zero_le _) (by simp)
  exact h
theorem l7Blocks_ev (l : List Int) (W H W' H' p q : Nat) (hW : W = p * W') (hH : H = q * H') (hp : 0 < p) (hq : 0 < q) (hl : l.length = H * W) (w8 : 1 ≤ W' ∧ W' ≤ 8) (h8 : 1 ≤ H' ∧ H' ≤ 8) (W8 : W ≤ 8) (H8 : H ≤ 8) :
    Ev (fun k => spec_l7Blocks.f k (W : Int) (H : Int) l (p : Int) (q : Int)) ((W' : Int), (H' : Int), blks l W H W' H' p q) := by
  have hm : 1 ≤ (W' : Int) * H' ∧ (W' : Int) * H' ≤ 64 := mul_bd (by omega) (by omega) (by omega) (by omega)
  have hm3 : W' * H' ≤ 64 := by have := hm.2; rw [← Int.natCast_mul] at this; omega
  have hn : H * W ≤ 64 := Nat.mul_le_mul H8 W8
  have hW0 : 0 < W := by rw [hW]; exact Nat.mul_pos hp w8.1
  unfold spec_l7Blocks.f
  refine ev_ifn (by omega) (ev_ifn (by omega) ?_)
  rw [shape_of hW hp, shape_of hH hq, w64n (by omega), w64n (by omega)]
  refine ev_bind (l2Fill_ev (W' : Int) (H' : Int) 0 hm.1 hm.2) ?_
  have e0 : ((W' : Int) * H').toNat = W' * H' := by rw [← Int.natCast_mul, Int.toNat_natCast]
  rw [e0]
  have zp : ¬ (p : Int) = 0 := by omega
  have zq : ¬ (q : Int) = 0 := by omega
  have h := grid_ev (fun k s y => spec_l7Blocks.l0 k (p : Int) (q : Int) (y : Int) (W : Int) (H : Int) l (W' : Int) (H' : Int) s) (fun k s y x => spec_l7Blocks.l1 k (p : Int) (q : Int) (y : Int) (x : Int) (W : Int) (H : Int) l (W' : Int) (H' : Int) s) W H
    (blkStep l W W' p q) (fun s => ((W' : Int), (H' : Int), s)) (fun _ s => s.length = W' * H')
    (fun y s r hI hy h => ev_step (fun k => spec_l7Blocks.l0.eq_2 _ _ _ _ _ _ _ _ _ k) (ev_ifp (by omega) h))
    (fun y x s r hI hy hx h => ev_step (fun k => by
      have hyx : y * W + x < H * W := by
        have := Nat.mul_le_mul_right W (show y + 1 ≤ H by omega)
        rw [Nat.add_mul, Nat.one_mul] at this
        omega
      have d1 : (y * W + x) / W = y := by
        rw [Nat.add_comm, Nat.add_mul_div_right _ _ hW0, Nat.div_eq_of_lt hx, Nat.zero_add]
      have d2 : (y * W + x) % W = x := by
        rw [Nat.add_comm, Nat.add_mul_mod_self_right, Nat.mod_eq_of_lt hx]
      obtain ⟨c1, c2, c3, c4, c5⟩ := bidx_bds hW hH hp hq hyx hn hm3
      rw [d1] at c1 c2 c3
      rw [d2] at c4
      have ei := idx_spec x y W W' p q d1 d2 c2 c3 c4
      have h64 : y * W + x < 64 := Nat.lt_of_lt_of_le hyx hn
      have ea : spec_l2At.f (W : Int) (H : Int) l (x : Int) (y : Int) = some (rd l ((y * W + x : Nat) : Int)) := by
        unfold spec_l2At.f
        rw [← Int.natCast_mul, w64n (Nat.le_trans (Nat.le_add_right _ x) (Nat.le_trans (Nat.le_of_lt h64) (by decide))), ← Int.natCast_add, w64n (Nat.le_trans (Nat.le_of_lt h64) (by decide)), if_pos (Int.natCast_nonneg _), if_pos (by rw [hl]; exact_mod_cast hyx)]
      have hml : ((bidx W W' p q (y * W + x) : Nat) : Int) < (s.length : Int) := by rw [hI]; exact_mod_cast c5
      have hxW : (x : Int) < (W : Int) := by exact_mod_cast hx
      have hx1 : wrap64 ((x : Int) + 1) = ((x + 1 : Nat) : Int) := by rw [w64 (by omega) (by omega)]; rfl
      simp only [spec_l7Blocks.l1]
      rw [ei, ea, if_pos hxW, if_neg zq, if_neg zp, if_pos (Int.natCast_nonneg _), if_pos hml, Option.bind_some, hx1, Int.toNat_natCast]
      rfl) h)
    (fun y x s hI _ _ => by rw [blkStep_len]; exact hI)
    (fun y s r hI hy h => ev_step (fun k => spec_l7Blocks.l1.eq_2 _ _ _ _ _ _ _ _ _ _ k) (ev_ifn (by omega) (by rw [w64 (by omega) (by omega)]; exact h)))
    (fun s hI => ev_step (fun k => spec_l7Blocks.l0.eq_2 _ _ _ _ _ _ _ _ _ k) (ev_ifn (by omega) (ev_some _))) (List.replicate (W' * H') 0) (by simp)
  exact h
theorem ov_none {c p i k : Nat} (hp : 0 < p) (hk : k ≠ i / p) : ov ((p * c : Nat) : Int) (c : Int) (i : Int) (k : Int) = 0 := by
  unfold ov
  have e1 : ((i : Int) + 1) * (c : Int) = (((i + 1) * c : Nat) : Int) := by rw [Int.natCast_mul]; rfl
  have e2 : ((k : Int) + 1) * ((p * c : Nat) : Int) = (((k + 1) * p * c : Nat) : Int) := by rw [Nat.mul_assoc, Int.natCast_mul (k + 1)]; rfl
  have e3 : (i : Int) * (c : Int) = ((i * c : Nat) : Int) := (Int.natCast_mul i c).symm
  have e4 : (k : Int) * ((p * c : Nat) : Int) = ((k * p * c : Nat) : Int) := by rw [Nat.mul_assoc, Int.natCast_mul k]
  rw [e1, e2, e3, e4]
  have hd := Nat.div_add_mod i p
  have hm := Nat.mod_lt i hp
  rcases Nat.lt_or_gt_of_ne hk with h | h
  · have h1 : (k + 1) * p ≤ i := by
      have : (k + 1) * p ≤ i / p * p := Nat.mul_le_mul_right p h
      rw [Nat.mul_comm] at hd
      omega
    have h2 := Nat.mul_le_mul_right c h1
    omega
  · have h1 : i + 1 ≤ k * p := by
      have : (i / p + 1) * p ≤ k * p := Nat.mul_le_mul_right p h
      rw [Nat.add_mul, Nat.one_mul, Nat.mul_comm] at this
      omega
    have h2 := Nat.mul_le_mul_right c h1
    omega
theorem wt_none {W H W' H' p q : Nat} (hW : W = p * W') (hH : H = q * H') (hp : 0 < p) (hq : 0 < q) (j i : Nat) (hi : i ≠ bidx W W' p q j) : wt W H W' H' j i = 0 := by
  unfold wt
  by_cases h1 : i % W' = j % W / p
  · by_cases h2 : i / W' = j / W / q
    · refine absurd ?_ hi
      unfold bidx
      have := Nat.div_add_mod i W'
      rw [← h1, ← h2, Nat.mul_comm]
      omega
    · subst hH
      rw [ov_none hq h2, Int.mul_zero]
  · subst hW
    rw [ov_none hp h1, Int.zero_mul]
theorem split_one {a : Int} {l : List Int} (h0 : -9000 ≤ a) (h1 : a ≤ 9000) (h : WOk l) (hs : ssum l ≠ 0) (b : Nat) (hb : b < l.length) (hz : ∀ i, i < l.length → i ≠ b → l.getD i 0 = 0) : ∀ i, (split a l).getD i 0 = if i = b then a else 0 := by
  have hsum : ssum l = l.getD b 0 := by
    rw [ssum_isum]
    have := isum_update (f := fun _ => (0 : Int)) (g := fun i => l.getD i 0) (j := b) l.length hb (fun i hi hn => (hz i hi hn).symm)
    rw [isum_zero] at this
    omega
  have hbd := ssum_bd h
  have hp : ∀ i, i < l.length → part a l i = if i = b then a else 0 := by
    intro i hi
    unfold part
    by_cases e : i = b
    · subst e
      rw [if_pos rfl, hsum, Int.mul_ediv_cancel _ (by omega)]
    · rw [if_neg e, hz i hi e, Int.mul_zero, Int.zero_ediv]
  have hl : isum (part a l) l.length = a := by
    have := isum_update (f := fun _ => (0 : Int)) (g := part a l) (j := b) l.length hb (fun i hi hn => by rw [hp i hi, if_neg hn])
    rw [isum_zero, hp b hb, if_pos rfl] at this
    omega
  intro i
  unfold split
  rw [left_is h0 h1 h hs, hl, Int.sub_self]
  show ((List.range l.length).map (part a l)).getD i 0 = _
  by_cases hi : i < l.length
  · rw [show ((List.range l.length).map (part a l)).getD i 0 = part a l i by simp [List.getD, hi]]
    exact hp i hi
  · rw [show ((List.range l.length).map (part a l)).getD i 0 = 0 by simp [List.getD, hi], if_neg (by omega)]
theorem iter_eq_inv {σ : Type} (g g' : Nat → σ → σ) (I : Nat → σ → Prop) (n : Nat) (hI : ∀ i s, I i s → i < n → I (i + 1) (g i s)) (he : ∀ i s, I i s → i < n → g i s = g' i s) : ∀ d i s, i + d = n → I i s → iter g i d s = iter g' i d s := by
  intro d
  induction d with
  | zero => intro i s _ _; rfl
  | succ d ih =>
    intro i s h0 h1
    show iter g (i + 1) d (g i s) = iter g' (i + 1) d (g' i s)
    rw [ih (i + 1) _ (by omega) (hI i s h1 (by omega)), he i s h1 (by omega)]
theorem regrid_blks {W H W' H' p q : Nat} (s : Sides W H W' H') (hW : W = p * W') (hH : H = q * H') (hp : 0 < p) (hq : 0 < q) {a b : Int} {l : List Int} (hf : fullOk a b l = true) : regrid W H W' H' l = blks l W H W' H' p q := by
  unfold regrid blks
  rw [Nat.mul_comm W' H']
  refine iter_eq_inv (rstep W H W' H' l) (blkStep l W W' p q) (RInv (H' * W')) (H * W) (fun i t hI hi => rstep_inv s hf i t hI hi) (fun j out hI hj => ?_) (H * W) 0 _ (by omega) (replicate_inv _)
  obtain ⟨w1, w2⟩ := wts_ok s j hj
  have hv := full_val hf j
  have hlen : (wts W H W' H' j).length = H' * W' := tab_length _ _
  have hbi := (bidx_lt hW hH hp hq hj).2.2
  rw [Nat.mul_comm] at hbi
  have hs := split_one hv.1 hv.2 w1 w2 (bidx W W' p q j) (by rw [hlen]; exact hbi) (fun i hi hn => by
    rw [hlen] at hi
    unfold wts
    rw [tab_getD _ _ 0 hi]
    exact wt_none hW hH hp hq j i hn)
  obtain ⟨o1, o2⟩ := hI
  have hn := s.n
  have ob := o2 (bidx W W' p q j)
  unfold rstep blkStep addL
  rw [rd_nat, rd_nat, w64 (by omega) (by omega)]
  refine eq_index 0 (by rw [tab_length, List.length_set]) (fun k hk => ?_)
  rw [tab_length] at hk
  rw [tab_getD _ _ 0 hk, hs k, getD_set out (bidx W W' p q j) k _ (by omega)]
  by_cases e : k = bidx W W' p q j
  · subst e
    rw [if_pos rfl, if_pos rfl]
  · rw [if_neg e, if_neg e, Int.add_zero]
def above (rs : List Int) (i : Nat) : Int := if 0 < rs.getD i 0 then rs.getD i 0 else 0
theorem hand_none (S : Int) (hS : 1 ≤ S) (i : Nat) : ∀ (n : Nat) (ps rs : List Int), ps.length = rs.length → 1 ≤ rs.length → (∀ j, rs.getD j 0 ≤ S - 1) → (n : Int) * S ≤ isum (above rs) rs.length → rs.getD i 0 ≤ 0 → (hand n ps rs).getD i 0 = ps.getD i 0
  | 0, ps, rs, _, _, _, _, _ => rfl
  | n + 1, ps, rs, h, h1, hb, hn, hi => by
    obtain ⟨a1, a2, _⟩ := amax_inv rs h1
    have hn0 : 0 ≤ (n : Int) * S := Int.mul_nonneg (by omega) (by omega)
    have en : ((n + 1 : Nat) : Int) * S = (n : Int) * S + S := by
      rw [show ((n + 1 : Nat) : Int) = (n : Int) + 1 by omega, Int.add_mul, Int.one_mul]
    have hpos : 0 < rs.getD (amax rs) 0 := by
      refine Int.not_le.1 (fun hle => ?_)
      have : isum (above rs) rs.length ≤ isum (fun _ => 0) rs.length := isum_le rs.length (fun j hj => by
        have := a2 j hj
        unfold above
        rw [if_neg (by omega)]
        exact Int.le_refl _)
      rw [isum_zero] at this
      omega
    have hne : i ≠ amax rs := fun e => by rw [e] at hi; omega
    have hup := isum_update (f := above rs) (g := above (rs.set (amax rs) (-1))) (j := amax rs) rs.length a1 (fun j hj hn => by
      unfold above
      rw [getD_set rs (amax rs) j _ a1, if_neg hn])
    have ea : above rs (amax rs) = rs.getD (amax rs) 0 := by unfold above; rw [if_pos hpos]
    have eb : above (rs.set (amax rs) (-1)) (amax rs) = 0 := by unfold above; rw [getD_set rs (amax rs) (amax rs) _ a1, if_pos rfl, if_neg (by omega)]
    have hbm := hb (amax rs)
    rw [hand, hand_none S hS i n (ps.set (amax rs) (wrap64 (rd ps (amax rs : Int) + 1))) (rs.set (amax rs) (-1)) (by simp [h]) (by simpa using h1) (fun j => by
      rw [getD_set rs (amax rs) j _ a1]
      split
      · omega
      · exact hb j) (by rw [List.length_set]; omega) (by rw [getD_set rs (amax rs) i _ a1, if_neg hne]; exact hi)]
    rw [getD_set ps (amax rs) i _ (by omega), if_neg hne]
theorem rest_is {a : Int} {l : List Int} (h0 : -9000 ≤ a) (h1 : a ≤ 9000) (h : WOk l) (hs : ssum l ≠ 0) (i : Nat) (hi : i < l.length) : rest a l i = a * l.getD i 0 - ssum l * part a l i ∧ 0 ≤ rest a l i ∧ rest a l i ≤ ssum l - 1 := by
  have hw := h.at_ i hi
  have hp := prod_bd h0 h1 hw.1 hw.2
  have hb := ssum_bd h
  have hS : 0 < ssum l := by omega
  have hd := ediv_bd (a := a * l.getD i 0) hS
  have e : rest a l i = a * l.getD i 0 - ssum l * part a l i := by
    unfold rest
    rw [Int.mul_comm (part a l i)]
    unfold part
    generalize ssum l * (a * l.getD i 0 / ssum l) = Z at *
    rw [w64 (x := Z) (by omega) (by omega), w64 (by omega) (by omega)]
  rw [e]
  unfold part
  omega
theorem split_none {a : Int} {l : List Int} (h0 : -9000 ≤ a) (h1 : a ≤ 9000) (h : WOk l) (hs : ssum l ≠ 0) (i : Nat) (hi : i < l.length) (hz : l.getD i 0 = 0) : (split a l).getD i 0 = 0 := by
  have hb := ssum_bd h
  have hle := parts_le h0 h1 h hs
  have hr := fun j hj => rest_is h0 h1 h hs j hj
  have hg : ∀ j, ((List.range l.length).map (rest a l)).getD j 0 = if j < l.length then rest a l j else 0 := by
    intro j
    by_cases hj : j < l.length
    · rw [if_pos hj]; simp [List.getD, hj]
    · rw [if_neg hj]; simp [List.getD, hj]
  unfold split
  rw [left_is h0 h1 h hs]
  have hsum : isum (above ((List.range l.length).map (rest a l))) l.length = ssum l * (a - isum (part a l) l.length) := by
    rw [isum_congr l.length (g := fun j => a * l.getD j 0 + (-(ssum l)) * part a l j) (fun j hj => by
      have hj2 := hr j hj
      unfold above
      rw [hg j, if_pos hj]
      split
      · rw [hj2.1, Int.neg_mul]; omega
      · rw [Int.neg_mul]; omega), isum_add, isum_mul, isum_mul, ← ssum_isum, Int.mul_sub, Int.neg_mul, Int.mul_comm a]
    omega
  have hn := hand_none (ssum l) (by omega) i (a - isum (part a l) l.length).toNat ((List.range l.length).map (part a l)) ((List.range l.length).map (rest a l)) (by simp) (by simp; exact h.n1) (fun j => by
    rw [hg j]
    split
    · rename_i hj
      exact (hr j hj).2.2
    · omega) (by
    rw [List.length_map, List.length_range, hsum, Int.toNat_of_nonneg (by omega), Int.mul_comm]
    exact Int.le_refl _) (by
    rw [hg i, if_pos hi, (hr i hi).1, hz]
    unfold part
    rw [hz, Int.mul_zero, Int.zero_ediv]
    omega)
  rw [hn, show ((List.range l.length).map (part a l)).getD i 0 = part a l i by simp [List.getD, hi]]
  unfold part
  rw [hz, Int.mul_zero, Int.zero_ediv]
def inW (l : List Int) (i : Nat) : Bool := inb (l.getD i 0) 0 64
theorem wok_of {l : List Int} (h1 : inb (l.length : Int) 1 64 = true) (h2 : rall (inW l) 0 l.length = true) : WOk l := by
  rw [inb_iff] at h1
  rw [rall_iff] at h2
  exact ⟨by omega, by omega, fun i hi => inb_iff.1 (h2 i (Nat.zero_le _) (by omega))⟩
def splitV (a : Int) (l : List Int) : List Int × Bool := if ssum l = 0 then ([], false) else (split a l, true)
theorem spec_stop (a : Int) (l : List Int) (hl : l.length ≤ 9223372036854775806) : ∀ (d i : Nat) (s : Int), i + d = l.length → rall (inW l) i d = false → Ev (fun k => spec_SplitValue.l0 k a l s (i : Int)) ([], false)
  | 0, i, s, h, hr => by cases hr
  | d + 1, i, s, h, hr => by
    refine ev_step (fun k => spec_SplitValue.l0.eq_2 _ _ _ _ k) (ev_ifp (by omega) (ev_ifp (by omega) ?_))
    rw [rd_nat]
    refine ev_bind (ev_const (l1In_is _ 0 64)) ?_
    cases hp : inb (l.getD i 0) 0 64 with
    | false => exact ev_ifn (by simp) (ev_some _)
    | true =>
      rw [w64 (x := (i : Int) + 1) (by omega) (by omega)]
      refine ev_ifp rfl (spec_stop a l hl d (i + 1) _ (by omega) ?_)
      have hr2 : (inW l i && rall (inW l) (i + 1) d) = false := hr
      rw [show inW l i = true from hp, Bool.true_and] at hr2
      exact hr2
theorem spec_sum {a : Int} {l : List Int} (h0 : -9000 ≤ a) (h1 : a ≤ 9000) (h : WOk l) : Ev (fun k => spec_SplitValue.l0 k a l 0 0) (splitV a l) := by
  have n64 := h.n64
  exact loop_ev (fun k s i => spec_SplitValue.l0 k a l s (i : Int)) l.length (sumStep l) (fun _ => splitV a l) (fun i s => (0 ≤ s ∧ s ≤ 64 * i) ∧ s = iter (sumStep l) 0 i 0)
    (fun i s r hI hi hh => by
      have hw := h.at_ i hi
      refine ev_step (fun k => spec_SplitValue.l0.eq_2 _ _ _ _ k) (ev_ifp (by omega) (ev_ifp (by omega) ?_))
      rw [rd_nat]
      refine ev_bind (ev_const (l1In_is _ 0 64)) (ev_ifp (inb_iff.2 hw) ?_)
      rw [w64 (x := s + l.getD i 0) (by omega) (by omega), w64 (by omega) (by omega)]
      exact hh)
    (fun i s hI hi => by
      have := h.at_ i hi
      refine ⟨by unfold sumStep; omega, ?_⟩
      rw [iter_add (sumStep l) i 0 1 0, ← hI.2, Nat.zero_add]
      rfl)
    (fun s hI => ev_step (fun k => spec_SplitValue.l0.eq_2 _ _ _ _ k) (ev_ifn (by omega) (by
      have e : s = ssum l := hI.2
      rw [e]
      unfold splitV
      by_cases hs : ssum l = 0
      · rw [if_pos hs]; exact ev_ifp hs (ev_some _)
      · rw [if_neg hs]; exact ev_ifn hs (ev_bind (l7Split_ev h0 h1 h hs) (ev_some _))))) 0 0 (Nat.zero_le _) ⟨by omega, rfl⟩
theorem blk_nat {a b : Int} {l : List Int} {x y : Int} (hf : fullOk a b l = true) (hb : blk x y a b = true) :
    ∃ W H W' H' p q : Nat, a = W ∧ b = H ∧ x = p ∧ y = q ∧ W = p * W' ∧ H = q * H' ∧ 0 < p ∧ 0 < q ∧ l.length = H * W ∧ (1 ≤ W' ∧ W' ≤ 8) ∧ (1 ≤ H' ∧ H' ≤ 8) ∧ W ≤ 8 ∧ H ≤ 8 := by
  unfold fullOk at hf
  rw [Bool.and_eq_true, fieldOk_iff] at hf
  have f := hf.1
  unfold blk at hb
  rw [Bool.and_eq_true, Bool.and_eq_true, Bool.and_eq_true, inb_iff, inb_iff, decide_eq_true_eq, decide_eq_true_eq] at hb
  obtain ⟨⟨x1, x2⟩, ⟨y1, y2⟩, h3, h4⟩ := hb
  have a1 := f.a1; have a8 := f.a8; have b1 := f.b1; have b8 := f.b8
  obtain ⟨W, rfl⟩ := Int.eq_ofNat_of_zero_le (show 0 ≤ a by omega)
  obtain ⟨H, rfl⟩ := Int.eq_ofNat_of_zero_le (show 0 ≤ b by omega)
  obtain ⟨p, rfl⟩ := Int.eq_ofNat_of_zero_le (show 0 ≤ x by omega)
  obtain ⟨q, rfl⟩ := Int.eq_ofNat_of_zero_le (show 0 ≤ y by omega)
  rw [tmod_nat] at h3 h4
  have h3' : W % p = 0 := by omega
  have h4' : H % q = 0 := by omega
  have e1 : W = p * (W / p) := by have := Nat.div_add_mod W p; omega
  have e2 : H = q * (H / q) := by have := Nat.div_add_mod H q; omega
  have l1 : W / p ≤ W := Nat.div_le_self _ _
  have l2 : H / q ≤ H := Nat.div_le_self _ _
  have p1 : 1 ≤ W / p := by
    rcases Nat.eq_zero_or_pos (W / p) with h | h
    · rw [h] at e1; omega
    · exact h
  have q1 : 1 ≤ H / q := by
    rcases Nat.eq_zero_or_pos (H / q) with h | h
    · rw [h] at e2; omega
    · exact h
  refine ⟨W, H, W / p, H / q, p, q, rfl, rfl, rfl, rfl, e1, e2, by omega, by omega, ?_, ⟨p1, by omega⟩, ⟨q1, by omega⟩, by omega, by omega⟩
  have := f.len
  rw [← Int.natCast_mul] at this
  rw [Nat.mul_comm]
  omega
theorem full_shape {a b : Int} {l : List Int} (hf : fullOk a b l = true) : (1 ≤ a ∧ a ≤ 8) ∧ 1 ≤ b ∧ b ≤ 8 := by
  unfold fullOk at hf
  rw [Bool.and_eq_true, fieldOk_iff] at hf
  exact ⟨⟨hf.1.a1, hf.1.a8⟩, hf.1.b1, hf.1.b8⟩
theorem full_vals {a b : Int} {l : List Int} (hf : fullOk a b l = true) (i : Nat) : -10000 ≤ l.getD i 0 ∧ l.getD i 0 ≤ 10000 := by
  unfold fullOk at hf
  rw [Bool.and_eq_true, fieldOk_iff] at hf
  by_cases h : i < l.length
  · have := cellOk_bd (hf.1.cells _ (List.getElem_mem h))
    rw [getD_eq_get 0 h]
    omega
  · rw [show l.getD i 0 = 0 by simp [List.getD, List.getElem?_eq_none (show l.length ≤ i by omega)]]
    omega
theorem blks_bd {l : List Int} {W H W' H' p q : Nat} (hW : W = p * W') (hH : H = q * H') (hp : 0 < p) (hq : 0 < q) (h64 : H * W ≤ 64) (hv : ∀ i, -10000 ≤ l.getD i 0 ∧ l.getD i 0 ≤ 10000) :
    ∀ j, -1000000 ≤ (blks l W H W' H' p q).getD j 0 ∧ (blks l W H W' H' p q).getD j 0 ≤ 1000000 := by
  have h := iter_inv (blkStep l W W' p q) (fun i s => s.length = W' * H' ∧ ∀ j, -(10000 * (i : Int)) ≤ s.getD j 0 ∧ s.getD j 0 ≤ 10000 * (i : Int)) (H * W) (fun i s hI hi => by
    obtain ⟨h1, h2⟩ := hI
    refine ⟨by rw [blkStep_len]; exact h1, fun j => ?_⟩
    have hb := (bidx_lt hW hH hp hq hi).2.2
    have h3 := h2 (bidx W W' p q i)
    have h4 := hv i
    have h5 := h2 j
    unfold blkStep
    rw [rd_nat, rd_nat, w64 (by omega) (by omega)]
    by_cases e : bidx W W' p q i = j
    · subst e
      rw [List.getD, List.getElem?_set_self (by omega)]
      show _ ≤ (s.getD (bidx W W' p q i) 0 + l.getD i 0) ∧ (s.getD (bidx W W' p q i) 0 + l.getD i 0) ≤ _
      omega
    · rw [List.getD, List.getElem?_set_ne e]
      show _ ≤ s.getD j 0 ∧ s.getD j 0 ≤ _
      omega) (H * W) 0 (List.replicate (W' * H') 0) (by omega) ⟨by simp, fun j => by
      rw [show (List.replicate (W' * H') (0 : Int)).getD j 0 = 0 by simp [List.getD, List.getElem?_replicate]; split <;> rfl]
      omega⟩
  intro j
  have h2 := h.2 j
  show _ ≤ (iter (blkStep l W W' p q) 0 (H * W) (List.replicate (W' * H') 0)).getD j 0 ∧ (iter (blkStep l W W' p q) 0 (H * W) (List.replicate (W' * H') 0)).getD j 0 ≤ _
  omega
theorem mean_loop {ρ : Type} (F : Nat → List Int → Nat → Option ρ) (B : List Int) (m : Int) (fin : List Int → ρ)
    (hs : ∀ i s r, s.getD i 0 = B.getD i 0 → s.length = B.length → i < B.length → Ev (fun k => F k (s.set i (B.getD i 0 / m)) (i + 1)) r → Ev (fun k => F k s i) r)
    (he : ∀ s, s.length = B.length → Ev (fun k => F k s B.length) (fin s)) : Ev (fun k => F k B 0) (fin (tab B.length (fun i => B.getD i 0 / m))) := by
  have h := loop_ev F B.length (fun i s => s.set i (B.getD i 0 / m)) fin (fun i s => s.length = B.length ∧ ∀ j, i ≤ j → s.getD j 0 = B.getD j 0)
    (fun i s r hI hi hr => hs i s r (hI.2 i (Nat.le_refl _)) hI.1 hi hr)
    (fun i s hI hi => ⟨by rw [List.length_set]; exact hI.1, fun j hj => by rw [List.getD, List.getElem?_set_ne (by omega)]; exact hI.2 j (by omega)⟩)
    (fun s hI => he s hI.1) 0 B (Nat.zero_le _) ⟨rfl, fun _ _ => rfl⟩
  rw [Nat.sub_zero, iter_set_tab 0 (fun i => B.getD i 0 / m) B.length B rfl] at h
  exact h
def totStep (s v : Int) : Int := if v = -9999 then s else wrap64 (s + v)
def total (l : List Int) : Int := l.foldl totStep 0
theorem sumOfAll_ev (l : List Int) (hl : l.length ≤ 9223372036854775806) : Ev (fun k => impl_sumOf.f k l) (l.foldl (fun s v => wrap64 (s + v)) 0) := by
  have h := loop_ev (fun k s i => impl_sumOf.l0 k s l (l.length : Int) (i : Int)) l.length (fun i s => wrap64 (s + l.getD i 0)) (fun s => s) (fun _ _ => True)
    (fun i s r _ hi hr => by
      have en := Aside0.mk (show wrap64 ((i : Int) + 1) = ((i + 1 : Nat) : Int) by rw [w64 (by omega) (by omega)]; rfl)
      refine ev_step (fun k => impl_sumOf.l0.eq_2 _ _ _ _ k) (ev_ifp (by omega) (ev_ifp (by omega) (ev_ifp (by omega) ?_)))
      rw [rd_nat, en.out]
      exact hr)
    (fun _ _ _ _ => trivial)
    (fun s _ => ev_step (fun k => impl_sumOf.l0.eq_2 _ _ _ _ k) (ev_ifn (by omega) (ev_some _))) 0 0 (Nat.zero_le _) trivial
  rw [Nat.sub_zero, iter_foldl (fun s v => wrap64 (s + v)) 0 l l.length 0 0 (by omega), List.drop_zero] at h
  unfold impl_sumOf.f
  exact h
theorem total_filter (l : List Int) : (dlt slices_DeleteFunc_int_at_impl_valuesOf_1.p l).foldl (fun s v => wrap64 (s + v)) 0 = total l := by
  unfold dlt total
  rw [List.foldl_filter]
  congr 1
  funext s v
  unfold totStep slices_DeleteFunc_int_at_impl_valuesOf_1.p
  by_cases h : v = -9999
  · rw [if_pos h, if_neg (by simp [h])]
  · rw [if_neg h, if_pos (by simp [h])]
theorem fieldTotal_ev (a b : Int) (l : List Int) (hl : l.length ≤ 9223372036854775806) : Ev (fun k => impl_FieldTotal.f k a b l) (if fieldOk a b l = true then (total l, true) else (0, false)) := by
  unfold impl_FieldTotal.f
  refine ev_bind (ev_const (isValidField_is a b l)) ?_
  cases hf : fieldOk a b l with
  | false => exact ev_ifn (by simp) (ev_some _)
  | true =>
    have f := fieldOk_iff.1 hf
    have hm := mul_bd f.a1 f.a8 f.b1 f.b8
    have hlen := f.len
    have hd := dlt_le slices_DeleteFunc_int_at_impl_valuesOf_1.p l
    have hv : impl_valuesOf.f a b l = some (dlt slices_DeleteFunc_int_at_impl_valuesOf_1.p l) := by
      unfold impl_valuesOf.f slices_Clone_int_int.f slices_DeleteFunc_int_at_impl_valuesOf_1.f
      rw [if_pos (by omega), Option.bind_some, if_pos (by omega), Option.bind_some]
    have hs := sumOfAll_ev (dlt slices_DeleteFunc_int_at_impl_valuesOf_1.p l) (by omega)
    rw [total_filter] at hs
    exact ev_ifp rfl (ev_bind (ev_const hv) (ev_bind hs (ev_some _)))
def sameTotal (a b : Int) (l : List Int) (c d : Int) (m : List Int) : Bool × Bool := if fieldOk a b l = true ∧ fieldOk c d m = true then (total l == total m, true) else (false, false)
theorem sameTotalI_ev (a b : Int) (l : List Int) (c d : Int) (m : List Int) (hl : l.length ≤ 9223372036854775806) (hm : m.length ≤ 9223372036854775806) :
    Ev (fun k => impl_SameTotal.f k a b l c d m) (sameTotal a b l c d m) := by
  have t1 := fieldTotal_ev a b l hl
  have t2 := fieldTotal_ev c d m hm
  unfold impl_SameTotal.f sameTotal
  cases h1 : fieldOk a b l with
  | false =>
    rw [h1] at t1
    rw [if_neg (by simp)]
    exact ev_bind t1 (ev_bind t2 (ev_ifn (by simp) (ev_some _)))
  | true =>
    rw [h1] at t1
    cases h2 : fieldOk c d m with
    | false =>
      rw [h2] at t2
      rw [if_neg (by simp)]
      exact ev_bind t1 (ev_bind t2 (ev_ifp rfl (ev_ifn (by simp) (ev_some _))))
    | true =>
      rw [h2] at t2
      rw [if_pos ⟨rfl, rfl⟩]
      exact ev_bind t1 (ev_bind t2 (ev_ifp rfl (ev_ifp rfl (ev_some _))))
end Go.Proofs.Ythlmikigjhgpdaa.Pure
