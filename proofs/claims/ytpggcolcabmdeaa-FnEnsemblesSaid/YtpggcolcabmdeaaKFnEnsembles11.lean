/- Texts of the claim FnEnsembles, merged: part 11 of 11: the program's and the reference's functions as Lean functions, the walks that show it, and plain lemmas; no conditions. -/
import Derived.Test.YtpggcolcabmdeaaKFnEnsembles2
import Derived.ProofKit
import Derived.OpenShut
import Derived.Deep.Slices
import Derived.Deep.Strs
import Derived.Deep.Fields
import Derived.Lib.SmallJoins
import Derived.Test.YtpggcolcabmdeaaKFnEnsembles3
import Derived.Laws.BitsLemmas
import Derived.Laws.Bits64
import Derived.Test.YtpggcolcabmdeaaKFnEnsembles4
import Derived.Test.YtpggcolcabmdeaaKFnEnsembles6
import Derived.Test.YtpggcolcabmdeaaKFnEnsembles5
import Derived.Test.YtpggcolcabmdeaaKFnEnsembles8
import Derived.Test.YtpggcolcabmdeaaKFnEnsembles9
import Derived.Test.YtpggcolcabmdeaaKFnEnsembles7
import Derived.Test.YtpggcolcabmdeaaKFnEnsembles10
import Derived.Test.YtpggcolcabmdeaaRows
import Derived.WalkKit
import Derived.ShutString
import Derived.ChangeOld
import Derived.Below
import Derived.SizedLaws
namespace Go.Proofs.Ytpggcolcabmdeaa.Open
open Go.ChangeShapes Go.WideShapes Go.RowKit Go.Deep Go.Joins Go.Proofs.YtpggcolcabmdeaaW.PrintWords
def Opens {α : Type} (P : Program) (t : TypeId) (d : Kd α) (wf : α → Prop) : Prop :=
  ∀ {H : Type} {enc : TypeId × Value → H} {W : World} {fuel : Nat} {cs : List Value} {x : DataW H × List MemPlace},
    DataW.trod enc P W 0 (fun _ => true) true fuel t cs = some x → ∃ y, d.K W y cs ∧ wf y
theorem opens_int {P : Program} {t : TypeId} {k : IntKind} (h : P.underlying t = some (.int k)) : Opens P t (Kd.int k) (fun n => (Lit.int k n).wf = true) := by
  intro H enc W fuel cs x hx
  obtain ⟨n, rfl, _, hw⟩ := DataW.trod_int h hx
  exact ⟨n, rfl, hw⟩
theorem list_of {α : Type} {p : Nat → α → Prop} : ∀ (n : Nat), (∀ i, i < n → ∃ y, p i y) → ∃ ys : List α, ys.length = n ∧ ∀ (i : Nat) (y : α), ys[i]? = some y → p i y
  | 0, _ => ⟨[], rfl, fun i y h => by simp at h⟩
  | n + 1, h => by
    obtain ⟨ys, hl, hy⟩ := list_of n (fun i hi => h i (by omega))
    obtain ⟨y, hp⟩ := h n (by omega)
    refine ⟨ys ++ [y], by simp [hl], fun i z hz => ?_⟩
    by_cases hi : i < n
    · rw [List.getElem?_append_left (by omega)] at hz
      exact hy i z hz
    · have hi2 : i = n := by
        have := (List.getElem?_eq_some_iff.1 hz).1
        simp [hl] at this
        omega
      subst hi2
      rw [List.getElem?_append_right (by omega), hl] at hz
      simp at hz
      subst hz
      exact hp
theorem opens_slice {α : Type} {P : Program} {t e : TypeId} {d : Kd α} {wf : α → Prop} (h : P.underlying t = some (.slice e)) (hc : P.cellsOf e = d.sz) (he : Opens P e d wf) :
    Opens P t (Kd.slice e d) (fun l => l.length ≤ 9223372036854775807 ∧ ∀ x ∈ l, wf x) := by
  intro H enc W fuel cs x hx
  rcases open_slice h hx with ⟨rfl, _⟩ | ⟨a, len, cap, m, n, D, Pl, rfl, _, hl, hm, hmm, _, hx⟩
  · exact ⟨[], ⟨none, 0, rfl, by simp, Kd.C_nil d W⟩, by simp, by simp⟩
  · obtain ⟨ys, hlen, hy⟩ := list_of (p := fun i y => ∃ cs', W.cells? 0 (a.add (i * P.cellsOf e)) (P.cellsOf e) = some cs' ∧ d.K W y cs' ∧ wf y) len (fun i hi => by
      obtain ⟨cs', h1, h2⟩ := hx i (by rw [hmm]; split <;> omega)
      obtain ⟨y, hK, hw⟩ := he h2
      exact ⟨y, cs', h1, hK, hw⟩)
    have hm' : cap ≤ 9223372036854775807 := by simpa [maxLen] using hm
    refine ⟨ys, ⟨some a, cap, by rw [hlen], by omega, ⟨rfl, by omega, fun _ => ⟨a, rfl, fun j y hj => ?_⟩⟩⟩, by omega, fun y hmem => ?_⟩
    · obtain ⟨cs', h1, hK, _⟩ := hy j y hj
      obtain ⟨_, hl2, hcell⟩ := World.cells?_some h1
      refine ⟨cs', d.K_len hK, hK, fun i u hu => ?_⟩
      have hi : i < P.cellsOf e := by
        have := (List.getElem?_eq_some_iff.1 hu).1
        omega
      rw [← hc, ← Go.Deep.add_add, hcell i hi]
      exact hu
    · obtain ⟨j, hj⟩ := List.getElem?_of_mem hmem
      obtain ⟨_, _, _, hw⟩ := hy j y hj
      exact hw
theorem sized_any {H : Type} {enc : TypeId × Value → H} {P : Program} {W : World} {base : Nat} {spare : Nat → Bool} {held : Bool} {t e : TypeId} {a : Option Addr} {len cap : Nat} {d : DataW H} {ps : List MemPlace} {ts : List TypeId} {ds : List (DataW H)} {j : Nat}
    (hsz : (DataW.weightsEach P ts ds).all (· ≤ reachBytes) = true) (ht : ts[j]? = some t) (hd : ds[j]? = some d) (hu : P.underlying t = some (.slice e)) {B : Nat} (hB : P.bytesOf e = B)
    (h : DataW.Trod enc P W base spare held t (.slice a len cap) d ps) : len * B ≤ 140737488351232 := by
  obtain ⟨fuel, hf⟩ := h
  rcases open_slice hu hf with ⟨hcs, _⟩ | ⟨x, l, c, m, n, D, Pl, hcs, _, hl, _, _, hx, _⟩
  · simp [Value.cells] at hcs
    obtain ⟨rfl, rfl, rfl⟩ := hcs
    simp
  · simp [Value.cells] at hcs
    obtain ⟨rfl, rfl, rfl⟩ := hcs
    obtain ⟨hx, _⟩ := Prod.mk.inj hx
    subst hx
    have z := sized_slice hsz ht hd hu
    rw [hB] at z
    refine Nat.le_trans (Nat.mul_le_mul_right _ ?_) z
    simp
theorem slice_at {α : Type} {P : Program} {W : World} {t e : TypeId} {d : Kd α} {wf : List α → Prop} {H : Type} {enc : TypeId × Value → H} {a : Option Addr} {len cap : Nat} {dd : DataW H} {ps : List MemPlace} (ho : Opens P t (Kd.slice e d) wf)
    (h : DataW.Trod enc P W 0 (fun _ => true) true t (.slice a len cap) dd ps) : ∃ l : List α, len = l.length ∧ l.length ≤ cap ∧ d.C W a l.length l ∧ wf l := by
  obtain ⟨fuel, hf⟩ := h
  obtain ⟨l, ⟨A, c, hcs, hl, hC⟩, hw⟩ := ho hf
  simp [Value.cells] at hcs
  obtain ⟨rfl, rfl, rfl⟩ := hcs
  exact ⟨l, rfl, hl, hC, hw⟩
section
variable {P : Program} {t : TypeId} {W : World} {H : Type} {enc : TypeId × Value → H} {r : Reach} {b0 : Nat} {v : Value} {d : DataW H} {p : List MemPlace}
end
end Go.Proofs.Ytpggcolcabmdeaa.Open
namespace Go.Proofs.Ytpggcolcabmdeaa.P
open Go.RowKit Go.Proofs.YtpggcolcabmdeaaW.PrintWords Go.Proofs.YtpggcolcabmdeaaW.PrintLast Go.Proofs.YtpggcolcabmdeaaW.PrintMore
attribute [local go_sem] max2_int min2_int max_two min_two max_three min_three max_four min_four
set_option linter.unusedVariables false
set_option linter.unusedSimpArgs false
open Go.Proofs.Ytpggcolcabmdeaa.Open
end Go.Proofs.Ytpggcolcabmdeaa.P
namespace Go.Proofs.Ytpggcolcabmdeaa.Pure
set_option linter.unusedVariables false
set_option linter.unusedSimpArgs false
open Go.RowKit Go.Proofs.YtpggcolcabmdeaaW.PrintWords Go.Proofs.YtpggcolcabmdeaaW.PrintLast Go.Proofs.YtpggcolcabmdeaaW.PrintMore
theorem w64 {x : Int} (h0 : -9223372036854775808 ≤ x) (h1 : x ≤ 9223372036854775807) : wrap64 x = x := by
  unfold wrap64
  omega
theorem w64n {n : Nat} (h : n ≤ 9223372036854775807) : wrap64 (n : Int) = (n : Int) := w64 (by omega) (by omega)
theorem rd_nat (xs : List Int) (i : Nat) : rd xs (i : Int) = xs.getD i 0 := by simp [rd]
section
variable {α β : Type} {f g : Nat → Option α} {r : α}
theorem ev_some (r : α) : Ev (fun _ => some r) r := ⟨0, fun _ _ => rfl⟩
theorem ev_ifp {c : Prop} [Decidable c] (h : c) (k : Ev f r) : Ev (fun n => if c then f n else g n) r := Ev.congr (fun _ => if_pos h) k
theorem ev_ifn {c : Prop} [Decidable c] (h : ¬ c) (k : Ev g r) : Ev (fun n => if c then f n else g n) r := Ev.congr (fun _ => if_neg h) k
theorem ev_bind {F : Nat → α → Option β} {q : β} (h : Ev g r) (k : Ev (fun n => F n r) q) : Ev (fun n => (g n).bind (fun x => F n x)) q := by
  obtain ⟨K1, h1⟩ := h
  obtain ⟨K2, h2⟩ := k
  exact ⟨K1 + K2, fun n hn => by show (g n).bind (fun x => F n x) = some q; rw [h1 n (by omega)]; exact h2 n (by omega)⟩
theorem ev_const {a : Option α} (h : a = some r) : Ev (fun _ => a) r := ⟨0, fun _ _ => h⟩
theorem ev_step (h : ∀ k, g (k + 1) = f k) (k : Ev f r) : Ev g r := by
  obtain ⟨K, h1⟩ := k
  refine ⟨K + 1, fun n hn => ?_⟩
  obtain ⟨m, rfl⟩ : ∃ m, n = m + 1 := ⟨n - 1, by omega⟩
  rw [h m]
  exact h1 m (by omega)
end
def iter {σ : Type} (g : Nat → σ → σ) : Nat → Nat → σ → σ
  | _, 0, s => s
  | i, d + 1, s => iter g (i + 1) d (g i s)
theorem loop_ev {σ ρ : Type} (F : Nat → σ → Nat → Option ρ) (n : Nat) (g : Nat → σ → σ) (fin : σ → ρ) (I : Nat → σ → Prop)
    (hs : ∀ i s r, I i s → i < n → Ev (fun k => F k (g i s) (i + 1)) r → Ev (fun k => F k s i) r) (hI : ∀ i s, I i s → i < n → I (i + 1) (g i s))
    (he : ∀ s, I n s → Ev (fun k => F k s n) (fin s)) : ∀ i s, i ≤ n → I i s → Ev (fun k => F k s i) (fin (iter g i (n - i) s)) := by
  have key : ∀ d i s, n - i = d → i ≤ n → I i s → Ev (fun k => F k s i) (fin (iter g i d s)) := by
    intro d
    induction d with
    | zero =>
      intro i s h0 h1 h2
      obtain rfl : i = n := by omega
      exact he s h2
    | succ d ih =>
      intro i s h0 h1 h2
      exact hs i s _ h2 (by omega) (ih (i + 1) (g i s) (by omega) (by omega) (hI i s h2 (by omega)))
  exact fun i s h1 h2 => key (n - i) i s rfl h1 h2
theorem iter_inv {σ : Type} (g : Nat → σ → σ) (I : Nat → σ → Prop) (n : Nat) (hI : ∀ i s, I i s → i < n → I (i + 1) (g i s)) : ∀ d i s, i + d = n → I i s → I n (iter g i d s) := by
  intro d
  induction d with
  | zero => intro i s h0 h1; obtain rfl : i = n := by omega
            exact h1
  | succ d ih => intro i s h0 h1; exact ih (i + 1) _ (by omega) (hI i s h1 (by omega))
def rall (p : Nat → Bool) : Nat → Nat → Bool
  | _, 0 => true
  | i, d + 1 => p i && rall p (i + 1) d
theorem rall_iff (p : Nat → Bool) : ∀ d i, rall p i d = true ↔ ∀ j, i ≤ j → j < i + d → p j = true
  | 0, i => ⟨fun _ j h1 h2 => by omega, fun _ => rfl⟩
  | d + 1, i => by
    show (p i && rall p (i + 1) d) = true ↔ _
    rw [Bool.and_eq_true, rall_iff p d (i + 1)]
    constructor
    · rintro ⟨h0, h1⟩ j h2 h3
      by_cases e : j = i
      · rw [e]; exact h0
      · exact h1 j (by omega) (by omega)
    · intro h
      exact ⟨h i (Nat.le_refl _) (by omega), fun j h2 h3 => h j (by omega) (by omega)⟩
theorem all_ev {ρ : Type} (F : Nat → Nat → Option ρ) (n : Nat) (p : Nat → Bool) (no yes : ρ) (hs : ∀ i r, i < n → p i = true → Ev (fun k => F k (i + 1)) r → Ev (fun k => F k i) r)
    (hn : ∀ i, i < n → p i = false → Ev (fun k => F k i) no) (he : Ev (fun k => F k n) yes) :
    ∀ i, i ≤ n → Ev (fun k => F k i) (if rall p i (n - i) = true then yes else no) := by
  have key : ∀ d i, n - i = d → i ≤ n → Ev (fun k => F k i) (if rall p i d = true then yes else no) := by
    intro d
    induction d with
    | zero =>
      intro i h0 h1
      obtain rfl : i = n := by omega
      rw [show rall p i 0 = true from rfl, if_pos rfl]
      exact he
    | succ d ih =>
      intro i h0 h1
      have h := ih (i + 1) (by omega) (by omega)
      have e : rall p i (d + 1) = (p i && rall p (i + 1) d) := rfl
      cases hp : p i with
      | true =>
        rw [e, hp, Bool.true_and]
        exact hs i _ (by omega) hp h
      | false =>
        rw [e, hp, Bool.false_and, if_neg (by simp)]
        exact hn i (by omega) hp
  exact fun i h1 => key (n - i) i rfl h1
theorem allb_ev (F : Nat → Nat → Option Bool) (n : Nat) (p : Nat → Bool) (hs : ∀ i r, i < n → p i = true → Ev (fun k => F k (i + 1)) r → Ev (fun k => F k i) r)
    (hn : ∀ i, i < n → p i = false → Ev (fun k => F k i) false) (he : Ev (fun k => F k n) true) : Ev (fun k => F k 0) (rall p 0 n) := by
  have h := all_ev F n p false true hs hn he 0 (Nat.zero_le _)
  rw [Nat.sub_zero] at h
  cases e : rall p 0 n <;> simpa [e] using h
theorem getD_eq_get {α : Type} {xs : List α} {i : Nat} (z : α) (h : i < xs.length) : xs.getD i z = xs[i] := by simp [List.getD, List.getElem?_eq_getElem h]
theorem rall_list {α : Type} (xs : List α) (z : α) (p : α → Bool) : rall (fun j => p (xs.getD j z)) 0 xs.length = xs.all p := by
  rw [Bool.eq_iff_iff, rall_iff, List.all_eq_true]
  constructor
  · intro h x hx
    obtain ⟨i, hi, rfl⟩ := List.getElem_of_mem hx
    rw [← getD_eq_get z hi]
    exact h i (Nat.zero_le _) (by omega)
  · intro h j _ hj
    rw [getD_eq_get z (by omega)]
    exact h _ (List.getElem_mem (by omega))
theorem eq_index {α : Type} {xs ys : List α} (z : α) (h : xs.length = ys.length) (hh : ∀ j, j < xs.length → xs.getD j z = ys.getD j z) : xs = ys := by
  refine List.ext_getElem h (fun i h1 h2 => ?_)
  rw [← getD_eq_get z h1, ← getD_eq_get z h2]
  exact hh i h1
def tab {α : Type} (n : Nat) (q : Nat → α) : List α := (List.range n).map q
theorem tab_length {α : Type} (n : Nat) (q : Nat → α) : (tab n q).length = n := by simp [tab]
theorem tab_getD {α : Type} (n : Nat) (q : Nat → α) (z : α) {i : Nat} (h : i < n) : (tab n q).getD i z = q i := by simp [tab, List.getD, h]
theorem iter_set_tab {α : Type} (z : α) (q : Nat → α) (n : Nat) (s : List α) (hs : s.length = n) : iter (fun i (s : List α) => s.set i (q i)) 0 n s = tab n q := by
  have hi := iter_inv (fun i (s : List α) => s.set i (q i)) (fun i s => s.length = n ∧ ∀ j, j < i → s.getD j z = q j) n
    (fun i s hI hi => ⟨by simp [hI.1], fun j hj => by
      by_cases e : j = i
      · subst e
        have := hI.1
        simp [List.getD, List.getElem?_set_self (show j < s.length by omega)]
      · rw [← hI.2 j (by omega)]
        simp [List.getD, List.getElem?_set_ne (Ne.symm e)]⟩) n 0 s (by omega) ⟨hs, fun j hj => by omega⟩
  exact eq_index z (by rw [hi.1, tab_length]) (fun j hj => by rw [hi.2 j (by have := hi.1; omega), tab_getD _ _ z (by have := hi.1; omega)])
theorem loop_at {σ ρ : Type} (F : Nat → σ → Nat → Option ρ) (n : Nat) (g : Nat → σ → σ) (fin : σ → ρ) (I : Nat → σ → Prop)
    (hs : ∀ k i s, I i s → i < n → F (k + 1) s i = F k (g i s) (i + 1)) (hI : ∀ i s, I i s → i < n → I (i + 1) (g i s))
    (he : ∀ k s, I n s → F (k + 1) s n = some (fin s)) : ∀ d k i s, n - i = d → i ≤ n → I i s → d < k → F k s i = some (fin (iter g i d s)) := by
  intro d
  induction d with
  | zero =>
    intro k i s h0 h1 h2 hk
    obtain ⟨k, rfl⟩ : ∃ m, k = m + 1 := ⟨k - 1, by omega⟩
    obtain rfl : i = n := by omega
    exact he k s h2
  | succ d ih =>
    intro k i s h0 h1 h2 hk
    obtain ⟨k, rfl⟩ : ∃ m, k = m + 1 := ⟨k - 1, by omega⟩
    rw [hs k i s h2 (by omega)]
    exact ih k (i + 1) (g i s) (by omega) (by omega) (hI i s h2 (by omega)) (by omega)
theorem ev_all {β : Type} (f : Nat → Nat → Option β) (q : Nat → β) (n : Nat) (h : ∀ i, i < n → Ev (fun k => f k i) (q i)) : ∃ K, ∀ k, K ≤ k → ∀ i, i < n → f k i = some (q i) := by
  induction n with
  | zero => exact ⟨0, fun k _ i hi => by omega⟩
  | succ n ih =>
    obtain ⟨K1, h1⟩ := ih (fun i hi => h i (by omega))
    obtain ⟨K2, h2⟩ := h n (by omega)
    refine ⟨K1 + K2, fun k hk i hi => ?_⟩
    by_cases e : i = n
    · rw [e]; exact h2 k (by omega)
    · exact h1 k (by omega) i (by omega)
end Go.Proofs.Ytpggcolcabmdeaa.Pure
namespace Go.Proofs.Ytpggcolcabmdeaa.Pure
set_option linter.unusedVariables false
open Go.RowKit Go.Proofs.YtpggcolcabmdeaaW.PrintWords Go.Proofs.YtpggcolcabmdeaaW.PrintLast
theorem ends_inv {σ ρ : Type} (F : Nat → σ → Nat → Option ρ) (n : Nat) (I : Nat → σ → Prop) (P : ρ → Prop)
    (hs : ∀ i s, I i s → i < n → ∃ s', I (i + 1) s' ∧ ∀ r, Ev (fun k => F k s' (i + 1)) r → Ev (fun k => F k s i) r)
    (he : ∀ s, I n s → ∃ r, Ev (fun k => F k s n) r ∧ P r) : ∀ i s, i ≤ n → I i s → ∃ r, Ev (fun k => F k s i) r ∧ P r := by
  have key : ∀ d i s, n - i = d → i ≤ n → I i s → ∃ r, Ev (fun k => F k s i) r ∧ P r := by
    intro d
    induction d with
    | zero =>
      intro i s h0 h1 h2
      obtain rfl : i = n := by omega
      exact he s h2
    | succ d ih =>
      intro i s h0 h1 h2
      obtain ⟨s', h3, h4⟩ := hs i s h2 (by omega)
      obtain ⟨r, h5, h6⟩ := ih (i + 1) s' (by omega) (by omega) h3
      exact ⟨r, h4 r h5, h6⟩
  exact fun i s h1 h2 => key (n - i) i s rfl h1 h2
end Go.Proofs.Ytpggcolcabmdeaa.Pure
namespace Go.Proofs.Ytpggcolcabmdeaa.Pure
set_option linter.unusedVariables false
set_option linter.unusedSimpArgs false
open Go Go.RowKit Go.Proofs.Ytpggcolcabmdeaa.P Go.Proofs.YtpggcolcabmdeaaW.PrintWords Go.Proofs.YtpggcolcabmdeaaW.PrintLast
theorem u64_bd (x : Int) : 0 ≤ IntKind.u64.wrap x ∧ IntKind.u64.wrap x < 18446744073709551616 := by
  rw [IntKind.wrap_u64]
  omega
theorem wraps63 (n : Int) (h0 : 0 ≤ n) (h1 : n < 2 ^ 63) : IntKind.u64.wrap n = n := by
  rw [IntKind.wrap_u64]
  omega
theorem and255 (v : Int) (h0 : 0 ≤ v) (h1 : v < 18446744073709551616) : 0 ≤ Go.bits .and .u64 (v / 1099511627776) 255 ∧ Go.bits .and .u64 (v / 1099511627776) 255 ≤ 255 := by
  have h := bits_mask .u64 63 (by decide) wraps63 8 (by decide) (v / 1099511627776) (by omega) (by omega)
  have e : ((2 : Int) ^ 8 - 1) = 255 := by decide
  have e2 : ((2 : Int) ^ 8) = 256 := by decide
  rw [e, e2] at h
  rw [h]
  omega
structure Code (l : List Int) : Prop where
  len : l.length ≤ 65536
  byte : ∀ x ∈ l, 0 ≤ x ∧ x ≤ 255
theorem Code.bd {l : List Int} (h : Code l) (i : Int) : 0 ≤ rd l i ∧ rd l i ≤ 255 := by
  unfold rd
  by_cases hi : i.toNat < l.length
  · rw [getD_eq_get 0 hi]
    exact h.byte _ (List.getElem_mem hi)
  · simp [List.getD, List.getElem?_eq_none (show l.length ≤ i.toNat by omega)]
theorem next_at {l : List Int} (hl : Code l) (i s : Int) (h0 : 0 ≤ i) (h1 : i ≤ 1000000000) : ∃ x s', spec_l1Cur_next.f l i s = some (x, i + 1, s') ∧ 0 ≤ x ∧ x ≤ 255 := by
  unfold spec_l1Cur_next.f
  have hr := hl.bd i
  have w1 : wrap64 (i + 1) = i + 1 := w64 (by omega) (by omega)
  rw [w1]
  by_cases c1 : i < (l.length : Int)
  · rw [if_pos c1, if_pos h0, if_pos (by omega)]
    exact ⟨_, _, rfl, by rw [w64 (by omega) (by omega)]; exact hr.1, by rw [w64 (by omega) (by omega)]; exact hr.2⟩
  · rw [if_neg c1, if_neg (by omega)]
    have hb := u64_bd (IntKind.u64.wrap (IntKind.u64.wrap (s * 6364136223846793005)) + 889889)
    have ha := and255 _ hb.1 hb.2
    exact ⟨_, _, rfl, by rw [w64 (by omega) (by omega)]; exact ha.1, by rw [w64 (by omega) (by omega)]; exact ha.2⟩
theorem pick_at {l : List Int} (hl : Code l) (i s n : Int) (h0 : 0 ≤ i) (h1 : i ≤ 100000000) :
    ∃ x i' s', spec_l1Cur_pick.f l i s n = some (x, i', s') ∧ 0 ≤ x ∧ (1 ≤ n → x < n) ∧ i ≤ i' ∧ i' ≤ i + 2 := by
  unfold spec_l1Cur_pick.f
  by_cases c1 : n ≤ 1
  · rw [if_pos c1]
    exact ⟨_, _, _, rfl, by omega, fun h => by omega, by omega, by omega⟩
  · rw [if_neg c1]
    obtain ⟨x, s1, e1, b1, b2⟩ := next_at hl i s h0 (by omega)
    rw [e1, Option.bind_some]
    have cn : ¬ n = 0 := by omega
    by_cases c2 : n > 200
    · rw [if_pos c2]
      obtain ⟨y, s2, e2, b3, b4⟩ := next_at hl (i + 1) s1 (by omega) (by omega)
      simp only
      rw [e2, Option.bind_some, if_neg cn]
      simp only
      rw [w64 (x := x * 256) (by omega) (by omega), w64 (by omega) (by omega), Int.tmod_eq_emod_of_nonneg (by omega)]
      exact ⟨_, _, _, rfl, Int.emod_nonneg _ cn, fun _ => Int.emod_lt_of_pos _ (by omega), by omega, by omega⟩
    · rw [if_neg c2, if_neg cn]
      simp only
      rw [Int.tmod_eq_emod_of_nonneg (by omega)]
      exact ⟨_, _, _, rfl, Int.emod_nonneg _ cn, fun _ => Int.emod_lt_of_pos _ (by omega), by omega, by omega⟩
theorem one_at {l : List Int} (hl : Code l) (i s n : Int) (h0 : 0 ≤ i) (h1 : i ≤ 100000000) : ∃ b i' s', spec_l1Cur_one.f l i s n = some (b, i', s') ∧ i ≤ i' ∧ i' ≤ i + 2 := by
  unfold spec_l1Cur_one.f
  obtain ⟨x, i', s', e, _, _, b3, b4⟩ := pick_at hl i s n h0 h1
  rw [e, Option.bind_some]
  exact ⟨_, _, _, rfl, b3, b4⟩
theorem among_at {l : List Int} (hl : Code l) (i s : Int) (xs : List Int) (hx : 1 ≤ xs.length) (h0 : 0 ≤ i) (h1 : i ≤ 100000000) :
    ∃ x i' s', spec_l1Cur_among.f l i s xs = some (x, i', s') ∧ x ∈ xs ∧ i ≤ i' ∧ i' ≤ i + 2 := by
  unfold spec_l1Cur_among.f
  obtain ⟨x, i', s', e, b1, b2, b3, b4⟩ := pick_at hl i s (xs.length : Int) h0 h1
  have b5 := b2 (by omega)
  rw [e, Option.bind_some, if_pos b1, if_pos b5]
  refine ⟨_, _, _, rfl, ?_, b3, b4⟩
  unfold rd
  simp only
  have hlt : x.toNat < xs.length := by omega
  rw [getD_eq_get 0 hlt]
  exact List.getElem_mem hlt
end Go.Proofs.Ytpggcolcabmdeaa.Pure
namespace Go.Proofs.Ytpggcolcabmdeaa.Pure
set_option linter.unusedVariables false
set_option linter.unusedSimpArgs false
open Go.RowKit Go.Proofs.Ytpggcolcabmdeaa.P Go.Proofs.YtpggcolcabmdeaaW.PrintWords Go.Proofs.YtpggcolcabmdeaaW.PrintLast
def inb (x a b : Int) : Bool := decide (a ≤ x) && decide (x ≤ b)
theorem inb_iff {x a b : Int} : inb x a b = true ↔ a ≤ x ∧ x ≤ b := by simp [inb]
theorem l1In_is (x a b : Int) : spec_l1In.f x a b = some (inb x a b) := by
  unfold spec_l1In.f inb
  split
  · rename_i h; simp [show a ≤ x from h]
  · rename_i h; simp [show ¬ a ≤ x from h]
theorem within_is (x a b : Int) : impl_within.f x a b = some (inb x a b) := l1In_is x a b
theorem mul_bd {a b : Int} (a1 : 1 ≤ a) (a8 : a ≤ 8) (b1 : 1 ≤ b) (b8 : b ≤ 8) : 1 ≤ a * b ∧ a * b ≤ 64 := by
  obtain h | h | h | h | h | h | h | h : a = 1 ∨ a = 2 ∨ a = 3 ∨ a = 4 ∨ a = 5 ∨ a = 6 ∨ a = 7 ∨ a = 8 := by omega
  all_goals subst h; omega
theorem l2Shape_is (a b : Int) : spec_l2Shape.f a b = some (inb a 1 8 && inb b 1 8) := by
  unfold spec_l2Shape.f
  rw [l1In_is, l1In_is]
  cases inb a 1 8 <;> simp
theorem shape_iff {a b : Int} : (inb a 1 8 && inb b 1 8) = true ↔ (1 ≤ a ∧ a ≤ 8) ∧ 1 ≤ b ∧ b ≤ 8 := by rw [Bool.and_eq_true, inb_iff, inb_iff]
def cellOk (x : Int) : Bool := decide (x = -9999) || inb x (-9000) 9000
def fieldOk (a b : Int) (l : List Int) : Bool := inb a 1 8 && (inb b 1 8 && (decide ((l.length : Int) = a * b) && l.all cellOk))
structure FieldIs (a b : Int) (l : List Int) : Prop where
  a1 : 1 ≤ a
  a8 : a ≤ 8
  b1 : 1 ≤ b
  b8 : b ≤ 8
  len : (l.length : Int) = a * b
  cells : ∀ x ∈ l, cellOk x = true
theorem fieldOk_iff {a b : Int} {l : List Int} : fieldOk a b l = true ↔ FieldIs a b l := by
  unfold fieldOk
  rw [Bool.and_eq_true, Bool.and_eq_true, Bool.and_eq_true, inb_iff, inb_iff, decide_eq_true_eq, List.all_eq_true]
  exact ⟨fun ⟨⟨h1, h2⟩, ⟨h3, h4⟩, h5, h6⟩ => ⟨h1, h2, h3, h4, h5, h6⟩, fun h => ⟨⟨h.a1, h.a8⟩, ⟨h.b1, h.b8⟩, h.len, h.cells⟩⟩
theorem isValidField_is (a b : Int) (l : List Int) : impl_IsValidField.f a b l = some (fieldOk a b l) := by
  unfold impl_IsValidField.f slices_ContainsFunc_int_at_impl_IsValidField_1.f
  rw [within_is, within_is]
  simp only [Option.bind_some]
  cases h1 : inb a 1 8 with
  | false => simp [fieldOk, h1]
  | true =>
    cases h2 : inb b 1 8 with
    | false => simp [fieldOk, h2]
    | true =>
      have hm := mul_bd (inb_iff.1 h1).1 (inb_iff.1 h1).2 (inb_iff.1 h2).1 (inb_iff.1 h2).2
      rw [w64 (by omega) (by omega)]
      by_cases hl : (l.length : Int) = a * b
      · have e : (!l.any slices_ContainsFunc_int_at_impl_IsValidField_1.p) = l.all cellOk := by
          rw [List.not_any_eq_all_not]
          congr 1
          funext x
          simp [slices_ContainsFunc_int_at_impl_IsValidField_1.p, cellOk, inb]
        simp [fieldOk, h1, h2, hl, e]
      · simp [fieldOk, hl]
theorem l2Value_is (x : Int) : spec_l2Value.f x = some (cellOk x) := by
  unfold spec_l2Value.f cellOk
  rw [l1In_is]
  by_cases h : x = -9999
  · simp [h]
  · simp [h]
theorem l2Good_ev (a b : Int) (l : List Int) (hl : l.length ≤ 9223372036854775806) : Ev (fun k => spec_l2Good.f k a b l) (fieldOk a b l) := by
  have no : Ev (fun k => spec_l2Good.j0 k true a b l) false := ev_step (f := fun _ => some false) (fun k => by simp [spec_l2Good.j0]) (ev_some _)
  unfold spec_l2Good.f
  rw [l2Shape_is]
  simp only [Option.bind_some]
  by_cases hs : (inb a 1 8 && inb b 1 8) = true
  · refine ev_ifp hs ?_
    obtain ⟨⟨a1, a8⟩, b1, b8⟩ := shape_iff.1 hs
    have hm := mul_bd a1 a8 b1 b8
    rw [w64 (by omega) (by omega)]
    by_cases hl2 : (l.length : Int) = a * b
    · have h := allb_ev (fun k i => spec_l2Good.l0 k (i : Int) a b l) l.length (fun i => cellOk (l.getD i 0))
        (fun i r hi hp hh => ev_step (fun k => by
          simp only [spec_l2Good.l0, l2Value_is, Option.bind_some, rd_nat]
          rw [if_pos (by omega), if_pos (by omega), if_pos hp, w64 (by omega) (by omega)]
          rfl) hh)
        (fun i hi hp => ev_step (f := fun _ => some false) (fun k => by
          simp only [spec_l2Good.l0, l2Value_is, Option.bind_some, rd_nat]
          rw [if_pos (by omega), if_pos (by omega), if_neg (by rw [hp]; decide)]) (ev_some _))
        (ev_step (f := fun _ => some true) (fun k => by
          simp only [spec_l2Good.l0]
          rw [if_neg (by omega)]) (ev_some _))
      rw [rall_list] at h
      have e : fieldOk a b l = l.all cellOk := by
        rw [Bool.and_eq_true] at hs
        simp [fieldOk, hs.1, hs.2, hl2]
      rw [e, show ((l.length : Int) != a * b) = false by rw [bne_eq_false_iff_eq]; exact hl2]
      exact ev_step (f := fun k => spec_l2Good.l0 k 0 a b l) (fun k => by simp [spec_l2Good.j0]) h
    · have e : fieldOk a b l = false := by simp [fieldOk, hl2]
      rw [e, show ((l.length : Int) != a * b) = true by rw [bne_iff_ne]; exact hl2]
      exact no
  · refine ev_ifn hs ?_
    have e : fieldOk a b l = false := by
      cases h1 : inb a 1 8 with
      | false => simp [fieldOk, h1]
      | true =>
        cases h2 : inb b 1 8 with
        | false => simp [fieldOk, h2]
        | true => exact absurd (by rw [h1, h2]; rfl) hs
    rw [e]
    exact no
theorem filled_is (a b v : Int) (h0 : 1 ≤ a * b) (h1 : a * b ≤ 64) : impl_filled.f a b v = some (a, b, List.replicate (a * b).toNat v) := by
  unfold impl_filled.f slices_Repeat_int_int.f
  rw [w64 (by omega) (by omega), if_pos ⟨rfl, by omega, h1⟩]
  rfl
theorem iter_rep {α : Type} (v : α) : ∀ d i (s : List α), iter (fun _ s => s ++ [v]) i d s = s ++ List.replicate d v
  | 0, i, s => by simp [iter]
  | d + 1, i, s => by
    show iter (fun _ s => s ++ [v]) (i + 1) d (s ++ [v]) = _
    rw [iter_rep v d (i + 1), List.append_assoc, List.replicate_succ]
    rfl
theorem l2Fill_ev (a b v : Int) (h0 : 1 ≤ a * b) (h1 : a * b ≤ 64) : Ev (fun k => spec_l2Fill.f k a b v) (a, b, List.replicate (a * b).toNat v) := by
  obtain ⟨n, hn⟩ := Int.eq_ofNat_of_zero_le (show 0 ≤ a * b by omega)
  have h := loop_ev (fun k s i => spec_l2Fill.l0 k a b v (i : Int) a b s) n (fun _ s => s ++ [v]) (fun s => (a, b, s)) (fun i s => s.length = i)
    (fun i s r hI hi h => ev_step (fun k => by
      simp only [spec_l2Fill.l0]
      rw [w64 (x := a * b) (by omega) (by omega), if_pos (by omega), if_pos (by omega), w64 (by omega) (by omega)]
      rfl) h)
    (fun i s hI _ => by simp [hI])
    (fun s hI => ev_step (f := fun _ => some (a, b, s)) (fun k => by
      simp only [spec_l2Fill.l0]
      rw [w64 (x := a * b) (by omega) (by omega), if_neg (by omega)]) (ev_some _)) 0 [] (Nat.zero_le _) rfl
  rw [iter_rep, List.nil_append, Nat.sub_zero] at h
  rw [hn, Int.toNat_natCast]
  exact h
end Go.Proofs.Ytpggcolcabmdeaa.Pure
namespace Go.Proofs.Ytpggcolcabmdeaa.Pure
set_option linter.unusedVariables false
set_option linter.unusedSimpArgs false
open Go Go.RowKit Go.Proofs.Ytpggcolcabmdeaa.P Go.Proofs.YtpggcolcabmdeaaW.PrintWords Go.Proofs.YtpggcolcabmdeaaW.PrintLast
theorem field_j1 {l : List Int} (hl : Code l) (i s : Int) (h0 : 0 ≤ i) (h1 : i ≤ 90000000) (w h : Int) (c : List Int) (hc : 1 ≤ c.length ∧ c.length ≤ 64) :
    ∃ r : Int × Int × List Int × Int × Int, Ev (fun k => spec_l1Cur_field.j1 k l i s w h c) r ∧ (1 ≤ r.2.2.1.length ∧ r.2.2.1.length ≤ 64) ∧ i ≤ r.2.2.2.1 ∧ r.2.2.2.1 ≤ i + 2 := by
  obtain ⟨b, i1, s1, e1, b1, b2⟩ := one_at hl i s 24 h0 (by omega)
  cases b with
  | true =>
    have hf := l2Fill_ev 8 8 3 (by decide) (by decide)
    refine ⟨(8, 8, List.replicate (8 * 8 : Int).toNat 3, i1, s1), ev_step (fun k => spec_l1Cur_field.j1.eq_2 _ _ _ _ _ _ k) (ev_bind (ev_const e1) (ev_ifp rfl (ev_bind hf (ev_some _)))), by simp, b1, b2⟩
  | false =>
    exact ⟨(w, h, c, i1, s1), ev_step (fun k => spec_l1Cur_field.j1.eq_2 _ _ _ _ _ _ k) (ev_bind (ev_const e1) (ev_ifn (by simp) (ev_some _))), hc, b1, b2⟩
theorem field_at {l : List Int} (hl : Code l) (i s : Int) (h0 : 0 ≤ i) (h1 : i ≤ 80000000) :
    ∃ r : Int × Int × List Int × Int × Int, Ev (fun k => spec_l1Cur_field.f k l i s) r ∧ (1 ≤ r.2.2.1.length ∧ r.2.2.1.length ≤ 64) ∧ i ≤ r.2.2.2.1 ∧ r.2.2.2.1 ≤ i + 200 := by
  obtain ⟨x1, i1, s1, e1, p1, q1, b1, b2⟩ := pick_at hl i s 5 h0 (by omega)
  obtain ⟨x2, i2, s2, e2, p2, q2, b3, b4⟩ := pick_at hl i1 s1 5 (by omega) (by omega)
  obtain ⟨x3, i3, s3, e3, _, b5, b6⟩ := among_at hl i2 s2 [0, 10, 100, (-50)] (by simp) (by omega) (by omega)
  have q1' := q1 (by omega)
  have q2' := q2 (by omega)
  obtain ⟨W, hW⟩ := Int.eq_ofNat_of_zero_le (show 0 ≤ 1 + x1 by omega)
  obtain ⟨H, hH⟩ := Int.eq_ofNat_of_zero_le (show 0 ≤ 1 + x2 by omega)
  have hm : W * H ≤ 25 := Nat.mul_le_mul (show W ≤ 5 by omega) (show H ≤ 5 by omega)
  have hm1 : 1 ≤ W * H := Nat.mul_pos (by omega) (by omega)
  have ew := Aside0.mk (show wrap64 ((W : Int) * (H : Int)) = ((W * H : Nat) : Int) by rw [← Int.natCast_mul, w64n (by omega)])
  obtain ⟨r, hr, hp⟩ := ends_inv (fun k (st : Int × Int × List Int) j => spec_l1Cur_field.l0 k x3 (j : Int) l st.1 st.2.1 (W : Int) (H : Int) st.2.2) (W * H) (fun j st => i3 ≤ st.1 ∧ st.1 ≤ i3 + 4 * (j : Int) ∧ st.2.2.length = j)
    (fun r => (1 ≤ r.2.2.1.length ∧ r.2.2.1.length ≤ 64) ∧ i ≤ r.2.2.2.1 ∧ r.2.2.2.1 ≤ i + 200)
    (fun j st hI hj => by
      obtain ⟨at_, sd, c⟩ := st
      obtain ⟨c1, c2, c3⟩ := hI
      simp only at c1 c2 c3
      obtain ⟨y, i4, s4, e4, _, _, d1, d2⟩ := pick_at hl at_ sd 40 (by omega) (by omega)
      obtain ⟨b, i5, s5, e5, d3, d4⟩ := one_at hl i4 s4 12 (by omega) (by omega)
      have ej := Aside0.mk (show wrap64 ((j : Int) + 1) = ((j + 1 : Nat) : Int) by rw [w64 (by omega) (by omega)]; rfl)
      cases b with
      | true =>
        refine ⟨(i5, s5, c ++ [(-9999)]), ⟨by simp only; omega, by simp only; omega, by simp [c3]⟩, fun r h => ev_step (fun k => ?_) h⟩
        simp only [spec_l1Cur_field.l0]
        rw [ew.out, if_pos (by omega), e4]
        simp only [Option.bind_some]
        rw [e5]
        simp only [Option.bind_some, if_true]
        rw [if_pos (by omega), ej.out]
      | false =>
        refine ⟨(i5, s5, c ++ [wrap64 (x3 + y)]), ⟨by simp only; omega, by simp only; omega, by simp [c3]⟩, fun r h => ev_step (fun k => ?_) h⟩
        simp only [spec_l1Cur_field.l0]
        rw [ew.out, if_pos (by omega), e4]
        simp only [Option.bind_some]
        rw [e5]
        simp only [Option.bind_some, Bool.false_eq_true, if_false]
        rw [if_pos (by omega), ej.out])
    (fun st hI => by
      obtain ⟨at_, sd, c⟩ := st
      obtain ⟨c1, c2, c3⟩ := hI
      simp only at c1 c2 c3
      obtain ⟨b, i4, s4, e4, d1, d2⟩ := one_at hl at_ sd 10 (by omega) (by omega)
      cases b with
      | true =>
        obtain ⟨y, i5, s5, e5, d3, d4, d5, d6⟩ := pick_at hl i4 s4 (c.length : Int) (by omega) (by omega)
        obtain ⟨z, i6, s6, e6, _, d7, d8⟩ := among_at hl i5 s5 [9000, (-9000), 0] (by simp) (by omega) (by omega)
        have d4' := d4 (by omega)
        obtain ⟨r, hr, hc, d9, d10⟩ := field_j1 hl i6 s6 (by omega) (by omega) (W : Int) (H : Int) (c.set y.toNat z) (by simp; omega)
        refine ⟨r, ev_step (fun k => ?_) hr, hc, by omega, by omega⟩
        simp only [spec_l1Cur_field.l0]
        rw [ew.out, if_neg (by omega), e4]
        simp only [Option.bind_some, if_true]
        rw [e5]
        simp only [Option.bind_some]
        rw [e6]
        simp only [Option.bind_some]
        rw [if_pos d3, if_pos d4']
      | false =>
        obtain ⟨r, hr, hc, d9, d10⟩ := field_j1 hl i4 s4 (by omega) (by omega) (W : Int) (H : Int) c (by omega)
        refine ⟨r, ev_step (fun k => ?_) hr, hc, by omega, by omega⟩
        simp only [spec_l1Cur_field.l0]
        rw [ew.out, if_neg (by omega), e4]
        simp only [Option.bind_some, Bool.false_eq_true, if_false]) 0 (i3, s3, []) (Nat.zero_le _) ⟨by simp only; omega, by simp only; omega, rfl⟩
  refine ⟨r, ?_, hp⟩
  unfold spec_l1Cur_field.f
  refine ev_bind (ev_const e1) (ev_bind (ev_const e2) (ev_bind (ev_const e3) ?_))
  simp only
  rw [w64 (x := 1 + x1) (by omega) (by omega), w64 (x := 1 + x2) (by omega) (by omega), hW, hH]
  exact hr
theorem anyField_at {l : List Int} (hl : Code l) (i s : Int) (h0 : 0 ≤ i) (h1 : i ≤ 70000000) :
    ∃ r : Int × Int × List Int × Int × Int, Ev (fun k => spec_l1Cur_anyField.f k l i s) r ∧ r.2.2.1.length ≤ 64 ∧ i ≤ r.2.2.2.1 ∧ r.2.2.2.1 ≤ i + 300 := by
  obtain ⟨⟨w, h, c, i1, s1⟩, hr, hc, b1, b2⟩ := field_at hl i s h0 (by omega)
  simp only at hc b1 b2
  obtain ⟨x, i2, s2, e2, _, _, b3, b4⟩ := pick_at hl i1 s1 24 (by omega) (by omega)
  unfold spec_l1Cur_anyField.f
  by_cases c0 : x = 0
  · obtain ⟨y, i3, s3, e3, _, b5, b6⟩ := among_at hl i2 s2 [0, 9, 8, h] (by simp) (by omega) (by omega)
    exact ⟨(y, h, c, i3, s3), ev_bind hr (ev_bind (ev_const e2) (ev_ifp c0 (ev_bind (ev_const e3) (ev_some _)))), by simp only; omega, by simp only; omega, by simp only; omega⟩
  · by_cases c1 : x = 1
    · obtain ⟨y, i3, s3, e3, p3, q3, b5, b6⟩ := pick_at hl i2 s2 (c.length : Int) (by omega) (by omega)
      obtain ⟨z, i4, s4, e4, _, b7, b8⟩ := among_at hl i3 s3 [9001, (-9001), (-9998), (-9999)] (by simp) (by omega) (by omega)
      exact ⟨(w, h, c.set y.toNat z, i4, s4), ev_bind hr (ev_bind (ev_const e2) (ev_ifn c0 (ev_ifp c1 (ev_bind (ev_const e3) (ev_bind (ev_const e4) (ev_ifp p3 (ev_ifp (q3 (by omega)) (ev_some _)))))))), by simp; omega, by simp only; omega, by simp only; omega⟩
    · by_cases c2 : x = 2
      · exact ⟨(w, h, c.drop (1 : Int).toNat, i2, s2), ev_bind hr (ev_bind (ev_const e2) (ev_ifn c0 (ev_ifn c1 (ev_ifp c2 (ev_ifp (by simp only; omega) (ev_some _)))))), by simp; omega, by simp only; omega, by simp only; omega⟩
      · exact ⟨(w, h, c, i2, s2), ev_bind hr (ev_bind (ev_const e2) (ev_ifn c0 (ev_ifn c1 (ev_ifn c2 (ev_some _))))), by simp only; omega, by simp only; omega, by simp only; omega⟩
end Go.Proofs.Ytpggcolcabmdeaa.Pure
namespace Go.Proofs.Ytpggcolcabmdeaa.Pure
set_option linter.unusedVariables false
set_option linter.unusedSimpArgs false
open Go.RowKit Go.Proofs.Ytpggcolcabmdeaa.P Go.Proofs.YtpggcolcabmdeaaW.PrintWords Go.Proofs.YtpggcolcabmdeaaW.PrintLast
abbrev FF := S29
theorem rdf (xs : List FF) (i : Nat) : rd_T29 xs (i : Int) = xs.getD i z29 := by simp [rd_T29]
theorem rdf0 (xs : List FF) : rd_T29 xs 0 = xs.getD 0 z29 := rdf xs 0
theorem short_of (l : List FF) (h : ∀ x ∈ l, x.f2.length ≤ 9223372036854775806) (i : Nat) : (l.getD i z29).f2.length ≤ 9223372036854775806 := by
  by_cases hi : i < l.length
  · rw [getD_eq_get _ hi]
    exact h _ (List.getElem_mem hi)
  · simp [List.getD, List.getElem?_eq_none (show l.length ≤ i by omega), z29]
end Go.Proofs.Ytpggcolcabmdeaa.Pure
namespace Go.Proofs.Ytpggcolcabmdeaa.Pure
set_option linter.unusedVariables false
set_option linter.unusedSimpArgs false
open Go Go.RowKit Go.Proofs.Ytpggcolcabmdeaa.P Go.Proofs.YtpggcolcabmdeaaW.PrintWords Go.Proofs.YtpggcolcabmdeaaW.PrintLast
theorem l2Own_isE (a b : Int) (l : List Int) (hl : l.length < 17592186044416) : spec_l2Own.f a b l = some (a, b, l) := by
  unfold spec_l2Own.f spec_l1Own.f
  rw [Option.bind_some, if_pos (by simpa using hl)]
  rfl
def EnsP (i : Int) (m : Int) (r : List FF × Int × Int) : Prop := (r.1.length ≤ 9 ∧ ∀ x ∈ r.1, x.f2.length ≤ 64) ∧ i ≤ r.2.1 ∧ r.2.1 ≤ i + m
theorem ens_l2 {l : List Int} (hl : Code l) : ∀ (d : Nat) (out : List FF) (i s : Int), out.length + d = 9 → 1 ≤ out.length → (∀ x ∈ out, x.f2.length ≤ 64) → 0 ≤ i → i + 2 * (d : Int) ≤ 60000100 →
    ∃ r, Ev (fun k => spec_l1Cur_ensemble.l2 k out l i s) r ∧ EnsP i (2 * (d : Int) + 2) r := by
  intro d
  induction d with
  | zero =>
    intro out i s hd h1 hs h0 hi
    obtain ⟨x, i2, s2, e2, p2, q2, d1, d2⟩ := pick_at hl i s 2 h0 (by omega)
    have q2' := q2 (by omega)
    refine ⟨(out, i2, s2), ev_step (f := fun _ => some (out, i2, s2)) (fun k => ?_) (ev_some _), ⟨by simp only; omega, hs⟩, by simp only; omega, by simp only; omega⟩
    simp only [spec_l1Cur_ensemble.l2]
    rw [e2]
    simp only [Option.bind_some]
    rw [w64 (x := 8 + x) (by omega) (by omega), if_neg (by omega)]
  | succ d ih =>
    intro out i s hd h1 hs h0 hi
    obtain ⟨x, i2, s2, e2, p2, q2, d1, d2⟩ := pick_at hl i s 2 h0 (by omega)
    have q2' := q2 (by omega)
    by_cases hc : (out.length : Int) < 8 + x
    · have h0m := hs _ (List.getElem_mem (show 0 < out.length by omega))
      have er : rd_T29 out 0 = out[0] := by rw [rdf0, getD_eq_get _ (by omega)]
      obtain ⟨r, hr, ⟨h3, h4⟩, h5, h6⟩ := ih (out ++ [(⟨(out[0]).f0, (out[0]).f1, (out[0]).f2⟩ : FF)]) i2 s2 (by simp; omega) (by simp) (fun y hy => by
        rcases List.mem_append.1 hy with hy | hy
        · exact hs y hy
        · rw [List.mem_singleton.1 hy]; exact h0m) (by omega) (by omega)
      refine ⟨r, ev_step (fun k => ?_) hr, ⟨h3, h4⟩, by omega, by omega⟩
      simp only [spec_l1Cur_ensemble.l2]
      rw [e2]
      simp only [Option.bind_some]
      rw [w64 (x := 8 + x) (by omega) (by omega), if_pos hc, if_pos (by omega), er, l2Own_isE _ _ _ (by omega)]
      simp only [Option.bind_some]
      rw [if_pos (by omega)]
    · refine ⟨(out, i2, s2), ev_step (f := fun _ => some (out, i2, s2)) (fun k => ?_) (ev_some _), ⟨by simp only; omega, hs⟩, by simp only; omega, by simp only; omega⟩
      simp only [spec_l1Cur_ensemble.l2]
      rw [e2]
      simp only [Option.bind_some]
      rw [w64 (x := 8 + x) (by omega) (by omega), if_neg hc]
theorem ens_tail {l : List Int} (hl : Code l) (W H : Int) (out : List FF) (i s : Int) (h1 : 1 ≤ out.length) (h5 : out.length ≤ 5) (hc : ∀ x ∈ out, 1 ≤ x.f2.length ∧ x.f2.length ≤ 16) (h0 : 0 ≤ i) (hi : i ≤ 50000000) :
    ∃ r, Ev (fun k => spec_l1Cur_ensemble.l0 k W H out 0 l i s) r ∧ EnsP i 400 r := by
  obtain ⟨x, i2, s2, e2, _, _, d1, d2⟩ := pick_at hl i s 40 h0 (by omega)
  have hs : ∀ x ∈ out, x.f2.length ≤ 64 := fun x hx => by have := hc x hx; omega
  have st : ∀ {r : List FF × Int × Int} {g : Nat → Option (List FF × Int × Int)}, (∀ k, spec_l1Cur_ensemble.l0 (k + 1) W H out 0 l i s = g k) → Ev g r → Ev (fun k => spec_l1Cur_ensemble.l0 k W H out 0 l i s) r := fun e h => ev_step e h
  by_cases x0 : x = 0
  · obtain ⟨⟨w, h, c, i3, s3⟩, hr, hcl, b1, b2⟩ := anyField_at hl i2 s2 (by omega) (by omega)
    simp only at hcl b1 b2
    refine ⟨(out ++ [(⟨w, h, c⟩ : FF)], i3, s3), st (g := fun k => (spec_l1Cur_anyField.f k l i2 s2).bind fun bt129 => (if out.length < 3518437208883 then (some ((out ++ [(⟨bt129.1, bt129.2.1, bt129.2.2.1⟩ : FF)]), bt129.2.2.2.1, bt129.2.2.2.2)) else (none))) (fun k => ?_) (ev_bind hr (ev_ifp (by omega) (ev_some _))), ⟨by simp; omega, fun y hy => ?_⟩, by simp only; omega, by simp only; omega⟩
    · simp only [spec_l1Cur_ensemble.l0]
      rw [if_neg (by omega), e2]
      simp only [Option.bind_some]
      rw [if_pos x0]
    · rcases List.mem_append.1 hy with hy | hy
      · exact hs y hy
      · rw [List.mem_singleton.1 hy]; exact hcl
  · by_cases x1 : x = 1
    · refine ⟨([], i2, s2), st (g := fun _ => some ([], i2, s2)) (fun k => ?_) (ev_some _), ⟨by simp, by simp⟩, by simp only; omega, by simp only; omega⟩
      simp only [spec_l1Cur_ensemble.l0]
      rw [if_neg (by omega), e2]
      simp only [Option.bind_some]
      rw [if_neg x0, if_pos x1]
    · by_cases x2 : x = 2
      · obtain ⟨r, hr, h3, h4, h6⟩ := ens_l2 hl (9 - out.length) out i2 s2 (by omega) h1 hs (by omega) (by omega)
        refine ⟨r, st (g := fun k => spec_l1Cur_ensemble.l2 k out l i2 s2) (fun k => ?_) hr, h3, by omega, by omega⟩
        simp only [spec_l1Cur_ensemble.l0]
        rw [if_neg (by omega), e2]
        simp only [Option.bind_some]
        rw [if_neg x0, if_neg x1, if_pos x2]
      · by_cases x3 : x = 3
        · obtain ⟨z, i3, s3, e3, _, b1, b2⟩ := among_at hl i2 s2 [9001, (-9000), 9000] (by simp) (by omega) (by omega)
          have hm := hc _ (List.getElem_mem (show 0 < out.length by omega))
          have er : rd_T29 out 0 = out[0] := by rw [rdf0, getD_eq_get _ (by omega)]
          refine ⟨(out.set (0 : Int).toNat (⟨(out[0]).f0, (out[0]).f1, (out[0]).f2.set (0 : Int).toNat z⟩ : FF), i3, s3), st (g := fun _ => some (out.set (0 : Int).toNat (⟨(out[0]).f0, (out[0]).f1, (out[0]).f2.set (0 : Int).toNat z⟩ : FF), i3, s3)) (fun k => ?_) (ev_some _), ⟨by simp; omega, fun y hy => ?_⟩, by simp only; omega, by simp only; omega⟩
          · simp only [spec_l1Cur_ensemble.l0]
            rw [if_neg (by omega), e2]
            simp only [Option.bind_some]
            rw [if_neg x0, if_neg x1, if_neg x2, if_pos x3, if_pos (by omega), e3, er]
            simp only [Option.bind_some]
            rw [if_pos (by omega)]
          · rcases List.mem_or_eq_of_mem_set hy with hy | hy
            · exact hs y hy
            · rw [hy, List.length_set]; omega
        · refine ⟨(out, i2, s2), st (g := fun _ => some (out, i2, s2)) (fun k => ?_) (ev_some _), ⟨by simp only; omega, hs⟩, by simp only; omega, by simp only; omega⟩
          simp only [spec_l1Cur_ensemble.l0]
          rw [if_neg (by omega), e2]
          simp only [Option.bind_some]
          rw [if_neg x0, if_neg x1, if_neg x2, if_neg x3]
theorem ens_l0 {l : List Int} (hl : Code l) (W H : Nat) (hW : 1 ≤ W ∧ W ≤ 4) (hH : 1 ≤ H ∧ H ≤ 4) : ∀ (n : Nat) (out : List FF) (i s : Int), 1 ≤ out.length + n → out.length + n ≤ 5 → (∀ x ∈ out, 1 ≤ x.f2.length ∧ x.f2.length ≤ 16) → 0 ≤ i → i + 100 * (n : Int) ≤ 41000000 →
    ∃ r, Ev (fun k => spec_l1Cur_ensemble.l0 k (W : Int) (H : Int) out (n : Int) l i s) r ∧ EnsP i (400 + 40 * (n : Int)) r := by
  have hm : W * H ≤ 16 := Nat.mul_le_mul hW.2 hH.2
  have hm1 : 1 ≤ W * H := Nat.mul_pos (by omega) (by omega)
  have ew := Aside0.mk (show wrap64 ((W : Int) * (H : Int)) = ((W * H : Nat) : Int) by rw [← Int.natCast_mul, w64n (by omega)])
  intro n
  induction n with
  | zero =>
    intro out i s h1 h5 hc h0 hi
    obtain ⟨r, hr, hp1, hp2, hp3⟩ := ens_tail hl (W : Int) (H : Int) out i s (by omega) (by omega) hc h0 (by omega)
    exact ⟨r, hr, hp1, hp2, by omega⟩
  | succ n ih =>
    intro out i s h1 h5 hc h0 hi
    obtain ⟨r, hr, hp⟩ := ends_inv (fun k (st : Int × Int × List Int) j => spec_l1Cur_ensemble.l1 k (W : Int) (H : Int) out ((n + 1 : Nat) : Int) (j : Int) l st.1 st.2.1 (W : Int) (H : Int) st.2.2) (W * H) (fun j st => i ≤ st.1 ∧ st.1 ≤ i + 2 * (j : Int) ∧ st.2.2.length = j)
      (EnsP i (400 + 40 * ((n + 1 : Nat) : Int)))
      (fun j st hI hj => by
        obtain ⟨at_, sd, c⟩ := st
        obtain ⟨c1, c2, c3⟩ := hI
        simp only at c1 c2 c3
        obtain ⟨z, i3, s3, e3, _, b1, b2⟩ := among_at hl at_ sd [0, 5, 10, 15, 20, (-5), (-9999)] (by simp) (by omega) (by omega)
        have ej := Aside0.mk (show wrap64 ((j : Int) + 1) = ((j + 1 : Nat) : Int) by rw [w64 (by omega) (by omega)]; rfl)
        refine ⟨(i3, s3, c ++ [z]), ⟨by simp only; omega, by simp only; omega, by simp [c3]⟩, fun r h => ev_step (fun k => ?_) h⟩
        simp only [spec_l1Cur_ensemble.l1]
        rw [ew.out, if_pos (by omega), e3]
        simp only [Option.bind_some]
        rw [if_pos (by omega), ej.out])
      (fun st hI => by
        obtain ⟨at_, sd, c⟩ := st
        obtain ⟨c1, c2, c3⟩ := hI
        simp only at c1 c2 c3
        obtain ⟨r, hr, hp1, hp2, hp3⟩ := ih (out ++ [(⟨(W : Int), (H : Int), c⟩ : FF)]) at_ sd (by simp; omega) (by simp; omega) (fun y hy => by
          rcases List.mem_append.1 hy with hy | hy
          · exact hc y hy
          · rw [List.mem_singleton.1 hy]
            show 1 ≤ c.length ∧ c.length ≤ 16
            omega) (by omega) (by omega)
        refine ⟨r, ev_step (fun k => ?_) hr, hp1, by omega, by omega⟩
        simp only [spec_l1Cur_ensemble.l1]
        rw [ew.out, if_neg (by omega), if_pos (by omega), w64 (x := ((n + 1 : Nat) : Int) - 1) (by omega) (by omega), show ((n + 1 : Nat) : Int) - 1 = (n : Int) by omega]) 0 (i, s, []) (Nat.zero_le _) ⟨by simp only; omega, by simp only; omega, rfl⟩
    refine ⟨r, ev_step (fun k => ?_) hr, hp⟩
    simp only [spec_l1Cur_ensemble.l0]
    rw [if_pos (by omega)]
    rfl
theorem ens_at {l : List Int} (hl : Code l) (i s : Int) (h0 : 0 ≤ i) (h1 : i ≤ 40000000) : ∃ r, Ev (fun k => spec_l1Cur_ensemble.f k l i s) r ∧ EnsP i 700 r := by
  obtain ⟨x1, i1, s1, e1, p1, q1, b1, b2⟩ := pick_at hl i s 4 h0 (by omega)
  obtain ⟨x2, i2, s2, e2, p2, q2, b3, b4⟩ := pick_at hl i1 s1 4 (by omega) (by omega)
  obtain ⟨x3, i3, s3, e3, p3, q3, b5, b6⟩ := pick_at hl i2 s2 5 (by omega) (by omega)
  have q1' := q1 (by omega)
  have q2' := q2 (by omega)
  have q3' := q3 (by omega)
  obtain ⟨W, hW⟩ := Int.eq_ofNat_of_zero_le (show 0 ≤ 1 + x1 by omega)
  obtain ⟨H, hH⟩ := Int.eq_ofNat_of_zero_le (show 0 ≤ 1 + x2 by omega)
  obtain ⟨n, hn⟩ := Int.eq_ofNat_of_zero_le (show 0 ≤ 1 + x3 by omega)
  obtain ⟨r, hr, hp1, hp2, hp3⟩ := ens_l0 hl W H (by omega) (by omega) n [] i3 s3 (by simp; omega) (by simp; omega) (by simp) (by omega) (by omega)
  refine ⟨r, ?_, hp1, by omega, by omega⟩
  unfold spec_l1Cur_ensemble.f
  refine ev_bind (ev_const e1) (ev_bind (ev_const e2) (ev_bind (ev_const e3) ?_))
  simp only
  rw [w64 (x := 1 + x1) (by omega) (by omega), w64 (x := 1 + x2) (by omega) (by omega), w64 (x := 1 + x3) (by omega) (by omega), hW, hH, hn]
  exact hr
theorem codeE {l : List Int} (hl : l.length ≤ 9223372036854775807 ∧ ∀ z ∈ l, (Lit.int .u8 z).wf = true) (h : l.length ≤ 65536) : Code l :=
  ⟨h, fun x hx => by
    have := hl.2 x hx
    simp [Lit.wf, IntKind.min, IntKind.max, IntKind.signed, IntKind.bits] at this
    omega⟩
theorem thr_at {l : List Int} (hl : Code l) (i s : Int) (h0 : 0 ≤ i) (h1 : i ≤ 80000000) : ∃ x i' s', spec_l1Cur_threshold9.f l i s = some (x, i', s') := by
  obtain ⟨x, i2, s2, e2, p2, q2, b1, b2⟩ := pick_at hl i s 24 h0 (by omega)
  have q2' := q2 (by omega)
  have ed : Int.tdiv x 11 = x / 11 := Int.tdiv_eq_ediv_of_nonneg p2
  have e1 : wrap64 (7 + wrap64 (Int.tdiv x 11)) = 7 + x / 11 := by rw [ed, w64 (x := x / 11) (by omega) (by omega), w64 (by omega) (by omega)]
  obtain ⟨y, i3, s3, e3, _⟩ := among_at hl i2 s2 (([0, 5, 10, 16, (-5), 9000, (-9000), 9001, (-9999)] : List Int).take (7 + x / 11).toNat) (by rw [List.length_take]; simp; omega) (by omega) (by omega)
  unfold spec_l1Cur_threshold9.f
  rw [Option.bind_some, e2, Option.bind_some]
  simp only
  rw [e1, if_pos (by omega), if_pos (by simp; omega), e3]
  exact ⟨_, _, _, rfl⟩
theorem drawCount_at {l : List Int} (hl : Code l) : ∃ r : List FF × Int, Ev (fun k => spec_DrawCountAtLeast.f k l) r ∧ (r.1.length ≤ 9 ∧ ∀ x ∈ r.1, x.f2.length ≤ 64) := by
  obtain ⟨⟨e, i1, s1⟩, hr, ⟨h1, h2⟩, h3, h4⟩ := ens_at hl 0 0 (by omega) (by omega)
  simp only at h1 h2 h3 h4
  obtain ⟨x, i2, s2, e2⟩ := thr_at hl i1 s1 (by omega) (by omega)
  unfold spec_DrawCountAtLeast.f
  exact ⟨(e, x), ev_bind hr (ev_bind (ev_const e2) (ev_some _)), h1, h2⟩
theorem rInts_self (l : List Int) (hl : l.length ≤ 9223372036854775806) : Ev (fun k => laws_rInts.f k l l) true := by
  have h := loop_ev (σ := Unit) (fun k _ i => laws_rInts.l0 k l l (i : Int)) l.length (fun _ _ => ()) (fun _ => true) (fun _ _ => True)
    (fun i s r _ hi h => ev_step (fun k => by
      simp only [laws_rInts.l0]
      rw [if_pos (by omega), if_pos (by omega), if_pos (by omega), if_pos trivial, w64 (by omega) (by omega)]
      rfl) h)
    (fun _ _ _ _ => trivial)
    (fun _ _ => ev_step (f := fun _ => some true) (fun k => by
      simp only [laws_rInts.l0]
      rw [if_neg (by omega)]) (ev_some _)) 0 () (Nat.zero_le _) trivial
  unfold laws_rInts.f
  exact ev_ifp rfl h
theorem rFields_self (a b : Int) (l : List Int) (hl : l.length ≤ 9223372036854775806) : Ev (fun k => laws_rFields.f k a b l a b l) true := by
  unfold laws_rFields.f
  exact ev_ifp rfl (ev_ifp rfl (ev_bind (rInts_self l hl) (ev_some _)))
end Go.Proofs.Ytpggcolcabmdeaa.Pure
namespace Go.Proofs.Ytpggcolcabmdeaa.Pure
set_option linter.unusedVariables false
set_option linter.unusedSimpArgs false
open Go.RowKit Go.Proofs.Ytpggcolcabmdeaa.P Go.Proofs.YtpggcolcabmdeaaW.PrintWords Go.Proofs.YtpggcolcabmdeaaW.PrintLast
def memOk (l : List FF) (f : FF) : Bool := fieldOk f.f0 f.f1 f.f2 && (decide (f.f0 = (l.getD 0 z29).f0) && decide (f.f1 = (l.getD 0 z29).f1))
def ensOk (l : List FF) : Bool := inb (l.length : Int) 1 8 && l.all (memOk l)
theorem l9Good_ev (l : List FF) (hl : l.length ≤ 9223372036854775806) (hs : ∀ x ∈ l, x.f2.length ≤ 9223372036854775806) : Ev (fun k => spec_l9Good.f k l) (ensOk l) := by
  unfold spec_l9Good.f ensOk
  rw [l1In_is]
  simp only [Option.bind_some]
  cases hb : inb (l.length : Int) 1 8 with
  | false => exact ev_ifn (by simp) (ev_some _)
  | true =>
    rw [Bool.true_and, ← rall_list l z29 (memOk l)]
    have hbd := inb_iff.1 hb
    refine ev_ifp rfl (allb_ev (fun k i => spec_l9Good.l0 k l (i : Int)) l.length (fun j => memOk l (l.getD j z29)) ?_ ?_ ?_)
    · intro i r hi hp h
      unfold memOk at hp
      rw [Bool.and_eq_true, Bool.and_eq_true, decide_eq_true_eq, decide_eq_true_eq] at hp
      refine ev_step (f := fun k => (spec_l2Good.f k (l.getD i z29).f0 (l.getD i z29).f1 (l.getD i z29).f2).bind fun t => if t = true then spec_l9Good.l0 k l ((i + 1 : Nat) : Int) else some false) (fun k => by
        simp only [spec_l9Good.l0, rdf, rdf0]
        rw [if_pos (by omega), if_pos (by omega), if_pos (show (0 : Int) < (l.length : Int) by omega), if_pos hp.2.1, if_pos hp.2.2, w64 (by omega) (by omega)]
        rfl) (ev_bind (l2Good_ev _ _ _ (short_of l hs i)) (by rw [hp.1]; exact ev_ifp rfl h))
    · intro i hi hp
      refine ev_step (f := fun k => (spec_l2Good.f k (l.getD i z29).f0 (l.getD i z29).f1 (l.getD i z29).f2).bind fun t => if t = true then (if (l.getD i z29).f0 = (l.getD 0 z29).f0 then (if (l.getD i z29).f1 = (l.getD 0 z29).f1 then spec_l9Good.l0 k l (wrap64 ((i : Int) + 1)) else some false) else some false) else some false) (fun k => by
        simp only [spec_l9Good.l0, rdf, rdf0]
        rw [if_pos (by omega), if_pos (by omega), if_pos (show (0 : Int) < (l.length : Int) by omega)]) (ev_bind (l2Good_ev _ _ _ (short_of l hs i)) ?_)
      unfold memOk at hp
      cases h1 : fieldOk (l.getD i z29).f0 (l.getD i z29).f1 (l.getD i z29).f2 with
      | false => exact ev_ifn (by simp) (ev_some _)
      | true =>
        refine ev_ifp rfl ?_
        rw [h1, Bool.true_and] at hp
        by_cases h2 : (l.getD i z29).f0 = (l.getD 0 z29).f0
        · refine ev_ifp h2 (ev_ifn ?_ (ev_some _))
          intro h3
          rw [decide_eq_true h2, decide_eq_true h3] at hp
          cases hp
        · exact ev_ifn h2 (ev_some _)
    · exact ev_step (f := fun _ => some true) (fun k => by
        simp only [spec_l9Good.l0]
        rw [if_neg (by omega)]) (ev_some _)
theorem sameShape_is (a b : Int) (l : List Int) (a' b' : Int) (l' : List Int) : impl_sameShape.f a b l a' b' l' = some (decide (a = a') && decide (b = b')) := by
  unfold impl_sameShape.f
  by_cases h : a = a'
  · rw [if_pos h, decide_eq_true h, Bool.true_and]
    congr 1
  · rw [if_neg h, decide_eq_false h, Bool.false_and]
theorem areAlike_ev (l : List FF) (hl : l.length ≤ 9223372036854775806) : Ev (fun k => impl_areAlike.f k l) (l.all (memOk l)) := by
  rw [← rall_list l z29 (memOk l)]
  refine allb_ev (fun k i => impl_areAlike.l0 k l l (l.length : Int) (i : Int)) l.length (fun j => memOk l (l.getD j z29)) ?_ ?_ ?_
  · intro i r hi hp h
    unfold memOk at hp
    rw [Bool.and_eq_true] at hp
    exact ev_step (fun k => by
      simp only [impl_areAlike.l0, rdf, rdf0, isValidField_is, sameShape_is, Option.bind_some]
      rw [if_pos (by omega), if_pos (by omega), if_pos (by omega), if_pos hp.1, if_pos (show (0 : Int) < (l.length : Int) by omega), if_pos hp.2, w64 (by omega) (by omega)]
      rfl) h
  · intro i hi hp
    unfold memOk at hp
    refine ev_step (f := fun _ => some false) (fun k => ?_) (ev_some _)
    simp only [impl_areAlike.l0, rdf, rdf0, isValidField_is, sameShape_is, Option.bind_some]
    rw [if_pos (by omega), if_pos (by omega), if_pos (by omega)]
    cases h1 : fieldOk (l.getD i z29).f0 (l.getD i z29).f1 (l.getD i z29).f2 with
    | false => rfl
    | true =>
      rw [h1, Bool.true_and] at hp
      rw [if_pos rfl, if_pos (show (0 : Int) < (l.length : Int) by omega), hp]
      rfl
  · exact ev_step (f := fun _ => some true) (fun k => by
      simp only [impl_areAlike.l0]
      rw [if_neg (by omega)]) (ev_some _)
theorem isValidEnsemble_ev (l : List FF) (hl : l.length ≤ 9223372036854775806) : Ev (fun k => impl_IsValidEnsemble.f k l) (ensOk l) := by
  unfold impl_IsValidEnsemble.f ensOk
  rw [within_is]
  simp only [Option.bind_some]
  cases hb : inb (l.length : Int) 1 8 with
  | false => exact ev_ifn (by simp) (ev_some _)
  | true =>
    rw [Bool.true_and]
    exact ev_ifp rfl (ev_bind (areAlike_ev l hl) (ev_some _))
end Go.Proofs.Ytpggcolcabmdeaa.Pure
namespace Go.Proofs.Ytpggcolcabmdeaa.Pure
set_option linter.unusedVariables false
set_option linter.unusedSimpArgs false
open Go.RowKit Go.Proofs.YtpggcolcabmdeaaW.PrintWords Go.Proofs.YtpggcolcabmdeaaW.PrintLast
def pos (s : List Int) (x : Int) : Nat → Nat
  | 0 => 0
  | j + 1 => if s.getD j 0 > x then pos s x j else j + 1
theorem pos_le (s : List Int) (x : Int) : ∀ j, pos s x j ≤ j
  | 0 => Nat.le_refl _
  | j + 1 => by
    unfold pos
    split
    · have := pos_le s x j; omega
    · exact Nat.le_refl _
theorem pos_above (s : List Int) (x : Int) : ∀ j i, pos s x j ≤ i → i < j → s.getD i 0 > x
  | 0, i, _, h => by omega
  | j + 1, i, h1, h2 => by
    unfold pos at h1
    split at h1
    · rename_i hj
      by_cases e : i = j
      · rw [e]; exact hj
      · exact pos_above s x j i h1 (by omega)
    · omega
theorem pos_below (s : List Int) (x : Int) : ∀ j, 0 < pos s x j → s.getD (pos s x j - 1) 0 ≤ x
  | 0, h => by simp [pos] at h
  | j + 1, h => by
    unfold pos at h ⊢
    split
    · rename_i hj
      rw [if_pos hj] at h
      exact pos_below s x j h
    · rename_i hj
      rw [show j + 1 - 1 = j by omega]
      omega
def ins (s : List Int) (x : Int) : List Int := s.take (pos s x s.length) ++ (x :: s.drop (pos s x s.length))
theorem ins_perm (s : List Int) (x : Int) : (ins s x).Perm (x :: s) := by
  unfold ins
  have h : (s.take (pos s x s.length) ++ x :: s.drop (pos s x s.length)).Perm (x :: (s.take (pos s x s.length) ++ s.drop (pos s x s.length))) := List.perm_middle
  rw [List.take_append_drop] at h
  exact h
theorem ins_sorted (s : List Int) (x : Int) (h : s.Pairwise (· ≤ ·)) : (ins s x).Pairwise (· ≤ ·) := by
  have hp := pos_le s x s.length
  have ha := pos_above s x s.length
  have hb := pos_below s x s.length
  unfold ins
  generalize pos s x s.length = p at *
  have hidx := List.pairwise_iff_getElem.1 h
  rw [List.pairwise_append]
  refine ⟨h.sublist (List.take_sublist _ _), ?_, ?_⟩
  · rw [List.pairwise_cons]
    refine ⟨fun y hy => ?_, h.sublist (List.drop_sublist _ _)⟩
    obtain ⟨i, hi, rfl⟩ := List.getElem_of_mem hy
    rw [List.getElem_drop]
    have hl : p + i < s.length := by simp at hi; omega
    have := ha (p + i) (by omega) hl
    rw [getD_eq_get 0 hl] at this
    omega
  · intro y hy z hz
    obtain ⟨i, hi, rfl⟩ := List.getElem_of_mem hy
    rw [List.getElem_take]
    have hip : i < p := by simp at hi; omega
    have h0 := hb (by omega)
    have hl1 : p - 1 < s.length := by omega
    rw [getD_eq_get 0 hl1] at h0
    have hyx : s[i]'(by omega) ≤ x := by
      by_cases e : i = p - 1
      · subst e; exact h0
      · have := hidx i (p - 1) (by omega) hl1 (by omega)
        omega
    rcases List.mem_cons.1 hz with rfl | hz
    · exact hyx
    · obtain ⟨j, hj, rfl⟩ := List.getElem_of_mem hz
      rw [List.getElem_drop]
      have hl : p + j < s.length := by simp at hj; omega
      have := ha (p + j) (by omega) hl
      rw [getD_eq_get 0 hl] at this
      omega
end Go.Proofs.Ytpggcolcabmdeaa.Pure
namespace Go.Proofs.Ytpggcolcabmdeaa.Pure
set_option linter.unusedVariables false
set_option linter.unusedSimpArgs false
open Go.RowKit Go.Proofs.Ytpggcolcabmdeaa.P Go.Proofs.YtpggcolcabmdeaaW.PrintWords Go.Proofs.YtpggcolcabmdeaaW.PrintLast
def cellOf (l : List FF) (c i : Nat) : Int := (l.getD i z29).f2.getD c 0
def memStep (l : List FF) (c i : Nat) (s : List Int) : List Int := if cellOf l c i = -9999 then s else s ++ [cellOf l c i]
def insStep (l : List FF) (c i : Nat) (s : List Int) : List Int := if cellOf l c i = -9999 then s else ins s (cellOf l c i)
def vals (l : List FF) (c : Nat) : List Int := iter (memStep l c) 0 l.length []
def svals (l : List FF) (c : Nat) : List Int := iter (insStep l c) 0 l.length []
theorem vals_perm (l : List FF) (c : Nat) : (svals l c).Perm (vals l c) := by
  have key : ∀ d i (s t : List Int), s.Perm t → (iter (insStep l c) i d s).Perm (iter (memStep l c) i d t) := by
    intro d
    induction d with
    | zero => intro i s t h; exact h
    | succ d ih =>
      intro i s t h
      refine ih (i + 1) _ _ ?_
      unfold insStep memStep
      split
      · exact h
      · exact (ins_perm _ _).trans ((List.Perm.cons _ h).trans (List.perm_append_singleton _ _).symm)
  exact key _ _ _ _ (List.Perm.refl _)
theorem svals_sorted (l : List FF) (c : Nat) : (svals l c).Pairwise (· ≤ ·) :=
  iter_inv (insStep l c) (fun _ s => s.Pairwise (· ≤ ·)) l.length (fun i s h _ => by unfold insStep; split; exact h; exact ins_sorted s _ h) l.length 0 [] (by omega) List.Pairwise.nil
theorem vals_len (l : List FF) (c : Nat) : (vals l c).length ≤ l.length :=
  iter_inv (memStep l c) (fun i s => s.length ≤ i) l.length (fun i s h _ => by unfold memStep; split; omega; simp; omega) l.length 0 [] (by omega) (by simp)
theorem svals_len (l : List FF) (c : Nat) : (svals l c).length = (vals l c).length := (vals_perm l c).length_eq
theorem memberValues_ev (l : List FF) (c : Nat) (hl : l.length ≤ 17592186044415) (hc : ∀ i, i < l.length → c < (l.getD i z29).f2.length) (hc2 : c ≤ 9223372036854775806) : Ev (fun k => impl_memberValues.f k l (c : Int)) (vals l c) := by
  have h := loop_ev (fun k s i => impl_memberValues.l0 k (c : Int) s l (l.length : Int) (i : Int)) l.length (memStep l c) (fun s => s) (fun i s => s.length ≤ i)
    (fun i s r hI hi h => ev_step (fun k => by
      have := hc i hi
      simp only [impl_memberValues.l0, rdf, rd_nat]
      rw [if_pos (by omega), if_pos (by omega), if_pos (by omega), if_pos (by omega), if_pos (by omega), w64 (by omega) (by omega), if_pos (c := s.length < 17592186044416) (by omega)]
      show (if cellOf l c i = -9999 then _ else _) = impl_memberValues.l0 k (c : Int) (memStep l c i s) l (l.length : Int) ((i : Int) + 1)
      unfold memStep
      split <;> rfl) h)
    (fun i s hI _ => by unfold memStep; split; omega; simp; omega)
    (fun s hI => ev_step (f := fun _ => some s) (fun k => by
      simp only [impl_memberValues.l0]
      rw [if_neg (by omega)]) (ev_some _)) 0 [] (Nat.zero_le _) (by simp)
  exact h
theorem l9Values_ev (l : List FF) (c : Nat) (hl : l.length ≤ 17592186044000) (hc : ∀ i, i < l.length → c < (l.getD i z29).f2.length) (hc2 : c ≤ 9223372036854775806) : Ev (fun k => spec_l9Values.f k l (c : Int)) (svals l c) := by
  have inner : ∀ (s : List Int) (i : Nat) (x : Int) (r : List Int) (j : Nat), s.length ≤ 17592186044000 → j ≤ s.length → Ev (fun k => spec_l9Values.l0 k l (c : Int) (s.take (pos s x j) ++ (x :: s.drop (pos s x j))) (wrap64 ((i : Int) + 1))) r → Ev (fun k => spec_l9Values.l1 k l (c : Int) s (i : Int) x (j : Int)) r := by
    intro s i x r j hs
    induction j with
    | zero =>
      intro hj h
      refine ev_step (f := fun k => spec_l9Values.l0 k l (c : Int) (s.take 0 ++ (x :: s.drop 0)) (wrap64 ((i : Int) + 1))) (fun k => ?_) h
      simp only [spec_l9Values.l1, Option.bind_some]
      rw [if_neg (by omega), if_pos (by omega), if_pos (by omega), if_pos (by simp), if_pos (by simp), if_pos (by simp; omega)]
      simp
    | succ j ih =>
      intro hj h
      unfold pos at h
      have e1 : wrap64 (((j + 1 : Nat) : Int) - 1) = (j : Int) := by rw [w64 (by omega) (by omega)]; omega
      by_cases hg : s.getD j 0 > x
      · rw [if_pos hg] at h
        refine ev_step (fun k => ?_) (ih (by omega) h)
        simp only [spec_l9Values.l1]
        rw [if_pos (by omega), e1, if_pos (by omega), if_pos (by omega), rd_nat, if_pos hg]
      · rw [if_neg hg] at h
        refine ev_step (fun k => ?_) h
        simp only [spec_l9Values.l1, Option.bind_some]
        rw [if_pos (by omega), e1, if_pos (by omega), if_pos (by omega), rd_nat, if_neg hg, if_pos (by omega), if_pos (by omega), Int.toNat_natCast, if_pos (by simp; omega), if_pos (by simp; omega), if_pos (by simp; omega)]
        simp
  have h := loop_ev (fun k s i => spec_l9Values.l0 k l (c : Int) s (i : Int)) l.length (insStep l c) (fun s => s) (fun i s => s.length ≤ i)
    (fun i s r hI hi h => by
      have hci := hc i hi
      by_cases e : cellOf l c i = -9999
      · refine ev_step (fun k => ?_) h
        simp only [spec_l9Values.l0, rdf, rd_nat]
        rw [if_pos (by omega), if_pos (by omega), if_pos (by omega), if_pos (by omega), if_pos (c := (l.getD i z29).f2.getD c 0 = -9999) e, w64 (by omega) (by omega), insStep, if_pos e]
        rfl
      · have h2 := inner s i (cellOf l c i) r s.length (by omega) (Nat.le_refl _) (by
          rw [insStep, if_neg e, ins] at h
          rw [w64 (by omega) (by omega)]
          exact h)
        refine ev_step (fun k => ?_) h2
        simp only [spec_l9Values.l0, rdf, rd_nat]
        rw [if_pos (by omega), if_pos (by omega), if_pos (by omega), if_pos (by omega), if_neg (c := (l.getD i z29).f2.getD c 0 = -9999) e]
        rfl)
    (fun i s hI _ => by
      unfold insStep
      split
      · omega
      · rw [(ins_perm s _).length_eq, List.length_cons]; omega)
    (fun s hI => ev_step (f := fun _ => some s) (fun k => by
      simp only [spec_l9Values.l0]
      rw [if_neg (by omega)]) (ev_some _)) 0 [] (Nat.zero_le _) (by simp)
  exact h
def cntStep (l : List Int) (p : Int → Bool) (i : Nat) (n : Int) : Int := if p (l.getD i 0) = true then n + 1 else n
theorem cnt_iter (l : List Int) (p : Int → Bool) : ∀ d i (n : Int), i + d = l.length → iter (cntStep l p) i d n = n + ((l.drop i).countP p : Int) := by
  intro d
  induction d with
  | zero => intro i n h; rw [List.drop_of_length_le (by omega)]; simp [iter]
  | succ d ih =>
    intro i n h
    have hlt : i < l.length := by omega
    show iter (cntStep l p) (i + 1) d (cntStep l p i n) = _
    rw [ih (i + 1) _ (by omega), List.drop_eq_getElem_cons hlt, List.countP_cons, cntStep, getD_eq_get 0 hlt]
    split <;> simp_all <;> omega
theorem cnt_all (l : List Int) (p : Int → Bool) : iter (cntStep l p) 0 l.length 0 = (l.countP p : Int) := by
  rw [cnt_iter l p l.length 0 0 (by omega)]
  simp
theorem ens_is {l : List FF} (h : ensOk l = true) : (1 ≤ l.length ∧ l.length ≤ 8) ∧ ∀ i, i < l.length → FieldIs (l.getD i z29).f0 (l.getD i z29).f1 (l.getD i z29).f2 ∧ (l.getD i z29).f0 = (l.getD 0 z29).f0 ∧ (l.getD i z29).f1 = (l.getD 0 z29).f1 := by
  unfold ensOk at h
  rw [Bool.and_eq_true, inb_iff, List.all_eq_true] at h
  refine ⟨by omega, fun i hi => ?_⟩
  rw [getD_eq_get _ hi]
  have := h.2 _ (List.getElem_mem hi)
  unfold memOk at this
  rw [Bool.and_eq_true, Bool.and_eq_true] at this
  exact ⟨fieldOk_iff.1 this.1, of_decide_eq_true this.2.1, of_decide_eq_true this.2.2⟩
def wide0 (l : List FF) : Int := (l.getD 0 z29).f0
def high0 (l : List FF) : Int := (l.getD 0 z29).f1
theorem ens_shape {l : List FF} (h : ensOk l = true) : (1 ≤ wide0 l ∧ wide0 l ≤ 8) ∧ (1 ≤ high0 l ∧ high0 l ≤ 8) ∧ ∀ i, i < l.length → ((l.getD i z29).f2.length : Int) = wide0 l * high0 l := by
  obtain ⟨h1, h2⟩ := ens_is h
  have h0 := h2 0 (by omega)
  refine ⟨⟨h0.1.a1, h0.1.a8⟩, ⟨h0.1.b1, h0.1.b8⟩, fun i hi => ?_⟩
  have := (h2 i hi).1.len
  rw [(h2 i hi).2.1, (h2 i hi).2.2] at this
  exact this
theorem l13Threshold_is (x : Int) : spec_l13Threshold.f x = some (inb x (-9000) 9000) := by
  unfold spec_l13Threshold.f
  rw [l1In_is]
  rfl
def ensCell (l : List FF) (x y : Int) : Bool := ensOk l && (inb x 0 (wide0 l - 1) && inb y 0 (high0 l - 1))
theorem ensCell_iff {l : List FF} {x y : Int} (h : ensCell l x y = true) : ensOk l = true ∧ (0 ≤ x ∧ x ≤ wide0 l - 1) ∧ 0 ≤ y ∧ y ≤ high0 l - 1 := by
  unfold ensCell at h
  rw [Bool.and_eq_true, Bool.and_eq_true, inb_iff, inb_iff] at h
  exact h
theorem cell_at {l : List FF} {x y : Int} (h : ensCell l x y = true) : ∃ c : Nat, (c : Int) = y * wide0 l + x ∧ c < 64 ∧ ∀ i, i < l.length → c < (l.getD i z29).f2.length := by
  obtain ⟨ok, ⟨x0, x1⟩, y0, y1⟩ := ensCell_iff h
  obtain ⟨⟨w1, w8⟩, ⟨h1, h8⟩, hl⟩ := ens_shape ok
  have hb := mul_bd w1 w8 h1 h8
  have h0 : 0 ≤ y * wide0 l := Int.mul_nonneg y0 (by omega)
  have hup : y * wide0 l ≤ (high0 l - 1) * wide0 l := Int.mul_le_mul_of_nonneg_right (by omega) (by omega)
  have e : (high0 l - 1) * wide0 l = wide0 l * high0 l - wide0 l := by rw [Int.sub_mul, Int.one_mul, Int.mul_comm]
  obtain ⟨c, hc⟩ := Int.eq_ofNat_of_zero_le (show 0 ≤ y * wide0 l + x by omega)
  refine ⟨c, hc.symm, by omega, fun i hi => ?_⟩
  have := hl i hi
  omega
theorem isEnsembleCell_ev (l : List FF) (x y : Int) (hl : l.length ≤ 9223372036854775806) : Ev (fun k => impl_isEnsembleCell.f k l x y) (ensCell l x y) := by
  unfold impl_isEnsembleCell.f ensCell
  refine ev_bind (isValidEnsemble_ev l hl) ?_
  cases ok : ensOk l with
  | false => exact ev_ifn (by simp) (ev_some _)
  | true =>
    obtain ⟨⟨w1, w8⟩, ⟨h1, h8⟩, _⟩ := ens_shape ok
    obtain ⟨⟨n1, _⟩, _⟩ := ens_is ok
    rw [Bool.true_and]
    refine ev_ifp rfl (ev_ifp (by omega) (ev_bind (ev_const ?_) (ev_some _)))
    unfold impl_hasCell.f
    rw [rdf0]
    show (impl_within.f x 0 (wrap64 (wide0 l - 1))).bind _ = _
    rw [w64 (by omega) (by omega), within_is, Option.bind_some]
    show (if inb x 0 (wide0 l - 1) = true then (impl_within.f y 0 (wrap64 (high0 l - 1))).bind _ else _) = _
    rw [w64 (by omega) (by omega), within_is]
    cases inb x 0 (wide0 l - 1) <;> simp
theorem cell_index {l : List FF} {x y : Int} (h : ensCell l x y = true) (c : Nat) (hc : (c : Int) = y * wide0 l + x) (h64 : c < 64) : wrap64 (wrap64 (y * (rd_T29 l 0).f0) + x) = (c : Int) := by
  obtain ⟨ok, ⟨x0, x1⟩, y0, y1⟩ := ensCell_iff h
  obtain ⟨⟨w1, w8⟩, ⟨h1, h8⟩, hl⟩ := ens_shape ok
  rw [rdf0]
  show wrap64 (wrap64 (y * wide0 l) + x) = _
  have h0 : 0 ≤ y * wide0 l := Int.mul_nonneg y0 (by omega)
  rw [w64 (x := y * wide0 l) (by omega) (by omega), w64 (by omega) (by omega), hc]
theorem countAtLeast_ev (l : List Int) (x : Int) (hl : l.length ≤ 9223372036854775806) : Ev (fun k => impl_countAtLeast.f k l x) (l.countP (fun y => decide (y ≥ x)) : Int) := by
  rw [← cnt_all]
  exact loop_ev (fun k n i => impl_countAtLeast.l0 k x n l (l.length : Int) (i : Int)) l.length (cntStep l (fun y => decide (y ≥ x))) (fun n => n) (fun i n => 0 ≤ n ∧ n ≤ i)
    (fun i n r hI hi h => ev_step (fun k => by
      simp only [impl_countAtLeast.l0, rd_nat]
      rw [if_pos (by omega), if_pos (by omega), if_pos (by omega), w64 (x := (i : Int) + 1) (by omega) (by omega), w64 (x := n + 1) (by omega) (by omega)]
      show _ = impl_countAtLeast.l0 k x (cntStep l (fun y => decide (y ≥ x)) i n) l (l.length : Int) ((i : Int) + 1)
      unfold cntStep
      by_cases e : l.getD i 0 ≥ x
      · rw [if_pos e, if_pos (decide_eq_true e)]
      · rw [if_neg e, if_neg (by simpa using e)]) h)
    (fun i n hI _ => by unfold cntStep; split <;> omega)
    (fun n hI => ev_step (f := fun _ => some n) (fun k => by
      simp only [impl_countAtLeast.l0]
      rw [if_neg (by omega)]) (ev_some _)) 0 0 (Nat.zero_le _) (by omega)
theorem l9Least_ev (l : List Int) (x : Int) (hl : l.length ≤ 9223372036854775806) : Ev (fun k => spec_l9Least.f k l x) (l.countP (fun y => decide (y ≥ x)) : Int) := by
  rw [← cnt_all]
  exact loop_ev (fun k n i => spec_l9Least.l0 k l x n (i : Int)) l.length (cntStep l (fun y => decide (y ≥ x))) (fun n => n) (fun i n => 0 ≤ n ∧ n ≤ i)
    (fun i n r hI hi h => ev_step (fun k => by
      simp only [spec_l9Least.l0, rd_nat]
      rw [if_pos (by omega), if_pos (by omega), w64 (x := (i : Int) + 1) (by omega) (by omega), w64 (x := n + 1) (by omega) (by omega)]
      show _ = spec_l9Least.l0 k l x (cntStep l (fun y => decide (y ≥ x)) i n) ((i : Int) + 1)
      unfold cntStep
      by_cases e : l.getD i 0 ≥ x
      · rw [if_pos e, if_pos (decide_eq_true e)]
      · rw [if_neg e, if_neg (by simpa using e)]) h)
    (fun i n hI _ => by unfold cntStep; split <;> omega)
    (fun n hI => ev_step (f := fun _ => some n) (fun k => by
      simp only [spec_l9Least.l0]
      rw [if_neg (by omega)]) (ev_some _)) 0 0 (Nat.zero_le _) (by omega)
theorem chanceI_at (l : List FF) (x y t : Int) (c : Nat) (hc : (c : Int) = y * wide0 l + x) (hl : l.length ≤ 9223372036854775806) (h : ensCell l x y = true) (ht : inb t (-9000) 9000 = true) :
    Ev (fun k => impl_ChanceAt.f k l x y t) (((vals l c).countP (fun y => decide (y ≥ t)) : Int), ((vals l c).length : Int), true) := by
  have g2 := isEnsembleCell_ev l x y hl
  rw [h] at g2
  obtain ⟨c', hc', h64, hlen⟩ := cell_at h
  have e : c' = c := by omega
  subst e
  obtain ⟨⟨n1, n8⟩, _⟩ := ens_is (ensCell_iff h).1
  unfold impl_ChanceAt.f
  refine ev_bind g2 (ev_ifp rfl (ev_bind (ev_const (by rw [within_is, ht])) (ev_step (fun k => impl_ChanceAt.j0.eq_2 _ _ _ _ _ k) (ev_ifn (by simp) (ev_ifp (by omega) ?_)))))
  rw [cell_index h c' hc h64]
  refine ev_bind (memberValues_ev l c' (by omega) hlen (by omega)) ?_
  have hvl := vals_len l c'
  exact ev_bind (countAtLeast_ev (vals l c') t (by omega)) (ev_some _)
theorem vals_val {l : List FF} (ok : ensOk l = true) (c : Nat) (hc : ∀ i, i < l.length → c < (l.getD i z29).f2.length) : ∀ x ∈ vals l c, -9000 ≤ x ∧ x ≤ 9000 := by
  obtain ⟨_, hf⟩ := ens_is ok
  refine iter_inv (memStep l c) (fun _ s => ∀ x ∈ s, -9000 ≤ x ∧ x ≤ 9000) l.length (fun i s h hi => ?_) l.length 0 [] (by omega) (fun x hx => absurd hx (by simp))
  unfold memStep
  split
  · exact h
  · rename_i e
    intro x hx
    rcases List.mem_append.1 hx with hx | hx
    · exact h x hx
    · rw [List.mem_singleton.1 hx]
      have hci := hc i hi
      have := (hf i hi).1.cells _ (List.getElem_mem hci)
      unfold cellOf at e ⊢
      rw [getD_eq_get 0 hci] at e ⊢
      unfold cellOk at this
      rw [Bool.or_eq_true, decide_eq_true_eq, inb_iff] at this
      rcases this with e2 | e2
      · exact absurd e2 e
      · exact e2
theorem l2Own_is3 (a b : Int) (l : List Int) (hl : l.length < 17592186044416) : spec_l2Own.f a b l = some (a, b, l) := by
  unfold spec_l2Own.f spec_l1Own.f
  rw [Option.bind_some, if_pos (by simpa using hl)]
  rfl
structure EnsIs (l : List FF) (n : Nat) : Prop where
  n1 : 1 ≤ l.length ∧ l.length ≤ 8
  len : (l.getD 0 z29).f2.length = n
  n64 : n ≤ 64
  prod : (n : Int) = (l.getD 0 z29).f0 * (l.getD 0 z29).f1
  pos : 1 ≤ n
  cell : ∀ c, c < n → ∀ i, i < l.length → c < (l.getD i z29).f2.length
theorem ensIs {l : List FF} (ok : ensOk l = true) : ∃ n, EnsIs l n := by
  obtain ⟨n18, _⟩ := ens_is ok
  obtain ⟨⟨w1, w8⟩, ⟨h1, h8⟩, hlen⟩ := ens_shape ok
  have hb := mul_bd w1 w8 h1 h8
  have h0 := hlen 0 (by omega)
  refine ⟨(l.getD 0 z29).f2.length, n18, rfl, by omega, by rw [h0]; unfold wide0 high0; rfl, by omega, fun c hc i hi => ?_⟩
  have := hlen i hi
  omega
section
variable {l : List FF} {n : Nat} (e : EnsIs l n) (ok : ensOk l = true) (hl : l.length ≤ 9223372036854775806)
include e ok hl
omit ok hl in
theorem ensField_at (p : List Int → Option Int) (q : Nat → Int) (hp : ∀ c, c < n → (vals l c).length ≠ 0 → p (vals l c) = some (q c)) (hq : ∀ c, c < n → (vals l c).length = 0 → q c = -9999)
    (K : Nat) (hK : ∀ k, K ≤ k → ∀ c, c < n → impl_memberValues.f k l (c : Int) = some (vals l c)) (k : Nat) (hk : n < k) (a b : Int) :
    impl_ensembleField_at_mp_mpOwn.l0 p (k + K) l (n : Int) 0 a b (List.replicate n (-9999)) = some (a, b, tab n q, true) := by
  have h64 := e.n64
  have h := loop_at (fun k s i => impl_ensembleField_at_mp_mpOwn.l0 p (k + K) l (n : Int) (i : Int) a b s) n (fun i s => s.set i (q i)) (fun s => (a, b, s, true)) (fun i s => s.length = n ∧ ∀ j, i ≤ j → j < n → s.getD j 0 = -9999)
    (fun k i s hI hi => by
      have e1 := Aside0.mk (show wrap64 ((i : Int) + 1) = ((i + 1 : Nat) : Int) by rw [w64 (by omega) (by omega)]; rfl)
      have hs := hI.1
      show impl_ensembleField_at_mp_mpOwn.l0 p (k + 1 + K) l (n : Int) (i : Int) a b s = impl_ensembleField_at_mp_mpOwn.l0 p (k + K) l (n : Int) ((i + 1 : Nat) : Int) a b (s.set i (q i))
      rw [show k + 1 + K = (k + K) + 1 by omega]
      simp only [impl_ensembleField_at_mp_mpOwn.l0]
      rw [if_pos (by omega), hK (k + K) (by omega) i hi, Option.bind_some, e1.out]
      by_cases h0 : (vals l i).length = 0
      · rw [if_neg (by omega), hq i hi h0]
        congr 1
        refine eq_index 0 (by simp) (fun j hj => ?_)
        by_cases ej : j = i
        · subst ej
          rw [hI.2 j (Nat.le_refl _) hi]
          simp [List.getD, List.getElem?_set_self (show j < s.length by omega)]
        · simp [List.getD, List.getElem?_set_ne (Ne.symm ej)]
      · rw [if_pos (by omega), hp i hi h0, Option.bind_some, if_pos (by omega), if_pos (by omega), Int.toNat_natCast])
    (fun i s hI hi => ⟨by simpa using hI.1, fun j hj hjn => by
      rw [← hI.2 j (by omega) hjn]
      simp [List.getD, List.getElem?_set_ne (show i ≠ j by omega)]⟩)
    (fun k s hI => by
      show impl_ensembleField_at_mp_mpOwn.l0 p (k + 1 + K) l (n : Int) (n : Int) a b s = _
      rw [show k + 1 + K = (k + K) + 1 by omega]
      simp only [impl_ensembleField_at_mp_mpOwn.l0]
      rw [if_neg (by omega)]) n k 0 (List.replicate n (-9999)) (by omega) (Nat.zero_le _) ⟨by simp, fun j _ hj => by simp [List.getD, hj]⟩ hk
  rw [iter_set_tab 0 q n _ (by simp)] at h
  exact h
theorem ensField_ev (P : Nat → List Int → Option Int) (q : Nat → Int) (hp : ∀ c, c < n → (vals l c).length ≠ 0 → Ev (fun k => P k (vals l c)) (q c)) (hq : ∀ c, c < n → (vals l c).length = 0 → q c = -9999) :
    Ev (fun k => impl_ensembleField_at_mp_mpOwn.f k (P k) l) ((l.getD 0 z29).f0, (l.getD 0 z29).f1, tab n q, true) := by
  have g2 := isValidEnsemble_ev l hl
  rw [ok] at g2
  obtain ⟨K2, h2⟩ := g2
  obtain ⟨K1, h1⟩ := ev_all (fun k c => impl_memberValues.f k l (c : Int)) (fun c => vals l c) n (fun c hc => memberValues_ev l c (by have := e.n1; omega) (e.cell c hc) (by have := e.n64; omega))
  obtain ⟨K3, h3⟩ := ev_all (fun k c => if (vals l c).length = 0 then some (q c) else P k (vals l c)) q n (fun c hc => by
    by_cases h0 : (vals l c).length = 0
    · exact ev_ifp h0 (ev_some _)
    · exact ev_ifn h0 (hp c hc h0))
  refine ⟨K1 + K2 + K3 + 100, fun k hk => ?_⟩
  have ef := filled_is (l.getD 0 z29).f0 (l.getD 0 z29).f1 (-9999) (by have := e.prod; have := e.pos; omega) (by have := e.prod; have := e.n64; omega)
  have et : ((l.getD 0 z29).f0 * (l.getD 0 z29).f1).toNat = n := by have := e.prod; omega
  rw [et] at ef
  have n64 := e.n64
  have hat := ensField_at e (P k) q (fun c hc h0 => by
    have := h3 k (by omega) c hc
    rw [if_neg h0] at this
    exact this) hq K1 h1 (k - K1) (by omega) (l.getD 0 z29).f0 (l.getD 0 z29).f1
  rw [show k - K1 + K1 = k by omega] at hat
  have h2' : impl_IsValidEnsemble.f k l = some true := h2 k (by omega)
  show impl_ensembleField_at_mp_mpOwn.f k (P k) l = _
  unfold impl_ensembleField_at_mp_mpOwn.f
  rw [h2', Option.bind_some, if_pos rfl, if_pos (by have := e.n1; omega), rdf0, ef, Option.bind_some]
  simp only [List.length_replicate]
  exact hat
omit ok hl in
theorem ensSpec_ev (F : Nat → List Int → Nat → Option (Int × Int × List Int × Bool)) (q : Nat → Int)
    (hs : ∀ i s r, s.length = n → i < n → Ev (fun k => F k (s.set i (q i)) (i + 1)) r → Ev (fun k => F k s i) r)
    (he : ∀ s, s.length = n → Ev (fun k => F k s n) ((l.getD 0 z29).f0, (l.getD 0 z29).f1, s, true)) :
    Ev (fun k => F k (l.getD 0 z29).f2 0) ((l.getD 0 z29).f0, (l.getD 0 z29).f1, tab n q, true) := by
  have h := loop_ev F n (fun i s => s.set i (q i)) (fun s => ((l.getD 0 z29).f0, (l.getD 0 z29).f1, s, true)) (fun _ s => s.length = n)
    (fun i s r hI hi h => hs i s r hI hi h)
    (fun i s hI _ => by simpa using hI)
    (fun s hI => he s hI) 0 (l.getD 0 z29).f2 (Nat.zero_le _) e.len
  rw [Nat.sub_zero, iter_set_tab 0 q n _ e.len] at h
  exact h
end
def countQ (l : List FF) (t : Int) (c : Nat) : Int := if (vals l c).length = 0 then -9999 else ((vals l c).countP (fun y => decide (y ≥ t)) : Int)
theorem count_cases (l : List FF) (t : Int) (hl : l.length ≤ 9223372036854775806) (hs : ∀ f ∈ l, f.f2.length ≤ 9223372036854775806) :
    ∃ r : Int × Int × List Int × Bool, Ev (fun k => spec_CountAtLeast.f k l t) r ∧ Ev (fun k => impl_CountAtLeast.f k l t) r ∧ r.2.2.1.length ≤ 64 ∧
      (r = (0, 0, [], false) ∨ (ensOk l = true ∧ inb t (-9000) 9000 = true ∧ ∃ n, EnsIs l n ∧ r = ((l.getD 0 z29).f0, (l.getD 0 z29).f1, tab n (countQ l t), true))) := by
  have g1 := l9Good_ev l hl hs
  have g2 := isValidEnsemble_ev l hl
  have no : Ev (fun k => spec_CountAtLeast.j0 k l t true) (0, 0, ([] : List Int), false) := ev_step (fun k => spec_CountAtLeast.j0.eq_2 _ _ _ k) (ev_ifp rfl (ev_some _))
  unfold spec_CountAtLeast.f impl_CountAtLeast.f
  rw [within_is, l13Threshold_is]
  cases ok : ensOk l with
  | false =>
    rw [ok] at g1 g2
    refine ⟨(0, 0, [], false), ev_bind g1 (ev_ifn (by simp) no), ?_, by simp, .inl rfl⟩
    cases ht : inb t (-9000) 9000 with
    | false => exact ev_bind (ev_some _) (ev_ifn (by simp) (ev_some _))
    | true =>
      refine ev_bind (ev_some _) (ev_ifp rfl (ev_bind (r := (0, 0, [], false)) ?_ (ev_some _)))
      unfold impl_ensembleField_at_mp_mpOwn.f
      exact ev_bind g2 (ev_ifn (by simp) (ev_some _))
  | true =>
    rw [ok] at g1
    cases ht : inb t (-9000) 9000 with
    | false => exact ⟨(0, 0, [], false), ev_bind g1 (ev_ifp rfl (ev_bind (ev_some _) no)), ev_bind (ev_some _) (ev_ifn (by simp) (ev_some _)), by simp, .inl rfl⟩
    | true =>
      obtain ⟨n, e⟩ := ensIs ok
      have n64 := e.n64
      have n18 := e.n1
      refine ⟨((l.getD 0 z29).f0, (l.getD 0 z29).f1, tab n (countQ l t), true), ?_, ?_, by show (tab n (countQ l t)).length ≤ 64; rw [tab_length]; exact n64, .inr ⟨rfl, rfl, n, e, rfl⟩⟩
      · refine ev_bind g1 (ev_ifp rfl (ev_bind (ev_some _) (ev_step (fun k => spec_CountAtLeast.j0.eq_2 _ _ _ k) (ev_ifn (by simp) (ev_ifp (by omega) ?_)))))
        rw [rdf0]
        refine ev_bind (ev_const (l2Own_is3 _ _ _ (by have := e.len; omega))) ?_
        refine ensSpec_ev e (fun k s i => spec_CountAtLeast.l0 k l t (i : Int) (l.getD 0 z29).f0 (l.getD 0 z29).f1 s) (countQ l t) (fun i s r hI hi h => ?_) (fun s hI => ev_step (fun k => spec_CountAtLeast.l0.eq_2 _ _ _ _ _ _ k) (ev_ifn (by omega) (ev_some _)))
        have e1 := Aside0.mk (show wrap64 ((i : Int) + 1) = ((i + 1 : Nat) : Int) by rw [w64 (by omega) (by omega)]; rfl)
        have sl := svals_len l i
        have vl := vals_len l i
        unfold countQ at h
        refine ev_step (fun k => spec_CountAtLeast.l0.eq_2 _ _ _ _ _ _ k) (ev_ifp (by omega) (ev_bind (l9Values_ev l i (by omega) (e.cell i hi) (by omega)) (ev_ifp (by omega) (ev_bind (ev_some _) ?_))))
        rw [e1.out, Int.toNat_natCast]
        by_cases h0 : (vals l i).length = 0
        · rw [if_pos h0] at h
          exact ev_ifn (by omega) h
        · rw [if_neg h0, ← (vals_perm l i).countP_eq] at h
          refine ev_ifp (by omega) (ev_bind (l9Least_ev (svals l i) t (by omega)) ?_)
          rw [List.set_set]
          exact h
      · refine ev_bind (ev_some _) (ev_ifp rfl (ev_bind (ensField_ev e ok hl (fun k z0_ => impl_CountAtLeast_1.f k z0_ t) (countQ l t) (fun c hc h0 => ?_) (fun c hc h0 => ?_)) (ev_some _)))
        · have vl := vals_len l c
          unfold impl_CountAtLeast_1.f countQ
          rw [if_neg h0]
          exact ev_bind (countAtLeast_ev (vals l c) t (by omega)) (ev_some _)
        · unfold countQ
          rw [if_pos h0]
end Go.Proofs.Ytpggcolcabmdeaa.Pure
namespace Go.Proofs.Ytpggcolcabmdeaa.Pure
set_option linter.unusedVariables false
set_option linter.unusedSimpArgs false
open Go.RowKit Go.Proofs.Ytpggcolcabmdeaa.P Go.Proofs.YtpggcolcabmdeaaW.PrintWords Go.Proofs.YtpggcolcabmdeaaW.PrintLast Go.Proofs.YtpggcolcabmdeaaW.PrintMore
theorem sorted_unique : ∀ {s t : List Int}, s.Pairwise (· ≤ ·) → t.Pairwise (· ≤ ·) → s.Perm t → s = t
  | [], t, _, _, hp => (List.nil_perm.1 hp).symm
  | a :: s, [], _, _, hp => absurd (List.perm_nil.1 hp) (by simp)
  | a :: s, b :: t, h1, h2, hp => by
    rw [List.pairwise_cons] at h1 h2
    have ha : a ∈ b :: t := hp.mem_iff.1 (List.mem_cons_self ..)
    have hb : b ∈ a :: s := hp.mem_iff.2 (List.mem_cons_self ..)
    have hab : a = b := by
      rcases List.mem_cons.1 ha with e | e
      · exact e
      · rcases List.mem_cons.1 hb with e2 | e2
        · exact e2.symm
        · exact Int.le_antisymm (h1.1 b e2) (h2.1 a e)
    subst hab
    rw [sorted_unique h1.2 h2.2 (List.perm_cons a |>.1 hp)]
theorem srt_eq {s l : List Int} (hp : s.Perm l) (hs : s.Pairwise (· ≤ ·)) : srt l = s := by
  refine sorted_unique ?_ hs ((List.mergeSort_perm l _).trans hp.symm)
  have := List.pairwise_mergeSort (le := fun x y : Int => decide (x ≤ y)) (fun a b c h1 h2 => by simp only [decide_eq_true_eq] at *; omega) (fun a b => by simp; omega) l
  exact this.imp (fun h => by simpa using h)
def quantV (s : List Int) (a b : Int) : Int := if 1 < quantAt s.length a b then rd s (wrap64 (quantAt s.length a b - 1)) else rd s 0
def quantQ (l : List FF) (a b : Int) (c : Nat) : Int := if (vals l c).length = 0 then -9999 else quantV (svals l c) a b
theorem quantile_cases (l : List FF) (a b : Int) (hl : l.length ≤ 9223372036854775806) (hs : ∀ f ∈ l, f.f2.length ≤ 9223372036854775806) :
    ∃ r : Int × Int × List Int × Bool, Ev (fun k => spec_QuantileField.f k l a b) r ∧ Ev (fun k => impl_QuantileField.f k l a b) r ∧ r.2.2.1.length ≤ 64 ∧
      ((r = (0, 0, [], false) ∧ (inb b 1 100 && (inb a 0 b && ensOk l)) = false) ∨ (ensOk l = true ∧ ∃ n, EnsIs l n ∧ r = ((l.getD 0 z29).f0, (l.getD 0 z29).f1, tab n (quantQ l a b), true))) := by
  have g1 := l9Good_ev l hl hs
  have g2 := isValidEnsemble_ev l hl
  have no : Ev (fun k => spec_QuantileField.j0 k l a b true) (0, 0, ([] : List Int), false) := ev_step (fun k => spec_QuantileField.j0.eq_2 _ _ _ _ k) (ev_ifp rfl (ev_some _))
  unfold spec_QuantileField.f impl_QuantileField.f
  rw [within_is, within_is, l1In_is, l1In_is]
  cases hb : inb b 1 100 with
  | false =>
    refine ⟨(0, 0, [], false), ?_, ev_bind (ev_some _) (ev_ifn (by simp) (ev_some _)), by simp, .inl ⟨rfl, rfl⟩⟩
    cases ok : ensOk l with
    | false => rw [ok] at g1; exact ev_bind g1 (ev_ifn (by simp) no)
    | true => rw [ok] at g1; exact ev_bind g1 (ev_ifp rfl (ev_bind (ev_some _) (ev_ifn (by simp) no)))
  | true =>
    cases ha : inb a 0 b with
    | false =>
      refine ⟨(0, 0, [], false), ?_, ev_bind (ev_some _) (ev_ifp rfl (ev_bind (ev_some _) (ev_ifn (by simp) (ev_some _)))), by simp, .inl ⟨rfl, rfl⟩⟩
      cases ok : ensOk l with
      | false => rw [ok] at g1; exact ev_bind g1 (ev_ifn (by simp) no)
      | true => rw [ok] at g1; exact ev_bind g1 (ev_ifp rfl (ev_bind (ev_some _) (ev_ifp rfl (ev_bind (ev_some _) no))))
    | true =>
      cases ok : ensOk l with
      | false =>
        rw [ok] at g1 g2
        refine ⟨(0, 0, [], false), ev_bind g1 (ev_ifn (by simp) no), ev_bind (ev_some _) (ev_ifp rfl (ev_bind (ev_some _) (ev_ifp rfl (ev_bind (r := (0, 0, [], false)) ?_ (ev_some _))))), by simp, .inl ⟨rfl, rfl⟩⟩
        unfold impl_ensembleField_at_mp_mpOwn.f
        exact ev_bind g2 (ev_ifn (by simp) (ev_some _))
      | true =>
        rw [ok] at g1
        have b1 := inb_iff.1 hb
        have a1 := inb_iff.1 ha
        obtain ⟨n, e⟩ := ensIs ok
        have n64 := e.n64
        have n18 := e.n1
        refine ⟨((l.getD 0 z29).f0, (l.getD 0 z29).f1, tab n (quantQ l a b), true), ?_, ?_, by show (tab n (quantQ l a b)).length ≤ 64; rw [tab_length]; exact n64, .inr ⟨rfl, n, e, rfl⟩⟩
        · refine ev_bind g1 (ev_ifp rfl (ev_bind (ev_some _) (ev_ifp rfl (ev_bind (ev_some _) (ev_step (fun k => spec_QuantileField.j0.eq_2 _ _ _ _ k) (ev_ifn (by simp) (ev_ifp (by omega) ?_)))))))
          rw [rdf0]
          refine ev_bind (ev_const (l2Own_is3 _ _ _ (by have := e.len; omega))) ?_
          refine ensSpec_ev e (fun k s i => spec_QuantileField.l0 k l a b (i : Int) (l.getD 0 z29).f0 (l.getD 0 z29).f1 s) (quantQ l a b) (fun i s r hI hi h => ?_) (fun s hI => ev_step (fun k => spec_QuantileField.l0.eq_2 _ _ _ _ _ _ _ k) (ev_ifn (by omega) (ev_some _)))
          have e1 := Aside0.mk (show wrap64 ((i : Int) + 1) = ((i + 1 : Nat) : Int) by rw [w64 (by omega) (by omega)]; rfl)
          have vl := vals_len l i
          have sl := svals_len l i
          unfold quantQ at h
          refine ev_step (fun k => spec_QuantileField.l0.eq_2 _ _ _ _ _ _ _ k) (ev_ifp (by omega) (ev_bind (l9Values_ev l i (by omega) (e.cell i hi) (by omega)) (ev_ifp (by omega) (ev_bind (ev_some _) ?_))))
          rw [e1.out, Int.toNat_natCast]
          by_cases h0 : (vals l i).length = 0
          · rw [if_pos h0] at h
            exact ev_ifn (by omega) h
          · rw [if_neg h0] at h
            unfold quantV at h
            refine ev_ifp (by omega) (ev_ifn (by omega) ?_)
            rw [show wrap64 (Int.tdiv (wrap64 ((wrap64 ((wrap64 (a * ((svals l i).length : Int))) + b)) - 1)) b) = quantAt (svals l i).length a b from rfl]
            obtain ⟨-, q0, q1⟩ := quantAt_is (n := (svals l i).length) (a := a) (b := b) (by omega) a1.1 a1.2 b1.1 b1.2
            generalize quantAt (svals l i).length a b = q at q0 q1 h ⊢
            by_cases hq : 1 < q
            · rw [if_pos hq] at h
              have em : spec_l1Most.f q 1 = some q := by unfold spec_l1Most.f; rw [if_pos (by omega)]
              refine ev_bind (ev_const em) ?_
              simp only [List.set_set]
              exact ev_ifp (by rw [w64 (by omega) (by omega)]; omega) (ev_ifp (by rw [w64 (by omega) (by omega)]; omega) h)
            · rw [if_neg hq] at h
              have em : spec_l1Most.f q 1 = some 1 := by unfold spec_l1Most.f; rw [if_neg (by omega)]
              refine ev_bind (ev_const em) ?_
              have w1 : wrap64 (1 - 1) = 0 := by rw [w64 (by omega) (by omega)]; rfl
              simp only [List.set_set, w1]
              exact ev_ifp (by omega) (ev_ifp (by omega) h)
        · refine ev_bind (ev_some _) (ev_ifp rfl (ev_bind (ev_some _) (ev_ifp rfl (ev_bind (ensField_ev e ok hl (fun k z0_ => impl_QuantileField_1.f z0_ a b) (quantQ l a b) (fun c hc h0 => ev_const ?_) (fun c hc h0 => ?_)) (ev_some _)))))
          · have vl := vals_len l c
            have hp := vals_perm l c
            unfold impl_QuantileField_1.f quantQ quantV
            rw [if_pos ⟨by omega, by omega, a1.1, a1.2, b1.1, b1.2⟩, if_neg h0, srt_eq hp (svals_sorted l c), hp.length_eq]
          · unfold quantQ
            rw [if_pos h0]
theorem quantile_both (l : List FF) (a b : Int) (hl : l.length ≤ 9223372036854775806) (hs : ∀ f ∈ l, f.f2.length ≤ 9223372036854775806) :
    ∃ r, Ev (fun k => spec_QuantileField.f k l a b) r ∧ Ev (fun k => impl_QuantileField.f k l a b) r ∧ r.2.2.1.length ≤ 64 := by
  obtain ⟨r, h1, h2, h3, _⟩ := quantile_cases l a b hl hs
  exact ⟨r, h1, h2, h3⟩
end Go.Proofs.Ytpggcolcabmdeaa.Pure
namespace Go.Proofs.Ytpggcolcabmdeaa.Pure
set_option linter.unusedVariables false
set_option linter.unusedSimpArgs false
open Go.RowKit Go.Proofs.YtpggcolcabmdeaaW.PrintWords Go.Proofs.YtpggcolcabmdeaaW.PrintLast Go.Proofs.YtpggcolcabmdeaaW.PrintMore
theorem mn_is (a b : Int) : mn a b = min a b := by unfold mn; omega
theorem mx_is (a b : Int) : mx a b = max a b := by unfold mx; omega
end Go.Proofs.Ytpggcolcabmdeaa.Pure
namespace Go.Proofs.Ytpggcolcabmdeaa.Pure
set_option linter.unusedVariables false
set_option linter.unusedSimpArgs false
open Go.RowKit Go.Proofs.Ytpggcolcabmdeaa.P Go.Proofs.YtpggcolcabmdeaaW.PrintWords Go.Proofs.YtpggcolcabmdeaaW.PrintLast Go.Proofs.YtpggcolcabmdeaaW.PrintMore
theorem max_ev (l : List Int) (h1 : 1 ≤ l.length) (h2 : l.length ≤ 1000) : ∃ m, Ev (fun k => slices_Max_int_int.f k l) m ∧ m ∈ l ∧ ∀ x ∈ l, x ≤ m := by
  have mem : ∀ i, i < l.length → l.getD i 0 ∈ l := fun i hi => by rw [getD_eq_get 0 hi]; exact List.getElem_mem hi
  have step : ∀ i s, (s ∈ l ∧ ∀ j, j < i → l.getD j 0 ≤ s) → i < l.length → (max s (l.getD i 0) ∈ l ∧ ∀ j, j < i + 1 → l.getD j 0 ≤ max s (l.getD i 0)) := by
    intro i s hI hi
    refine ⟨?_, fun j hj => ?_⟩
    · by_cases e : s ≤ l.getD i 0
      · rw [Int.max_eq_right e]; exact mem i hi
      · rw [Int.max_eq_left (by omega)]; exact hI.1
    · by_cases e : j = i
      · subst e; omega
      · have := hI.2 j (by omega); omega
  have start : (l.getD 0 0 ∈ l ∧ ∀ j, j < 1 → l.getD j 0 ≤ l.getD 0 0) := ⟨mem 0 (by omega), fun j hj => by
    obtain rfl : j = 0 := by omega
    exact Int.le_refl _⟩
  have h := loop_ev (fun k s i => slices_Max_int_int.l0 k l s (i : Int)) l.length (fun i s => max s (l.getD i 0)) (fun s => s) (fun i s => s ∈ l ∧ ∀ j, j < i → l.getD j 0 ≤ s)
    (fun i s r hI hi h => ev_step (fun k => by
      simp only [slices_Max_int_int.l0]
      rw [if_pos (by omega), if_pos (by omega), rd_nat, mx_is, w64 (by omega) (by omega)]
      rfl) h)
    (fun i s hI hi => step i s hI hi)
    (fun s hI => ev_step (f := fun _ => some s) (fun k => by
      simp only [slices_Max_int_int.l0]
      rw [if_neg (by omega)]) (ev_some _)) 1 (l.getD 0 0) h1 start
  obtain ⟨i1, i2⟩ := iter_inv (fun i s => max s (l.getD i 0)) (fun i s => s ∈ l ∧ ∀ j, j < i → l.getD j 0 ≤ s) l.length (fun i s hI hi => step i s hI hi) (l.length - 1) 1 (l.getD 0 0) (by omega) start
  refine ⟨_, ?_, i1, fun x hx => ?_⟩
  · unfold slices_Max_int_int.f
    exact ev_ifn (by omega) (ev_ifp (by omega) h)
  · obtain ⟨j, hj, rfl⟩ := List.getElem_of_mem hx
    have := i2 j hj
    rw [getD_eq_get 0 hj] at this
    exact this
theorem last_max {s : List Int} (hs : s.Pairwise (· ≤ ·)) (h1 : 1 ≤ s.length) : s.getD (s.length - 1) 0 ∈ s ∧ ∀ x ∈ s, x ≤ s.getD (s.length - 1) 0 := by
  rw [getD_eq_get 0 (show s.length - 1 < s.length by omega)]
  refine ⟨List.getElem_mem _, fun x hx => ?_⟩
  obtain ⟨j, hj, rfl⟩ := List.getElem_of_mem hx
  by_cases e : j = s.length - 1
  · subst e; exact Int.le_refl _
  · exact List.pairwise_iff_getElem.1 hs j (s.length - 1) hj (by omega) (by omega)
theorem min_ev (l : List Int) (h1 : 1 ≤ l.length) (h2 : l.length ≤ 1000) : ∃ m, Ev (fun k => slices_Min_int_int.f k l) m ∧ m ∈ l ∧ ∀ x ∈ l, m ≤ x := by
  have mem : ∀ i, i < l.length → l.getD i 0 ∈ l := fun i hi => by rw [getD_eq_get 0 hi]; exact List.getElem_mem hi
  have step : ∀ i s, (s ∈ l ∧ ∀ j, j < i → s ≤ l.getD j 0) → i < l.length → (min s (l.getD i 0) ∈ l ∧ ∀ j, j < i + 1 → min s (l.getD i 0) ≤ l.getD j 0) := by
    intro i s hI hi
    refine ⟨?_, fun j hj => ?_⟩
    · by_cases e : s ≤ l.getD i 0
      · rw [Int.min_eq_left e]; exact hI.1
      · rw [Int.min_eq_right (by omega)]; exact mem i hi
    · by_cases e : j = i
      · subst e; omega
      · have := hI.2 j (by omega); omega
  have start : (l.getD 0 0 ∈ l ∧ ∀ j, j < 1 → l.getD 0 0 ≤ l.getD j 0) := ⟨mem 0 (by omega), fun j hj => by
    obtain rfl : j = 0 := by omega
    exact Int.le_refl _⟩
  have h := loop_ev (fun k s i => slices_Min_int_int.l0 k l s (i : Int)) l.length (fun i s => min s (l.getD i 0)) (fun s => s) (fun i s => s ∈ l ∧ ∀ j, j < i → s ≤ l.getD j 0)
    (fun i s r hI hi h => ev_step (fun k => by
      simp only [slices_Min_int_int.l0]
      rw [if_pos (by omega), if_pos (by omega), rd_nat, mn_is, w64 (by omega) (by omega)]
      rfl) h)
    (fun i s hI hi => step i s hI hi)
    (fun s hI => ev_step (f := fun _ => some s) (fun k => by
      simp only [slices_Min_int_int.l0]
      rw [if_neg (by omega)]) (ev_some _)) 1 (l.getD 0 0) h1 start
  obtain ⟨i1, i2⟩ := iter_inv (fun i s => min s (l.getD i 0)) (fun i s => s ∈ l ∧ ∀ j, j < i → s ≤ l.getD j 0) l.length (fun i s hI hi => step i s hI hi) (l.length - 1) 1 (l.getD 0 0) (by omega) start
  refine ⟨_, ?_, i1, fun x hx => ?_⟩
  · unfold slices_Min_int_int.f
    exact ev_ifn (by omega) (ev_ifp (by omega) h)
  · obtain ⟨j, hj, rfl⟩ := List.getElem_of_mem hx
    have := i2 j hj
    rw [getD_eq_get 0 hj] at this
    exact this
theorem first_min {s : List Int} (hs : s.Pairwise (· ≤ ·)) (h1 : 1 ≤ s.length) : s.getD 0 0 ∈ s ∧ ∀ x ∈ s, s.getD 0 0 ≤ x := by
  rw [getD_eq_get 0 (show 0 < s.length by omega)]
  refine ⟨List.getElem_mem _, fun x hx => ?_⟩
  obtain ⟨j, hj, rfl⟩ := List.getElem_of_mem hx
  by_cases e : j = 0
  · subst e; exact Int.le_refl _
  · exact List.pairwise_iff_getElem.1 hs 0 j (by omega) hj (by omega)
def spreadQ (l : List FF) (c : Nat) : Int := if (vals l c).length = 0 then -9999 else min 9000 ((svals l c).getD ((svals l c).length - 1) 0 - (svals l c).getD 0 0)
theorem spreadI (l : List FF) (hl : l.length ≤ 9223372036854775806) (hs : ∀ f ∈ l, f.f2.length ≤ 9223372036854775806) :
    ∃ r : Int × Int × List Int × Bool, Ev (fun k => impl_SpreadField.f k l) r ∧ r.2.2.1.length ≤ 64 ∧
      ((r = (0, 0, [], false) ∧ ensOk l = false) ∨ (ensOk l = true ∧ ∃ n, EnsIs l n ∧ r = ((l.getD 0 z29).f0, (l.getD 0 z29).f1, tab n (spreadQ l), true))) := by
  have g2 := isValidEnsemble_ev l hl
  unfold impl_SpreadField.f
  cases ok : ensOk l with
  | false =>
    rw [ok] at g2
    refine ⟨(0, 0, [], false), ev_bind (r := (0, 0, [], false)) ?_ (ev_some _), by simp, .inl ⟨rfl, rfl⟩⟩
    unfold impl_ensembleField_at_mp_mpOwn.f
    exact ev_bind g2 (ev_ifn (by simp) (ev_some _))
  | true =>
    obtain ⟨n, e⟩ := ensIs ok
    have n64 := e.n64
    have n18 := e.n1
    have bd : ∀ c, c < n → (vals l c).length ≠ 0 → (-9000 ≤ (svals l c).getD ((svals l c).length - 1) 0 ∧ (svals l c).getD ((svals l c).length - 1) 0 ≤ 9000) ∧ -9000 ≤ (svals l c).getD 0 0 ∧ (svals l c).getD 0 0 ≤ 9000 := fun c hc h0 => by
      have sl := svals_len l c
      have hv := vals_val ok c (e.cell c hc)
      have hp := vals_perm l c
      exact ⟨hv _ (hp.mem_iff.1 (last_max (svals_sorted l c) (by omega)).1), hv _ (hp.mem_iff.1 (first_min (svals_sorted l c) (by omega)).1)⟩
    refine ⟨((l.getD 0 z29).f0, (l.getD 0 z29).f1, tab n (spreadQ l), true), ?_, by show (tab n (spreadQ l)).length ≤ 64; rw [tab_length]; exact n64, .inr ⟨rfl, n, e, rfl⟩⟩
    · refine ev_bind (ensField_ev e ok hl (fun k z0_ => impl_SpreadField_1.f k z0_) (spreadQ l) (fun c hc h0 => ?_) (fun c hc h0 => ?_)) (ev_some _)
      · have vl := vals_len l c
        have sl := svals_len l c
        have hp := vals_perm l c
        have b := bd c hc h0
        obtain ⟨a1, a2⟩ := last_max (svals_sorted l c) (by omega)
        obtain ⟨a3, a4⟩ := first_min (svals_sorted l c) (by omega)
        obtain ⟨m, hm, m1, m2⟩ := max_ev (vals l c) (by omega) (by omega)
        obtain ⟨m', hm', m3, m4⟩ := min_ev (vals l c) (by omega) (by omega)
        have em : m = (svals l c).getD ((svals l c).length - 1) 0 := Int.le_antisymm (a2 _ (hp.mem_iff.2 m1)) (m2 _ (hp.mem_iff.1 a1))
        have em' : m' = (svals l c).getD 0 0 := Int.le_antisymm (m4 _ (hp.mem_iff.1 a3)) (a4 _ (hp.mem_iff.2 m3))
        subst em em'
        unfold impl_SpreadField_1.f spreadQ
        rw [if_neg h0]
        refine ev_bind hm (ev_bind hm' (ev_const ?_))
        rw [mn_is, w64 (by omega) (by omega)]
      · unfold spreadQ
        rw [if_pos h0]
def tot : List Int → Int
  | [] => 0
  | x :: l => x + tot l
theorem tot_append : ∀ l m : List Int, tot (l ++ m) = tot l + tot m
  | [], m => by simp [tot]
  | x :: l, m => by simp only [List.cons_append, tot]; rw [tot_append l m]; omega
theorem tot_perm {l m : List Int} (h : l.Perm m) : tot l = tot m := by
  induction h with
  | nil => rfl
  | cons x _ ih => simp only [tot]; rw [ih]
  | swap x y l => simp only [tot]; omega
  | trans _ _ h1 h2 => exact h1.trans h2
theorem tot_bd : ∀ l : List Int, (∀ x ∈ l, -9000 ≤ x ∧ x ≤ 9000) → -9000 * (l.length : Int) ≤ tot l ∧ tot l ≤ 9000 * (l.length : Int)
  | [], _ => by simp [tot]
  | x :: l, h => by
    have h1 := h x (List.mem_cons_self ..)
    have h2 := tot_bd l (fun y hy => h y (List.mem_cons_of_mem _ hy))
    simp only [tot, List.length_cons]
    omega
theorem tot_take (l : List Int) (i : Nat) (hi : i < l.length) : tot (l.take (i + 1)) = tot (l.take i) + l.getD i 0 := by
  rw [List.take_add_one, tot_append, getD_eq_get 0 hi, List.getElem?_eq_getElem hi]
  simp [tot]
theorem tot_iter (l : List Int) : iter (fun i s => s + l.getD i 0) 0 l.length 0 = tot l := by
  have := iter_inv (fun i s => s + l.getD i 0) (fun i s => s = tot (l.take i)) l.length (fun i s hI hi => by rw [tot_take l i hi, hI]) l.length 0 0 (by omega) rfl
  rw [this, List.take_length]
theorem take_bd {l : List Int} (h : ∀ x ∈ l, -9000 ≤ x ∧ x ≤ 9000) (hn : l.length ≤ 64) (i : Nat) : -576000 ≤ tot (l.take i) ∧ tot (l.take i) ≤ 576000 := by
  have := tot_bd (l.take i) (fun x hx => h x (List.mem_of_mem_take hx))
  have e : (l.take i).length ≤ 64 := by rw [List.length_take]; omega
  omega
theorem val_bd {l : List Int} (h : ∀ x ∈ l, -9000 ≤ x ∧ x ≤ 9000) {i : Nat} (hi : i < l.length) : -9000 ≤ l.getD i 0 ∧ l.getD i 0 ≤ 9000 := by
  rw [getD_eq_get 0 hi]; exact h _ (List.getElem_mem hi)
theorem sumOf_ev2 {l : List Int} (h : ∀ x ∈ l, -9000 ≤ x ∧ x ≤ 9000) (hn : l.length ≤ 64) : Ev (fun k => impl_sumOf.f k l) (tot l) := by
  have := loop_ev (fun k s i => impl_sumOf.l0 k s l (l.length : Int) (i : Int)) l.length (fun i s => s + l.getD i 0) (fun s => s) (fun i s => s = tot (l.take i))
    (fun i s r hI hi hh => by
      have b1 := take_bd h hn i
      have b2 := val_bd h hi
      rw [← hI] at b1
      refine ev_step (fun k => ?_) hh
      simp only [impl_sumOf.l0]
      rw [if_pos (by omega), if_pos (by omega), if_pos (by omega), rd_nat, w64 (x := s + l.getD i 0) (by omega) (by omega), w64 (by omega) (by omega)]
      rfl)
    (fun i s hI hi => by rw [tot_take l i hi, hI])
    (fun s hI => ev_step (f := fun _ => some s) (fun k => by
      simp only [impl_sumOf.l0]
      rw [if_neg (by omega)]) (ev_some _)) 0 0 (Nat.zero_le _) rfl
  rw [Nat.sub_zero, tot_iter] at this
  exact this
def rnd (s n : Int) : Int := if s < 0 then -((-2 * s + n) / (2 * n)) else (2 * s + n) / (2 * n)
theorem rnd_pos {s n : Int} (h0 : 0 ≤ s) (h1 : s ≤ 9000 * n) (hn : 1 ≤ n) : 0 ≤ (2 * s + n) / (2 * n) ∧ (2 * s + n) / (2 * n) ≤ 9000 := by
  refine ⟨Int.ediv_nonneg (by omega) (by omega), ?_⟩
  have : (2 * s + n) / (2 * n) < 9001 := by
    rw [Int.ediv_lt_iff_lt_mul (by omega)]
    omega
  omega
theorem nearest_is {s n : Int} (h0 : -9000 * n ≤ s) (h1 : s ≤ 9000 * n) (hn : 1 ≤ n) (hn2 : n ≤ 64) : impl_nearest.f s n = some (rnd s n) := by
  unfold impl_nearest.f rnd
  have e2 := Aside0.mk (show wrap64 (2 * n) = 2 * n from w64 (by omega) (by omega))
  rw [e2.out]
  by_cases hs : s < 0
  · have := rnd_pos (s := -s) (n := n) (by omega) (by omega) hn
    rw [show 2 * -s + n = -2 * s + n by omega] at this
    have e3 := Aside0.mk (show wrap64 ((wrap64 (-2 * s)) + n) = -2 * s + n by rw [w64 (x := -2 * s) (by omega) (by omega), w64 (by omega) (by omega)])
    rw [if_pos hs, if_neg (by omega), e3.out, Int.tdiv_eq_ediv_of_nonneg (by omega), w64 (x := (-2 * s + n) / (2 * n)) (by omega) (by omega), w64 (by omega) (by omega), if_pos hs]
  · have := rnd_pos (s := s) (n := n) (by omega) (by omega) hn
    have e3 := Aside0.mk (show wrap64 ((wrap64 (2 * s)) + n) = 2 * s + n by rw [w64 (x := 2 * s) (by omega) (by omega), w64 (by omega) (by omega)])
    rw [if_neg hs, if_neg (by omega), e3.out, Int.tdiv_eq_ediv_of_nonneg (by omega), w64 (by omega) (by omega), if_neg hs]
theorem l3Round_is (s n : Int) : spec_l3Round.f s n = impl_nearest.f s n := rfl
theorem meanOf_ev {l : List Int} (h : ∀ x ∈ l, -9000 ≤ x ∧ x ≤ 9000) (hn : l.length ≤ 64) (h1 : l.length ≠ 0) : Ev (fun k => impl_meanOf.f k l) (rnd (tot l) (l.length : Int)) := by
  have b := tot_bd l h
  unfold impl_meanOf.f
  exact ev_bind (sumOf_ev2 h hn) (ev_bind (ev_const (nearest_is b.1 b.2 (by omega) (by omega))) (ev_some _))
theorem l6Mean_ev {l : List Int} (h : ∀ x ∈ l, -9000 ≤ x ∧ x ≤ 9000) (hn : l.length ≤ 64) (thr : Int) : Ev (fun k => spec_l6Result.f k l 3 thr) (if l.length = 0 then -9999 else rnd (tot l) (l.length : Int)) := by
  unfold spec_l6Result.f
  by_cases h1 : l.length = 0
  · rw [if_pos h1]
    exact ev_ifp (by omega) (ev_some _)
  rw [if_neg h1]
  refine ev_ifn (by omega) (ev_ifn (by omega) (ev_ifn (by omega) (ev_ifn (by omega) ?_)))
  have b := tot_bd l h
  have := loop_ev (fun k (s : Int × Int) i => spec_l6Result.l0 k l 3 thr (l.length : Int) s.1 s.2 (i : Int)) l.length (fun i s => (s.1 + l.getD i 0, if l.getD i 0 ≥ thr then wrap64 (s.2 + 1) else s.2)) (fun _ => rnd (tot l) (l.length : Int)) (fun i s => s.1 = tot (l.take i))
    (fun i s r hI hi hh => by
      have b1 := take_bd h hn i
      have b2 := val_bd h hi
      rw [← hI] at b1
      have e1 := Aside0.mk (show wrap64 (s.1 + l.getD i 0) = s.1 + l.getD i 0 from w64 (by omega) (by omega))
      have e2 := Aside0.mk (show wrap64 ((i : Int) + 1) = ((i + 1 : Nat) : Int) by rw [w64 (by omega) (by omega)]; rfl)
      refine ev_step (fun k => ?_) hh
      simp only [spec_l6Result.l0]
      rw [if_pos (by omega), if_pos (by omega), if_pos (by omega), rd_nat, e1.out, e2.out]
      split <;> rfl)
    (fun i s hI hi => by show s.1 + l.getD i 0 = _; rw [tot_take l i hi, hI])
    (fun s hI => ev_step (f := fun _ => some (rnd (tot l) (l.length : Int))) (fun k => by
      simp only [spec_l6Result.l0]
      rw [if_neg (by omega), hI, List.take_length, l3Round_is, nearest_is b.1 b.2 (by omega) (by omega)]
      rfl) (ev_some _)) 0 (0, 0) (Nat.zero_le _) rfl
  exact this
end Go.Proofs.Ytpggcolcabmdeaa.Pure
namespace Go.Proofs.Ytpggcolcabmdeaa.Pure
set_option linter.unusedVariables false
set_option linter.unusedSimpArgs false
open Go.RowKit Go.Proofs.Ytpggcolcabmdeaa.P Go.Proofs.YtpggcolcabmdeaaW.PrintWords Go.Proofs.YtpggcolcabmdeaaW.PrintLast
def meanMQ (l : List FF) (c : Nat) : Int := if (vals l c).length = 0 then -9999 else rnd (tot (vals l c)) ((vals l c).length : Int)
theorem meanMember_both (l : List FF) (hl : l.length ≤ 9223372036854775806) (hs : ∀ f ∈ l, f.f2.length ≤ 9223372036854775806) :
    ∃ r, Ev (fun k => spec_MeanMember.f k l) r ∧ Ev (fun k => impl_MeanMember.f k l) r ∧ r.2.2.1.length ≤ 64 := by
  have g1 := l9Good_ev l hl hs
  have g2 := isValidEnsemble_ev l hl
  unfold spec_MeanMember.f impl_MeanMember.f
  cases ok : ensOk l with
  | false =>
    rw [ok] at g1 g2
    refine ⟨(0, 0, [], false), ev_bind g1 (ev_ifn (by simp) (ev_some _)), ev_bind (r := (0, 0, [], false)) ?_ (ev_some _), by simp⟩
    unfold impl_ensembleField_at_mp_mpOwn.f
    exact ev_bind g2 (ev_ifn (by simp) (ev_some _))
  | true =>
    rw [ok] at g1
    obtain ⟨n, e⟩ := ensIs ok
    have n64 := e.n64
    have n18 := e.n1
    refine ⟨((l.getD 0 z29).f0, (l.getD 0 z29).f1, tab n (meanMQ l), true), ?_, ?_, by show (tab n (meanMQ l)).length ≤ 64; rw [tab_length]; exact n64⟩
    · refine ev_bind g1 (ev_ifp rfl (ev_ifp (by omega) ?_))
      rw [rdf0]
      refine ev_bind (ev_const (l2Own_is3 _ _ _ (by have := e.len; omega))) ?_
      refine ensSpec_ev e (fun k s i => spec_MeanMember.l0 k l (i : Int) (l.getD 0 z29).f0 (l.getD 0 z29).f1 s) (meanMQ l) (fun i s r hI hi h => ?_) (fun s hI => ev_step (fun k => spec_MeanMember.l0.eq_2 _ _ _ _ _ k) (ev_ifn (by omega) (ev_some _)))
      have e1 := Aside0.mk (show wrap64 ((i : Int) + 1) = ((i + 1 : Nat) : Int) by rw [w64 (by omega) (by omega)]; rfl)
      have vl := vals_len l i
      have hp := vals_perm l i
      have hv := vals_val ok i (e.cell i hi)
      have hm := l6Mean_ev (l := svals l i) (fun x hx => hv x (hp.mem_iff.1 hx)) (by rw [hp.length_eq]; omega) 0
      rw [hp.length_eq, tot_perm hp] at hm
      refine ev_step (fun k => spec_MeanMember.l0.eq_2 _ _ _ _ _ k) (ev_ifp (by omega) (ev_bind (l9Values_ev l i (by omega) (e.cell i hi) (by omega)) (ev_bind hm (ev_ifp (by omega) ?_))))
      rw [e1.out, Int.toNat_natCast]
      exact h
    · refine ev_bind (ensField_ev e ok hl (fun k z0_ => impl_meanOf.f k z0_) (meanMQ l) (fun c hc h0 => ?_) (fun c hc h0 => ?_)) (ev_some _)
      · have vl := vals_len l c
        unfold meanMQ
        rw [if_neg h0]
        exact meanOf_ev (vals_val ok c (e.cell c hc)) (by omega) h0
      · unfold meanMQ
        rw [if_pos h0]
end Go.Proofs.Ytpggcolcabmdeaa.Pure
namespace Go.Proofs.Ytpggcolcabmdeaa.Pure
set_option linter.unusedVariables false
set_option linter.unusedSimpArgs false
open Go Go.RowKit Go.Proofs.Ytpggcolcabmdeaa.P Go.Proofs.YtpggcolcabmdeaaW.PrintWords Go.Proofs.YtpggcolcabmdeaaW.PrintLast Go.Proofs.YtpggcolcabmdeaaW.PrintMore
theorem quant_low {s : List Int} (h0 : s.length ≠ 0) (h8 : s.length ≤ 8) : quantV s 0 1 = s.getD 0 0 := by
  obtain ⟨q, _, _⟩ := quantAt_is (n := s.length) (a := 0) (b := 1) (by omega) (by omega) (by omega) (by omega) (by omega)
  unfold quantV
  rw [if_neg (by omega)]
  rfl
theorem quant_high {s : List Int} (h0 : s.length ≠ 0) (h8 : s.length ≤ 8) : quantV s 1 1 = s.getD (s.length - 1) 0 := by
  obtain ⟨q, _, _⟩ := quantAt_is (n := s.length) (a := 1) (b := 1) (by omega) (by omega) (by omega) (by omega) (by omega)
  have e : quantAt s.length 1 1 = (s.length : Int) := by omega
  unfold quantV
  rw [e]
  by_cases h : 1 < (s.length : Int)
  · rw [if_pos h, w64 (by omega) (by omega), show (s.length : Int) - 1 = ((s.length - 1 : Nat) : Int) by omega, rd_nat]
  · rw [if_neg h, show s.length - 1 = 0 by omega]
    rfl
theorem quant_mid {s : List Int} (h0 : s.length ≠ 0) (h8 : s.length ≤ 8) : ∃ j, j < s.length ∧ quantV s 1 2 = s.getD j 0 := by
  obtain ⟨q, q0, q1⟩ := quantAt_is (n := s.length) (a := 1) (b := 2) (by omega) (by omega) (by omega) (by omega) (by omega)
  unfold quantV
  by_cases h : 1 < quantAt s.length 1 2
  · obtain ⟨m, hm⟩ := Int.eq_ofNat_of_zero_le (show 0 ≤ quantAt s.length 1 2 - 1 by omega)
    refine ⟨m, by omega, ?_⟩
    rw [if_pos h, w64 (by omega) (by omega), hm, rd_nat]
  · exact ⟨0, by omega, by rw [if_neg h]; rfl⟩
theorem part9_at {l : List Int} (hl : Code l) (i s : Int) (xs : List Int) (m : Int) (hm : 1 ≤ m ∧ m ≤ 6) (hx : (xs.length : Int) = m + 2) (h0 : 0 ≤ i) (h1 : i ≤ 90000000) :
    ∃ p i2 s2, spec_l1Cur_pick.f l i s 24 = some (p, i2, s2) ∧ 0 ≤ wrap64 (m + wrap64 (Int.tdiv p 11)) ∧ wrap64 (m + wrap64 (Int.tdiv p 11)) ≤ (xs.length : Int) ∧ ∃ y i3 s3, spec_l1Cur_among.f l i2 s2 (xs.take (wrap64 (m + wrap64 (Int.tdiv p 11))).toNat) = some (y, i3, s3) ∧ i ≤ i3 ∧ i3 ≤ i + 4 := by
  obtain ⟨x, i2, s2, e2, p2, q2, b1, b2⟩ := pick_at hl i s 24 h0 (by omega)
  have q2' := q2 (by omega)
  have ed : Int.tdiv x 11 = x / 11 := Int.tdiv_eq_ediv_of_nonneg p2
  have e1 : wrap64 (m + wrap64 (Int.tdiv x 11)) = m + x / 11 := by rw [ed, w64 (x := x / 11) (by omega) (by omega), w64 (by omega) (by omega)]
  obtain ⟨y, i3, s3, e3, _, b3, b4⟩ := among_at hl i2 s2 (xs.take (m + x / 11).toNat) (by rw [List.length_take]; omega) (by omega) (by omega)
  exact ⟨x, i2, s2, e2, by rw [e1]; omega, by rw [e1]; omega, y, i3, s3, by rw [e1]; exact e3, by omega, by omega⟩
theorem drawQuant_at {l : List Int} (hl : Code l) : ∃ r : List FF × Int × Int, Ev (fun k => spec_DrawQuantileField.f k l) r ∧ (r.1.length ≤ 9 ∧ ∀ x ∈ r.1, x.f2.length ≤ 64) := by
  obtain ⟨⟨e, i1, s1⟩, hr, ⟨h1, h2⟩, h3, h4⟩ := ens_at hl 0 0 (by omega) (by omega)
  simp only at h1 h2 h3 h4
  obtain ⟨p, i2, s2, e2, g1, g2, den, i3, s3, e3, b1, b2⟩ := part9_at hl i1 s1 [1, 2, 4, 10, 100, 0, 101] 5 (by omega) (by simp) (by omega) (by omega)
  obtain ⟨p', i4, s4, e4, g3, g4, num, i5, s5, e5, _, _⟩ := part9_at hl i3 s3 [0, 1, den, wrap64 (Int.tdiv den 2), wrap64 (den + 1), (-1)] 4 (by omega) (by simp) (by omega) (by omega)
  unfold spec_DrawQuantileField.f
  refine ⟨(e, num, den), ev_bind hr ?_, h1, h2⟩
  refine ev_const ?_
  simp only [Option.bind_some, e2, e3, e4, e5]
  have g2' : wrap64 (5 + wrap64 (Int.tdiv p 11)) ≤ 7 := g2
  have g4' : wrap64 (4 + wrap64 (Int.tdiv p' 11)) ≤ 6 := g4
  simp [g1, g2', g3, g4', e2, e3, e4, e5]
theorem drawMean_at {l : List Int} (hl : Code l) : ∃ r : List FF, Ev (fun k => spec_DrawMeanMember.f k l) r ∧ (r.length ≤ 9 ∧ ∀ x ∈ r, x.f2.length ≤ 64) := by
  obtain ⟨⟨e, i1, s1⟩, hr, ⟨h1, h2⟩, h3, h4⟩ := ens_at hl 0 0 (by omega) (by omega)
  unfold spec_DrawMeanMember.f spec_DrawIsValidEnsemble.f
  exact ⟨e, ev_bind (ev_bind hr (ev_some _)) (ev_some _), h1, h2⟩
theorem ens_j5 {l : List Int} (hl : Code l) : Ev (fun k => laws_FnEnsembles.j5 k l false) true := by
  obtain ⟨e, hd, h1, h2⟩ := drawMean_at hl
  obtain ⟨⟨a, b, c, ok⟩, hs, hi, hc⟩ := meanMember_both e (by omega) (fun f hf => by have := h2 f hf; omega)
  simp only at hc
  exact ev_step (fun k => laws_FnEnsembles.j5.eq_2 _ _ k) (ev_ifn (by simp) (ev_bind hd (ev_bind hi (ev_bind hs (ev_ifp (by simp) (ev_bind (rFields_self a b c (by omega)) (ev_some _)))))))
theorem ens_j3 {l : List Int} (hl : Code l) (x3 : List FF) (x4 : Int) (x6 : Bool) (x17 : Int) (a1 a2 : Int) (a3 : List Int) (b1 b2 : Int) (b3 : List Int) (c1 c2 : Int) (c3 : List Int) (d1 d2 : Int) (d3 : List Int) (e1 e2 : Int) (e3 : List Int) :
    Ev (fun k => laws_FnEnsembles.j3 k l x3 x4 x6 x17 false a1 a2 a3 b1 b2 b3 c1 c2 c3 d1 d2 d3 e1 e2 e3) true := by
  obtain ⟨⟨e, num, den⟩, hd, h1, h2⟩ := drawQuant_at hl
  simp only at h1 h2
  obtain ⟨⟨a, b, c, ok⟩, hs, hi, hc⟩ := quantile_both e num den (by omega) (fun f hf => by have := h2 f hf; omega)
  simp only at hc
  exact ev_step (fun k => laws_FnEnsembles.j3.eq_2 _ _ _ _ _ _ _ _ _ _ _ _ _ _ _ _ _ _ _ _ _ k) (ev_ifn (by simp) (ev_bind hd (ev_bind hi (ev_bind hs (ev_ifn (by simp) (ev_bind (rFields_self a b c (by omega)) (ens_j5 hl)))))))
theorem ens_loop {l : List Int} (hl : Code l) (e : List FF) (t : Int) (n : Nat) (he : ensOk e = true) (ht : inb t (-9000) 9000 = true) (es : EnsIs e n) (b1 b2 c1 c2 d1 d2 e1 e2 : Int) :
    Ev (fun k => laws_FnEnsembles.l0 k l e t true 0 (e.getD 0 z29).f0 (e.getD 0 z29).f1 (tab n (countQ e t)) b1 b2 (tab n (quantQ e 0 1)) c1 c2 (tab n (quantQ e 1 2)) d1 d2 (tab n (quantQ e 1 1)) e1 e2 (tab n (spreadQ e))) true := by
  have hn := es.n64
  have hn8 := es.n1
  obtain ⟨⟨w1, w8⟩, ⟨h1, h8⟩, _⟩ := ens_shape he
  refine loop_ev (σ := Unit) (fun k _ i => laws_FnEnsembles.l0 k l e t true (i : Int) (e.getD 0 z29).f0 (e.getD 0 z29).f1 (tab n (countQ e t)) b1 b2 (tab n (quantQ e 0 1)) c1 c2 (tab n (quantQ e 1 2)) d1 d2 (tab n (quantQ e 1 1)) e1 e2 (tab n (spreadQ e))) n (fun _ _ => ()) (fun _ => true) (fun _ _ => True)
    (fun i s r _ hi h => ?_) (fun _ _ _ _ => trivial) (fun _ _ => ev_step (fun k => laws_FnEnsembles.l0.eq_2 _ _ _ _ _ _ _ _ _ _ _ _ _ _ _ _ _ _ _ _ k) (ev_ifn (by rw [tab_length]; omega) (ens_j3 hl _ _ _ _ _ _ _ _ _ _ _ _ _ _ _ _ _ _ _))) 0 () (Nat.zero_le _) trivial
  obtain ⟨W, hW⟩ := Int.eq_ofNat_of_zero_le (show 0 ≤ wide0 e by omega)
  obtain ⟨H, hH⟩ := Int.eq_ofNat_of_zero_le (show 0 ≤ high0 e by omega)
  have hprod : n = W * H := by
    have := es.prod
    have e1 : (e.getD 0 z29).f0 = (W : Int) := hW
    have e2 : (e.getD 0 z29).f1 = (H : Int) := hH
    rw [e1, e2] at this
    exact_mod_cast this
  have hWp : 0 < W := by omega
  have hx : i % W < W := Nat.mod_lt _ hWp
  have hy : i / W < H := by rw [Nat.div_lt_iff_lt_mul hWp, Nat.mul_comm]; omega
  have eg : (e.getD 0 z29).f0 = (W : Int) := hW
  have ei : i / W * W + i % W = i := by rw [Nat.mul_comm]; exact Nat.div_add_mod i W
  have m1 : Int.tmod (i : Int) (W : Int) = ((i % W : Nat) : Int) := by rw [Int.tmod_eq_emod_of_nonneg (by omega)]; rfl
  have m2 : wrap64 (Int.tdiv (i : Int) (W : Int)) = ((i / W : Nat) : Int) := by
    rw [Int.tdiv_eq_ediv_of_nonneg (by omega), show (i : Int) / (W : Int) = ((i / W : Nat) : Int) from rfl]
    exact w64n (by have := Nat.div_le_self i W; omega)
  have hcell : ensCell e ((i % W : Nat) : Int) ((i / W : Nat) : Int) = true := by
    unfold ensCell
    rw [he, Bool.true_and, Bool.and_eq_true, inb_iff, inb_iff, hW, hH]
    clear m1 m2 ei
    revert hx hy
    generalize i % W = u
    generalize i / W = v
    intro hx hy
    omega
  have hch := chanceI_at e ((i % W : Nat) : Int) ((i / W : Nat) : Int) t i (by rw [hW]; exact_mod_cast ei.symm) (by omega) hcell ht
  have sl := svals_len e i
  have vl := vals_len e i
  have t1 : ∀ q : Nat → Int, rd (tab n q) (i : Int) = q i := fun q => by rw [rd_nat, tab_getD _ _ 0 hi]
  have tl : ∀ q : Nat → Int, (i : Int) < ((tab n q).length : Int) := fun q => by rw [tab_length]; exact_mod_cast hi
  have en := Aside0.mk (show wrap64 ((i : Int) + 1) = ((i + 1 : Nat) : Int) by rw [w64 (by omega) (by omega)]; rfl)
  refine ev_step (fun k => laws_FnEnsembles.l0.eq_2 _ _ _ _ _ _ _ _ _ _ _ _ _ _ _ _ _ _ _ _ k) (ev_ifp (tl _) (ev_step (fun k => laws_FnEnsembles.j3.eq_2 _ _ _ _ _ _ _ _ _ _ _ _ _ _ _ _ _ _ _ _ _ k) (ev_ifp rfl (ev_ifn (by omega) ?_))))
  rw [eg, m1, m2]
  rw [eg] at h
  refine ev_bind hch (ev_ifp rfl ?_)
  simp only [t1, en.out]
  have g0 : (0 : Int) ≤ (i : Int) := by omega
  by_cases h0 : (vals e i).length = 0
  · have qc : countQ e t i = -9999 := by unfold countQ; rw [if_pos h0]
    have qq : ∀ a b, quantQ e a b i = -9999 := fun a b => by unfold quantQ; rw [if_pos h0]
    have qs : spreadQ e i = -9999 := by unfold spreadQ; rw [if_pos h0]
    simp only [qc, qq, qs]
    have w0 : wrap64 ((-9999 : Int) - (-9999)) = 0 := by rw [w64 (by omega) (by omega)]; rfl
    refine ev_ifn (by omega) (ev_ifp (by omega) (ev_ifp g0 (ev_ifp (tl _) (ev_step (fun k => laws_FnEnsembles.j4.eq_2 _ _ _ _ _ _ _ _ _ _ _ _ _ _ _ _ _ _ _ _ _ _ k) (ev_ifn (by simp) (ev_ifp g0 (ev_ifp (tl _) (ev_ifp (tl _) ?_))))))))
    simp only [t1, qq, qs, w0, en.out]
    exact ev_ifn (by omega) (ev_ifp (tl _) (ev_ifn (by omega) (ev_ifn (by omega) (ev_ifn (by omega) (ev_ifp (by omega) (ev_ifp (tl _) (ev_ifp trivial h)))))))
  · have qc : countQ e t i = ((vals e i).countP (fun y => decide (y ≥ t)) : Int) := by unfold countQ; rw [if_neg h0]
    have hs0 : (svals e i).length ≠ 0 := by omega
    have q1 : quantQ e 0 1 i = (svals e i).getD 0 0 := by unfold quantQ; rw [if_neg h0, quant_low hs0 (by omega)]
    have q2 : quantQ e 1 1 i = (svals e i).getD ((svals e i).length - 1) 0 := by unfold quantQ; rw [if_neg h0, quant_high hs0 (by omega)]
    obtain ⟨j, hj, ej⟩ := quant_mid hs0 (by omega)
    have q3 : quantQ e 1 2 i = (svals e i).getD j 0 := by unfold quantQ; rw [if_neg h0, ej]
    have qs : spreadQ e i = min 9000 ((svals e i).getD ((svals e i).length - 1) 0 - (svals e i).getD 0 0) := by unfold spreadQ; rw [if_neg h0]
    have hv := vals_val he i (es.cell i hi)
    have hp := vals_perm e i
    obtain ⟨p1, p2⟩ := last_max (svals_sorted e i) (by omega)
    obtain ⟨p3, p4⟩ := first_min (svals_sorted e i) (by omega)
    have pj : (svals e i).getD j 0 ∈ svals e i := by rw [getD_eq_get 0 hj]; exact List.getElem_mem hj
    have u1 := p2 _ pj
    have u2 := p4 _ pj
    have u3 := hv _ (hp.mem_iff.1 p1)
    have u4 := hv _ (hp.mem_iff.1 p3)
    have hnz : ¬ ((vals e i).length : Int) = 0 := by omega
    generalize (svals e i).getD ((svals e i).length - 1) 0 = hi9 at q2 qs u1 u3
    generalize (svals e i).getD 0 0 = lo at q1 qs u2 u4
    generalize (svals e i).getD j 0 = mi at q3 u1 u2
    have wd : wrap64 (hi9 - lo) = hi9 - lo := w64 (by omega) (by omega)
    simp only [qc]
    refine ev_ifp (by omega) (ev_ifp g0 (ev_ifp (tl _) (ev_ifp trivial (ev_ifn hnz (ev_step (fun k => laws_FnEnsembles.j4.eq_2 _ _ _ _ _ _ _ _ _ _ _ _ _ _ _ _ _ _ _ _ _ _ k) (ev_ifn (by simp) (ev_ifp g0 (ev_ifp (tl _) (ev_ifp (tl _) ?_)))))))))
    simp only [t1, q1, q2, q3, qs, wd, en.out]
    by_cases hd : hi9 - lo > 9000
    · exact ev_ifp hd (ev_ifp (tl _) (ev_ifn (by omega) (ev_ifn (by omega) (ev_ifp (by omega) (ev_ifp (tl _) (ev_ifp (by omega) (ev_ifn hnz h)))))))
    · exact ev_ifn hd (ev_ifp (tl _) (ev_ifn (by omega) (ev_ifn (by omega) (ev_ifp (by omega) (ev_ifp (tl _) (ev_ifp (by omega) (ev_ifn hnz h)))))))
theorem isValidEns_ev (l : List FF) (hl : l.length ≤ 9223372036854775806) : Ev (fun k => impl_IsValidEnsemble.f k l) (ensOk l) := isValidEnsemble_ev l hl
theorem ens_l0_no {l : List Int} (hl : Code l) (x3 : List FF) (x4 : Int) (a1 a2 : Int) (a3 : List Int) (b1 b2 : Int) (b3 : List Int) (c1 c2 : Int) (c3 : List Int) (d1 d2 : Int) (d3 : List Int) (e1 e2 : Int) (e3 : List Int) :
    Ev (fun k => laws_FnEnsembles.l0 k l x3 x4 false 0 a1 a2 a3 b1 b2 b3 c1 c2 c3 d1 d2 d3 e1 e2 e3) true := by
  by_cases h : (0 : Int) < (a3.length : Int)
  · exact ev_step (fun k => laws_FnEnsembles.l0.eq_2 _ _ _ _ _ _ _ _ _ _ _ _ _ _ _ _ _ _ _ _ k) (ev_ifp h (ens_j3 hl _ _ _ _ _ _ _ _ _ _ _ _ _ _ _ _ _ _ _))
  · exact ev_step (fun k => laws_FnEnsembles.l0.eq_2 _ _ _ _ _ _ _ _ _ _ _ _ _ _ _ _ _ _ _ _ k) (ev_ifn h (ens_j3 hl _ _ _ _ _ _ _ _ _ _ _ _ _ _ _ _ _ _ _))
theorem FnEnsembles : laws_FnEnsembles.Pure := by
  intro l hl _
  refine Ev.rounds ?_
  unfold laws_FnEnsembles.f laws_rBig.f
  refine ev_bind (ev_some _) ?_
  by_cases hb : (l.length : Int) > 65536
  · exact ev_ifp (decide_eq_true hb) (ev_some _)
  refine ev_ifn (by simp only [decide_eq_true_eq]; exact hb) ?_
  have hc := codeE hl (by omega)
  obtain ⟨⟨e, t⟩, hd, h1, h2⟩ := drawCount_at hc
  simp only at h1 h2
  have hE : ∀ f ∈ e, f.f2.length ≤ 9223372036854775806 := fun f hf => by have := h2 f hf; omega
  obtain ⟨⟨a1, a2, a3, aok⟩, hs, hi, hl3, hr⟩ := count_cases e t (by omega) hE
  obtain ⟨⟨b1, b2, b3, bok⟩, _, hbq, _, hbr⟩ := quantile_cases e 0 1 (by omega) hE
  obtain ⟨⟨c1, c2, c3, cok⟩, _, hcq, _, hcr⟩ := quantile_cases e 1 2 (by omega) hE
  obtain ⟨⟨d1, d2, d3, dok⟩, _, hdq, _, hdr⟩ := quantile_cases e 1 1 (by omega) hE
  obtain ⟨⟨s1, s2, s3, sok⟩, hsq, _, hsr⟩ := spreadI e (by omega) hE
  have hv := isValidEns_ev e (by omega)
  simp only at hl3
  refine ev_bind hd (ev_bind hi (ev_bind hs (ev_ifn (by simp) (ev_bind (rFields_self a1 a2 a3 (by omega)) ?_))))
  refine ev_step (fun k => laws_FnEnsembles.j0.eq_2 _ _ _ _ _ _ _ _ k) (ev_ifn (by simp) (ev_bind hbq (ev_bind hcq (ev_bind hdq (ev_bind hsq (ev_bind hv ?_))))))
  have i1 : inb 1 1 100 = true := by decide
  have i2 : inb 2 1 100 = true := by decide
  have i3 : inb 0 0 1 = true := by decide
  have i4 : inb 1 0 2 = true := by decide
  have i5 : inb 1 0 1 = true := by decide
  cases he : ensOk e with
  | false =>
    rw [he] at hr hbr hcr hdr hsr
    have f1 : bok = false := by rcases hbr with ⟨h, _⟩ | ⟨h, _⟩ <;> simp_all
    have f2 : cok = false := by rcases hcr with ⟨h, _⟩ | ⟨h, _⟩ <;> simp_all
    have f3 : dok = false := by rcases hdr with ⟨h, _⟩ | ⟨h, _⟩ <;> simp_all
    have f4 : sok = false := by rcases hsr with ⟨h, _⟩ | ⟨h, _⟩ <;> simp_all
    have f5 : aok = false := by rcases hr with h | ⟨h, _⟩ <;> simp_all
    subst f1 f2 f3 f4 f5
    exact ev_ifn (by simp) (ev_ifn (by simp) (ev_ifn (by simp) (ev_step (fun k => laws_FnEnsembles.j1.eq_2 _ _ _ _ _ _ _ _ _ _ _ _ _ _ _ _ _ _ _ _ k) (ev_ifn (by simp) (ens_l0_no hc _ _ _ _ _ _ _ _ _ _ _ _ _ _ _ _ _)))))
  | true =>
    rw [he, i1, i3] at hbr
    rw [he, i2, i4] at hcr
    rw [he, i1, i5] at hdr
    rw [he] at hr hsr
    rcases hbr with ⟨_, h⟩ | ⟨_, n, en, hb9⟩
    · cases h
    rcases hcr with ⟨_, h⟩ | ⟨_, n2, en2, hc9⟩
    · cases h
    rcases hdr with ⟨_, h⟩ | ⟨_, n3, en3, hd9⟩
    · cases h
    rcases hsr with ⟨_, h⟩ | ⟨_, n4, en4, hs9⟩
    · cases h
    have x2 : n2 = n := en2.len.symm.trans en.len
    have x3 : n3 = n := en3.len.symm.trans en.len
    have x4 : n4 = n := en4.len.symm.trans en.len
    subst x2 x3 x4
    simp only [Prod.mk.injEq] at hb9 hc9 hd9 hs9
    obtain ⟨rfl, rfl, rfl, rfl⟩ := hb9
    obtain ⟨rfl, rfl, rfl, rfl⟩ := hc9
    obtain ⟨rfl, rfl, rfl, rfl⟩ := hd9
    obtain ⟨rfl, rfl, rfl, rfl⟩ := hs9
    refine ev_ifn (by simp) (ev_ifn (by simp) (ev_ifn (by simp) (ev_step (fun k => laws_FnEnsembles.j1.eq_2 _ _ _ _ _ _ _ _ _ _ _ _ _ _ _ _ _ _ _ _ k) (ev_ifn (by simp) ?_))))
    rcases hr with h | ⟨_, ht, n5, en5, h⟩
    · simp only [Prod.mk.injEq] at h
      obtain ⟨rfl, rfl, rfl, rfl⟩ := h
      exact ens_l0_no hc _ _ _ _ _ _ _ _ _ _ _ _ _ _ _ _ _
    · have x5 := en5.len.symm.trans en.len
      subst x5
      simp only [Prod.mk.injEq] at h
      obtain ⟨rfl, rfl, rfl, rfl⟩ := h
      exact ens_loop hc e t _ he ht en _ _ _ _ _ _ _ _
end Go.Proofs.Ytpggcolcabmdeaa.Pure
namespace Go.Proofs.Ytpggcolcabmdeaa.fnEnsembles
open Go.ChangeShapes Go.WideShapes Go.ChangeAt Go.RowKit Go.Proofs.Ytpggcolcabmdeaa.Open Go.Proofs.Ytpggcolcabmdeaa.P Go.Proofs.YtpggcolcabmdeaaW.PrintWords
open Go.ChangeMaps (open_string shut_string)
set_option linter.unusedVariables false
theorem own : ownKnob Try.prog.godebug = none := by kernel_rfl
theorem laidOut : laidOutB Try.prog = true := by kernel_rfl
set_option maxRecDepth 100000 in
theorem lifted (os : Os) (started : os.Started) (H : Type) (enc : TypeId × Value → H) :
    ReturnsInHanded {} Try.checked os 3 .any (Rows.fnEnsemblesSpec.pre6 enc Try.prog Try.f3 Rows.fnEnsemblesRow.domain false) (Rows.fnEnsemblesSpec.post enc Try.prog Try.f3 false true false false) := by
  refine returnsInHanded_of_change_sized (C := Try.checked) own started (by kernel_rfl) Try.func3
    (ChangeSpec.witness6 (enc := enc) (C := Try.checked) false ⟨#[], #[.slice none 0 0], []⟩ 8 (by kernel_rfl) (by kernel_rfl) (by kernel_rfl) (by kernel_rfl)) ?_
  intro W base args ds gs before hval0 hW hcnd hsz0 _
  have hsz : (DataW.weightsEach Try.prog (Try.f3.params.toList ++ Rows.fnEnsemblesSpec.plain.varTypes Try.prog) (ds ++ gs)).all (· ≤ reachBytes) = true := hsz0
  have hval : ∀ (j : Nat) t v, Try.f3.params[j]? = some t → args[j]? = some v → Value.okWide Try.prog W .any base t v := hval0
  have hW' := hW
  obtain ⟨p, q, hA0, hV, rfl, hfz, hnd⟩ := hW
  have hA : DataW.TrodAll enc Try.prog W 0 (fun _ => true) true Try.f3.params.toList args.toList ds p := hA0
  rw [Try.params3] at hA hval hsz
  obtain ⟨v0, vs0, d0, ds0, p0, q0, hargs, rfl, rfl, h0, r0⟩ := trodAll_cons hA
  obtain ⟨rfl, rfl, rfl⟩ := trodAll_nil r0
  obtain rfl : args = #[v0] := by cases args; simp_all
  obtain ⟨rfl, rfl⟩ := trodVars_none hV
  obtain ⟨A0, len0, c0, rfl⟩ := okWide_slice Try.underlying22 (hval 0 22 v0 rfl rfl)
  have k0 := h0
  have lt0 : ∀ x ∈ p0, x.block < W.heap.size := by obtain ⟨m, hm⟩ := k0; exact DataW.trod_lt m _ _ _ hm
  have y0 : len0 * 1 ≤ 140737488351232 := sized_any hsz (j := 0) (t := 22) rfl rfl Try.underlying22 (by kernel_rfl) h0
  obtain ⟨l0, rfl, hc0, hr0, w0⟩ := slice_at (opens_slice Try.underlying22 (by kernel_rfl) (opens_int Try.underlying5)) h0
  clear hA0 hval0 hsz0 hsz
  obtain ⟨k, hp⟩ := Pure.FnEnsembles l0 w0 y0
  refine (laws_FnEnsembles.calls k A0 c0 l0 true W hr0 hc0 hp).mono fun e W' ⟨he, bel0⟩ => ?_
  have bel : Below W.heap.size W W' := bel0
  subst he
  exact ⟨_, rfl, _, _, _, [], _, [], hW', trodAll_mk1 (shut_bool Try.underlying4 _), (trodAll_cons_mk (Below.trod laidOut (by kernel_rfl) (of_decide_eq_true (by kernel_rfl)) k0 bel lt0) trodAll_mk0), rfl, bel.frame _, fun h => by cases h⟩
set_option maxHeartbeats 4000000 in
set_option maxRecDepth 100000 in
theorem closed : joinedFacts Try.prog 3 Try.f3 Rows.fnEnsemblesSpec Rows.fnEnsemblesRow = true := by
  unfold joinedFacts
  repeat' (with_reducible refine Bool.and_eq_true_iff.2 ⟨?_, ?_⟩)
  all_goals (as_aux_lemma => kernel_rfl)
theorem over : Rows.fnEnsemblesRow.holds Try.pinned (OpenSpec.ofChange Rows.fnEnsemblesSpec) :=
  OpenClaim.holds_of_wide 3 Try.f3 rfl rfl rfl rfl rfl rfl rfl ⟨rfl, rfl, rfl, rfl, rfl⟩ rfl rfl rfl rfl rfl (by kernel_rfl) Try.func3 closed
    (of_decide_eq_true (by kernel_rfl)) (by unfold Func.isWrapper; first | (rw [if_pos (by decide +kernel)]; kernel_rfl) | (rw [if_neg (by decide +kernel)]; exact ⟨rfl, rfl⟩))
    (fun os started H enc _ => lifted os started H enc)
theorem proved : Rows.FnEnsemblesSaid := over
#print axioms proved
end Go.Proofs.Ytpggcolcabmdeaa.fnEnsembles
namespace Go.Proofs.Ytpggcolcabmdeaa
theorem fnEnsembles_holds : Rows.FnEnsemblesSaid := fnEnsembles.proved
end Go.Proofs.Ytpggcolcabmdeaa
