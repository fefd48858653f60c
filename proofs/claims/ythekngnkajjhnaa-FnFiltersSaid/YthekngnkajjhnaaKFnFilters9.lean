/- Texts of the claim FnFilters, merged: part 9 of 9: the program's and the reference's functions as Lean functions, the walks that show it, and plain lemmas; no conditions. -/
import Derived.Test.YthekngnkajjhnaaKFnFilters1
import Derived.Test.YthekngnkajjhnaaKFnFilters2
import Derived.ProofKit
import Derived.OpenShut
import Derived.Deep.Slices
import Derived.Deep.Strs
import Derived.Deep.Fields
import Derived.Lib.SmallJoins
import Derived.Test.YthekngnkajjhnaaKFnFilters3
import Derived.Test.YthekngnkajjhnaaKFnFilters5
import Derived.Test.YthekngnkajjhnaaKFnFilters4
import Derived.Test.YthekngnkajjhnaaKFnFilters6
import Derived.Test.YthekngnkajjhnaaKFnFilters7
import Derived.Laws.BitsLemmas
import Derived.Laws.Bits64
import Derived.Test.YthekngnkajjhnaaKFnFilters8
import Derived.Test.YthekngnkajjhnaaRows
import Derived.WalkKit
import Derived.ShutString
import Derived.ChangeOld
import Derived.Below
import Derived.SizedLaws
namespace Go.Proofs.Ythekngnkajjhnaa.Open
open Go.ChangeShapes Go.WideShapes Go.RowKit Go.Deep Go.Joins Go.Proofs.YthekngnkajjhnaaW.PrintWords
def Opens {α : Type} (P : Program) (t : TypeId) (d : Kd α) (wf : α → Prop) : Prop :=
  ∀ {H : Type} {enc : TypeId × Value → H} {W : World} {fuel : Nat} {cs : List Value} {x : DataW H × List MemPlace},
    DataW.trod enc P W 0 (fun _ => true) true fuel t cs = some x → ∃ y, d.K W y cs ∧ wf y
theorem opens_int {P : Program} {t : TypeId} {k : IntKind} (h : P.underlying t = some (.int k)) : Opens P t (Kd.int k) (fun n => (Lit.int k n).wf = true) := by
  intro H enc W fuel cs x hx
  obtain ⟨n, rfl, _, hw⟩ := DataW.trod_int h hx
  exact ⟨n, rfl, hw⟩
theorem list_of {α : Type} {p : Nat → α → Prop} : ∀ (n : Nat), (∀ i, i < n → ∃ y, p i y) → ∃ ys : List α, ys.length = n ∧ ∀ (i : Nat) (y : α), ys[i]? = some y → p i y
  | 0, _ => ⟨[], rfl, fun i y h => by simp at h⟩
  | n + 1, h => by
    obtain ⟨ys, hl, hy⟩ := list_of n (fun i hi => h i (by omega))
    obtain ⟨y, hp⟩ := h n (by omega)
    refine ⟨ys ++ [y], by simp [hl], fun i z hz => ?_⟩
    by_cases hi : i < n
    · rw [List.getElem?_append_left (by omega)] at hz
      exact hy i z hz
    · have hi2 : i = n := by
        have := (List.getElem?_eq_some_iff.1 hz).1
        simp [hl] at this
        omega
      subst hi2
      rw [List.getElem?_append_right (by omega), hl] at hz
      simp at hz
      subst hz
      exact hp
theorem opens_slice {α : Type} {P : Program} {t e : TypeId} {d : Kd α} {wf : α → Prop} (h : P.underlying t = some (.slice e)) (hc : P.cellsOf e = d.sz) (he : Opens P e d wf) :
    Opens P t (Kd.slice e d) (fun l => l.length ≤ 9223372036854775807 ∧ ∀ x ∈ l, wf x) := by
  intro H enc W fuel cs x hx
  rcases open_slice h hx with ⟨rfl, _⟩ | ⟨a, len, cap, m, n, D, Pl, rfl, _, hl, hm, hmm, _, hx⟩
  · exact ⟨[], ⟨none, 0, rfl, by simp, Kd.C_nil d W⟩, by simp, by simp⟩
  · obtain ⟨ys, hlen, hy⟩ := list_of (p := fun i y => ∃ cs', W.cells? 0 (a.add (i * P.cellsOf e)) (P.cellsOf e) = some cs' ∧ d.K W y cs' ∧ wf y) len (fun i hi => by
      obtain ⟨cs', h1, h2⟩ := hx i (by rw [hmm]; split <;> omega)
      obtain ⟨y, hK, hw⟩ := he h2
      exact ⟨y, cs', h1, hK, hw⟩)
    have hm' : cap ≤ 9223372036854775807 := by simpa [maxLen] using hm
    refine ⟨ys, ⟨some a, cap, by rw [hlen], by omega, ⟨rfl, by omega, fun _ => ⟨a, rfl, fun j y hj => ?_⟩⟩⟩, by omega, fun y hmem => ?_⟩
    · obtain ⟨cs', h1, hK, _⟩ := hy j y hj
      obtain ⟨_, hl2, hcell⟩ := World.cells?_some h1
      refine ⟨cs', d.K_len hK, hK, fun i u hu => ?_⟩
      have hi : i < P.cellsOf e := by
        have := (List.getElem?_eq_some_iff.1 hu).1
        omega
      rw [← hc, ← Go.Deep.add_add, hcell i hi]
      exact hu
    · obtain ⟨j, hj⟩ := List.getElem?_of_mem hmem
      obtain ⟨_, _, _, hw⟩ := hy j y hj
      exact hw
theorem sized_any {H : Type} {enc : TypeId × Value → H} {P : Program} {W : World} {base : Nat} {spare : Nat → Bool} {held : Bool} {t e : TypeId} {a : Option Addr} {len cap : Nat} {d : DataW H} {ps : List MemPlace} {ts : List TypeId} {ds : List (DataW H)} {j : Nat}
    (hsz : (DataW.weightsEach P ts ds).all (· ≤ reachBytes) = true) (ht : ts[j]? = some t) (hd : ds[j]? = some d) (hu : P.underlying t = some (.slice e)) {B : Nat} (hB : P.bytesOf e = B)
    (h : DataW.Trod enc P W base spare held t (.slice a len cap) d ps) : len * B ≤ 140737488351232 := by
  obtain ⟨fuel, hf⟩ := h
  rcases open_slice hu hf with ⟨hcs, _⟩ | ⟨x, l, c, m, n, D, Pl, hcs, _, hl, _, _, hx, _⟩
  · simp [Value.cells] at hcs
    obtain ⟨rfl, rfl, rfl⟩ := hcs
    simp
  · simp [Value.cells] at hcs
    obtain ⟨rfl, rfl, rfl⟩ := hcs
    obtain ⟨hx, _⟩ := Prod.mk.inj hx
    subst hx
    have z := sized_slice hsz ht hd hu
    rw [hB] at z
    refine Nat.le_trans (Nat.mul_le_mul_right _ ?_) z
    simp
theorem slice_at {α : Type} {P : Program} {W : World} {t e : TypeId} {d : Kd α} {wf : List α → Prop} {H : Type} {enc : TypeId × Value → H} {a : Option Addr} {len cap : Nat} {dd : DataW H} {ps : List MemPlace} (ho : Opens P t (Kd.slice e d) wf)
    (h : DataW.Trod enc P W 0 (fun _ => true) true t (.slice a len cap) dd ps) : ∃ l : List α, len = l.length ∧ l.length ≤ cap ∧ d.C W a l.length l ∧ wf l := by
  obtain ⟨fuel, hf⟩ := h
  obtain ⟨l, ⟨A, c, hcs, hl, hC⟩, hw⟩ := ho hf
  simp [Value.cells] at hcs
  obtain ⟨rfl, rfl, rfl⟩ := hcs
  exact ⟨l, rfl, hl, hC, hw⟩
section
variable {P : Program} {t : TypeId} {W : World} {H : Type} {enc : TypeId × Value → H} {r : Reach} {b0 : Nat} {v : Value} {d : DataW H} {p : List MemPlace}
end
end Go.Proofs.Ythekngnkajjhnaa.Open
namespace Go.Proofs.Ythekngnkajjhnaa.P
open Go.RowKit Go.Proofs.YthekngnkajjhnaaW.PrintWords Go.Proofs.YthekngnkajjhnaaW.PrintLast Go.Proofs.YthekngnkajjhnaaW.PrintMore
attribute [local go_sem] max2_int min2_int max_two min_two max_three min_three max_four min_four
set_option linter.unusedVariables false
set_option linter.unusedSimpArgs false
open Go.Proofs.Ythekngnkajjhnaa.Open
end Go.Proofs.Ythekngnkajjhnaa.P
namespace Go.Proofs.Ythekngnkajjhnaa.Pure
set_option linter.unusedVariables false
set_option linter.unusedSimpArgs false
open Go.RowKit Go.Proofs.YthekngnkajjhnaaW.PrintWords Go.Proofs.YthekngnkajjhnaaW.PrintLast Go.Proofs.YthekngnkajjhnaaW.PrintMore
theorem w64 {x : Int} (h0 : -9223372036854775808 ≤ x) (h1 : x ≤ 9223372036854775807) : wrap64 x = x := by
  unfold wrap64
  omega
theorem w64n {n : Nat} (h : n ≤ 9223372036854775807) : wrap64 (n : Int) = (n : Int) := w64 (by omega) (by omega)
theorem rd_nat (xs : List Int) (i : Nat) : rd xs (i : Int) = xs.getD i 0 := by simp [rd]
section
variable {α β : Type} {f g : Nat → Option α} {r : α}
theorem ev_some (r : α) : Ev (fun _ => some r) r := ⟨0, fun _ _ => rfl⟩
theorem ev_ifp {c : Prop} [Decidable c] (h : c) (k : Ev f r) : Ev (fun n => if c then f n else g n) r := Ev.congr (fun _ => if_pos h) k
theorem ev_ifn {c : Prop} [Decidable c] (h : ¬ c) (k : Ev g r) : Ev (fun n => if c then f n else g n) r := Ev.congr (fun _ => if_neg h) k
theorem ev_bind {F : Nat → α → Option β} {q : β} (h : Ev g r) (k : Ev (fun n => F n r) q) : Ev (fun n => (g n).bind (fun x => F n x)) q := by
  obtain ⟨K1, h1⟩ := h
  obtain ⟨K2, h2⟩ := k
  exact ⟨K1 + K2, fun n hn => by show (g n).bind (fun x => F n x) = some q; rw [h1 n (by omega)]; exact h2 n (by omega)⟩
theorem ev_const {a : Option α} (h : a = some r) : Ev (fun _ => a) r := ⟨0, fun _ _ => h⟩
theorem ev_step (h : ∀ k, g (k + 1) = f k) (k : Ev f r) : Ev g r := by
  obtain ⟨K, h1⟩ := k
  refine ⟨K + 1, fun n hn => ?_⟩
  obtain ⟨m, rfl⟩ : ∃ m, n = m + 1 := ⟨n - 1, by omega⟩
  rw [h m]
  exact h1 m (by omega)
end
def iter {σ : Type} (g : Nat → σ → σ) : Nat → Nat → σ → σ
  | _, 0, s => s
  | i, d + 1, s => iter g (i + 1) d (g i s)
theorem loop_ev {σ ρ : Type} (F : Nat → σ → Nat → Option ρ) (n : Nat) (g : Nat → σ → σ) (fin : σ → ρ) (I : Nat → σ → Prop)
    (hs : ∀ i s r, I i s → i < n → Ev (fun k => F k (g i s) (i + 1)) r → Ev (fun k => F k s i) r) (hI : ∀ i s, I i s → i < n → I (i + 1) (g i s))
    (he : ∀ s, I n s → Ev (fun k => F k s n) (fin s)) : ∀ i s, i ≤ n → I i s → Ev (fun k => F k s i) (fin (iter g i (n - i) s)) := by
  have key : ∀ d i s, n - i = d → i ≤ n → I i s → Ev (fun k => F k s i) (fin (iter g i d s)) := by
    intro d
    induction d with
    | zero =>
      intro i s h0 h1 h2
      obtain rfl : i = n := by omega
      exact he s h2
    | succ d ih =>
      intro i s h0 h1 h2
      exact hs i s _ h2 (by omega) (ih (i + 1) (g i s) (by omega) (by omega) (hI i s h2 (by omega)))
  exact fun i s h1 h2 => key (n - i) i s rfl h1 h2
theorem iter_inv {σ : Type} (g : Nat → σ → σ) (I : Nat → σ → Prop) (n : Nat) (hI : ∀ i s, I i s → i < n → I (i + 1) (g i s)) : ∀ d i s, i + d = n → I i s → I n (iter g i d s) := by
  intro d
  induction d with
  | zero => intro i s h0 h1; obtain rfl : i = n := by omega
            exact h1
  | succ d ih => intro i s h0 h1; exact ih (i + 1) _ (by omega) (hI i s h1 (by omega))
def rall (p : Nat → Bool) : Nat → Nat → Bool
  | _, 0 => true
  | i, d + 1 => p i && rall p (i + 1) d
theorem rall_iff (p : Nat → Bool) : ∀ d i, rall p i d = true ↔ ∀ j, i ≤ j → j < i + d → p j = true
  | 0, i => ⟨fun _ j h1 h2 => by omega, fun _ => rfl⟩
  | d + 1, i => by
    show (p i && rall p (i + 1) d) = true ↔ _
    rw [Bool.and_eq_true, rall_iff p d (i + 1)]
    constructor
    · rintro ⟨h0, h1⟩ j h2 h3
      by_cases e : j = i
      · rw [e]; exact h0
      · exact h1 j (by omega) (by omega)
    · intro h
      exact ⟨h i (Nat.le_refl _) (by omega), fun j h2 h3 => h j (by omega) (by omega)⟩
theorem all_ev {ρ : Type} (F : Nat → Nat → Option ρ) (n : Nat) (p : Nat → Bool) (no yes : ρ) (hs : ∀ i r, i < n → p i = true → Ev (fun k => F k (i + 1)) r → Ev (fun k => F k i) r)
    (hn : ∀ i, i < n → p i = false → Ev (fun k => F k i) no) (he : Ev (fun k => F k n) yes) :
    ∀ i, i ≤ n → Ev (fun k => F k i) (if rall p i (n - i) = true then yes else no) := by
  have key : ∀ d i, n - i = d → i ≤ n → Ev (fun k => F k i) (if rall p i d = true then yes else no) := by
    intro d
    induction d with
    | zero =>
      intro i h0 h1
      obtain rfl : i = n := by omega
      rw [show rall p i 0 = true from rfl, if_pos rfl]
      exact he
    | succ d ih =>
      intro i h0 h1
      have h := ih (i + 1) (by omega) (by omega)
      have e : rall p i (d + 1) = (p i && rall p (i + 1) d) := rfl
      cases hp : p i with
      | true =>
        rw [e, hp, Bool.true_and]
        exact hs i _ (by omega) hp h
      | false =>
        rw [e, hp, Bool.false_and, if_neg (by simp)]
        exact hn i (by omega) hp
  exact fun i h1 => key (n - i) i rfl h1
theorem allb_ev (F : Nat → Nat → Option Bool) (n : Nat) (p : Nat → Bool) (hs : ∀ i r, i < n → p i = true → Ev (fun k => F k (i + 1)) r → Ev (fun k => F k i) r)
    (hn : ∀ i, i < n → p i = false → Ev (fun k => F k i) false) (he : Ev (fun k => F k n) true) : Ev (fun k => F k 0) (rall p 0 n) := by
  have h := all_ev F n p false true hs hn he 0 (Nat.zero_le _)
  rw [Nat.sub_zero] at h
  cases e : rall p 0 n <;> simpa [e] using h
theorem getD_eq_get {α : Type} {xs : List α} {i : Nat} (z : α) (h : i < xs.length) : xs.getD i z = xs[i] := by simp [List.getD, List.getElem?_eq_getElem h]
theorem rall_list {α : Type} (xs : List α) (z : α) (p : α → Bool) : rall (fun j => p (xs.getD j z)) 0 xs.length = xs.all p := by
  rw [Bool.eq_iff_iff, rall_iff, List.all_eq_true]
  constructor
  · intro h x hx
    obtain ⟨i, hi, rfl⟩ := List.getElem_of_mem hx
    rw [← getD_eq_get z hi]
    exact h i (Nat.zero_le _) (by omega)
  · intro h j _ hj
    rw [getD_eq_get z (by omega)]
    exact h _ (List.getElem_mem (by omega))
theorem eq_index {α : Type} {xs ys : List α} (z : α) (h : xs.length = ys.length) (hh : ∀ j, j < xs.length → xs.getD j z = ys.getD j z) : xs = ys := by
  refine List.ext_getElem h (fun i h1 h2 => ?_)
  rw [← getD_eq_get z h1, ← getD_eq_get z h2]
  exact hh i h1
theorem iter_add {σ : Type} (g : Nat → σ → σ) : ∀ a i b s, iter g i (a + b) s = iter g (i + a) b (iter g i a s) := by
  intro a
  induction a with
  | zero => intro i b s; rw [Nat.zero_add]; rfl
  | succ a ih =>
    intro i b s
    rw [show a + 1 + b = (a + b) + 1 by omega]
    show iter g (i + 1) (a + b) (g i s) = _
    rw [ih (i + 1) b (g i s)]
    show _ = iter g (i + (a + 1)) b (iter g (i + 1) a (g i s))
    rw [show i + 1 + a = i + (a + 1) by omega]
theorem grid_ev {σ ρ : Type} (F0 : Nat → σ → Nat → Option ρ) (F1 : Nat → σ → Nat → Nat → Option ρ) (w h : Nat) (g : Nat → σ → σ) (fin : σ → ρ) (I : Nat → σ → Prop)
    (hout : ∀ y s r, I (y * w) s → y < h → Ev (fun k => F1 k s y 0) r → Ev (fun k => F0 k s y) r)
    (hin : ∀ y x s r, I (y * w + x) s → y < h → x < w → Ev (fun k => F1 k (g (y * w + x) s) y (x + 1)) r → Ev (fun k => F1 k s y x) r)
    (hI : ∀ y x s, I (y * w + x) s → y < h → x < w → I (y * w + (x + 1)) (g (y * w + x) s))
    (hrow : ∀ y s r, I (y * w + w) s → y < h → Ev (fun k => F0 k s (y + 1)) r → Ev (fun k => F1 k s y w) r)
    (hend : ∀ s, I (h * w) s → Ev (fun k => F0 k s h) (fin s)) : ∀ s, I 0 s → Ev (fun k => F0 k s 0) (fin (iter g 0 (h * w) s)) := by
  have row : ∀ d y x s r, w - x = d → x ≤ w → y < h → I (y * w + x) s → Ev (fun k => F0 k (iter g (y * w + x) d s) (y + 1)) r → Ev (fun k => F1 k s y x) r := by
    intro d
    induction d with
    | zero =>
      intro y x s r h0 h1 h2 h3 h4
      obtain rfl : x = w := by omega
      exact hrow y s r h3 h2 h4
    | succ d ih =>
      intro y x s r h0 h1 h2 h3 h4
      exact hin y x s r h3 h2 (by omega) (ih y (x + 1) _ r (by omega) (by omega) h2 (hI y x s h3 h2 (by omega)) h4)
  have rowI : ∀ d y x s, w - x = d → x ≤ w → y < h → I (y * w + x) s → I (y * w + w) (iter g (y * w + x) d s) := by
    intro d
    induction d with
    | zero =>
      intro y x s h0 h1 h2 h3
      obtain rfl : x = w := by omega
      exact h3
    | succ d ih =>
      intro y x s h0 h1 h2 h3
      exact ih y (x + 1) _ (by omega) (by omega) h2 (hI y x s h3 h2 (by omega))
  have key : ∀ d y s, h - y = d → y ≤ h → I (y * w) s → Ev (fun k => F0 k s y) (fin (iter g (y * w) (d * w) s)) := by
    intro d
    induction d with
    | zero =>
      intro y s h0 h1 h2
      obtain rfl : y = h := by omega
      rw [Nat.zero_mul]
      exact hend s h2
    | succ d ih =>
      intro y s h0 h1 h2
      have hb := rowI w y 0 s (by omega) (Nat.zero_le _) (by omega) h2
      have e1 : y * w + w = (y + 1) * w := by rw [Nat.add_mul, Nat.one_mul]
      rw [Nat.add_zero] at hb
      rw [e1] at hb
      have hk := ih (y + 1) _ (by omega) (by omega) hb
      rw [show (d + 1) * w = w + d * w by rw [Nat.add_mul, Nat.one_mul]; omega, iter_add, e1]
      exact hout y s _ h2 (by omega) (row w y 0 s _ (by omega) (Nat.zero_le _) (by omega) h2 hk)
  intro s h0
  have hk := key h 0 s (by omega) (Nat.zero_le _) (by rw [Nat.zero_mul]; exact h0)
  rw [Nat.zero_mul] at hk
  exact hk
def tab {α : Type} (n : Nat) (q : Nat → α) : List α := (List.range n).map q
theorem tab_length {α : Type} (n : Nat) (q : Nat → α) : (tab n q).length = n := by simp [tab]
theorem tab_getD {α : Type} (n : Nat) (q : Nat → α) (z : α) {i : Nat} (h : i < n) : (tab n q).getD i z = q i := by simp [tab, List.getD, h]
theorem iter_set_tab {α : Type} (z : α) (q : Nat → α) (n : Nat) (s : List α) (hs : s.length = n) : iter (fun i (s : List α) => s.set i (q i)) 0 n s = tab n q := by
  have hi := iter_inv (fun i (s : List α) => s.set i (q i)) (fun i s => s.length = n ∧ ∀ j, j < i → s.getD j z = q j) n
    (fun i s hI hi => ⟨by simp [hI.1], fun j hj => by
      by_cases e : j = i
      · subst e
        have := hI.1
        simp [List.getD, List.getElem?_set_self (show j < s.length by omega)]
      · rw [← hI.2 j (by omega)]
        simp [List.getD, List.getElem?_set_ne (Ne.symm e)]⟩) n 0 s (by omega) ⟨hs, fun j hj => by omega⟩
  exact eq_index z (by rw [hi.1, tab_length]) (fun j hj => by rw [hi.2 j (by have := hi.1; omega), tab_getD _ _ z (by have := hi.1; omega)])
theorem iter_app_tab {α : Type} (q : Nat → α) : ∀ d i (s : List α), iter (fun i (s : List α) => s ++ [q i]) i d s = s ++ (List.range d).map (fun j => q (i + j)) := by
  intro d
  induction d with
  | zero => intro i s; simp [iter]
  | succ d ih =>
    intro i s
    show iter _ (i + 1) d (s ++ [q i]) = _
    rw [ih (i + 1) (s ++ [q i]), List.append_assoc, List.range_succ_eq_map, List.map_cons, List.map_map]
    congr 1
    show [q i] ++ _ = q (i + 0) :: _
    rw [List.singleton_append, Nat.add_zero]
    congr 1
    refine List.map_congr_left (fun j _ => ?_)
    show q (i + 1 + j) = q (i + (j + 1))
    congr 1
    omega
theorem iter_app0 {α : Type} (q : Nat → α) (n : Nat) : iter (fun i (s : List α) => s ++ [q i]) 0 n [] = tab n q := by
  rw [iter_app_tab, List.nil_append]
  unfold tab
  exact List.map_congr_left (fun j _ => by rw [Nat.zero_add])
theorem loop_at {σ ρ : Type} (F : Nat → σ → Nat → Option ρ) (n : Nat) (g : Nat → σ → σ) (fin : σ → ρ) (I : Nat → σ → Prop)
    (hs : ∀ k i s, I i s → i < n → F (k + 1) s i = F k (g i s) (i + 1)) (hI : ∀ i s, I i s → i < n → I (i + 1) (g i s))
    (he : ∀ k s, I n s → F (k + 1) s n = some (fin s)) : ∀ d k i s, n - i = d → i ≤ n → I i s → d < k → F k s i = some (fin (iter g i d s)) := by
  intro d
  induction d with
  | zero =>
    intro k i s h0 h1 h2 hk
    obtain ⟨k, rfl⟩ : ∃ m, k = m + 1 := ⟨k - 1, by omega⟩
    obtain rfl : i = n := by omega
    exact he k s h2
  | succ d ih =>
    intro k i s h0 h1 h2 hk
    obtain ⟨k, rfl⟩ : ∃ m, k = m + 1 := ⟨k - 1, by omega⟩
    rw [hs k i s h2 (by omega)]
    exact ih k (i + 1) (g i s) (by omega) (by omega) (hI i s h2 (by omega)) (by omega)
theorem ev_all {β : Type} (f : Nat → Nat → Option β) (q : Nat → β) (n : Nat) (h : ∀ i, i < n → Ev (fun k => f k i) (q i)) : ∃ K, ∀ k, K ≤ k → ∀ i, i < n → f k i = some (q i) := by
  induction n with
  | zero => exact ⟨0, fun k _ i hi => by omega⟩
  | succ n ih =>
    obtain ⟨K1, h1⟩ := ih (fun i hi => h i (by omega))
    obtain ⟨K2, h2⟩ := h n (by omega)
    refine ⟨K1 + K2, fun k hk i hi => ?_⟩
    by_cases e : i = n
    · rw [e]; exact h2 k (by omega)
    · exact h1 k (by omega) i (by omega)
end Go.Proofs.Ythekngnkajjhnaa.Pure
namespace Go.Proofs.Ythekngnkajjhnaa.Pure
set_option linter.unusedVariables false
set_option linter.unusedSimpArgs false
open Go.RowKit Go.Proofs.YthekngnkajjhnaaW.PrintWords Go.Proofs.YthekngnkajjhnaaW.PrintLast
def pos (s : List Int) (x : Int) : Nat → Nat
  | 0 => 0
  | j + 1 => if s.getD j 0 > x then pos s x j else j + 1
theorem pos_le (s : List Int) (x : Int) : ∀ j, pos s x j ≤ j
  | 0 => Nat.le_refl _
  | j + 1 => by
    unfold pos
    split
    · have := pos_le s x j; omega
    · exact Nat.le_refl _
theorem pos_above (s : List Int) (x : Int) : ∀ j i, pos s x j ≤ i → i < j → s.getD i 0 > x
  | 0, i, _, h => by omega
  | j + 1, i, h1, h2 => by
    unfold pos at h1
    split at h1
    · rename_i hj
      by_cases e : i = j
      · rw [e]; exact hj
      · exact pos_above s x j i h1 (by omega)
    · omega
theorem pos_below (s : List Int) (x : Int) : ∀ j, 0 < pos s x j → s.getD (pos s x j - 1) 0 ≤ x
  | 0, h => by simp [pos] at h
  | j + 1, h => by
    unfold pos at h ⊢
    split
    · rename_i hj
      rw [if_pos hj] at h
      exact pos_below s x j h
    · rename_i hj
      rw [show j + 1 - 1 = j by omega]
      omega
def ins (s : List Int) (x : Int) : List Int := s.take (pos s x s.length) ++ (x :: s.drop (pos s x s.length))
theorem ins_perm (s : List Int) (x : Int) : (ins s x).Perm (x :: s) := by
  unfold ins
  have h : (s.take (pos s x s.length) ++ x :: s.drop (pos s x s.length)).Perm (x :: (s.take (pos s x s.length) ++ s.drop (pos s x s.length))) := List.perm_middle
  rw [List.take_append_drop] at h
  exact h
theorem ins_sorted (s : List Int) (x : Int) (h : s.Pairwise (· ≤ ·)) : (ins s x).Pairwise (· ≤ ·) := by
  have hp := pos_le s x s.length
  have ha := pos_above s x s.length
  have hb := pos_below s x s.length
  unfold ins
  generalize pos s x s.length = p at *
  have hidx := List.pairwise_iff_getElem.1 h
  rw [List.pairwise_append]
  refine ⟨h.sublist (List.take_sublist _ _), ?_, ?_⟩
  · rw [List.pairwise_cons]
    refine ⟨fun y hy => ?_, h.sublist (List.drop_sublist _ _)⟩
    obtain ⟨i, hi, rfl⟩ := List.getElem_of_mem hy
    rw [List.getElem_drop]
    have hl : p + i < s.length := by simp at hi; omega
    have := ha (p + i) (by omega) hl
    rw [getD_eq_get 0 hl] at this
    omega
  · intro y hy z hz
    obtain ⟨i, hi, rfl⟩ := List.getElem_of_mem hy
    rw [List.getElem_take]
    have hip : i < p := by simp at hi; omega
    have h0 := hb (by omega)
    have hl1 : p - 1 < s.length := by omega
    rw [getD_eq_get 0 hl1] at h0
    have hyx : s[i]'(by omega) ≤ x := by
      by_cases e : i = p - 1
      · subst e; exact h0
      · have := hidx i (p - 1) (by omega) hl1 (by omega)
        omega
    rcases List.mem_cons.1 hz with rfl | hz
    · exact hyx
    · obtain ⟨j, hj, rfl⟩ := List.getElem_of_mem hz
      rw [List.getElem_drop]
      have hl : p + j < s.length := by simp at hj; omega
      have := ha (p + j) (by omega) hl
      rw [getD_eq_get 0 hl] at this
      omega
def colStep (c : Nat → Int) (j : Nat) (s : List Int) : List Int := if c j = -9999 then s else s ++ [c j]
def colIns (c : Nat → Int) (j : Nat) (s : List Int) : List Int := if c j = -9999 then s else ins s (c j)
def colI (c : Nat → Int) (n : Nat) : List Int := iter (colStep c) 0 n []
def colS (c : Nat → Int) (n : Nat) : List Int := iter (colIns c) 0 n []
theorem col_perm (c : Nat → Int) (n : Nat) : (colS c n).Perm (colI c n) := by
  have key : ∀ d i (s t : List Int), s.Perm t → (iter (colIns c) i d s).Perm (iter (colStep c) i d t) := by
    intro d
    induction d with
    | zero => intro i s t h; exact h
    | succ d ih =>
      intro i s t h
      refine ih (i + 1) _ _ ?_
      unfold colIns colStep
      split
      · exact h
      · exact (ins_perm _ _).trans ((List.Perm.cons _ h).trans (List.perm_append_singleton _ _).symm)
  exact key _ _ _ _ (List.Perm.refl _)
theorem colS_sorted (c : Nat → Int) (n : Nat) : (colS c n).Pairwise (· ≤ ·) :=
  iter_inv (colIns c) (fun _ s => s.Pairwise (· ≤ ·)) n (fun i s h _ => by unfold colIns; split; exact h; exact ins_sorted s _ h) n 0 [] (by omega) List.Pairwise.nil
theorem colStep_len {c : Nat → Int} {j : Nat} {s : List Int} (h : s.length ≤ j) : (colStep c j s).length ≤ j + 1 := by unfold colStep; split; omega; simp; omega
theorem colIns_len {c : Nat → Int} {j : Nat} {s : List Int} (h : s.length ≤ j) : (colIns c j s).length ≤ j + 1 := by
  unfold colIns
  split
  · omega
  · rw [(ins_perm s _).length_eq, List.length_cons]; omega
theorem colI_len (c : Nat → Int) (n : Nat) : (colI c n).length ≤ n :=
  iter_inv (colStep c) (fun i s => s.length ≤ i) n (fun i s h _ => colStep_len h) n 0 [] (by omega) (by simp)
theorem colI_all (c : Nat → Int) (n : Nat) (P : Int → Prop) (h : ∀ j, j < n → c j ≠ -9999 → P (c j)) : ∀ x ∈ colI c n, P x :=
  iter_inv (colStep c) (fun _ s => ∀ x ∈ s, P x) n (fun i s hs hi => by
    unfold colStep
    split
    · exact hs
    · intro x hx
      rcases List.mem_append.1 hx with hx | hx
      · exact hs x hx
      · obtain rfl := List.mem_singleton.1 hx
        exact h i hi ‹_›) n 0 [] (by omega) (by simp)
def insAt (s : List Int) (h : Int) (j : Nat) : List Int := s.take j ++ (h :: s.drop j)
theorem insAt_set (s : List Int) (h x : Int) (j : Nat) (hj : j ≤ s.length) : (insAt s h j).set j x = insAt s x j := by
  unfold insAt
  rw [List.set_append_right _ _ (by rw [List.length_take]; omega), List.length_take, Nat.min_eq_left hj, Nat.sub_self]
  rfl
theorem insAt_len (s : List Int) (h : Int) (j : Nat) (hj : j ≤ s.length) : (insAt s h j).length = s.length + 1 := by
  unfold insAt
  simp
  omega
theorem insAt_back (s : List Int) (h : Int) (j : Nat) (hj : j < s.length) : (insAt s h (j + 1)).getD j 0 = s.getD j 0 := by
  unfold insAt
  simp only [List.getD, List.getElem?_append, List.getElem?_take, List.length_take]
  rw [if_pos (by omega), if_pos (by omega)]
theorem insAt_step (s : List Int) (j : Nat) (hj : j < s.length) : insAt s (s.getD j 0) (j + 1) = insAt s (s.getD j 0) j := by
  unfold insAt
  rw [getD_eq_get 0 hj, List.take_add_one, List.getElem?_eq_getElem hj, Option.toList_some, List.append_assoc, List.drop_eq_getElem_cons hj]
  rfl
theorem insAt_end (s : List Int) (x : Int) : s ++ [x] = insAt s x s.length := by
  unfold insAt
  simp
end Go.Proofs.Ythekngnkajjhnaa.Pure
namespace Go.Proofs.Ythekngnkajjhnaa.Pure
set_option linter.unusedVariables false
set_option linter.unusedSimpArgs false
open Go.RowKit Go.Proofs.YthekngnkajjhnaaW.PrintWords Go.Proofs.YthekngnkajjhnaaW.PrintLast Go.Proofs.YthekngnkajjhnaaW.PrintMore
theorem mn_is (a b : Int) : mn a b = min a b := by unfold mn; omega
theorem mx_is (a b : Int) : mx a b = max a b := by unfold mx; omega
end Go.Proofs.Ythekngnkajjhnaa.Pure
namespace Go.Proofs.Ythekngnkajjhnaa.Pure
set_option linter.unusedVariables false
set_option linter.unusedSimpArgs false
open Go.RowKit Go.Proofs.Ythekngnkajjhnaa.P Go.Proofs.YthekngnkajjhnaaW.PrintWords Go.Proofs.YthekngnkajjhnaaW.PrintLast
def inb (x a b : Int) : Bool := decide (a ≤ x) && decide (x ≤ b)
theorem inb_iff {x a b : Int} : inb x a b = true ↔ a ≤ x ∧ x ≤ b := by simp [inb]
theorem l1In_is (x a b : Int) : spec_l1In.f x a b = some (inb x a b) := by
  unfold spec_l1In.f inb
  split
  · rename_i h; simp [show a ≤ x from h]
  · rename_i h; simp [show ¬ a ≤ x from h]
theorem within_is (x a b : Int) : impl_within.f x a b = some (inb x a b) := l1In_is x a b
def cellOk (x : Int) : Bool := decide (x = -9999) || inb x (-9000) 9000
def fieldOk (a b : Int) (l : List Int) : Bool := inb a 1 8 && (inb b 1 8 && (decide ((l.length : Int) = a * b) && l.all cellOk))
structure FieldIs (a b : Int) (l : List Int) : Prop where
  a1 : 1 ≤ a
  a8 : a ≤ 8
  b1 : 1 ≤ b
  b8 : b ≤ 8
  len : (l.length : Int) = a * b
  cells : ∀ x ∈ l, cellOk x = true
theorem fieldOk_iff {a b : Int} {l : List Int} : fieldOk a b l = true ↔ FieldIs a b l := by
  unfold fieldOk
  rw [Bool.and_eq_true, Bool.and_eq_true, Bool.and_eq_true, inb_iff, inb_iff, decide_eq_true_eq, List.all_eq_true]
  exact ⟨fun ⟨⟨h1, h2⟩, ⟨h3, h4⟩, h5, h6⟩ => ⟨h1, h2, h3, h4, h5, h6⟩, fun h => ⟨⟨h.a1, h.a8⟩, ⟨h.b1, h.b8⟩, h.len, h.cells⟩⟩
theorem mul_bd {a b : Int} (a1 : 1 ≤ a) (a8 : a ≤ 8) (b1 : 1 ≤ b) (b8 : b ≤ 8) : 1 ≤ a * b ∧ a * b ≤ 64 := by
  obtain h | h | h | h | h | h | h | h : a = 1 ∨ a = 2 ∨ a = 3 ∨ a = 4 ∨ a = 5 ∨ a = 6 ∨ a = 7 ∨ a = 8 := by omega
  all_goals subst h; omega
theorem FieldIs.len64 {a b : Int} {l : List Int} (h : FieldIs a b l) : 1 ≤ l.length ∧ l.length ≤ 64 := by
  have := mul_bd h.a1 h.a8 h.b1 h.b8
  have := h.len
  omega
theorem l2Value_is (x : Int) : spec_l2Value.f x = some (cellOk x) := by
  unfold spec_l2Value.f cellOk
  rw [l1In_is]
  by_cases h : x = -9999
  · simp [h]
  · simp [h]
theorem l2Shape_is (a b : Int) : spec_l2Shape.f a b = some (inb a 1 8 && inb b 1 8) := by
  unfold spec_l2Shape.f
  rw [l1In_is, l1In_is]
  cases inb a 1 8 <;> simp
theorem shape_iff {a b : Int} : (inb a 1 8 && inb b 1 8) = true ↔ (1 ≤ a ∧ a ≤ 8) ∧ 1 ≤ b ∧ b ≤ 8 := by rw [Bool.and_eq_true, inb_iff, inb_iff]
theorem l2Good_ev (a b : Int) (l : List Int) (hl : l.length ≤ 9223372036854775806) : Ev (fun k => spec_l2Good.f k a b l) (fieldOk a b l) := by
  have no : Ev (fun k => spec_l2Good.j0 k true a b l) false := ev_step (f := fun _ => some false) (fun k => by simp [spec_l2Good.j0]) (ev_some _)
  unfold spec_l2Good.f
  rw [l2Shape_is]
  simp only [Option.bind_some]
  by_cases hs : (inb a 1 8 && inb b 1 8) = true
  · refine ev_ifp hs ?_
    obtain ⟨⟨a1, a8⟩, b1, b8⟩ := shape_iff.1 hs
    have hm := mul_bd a1 a8 b1 b8
    rw [w64 (by omega) (by omega)]
    by_cases hl2 : (l.length : Int) = a * b
    · have h := allb_ev (fun k i => spec_l2Good.l0 k (i : Int) a b l) l.length (fun i => cellOk (l.getD i 0))
        (fun i r hi hp hh => ev_step (fun k => by
          simp only [spec_l2Good.l0, l2Value_is, Option.bind_some, rd_nat]
          rw [if_pos (by omega), if_pos (by omega), if_pos hp, w64 (by omega) (by omega)]
          rfl) hh)
        (fun i hi hp => ev_step (f := fun _ => some false) (fun k => by
          simp only [spec_l2Good.l0, l2Value_is, Option.bind_some, rd_nat]
          rw [if_pos (by omega), if_pos (by omega), if_neg (by rw [hp]; decide)]) (ev_some _))
        (ev_step (f := fun _ => some true) (fun k => by
          simp only [spec_l2Good.l0]
          rw [if_neg (by omega)]) (ev_some _))
      rw [rall_list] at h
      have e : fieldOk a b l = l.all cellOk := by
        rw [Bool.and_eq_true] at hs
        simp [fieldOk, hs.1, hs.2, hl2]
      rw [e, show ((l.length : Int) != a * b) = false by rw [bne_eq_false_iff_eq]; exact hl2]
      exact ev_step (f := fun k => spec_l2Good.l0 k 0 a b l) (fun k => by simp [spec_l2Good.j0]) h
    · have e : fieldOk a b l = false := by simp [fieldOk, hl2]
      rw [e, show ((l.length : Int) != a * b) = true by rw [bne_iff_ne]; exact hl2]
      exact no
  · refine ev_ifn hs ?_
    have e : fieldOk a b l = false := by
      cases h1 : inb a 1 8 with
      | false => simp [fieldOk, h1]
      | true =>
        cases h2 : inb b 1 8 with
        | false => simp [fieldOk, h2]
        | true => exact absurd (by rw [h1, h2]; rfl) hs
    rw [e]
    exact no
theorem isValidField_is (a b : Int) (l : List Int) : impl_IsValidField.f a b l = some (fieldOk a b l) := by
  unfold impl_IsValidField.f slices_ContainsFunc_int_at_impl_IsValidField_1.f
  rw [within_is, within_is]
  simp only [Option.bind_some]
  cases h1 : inb a 1 8 with
  | false => simp [fieldOk, h1]
  | true =>
    cases h2 : inb b 1 8 with
    | false => simp [fieldOk, h2]
    | true =>
      have hm := mul_bd (inb_iff.1 h1).1 (inb_iff.1 h1).2 (inb_iff.1 h2).1 (inb_iff.1 h2).2
      rw [w64 (by omega) (by omega)]
      by_cases hl : (l.length : Int) = a * b
      · have e : (!l.any slices_ContainsFunc_int_at_impl_IsValidField_1.p) = l.all cellOk := by
          rw [List.not_any_eq_all_not]
          congr 1
          funext x
          simp [slices_ContainsFunc_int_at_impl_IsValidField_1.p, cellOk, inb]
        simp [fieldOk, h1, h2, hl, e]
      · simp [fieldOk, hl]
end Go.Proofs.Ythekngnkajjhnaa.Pure
namespace Go.Proofs.Ythekngnkajjhnaa.P
open Go.RowKit Go.Proofs.YthekngnkajjhnaaW.PrintWords Go.Proofs.YthekngnkajjhnaaW.PrintLast Go.Proofs.YthekngnkajjhnaaW.PrintMore
attribute [local go_sem] max2_int min2_int max_two min_two max_three min_three max_four min_four
set_option linter.unusedVariables false
set_option linter.unusedSimpArgs false
end Go.Proofs.Ythekngnkajjhnaa.P
namespace Go.Proofs.Ythekngnkajjhnaa.Pure
set_option linter.unusedVariables false
set_option linter.unusedSimpArgs false
open Go.RowKit Go.Proofs.Ythekngnkajjhnaa.P Go.Proofs.YthekngnkajjhnaaW.PrintWords Go.Proofs.YthekngnkajjhnaaW.PrintLast
theorem l2At_is (a b : Int) (l : List Int) (W H x y : Nat) (ha : a = W) (hx : x < W) (hy : y < H) (hl : l.length = H * W) (h64 : l.length ≤ 64) : spec_l2At.f a b l (x : Int) (y : Int) = some (l.getD (y * W + x) 0) := by
  subst ha
  have h1 : y * W + x < H * W := by
    have : (y + 1) * W ≤ H * W := Nat.mul_le_mul_right W hy
    rw [Nat.add_mul] at this
    omega
  have e : wrap64 ((wrap64 ((y : Int) * (W : Int))) + (x : Int)) = ((y * W + x : Nat) : Int) := by
    have e1 : (y : Int) * (W : Int) = ((y * W : Nat) : Int) := by simp
    rw [e1, w64n (by omega), show ((y * W : Nat) : Int) + (x : Int) = ((y * W + x : Nat) : Int) by simp]
    exact w64n (by omega)
  unfold spec_l2At.f
  rw [e, if_pos (by omega), if_pos (by omega), rd_nat]
theorem div_at {W y x : Nat} (hx : x < W) : (y * W + x) / W = y ∧ (y * W + x) % W = x := by
  have hW : 0 < W := by omega
  constructor
  · rw [Nat.mul_comm, Nat.mul_add_div hW, Nat.div_eq_of_lt hx, Nat.add_zero]
  · rw [Nat.mul_comm, Nat.mul_add_mod, Nat.mod_eq_of_lt hx]
end Go.Proofs.Ythekngnkajjhnaa.Pure
namespace Go.Proofs.Ythekngnkajjhnaa.Pure
set_option linter.unusedVariables false
set_option linter.unusedSimpArgs false
open Go.RowKit Go.Proofs.Ythekngnkajjhnaa.P Go.Proofs.YthekngnkajjhnaaW.PrintWords Go.Proofs.YthekngnkajjhnaaW.PrintLast Go.Proofs.YthekngnkajjhnaaW.PrintMore
theorem least_is (a b : Int) : spec_l1Least.f a b = some (min a b) := by unfold spec_l1Least.f; split <;> (congr 1; omega)
theorem most_is (a b : Int) : spec_l1Most.f a b = some (max a b) := by unfold spec_l1Most.f; split <;> (congr 1; omega)
def cn (W x r : Nat) : Nat := min W (x + r + 1) - (x - r)
def hoodC (W H : Nat) (l : List Int) (r x y j : Nat) : Int := l.getD ((y - r + j / cn W x r) * W + (x - r + j % cn W x r)) 0
def hoodN (W H r x y : Nat) : Nat := cn H y r * cn W x r
theorem hood_lo {x r : Nat} (hx : x < 8) (hr : r ≤ 3) : max (0 : Int) (wrap64 ((x : Int) - (r : Int))) = ((x - r : Nat) : Int) := by
  rw [w64 (by omega) (by omega)]; omega
theorem hood_hi {W x r : Nat} (hW : 1 ≤ W ∧ W ≤ 8) (hx : x < W) (hr : r ≤ 3) : min (wrap64 ((W : Int) - 1)) (wrap64 ((x : Int) + (r : Int))) = ((x - r + cn W x r : Nat) : Int) - 1 := by
  rw [w64 (by omega) (by omega), w64 (by omega) (by omega)]
  unfold cn
  omega
theorem hood_in {W x r u : Nat} (hx : x < W) (hu : u < cn W x r) : x - r + u < W := by unfold cn at hu; omega
theorem hood_ix {W H a b : Nat} (ha : a < W) (hb : b < H) : b * W + a < H * W := by
  have : (b + 1) * W ≤ H * W := Nat.mul_le_mul_right W hb
  rw [Nat.add_mul] at this
  omega
theorem hood_wr {W H a b : Nat} (ha : a < W) (hb : b < H) (h64 : H * W ≤ 64) : wrap64 (wrap64 (((b : Nat) : Int) * (W : Int)) + ((a : Nat) : Int)) = ((b * W + a : Nat) : Int) := by
  have := hood_ix ha hb
  rw [← Int.natCast_mul, w64n (by omega), ← Int.natCast_add, w64n (by omega)]
theorem ins_ev (s : List Int) (v : Int) (Y X : Int) (q : List Int) (hs : s.length ≤ 1000) (a b : Int) (l' : List Int) (x1 x2 x3 : Int)
    (h : Ev (fun k => spec_l6Values.l1 k x1 x2 x3 (ins s v) Y (wrap64 (X + 1)) a b l') q) :
    Ev (fun k => spec_l6Values.l2 k x1 x2 x3 s Y X v (s.length : Int) a b l') q := by
  have shift : ∀ (p j : Nat) (g : Int), p ≤ j → j ≤ s.length → Ev (fun k => spec_l6Values.l1 k x1 x2 x3 (insAt s v p) Y (wrap64 (X + 1)) a b l') q →
      Ev (fun k => spec_l6Values.l3 k x1 x2 x3 (insAt s g j) Y X v (p : Int) (j : Int) a b l') q := by
    intro p j
    induction j with
    | zero =>
      intro g h1 h2 h
      obtain rfl : p = 0 := by omega
      refine ev_step (fun k => ?_) h
      simp only [spec_l6Values.l3]
      rw [if_neg (by omega), if_pos (by omega), if_pos (by rw [insAt_len _ _ _ h2]; omega), Int.toNat_natCast, insAt_set _ _ _ _ h2]
    | succ j ih =>
      intro g h1 h2 h
      by_cases e : p = j + 1
      · subst e
        refine ev_step (fun k => ?_) h
        simp only [spec_l6Values.l3]
        rw [if_neg (by omega), if_pos (by omega), if_pos (by rw [insAt_len _ _ _ h2]; omega), Int.toNat_natCast, insAt_set _ _ _ _ h2]
      · have e1 := Aside0.mk (show wrap64 (((j + 1 : Nat) : Int) - 1) = (j : Int) by rw [w64 (by omega) (by omega)]; omega)
        refine ev_step (fun k => ?_) (ih (s.getD j 0) (by omega) (by omega) h)
        simp only [spec_l6Values.l3]
        rw [if_pos (by omega), e1.out, if_pos (by omega), if_pos (by rw [insAt_len _ _ _ h2]; omega), if_pos (by omega), if_pos (by rw [insAt_len _ _ _ h2]; omega), rd_nat, Int.toNat_natCast, insAt_back _ _ _ (by omega), insAt_set _ _ _ _ h2, insAt_step _ _ (by omega)]
  have app : ∀ p : Nat, p ≤ s.length → Ev (fun k => spec_l6Values.l1 k x1 x2 x3 (insAt s v p) Y (wrap64 (X + 1)) a b l') q → Ev (fun k => spec_l6Values.j3 k x1 x2 x3 s Y X v (p : Int) a b l') q := by
    intro p hp h
    refine ev_step (fun k => ?_) (shift p s.length v hp (Nat.le_refl _) h)
    simp only [spec_l6Values.j3, Option.bind_some]
    rw [if_pos (by omega), insAt_end, insAt_len _ _ _ (Nat.le_refl _), w64 (by omega) (by omega), show ((s.length + 1 : Nat) : Int) - 1 = (s.length : Int) by omega]
  have find : ∀ j : Nat, j ≤ s.length → Ev (fun k => spec_l6Values.l1 k x1 x2 x3 (insAt s v (pos s v j)) Y (wrap64 (X + 1)) a b l') q → Ev (fun k => spec_l6Values.l2 k x1 x2 x3 s Y X v (j : Int) a b l') q := by
    intro j
    induction j with
    | zero =>
      intro hj h
      refine ev_step (fun k => ?_) (app 0 (Nat.zero_le _) h)
      simp only [spec_l6Values.l2]
      rw [if_neg (by omega)]
    | succ j ih =>
      intro hj h
      unfold pos at h
      have e1 := Aside0.mk (show wrap64 (((j + 1 : Nat) : Int) - 1) = (j : Int) by rw [w64 (by omega) (by omega)]; omega)
      by_cases hg : s.getD j 0 > v
      · rw [if_pos hg] at h
        refine ev_step (fun k => ?_) (ih (by omega) h)
        simp only [spec_l6Values.l2]
        rw [if_pos (by omega), e1.out, if_pos (by omega), if_pos (by omega), rd_nat, if_pos hg]
      · rw [if_neg hg] at h
        refine ev_step (fun k => ?_) (app (j + 1) hj h)
        simp only [spec_l6Values.l2]
        rw [if_pos (by omega), e1.out, if_pos (by omega), if_pos (by omega), rd_nat, if_neg hg]
  exact find s.length (Nat.le_refl _) h
section
variable {W H r x y : Nat} {l : List Int} (hW : 1 ≤ W ∧ W ≤ 8) (hH : 1 ≤ H ∧ H ≤ 8) (hl : l.length = H * W) (hr : r ≤ 3) (hx : x < W) (hy : y < H)
include hW hH hl hr hx hy
theorem hood_impl : Ev (fun k => impl_neighborhood.f k (W : Int) (H : Int) l (x : Int) (y : Int) (r : Int)) (colI (hoodC W H l r x y) (hoodN W H r x y)) := by
  have h64 : H * W ≤ 64 := Nat.mul_le_mul hH.2 hW.2
  have n64 : hoodN W H r x y ≤ 64 := Nat.mul_le_mul (show cn H y r ≤ 8 by unfold cn; omega) (show cn W x r ≤ 8 by unfold cn; omega)
  have CX : cn W x r ≤ 8 := by unfold cn; omega
  have CY : cn H y r ≤ 8 := by unfold cn; omega
  have LX := Aside0.mk (hood_lo (x := x) (r := r) (by omega) hr)
  have LY := Aside0.mk (hood_lo (x := y) (r := r) (by omega) hr)
  have HX := Aside0.mk (hood_hi hW hx hr)
  have HY := Aside0.mk (hood_hi hH hy hr)
  have h := grid_ev (fun k t v => impl_neighborhood.l0 k (x : Int) (y : Int) (r : Int) t ((y - r + v : Nat) : Int) (W : Int) (H : Int) l)
    (fun k t v u => impl_neighborhood.l1 k (x : Int) (y : Int) (r : Int) t ((y - r + v : Nat) : Int) ((x - r + u : Nat) : Int) (W : Int) (H : Int) l) (cn W x r) (cn H y r)
    (colStep (hoodC W H l r x y)) (fun s => s) (fun j s => s.length ≤ j)
    (fun v s q hI hv h => ev_step (fun k => by
      simp only [impl_neighborhood.l0]
      rw [mn_is, mx_is, LX.out, HY.out, if_pos (by omega)]
      rfl) h)
    (fun v u s q hI hv hu h => ?_)
    (fun v u s hI hv hu => colStep_len hI)
    (fun v s q hI hv h => ev_step (fun k => by
      simp only [impl_neighborhood.l1]
      rw [mn_is, HX.out, if_neg (by omega), w64 (by omega) (by omega)]
      rfl) h)
    (fun s hI => ev_step (f := fun _ => some s) (fun k => by
      simp only [impl_neighborhood.l0]
      rw [mn_is, HY.out, if_neg (by omega)]) (ev_some _)) [] (by simp)
  · unfold impl_neighborhood.f
    rw [mx_is, LY.out]
    exact h
  · obtain ⟨d1, d2⟩ := div_at (y := v) hu
    have bx := hood_in hx hu
    have by_ := hood_in hy hv
    have hc : hoodC W H l r x y (v * cn W x r + u) = l.getD ((y - r + v) * W + (x - r + u)) 0 := by unfold hoodC; rw [d1, d2]
    have hj := hood_ix hu hv
    have IX := Aside0.mk (hood_wr bx by_ h64)
    have hlt := hood_ix bx by_
    refine ev_step (fun k => ?_) h
    simp only [impl_neighborhood.l1]
    unfold hoodN at n64
    rw [mn_is, HX.out, if_pos (by omega), IX.out, if_pos (Int.natCast_nonneg _), if_pos (by rw [hl]; exact_mod_cast hlt), rd_nat, w64 (x := ((x - r + u : Nat) : Int) + 1) (by omega) (by omega), if_pos (c := s.length < 17592186044416) (by omega)]
    show (if _ then _ else _) = impl_neighborhood.l1 k (x : Int) (y : Int) (r : Int) (colStep (hoodC W H l r x y) (v * cn W x r + u) s) _ _ _ _ _
    unfold colStep
    rw [hc]
    split <;> rfl
theorem hood_spec : Ev (fun k => spec_l6Values.f k (W : Int) (H : Int) l (x : Int) (y : Int) (r : Int)) (colS (hoodC W H l r x y) (hoodN W H r x y)) := by
  have h64 : H * W ≤ 64 := Nat.mul_le_mul hH.2 hW.2
  have n64 : hoodN W H r x y ≤ 64 := Nat.mul_le_mul (show cn H y r ≤ 8 by unfold cn; omega) (show cn W x r ≤ 8 by unfold cn; omega)
  have CX : cn W x r ≤ 8 := by unfold cn; omega
  have CY : cn H y r ≤ 8 := by unfold cn; omega
  have LX := Aside0.mk (hood_lo (x := x) (r := r) (by omega) hr)
  have LY := Aside0.mk (hood_lo (x := y) (r := r) (by omega) hr)
  have HX := Aside0.mk (hood_hi hW hx hr)
  have HY := Aside0.mk (hood_hi hH hy hr)
  have h := grid_ev (fun k t v => spec_l6Values.l0 k (x : Int) (y : Int) (r : Int) t ((y - r + v : Nat) : Int) (W : Int) (H : Int) l)
    (fun k t v u => spec_l6Values.l1 k (x : Int) (y : Int) (r : Int) t ((y - r + v : Nat) : Int) ((x - r + u : Nat) : Int) (W : Int) (H : Int) l) (cn W x r) (cn H y r)
    (colIns (hoodC W H l r x y)) (fun s => s) (fun j s => s.length ≤ j)
    (fun v s q hI hv h => ev_step (fun k => by
      simp only [spec_l6Values.l0]
      rw [least_is, most_is, LX.out, HY.out]
      simp only [Option.bind_some]
      rw [if_pos (by omega)]
      rfl) h)
    (fun v u s q hI hv hu h => ?_)
    (fun v u s hI hv hu => colIns_len hI)
    (fun v s q hI hv h => ev_step (fun k => by
      simp only [spec_l6Values.l1]
      rw [least_is, HX.out]
      simp only [Option.bind_some]
      rw [if_neg (by omega), w64 (by omega) (by omega)]
      rfl) h)
    (fun s hI => ev_step (f := fun _ => some s) (fun k => by
      simp only [spec_l6Values.l0]
      rw [least_is, HY.out]
      simp only [Option.bind_some]
      rw [if_neg (by omega)]) (ev_some _)) [] (by simp)
  · unfold spec_l6Values.f
    rw [most_is, LY.out]
    exact h
  · obtain ⟨d1, d2⟩ := div_at (y := v) hu
    have bx := hood_in hx hu
    have by_ := hood_in hy hv
    have hc : hoodC W H l r x y (v * cn W x r + u) = l.getD ((y - r + v) * W + (x - r + u)) 0 := by unfold hoodC; rw [d1, d2]
    have hj := hood_ix hu hv
    have AT := Aside0.mk (l2At_is (W : Int) (H : Int) l W H (x - r + u) (y - r + v) rfl bx by_ hl (by omega))
    have e1 := Aside0.mk (show wrap64 (((x - r + u : Nat) : Int) + 1) = ((x - r + (u + 1) : Nat) : Int) by rw [w64 (by omega) (by omega)]; omega)
    unfold hoodN at n64
    by_cases e : l.getD ((y - r + v) * W + (x - r + u)) 0 = -9999
    · refine ev_step (fun k => ?_) h
      simp only [spec_l6Values.l1]
      rw [least_is, HX.out]
      simp only [Option.bind_some]
      rw [if_pos (by omega), AT.out]
      simp only [Option.bind_some]
      rw [if_pos e, e1.out]
      show _ = spec_l6Values.l1 k (x : Int) (y : Int) (r : Int) (colIns (hoodC W H l r x y) (v * cn W x r + u) s) _ _ _ _ _
      unfold colIns
      rw [hc, if_pos e]
    · refine ev_step (fun k => ?_) (ins_ev (x1 := (x : Int)) (x2 := (y : Int)) (x3 := (r : Int)) s (l.getD ((y - r + v) * W + (x - r + u)) 0) ((y - r + v : Nat) : Int) ((x - r + u : Nat) : Int) q (by omega) (W : Int) (H : Int) l (by
        rw [e1.out]
        unfold colIns at h
        rw [hc, if_neg e] at h
        exact h))
      simp only [spec_l6Values.l1]
      rw [least_is, HX.out]
      simp only [Option.bind_some]
      rw [if_pos (by omega), AT.out]
      simp only [Option.bind_some]
      rw [if_neg e]
end
end Go.Proofs.Ythekngnkajjhnaa.Pure
namespace Go.Proofs.Ythekngnkajjhnaa.Pure
set_option linter.unusedVariables false
set_option linter.unusedSimpArgs false
open Go.RowKit Go.Proofs.Ythekngnkajjhnaa.P Go.Proofs.YthekngnkajjhnaaW.PrintWords Go.Proofs.YthekngnkajjhnaaW.PrintLast
theorem filled_is (a b v : Int) (h0 : 1 ≤ a * b) (h1 : a * b ≤ 64) : impl_filled.f a b v = some (a, b, List.replicate (a * b).toNat v) := by
  unfold impl_filled.f slices_Repeat_int_int.f
  rw [w64 (by omega) (by omega), if_pos ⟨rfl, by omega, h1⟩]
  rfl
theorem iter_rep {α : Type} (v : α) : ∀ d i (s : List α), iter (fun _ s => s ++ [v]) i d s = s ++ List.replicate d v
  | 0, i, s => by simp [iter]
  | d + 1, i, s => by
    show iter (fun _ s => s ++ [v]) (i + 1) d (s ++ [v]) = _
    rw [iter_rep v d (i + 1), List.append_assoc, List.replicate_succ]
    rfl
theorem l2Fill_ev (a b v : Int) (h0 : 1 ≤ a * b) (h1 : a * b ≤ 64) : Ev (fun k => spec_l2Fill.f k a b v) (a, b, List.replicate (a * b).toNat v) := by
  obtain ⟨n, hn⟩ := Int.eq_ofNat_of_zero_le (show 0 ≤ a * b by omega)
  have h := loop_ev (fun k s i => spec_l2Fill.l0 k a b v (i : Int) a b s) n (fun _ s => s ++ [v]) (fun s => (a, b, s)) (fun i s => s.length = i)
    (fun i s r hI hi h => ev_step (fun k => by
      simp only [spec_l2Fill.l0]
      rw [w64 (x := a * b) (by omega) (by omega), if_pos (by omega), if_pos (by omega), w64 (by omega) (by omega)]
      rfl) h)
    (fun i s hI _ => by simp [hI])
    (fun s hI => ev_step (f := fun _ => some (a, b, s)) (fun k => by
      simp only [spec_l2Fill.l0]
      rw [w64 (x := a * b) (by omega) (by omega), if_neg (by omega)]) (ev_some _)) 0 [] (Nat.zero_le _) rfl
  rw [iter_rep, List.nil_append, Nat.sub_zero] at h
  rw [hn, Int.toNat_natCast]
  exact h
theorem tdiv_cast (i W : Nat) : Int.tdiv (i : Int) (W : Int) = ((i / W : Nat) : Int) := by rw [Int.tdiv_eq_ediv_of_nonneg (by omega)]; rfl
theorem tmod_cast (i W : Nat) : Int.tmod (i : Int) (W : Int) = ((i % W : Nat) : Int) := by rw [Int.tmod_eq_emod_of_nonneg (by omega)]; rfl
theorem fieldBy_at (p : Int → Int → Option Int) (q : Nat → Int) (W H : Nat) (hW : 1 ≤ W ∧ W ≤ 8) (hH : 1 ≤ H ∧ H ≤ 8) (hp : ∀ i, i < H * W → p ((i % W : Nat) : Int) ((i / W : Nat) : Int) = some (q i)) (k : Nat) (hk : 100 ≤ k) :
    impl_fieldBy_at_mp_mpGi64_i64_i64.f k p (W : Int) (H : Int) = some ((W : Int), (H : Int), tab (H * W) q) := by
  have hm : 1 ≤ (W : Int) * H ∧ (W : Int) * H ≤ 64 := mul_bd (by omega) (by omega) (by omega) (by omega)
  have hn : ((W : Int) * H).toNat = H * W := by rw [← Int.natCast_mul, Int.toNat_natCast, Nat.mul_comm]
  have h64 : H * W ≤ 64 := by have := hm.2; rw [← Int.natCast_mul] at this; rw [Nat.mul_comm]; omega
  unfold impl_fieldBy_at_mp_mpGi64_i64_i64.f
  rw [filled_is _ _ 0 hm.1 hm.2, Option.bind_some, hn]
  show impl_fieldBy_at_mp_mpGi64_i64_i64.l0 p k (W : Int) (((List.replicate (H * W) (0 : Int)).length : Nat) : Int) 0 (W : Int) (H : Int) (List.replicate (H * W) 0) = _
  rw [List.length_replicate]
  have h := loop_at (fun k s i => impl_fieldBy_at_mp_mpGi64_i64_i64.l0 p k (W : Int) ((H * W : Nat) : Int) (i : Int) (W : Int) (H : Int) s) (H * W) (fun i s => s.set i (q i)) (fun s => ((W : Int), (H : Int), s)) (fun _ s => s.length = H * W)
    (fun k i s hI hi => by
      show impl_fieldBy_at_mp_mpGi64_i64_i64.l0 p (k + 1) (W : Int) ((H * W : Nat) : Int) (i : Int) (W : Int) (H : Int) s = _
      have e1 : wrap64 ((i / W : Nat) : Int) = ((i / W : Nat) : Int) := w64n (Nat.le_trans (Nat.div_le_self _ _) (by omega))
      simp only [impl_fieldBy_at_mp_mpGi64_i64_i64.l0]
      rw [if_pos (by omega), if_neg (by omega), tmod_cast, tdiv_cast, e1, hp i hi, Option.bind_some, if_pos (by omega), if_pos (by rw [hI]; omega), w64 (by omega) (by omega), Int.toNat_natCast]
      rfl)
    (fun i s hI _ => by simpa using hI)
    (fun k s hI => by
      show impl_fieldBy_at_mp_mpGi64_i64_i64.l0 p (k + 1) (W : Int) ((H * W : Nat) : Int) ((H * W : Nat) : Int) (W : Int) (H : Int) s = _
      simp only [impl_fieldBy_at_mp_mpGi64_i64_i64.l0]
      rw [if_neg (by omega)]) (H * W) k 0 (List.replicate (H * W) 0) (by omega) (Nat.zero_le _) (by simp) (by omega)
  rw [iter_set_tab 0 q (H * W) _ (by simp)] at h
  exact h
theorem fieldBy_ev (P : Nat → Int → Int → Option Int) (q : Nat → Int) (W H : Nat) (hW : 1 ≤ W ∧ W ≤ 8) (hH : 1 ≤ H ∧ H ≤ 8) (hp : ∀ i, i < H * W → Ev (fun k => P k ((i % W : Nat) : Int) ((i / W : Nat) : Int)) (q i)) :
    Ev (fun k => impl_fieldBy_at_mp_mpGi64_i64_i64.f k (P k) (W : Int) (H : Int)) ((W : Int), (H : Int), tab (H * W) q) := by
  obtain ⟨K, hK⟩ := ev_all (fun k i => P k ((i % W : Nat) : Int) ((i / W : Nat) : Int)) q (H * W) hp
  exact ⟨K + 100, fun k hk => fieldBy_at (P k) q W H hW hH (hK k (by omega)) k (by omega)⟩
theorem shape_nat {a b : Int} {l : List Int} (f : FieldIs a b l) : ∃ W H : Nat, a = W ∧ b = H ∧ (1 ≤ W ∧ W ≤ 8) ∧ (1 ≤ H ∧ H ≤ 8) ∧ l.length = H * W ∧ H * W ≤ 64 := by
  have a1 := f.a1; have a8 := f.a8; have b1 := f.b1; have b8 := f.b8
  obtain ⟨W, rfl⟩ := Int.eq_ofNat_of_zero_le (show 0 ≤ a by omega)
  obtain ⟨H, rfl⟩ := Int.eq_ofNat_of_zero_le (show 0 ≤ b by omega)
  have hl : l.length = H * W := by have := f.len; rw [Int.mul_comm] at this; exact_mod_cast this
  have := f.len64
  exact ⟨W, H, rfl, rfl, by omega, by omega, hl, by omega⟩
theorem grid_bd {W H i : Nat} (hi : i < H * W) : i % W < W ∧ i / W < H ∧ i / W * W + i % W = i := by
  have hW : 0 < W := by
    rcases Nat.eq_zero_or_pos W with h | h
    · subst h; simp at hi
    · exact h
  refine ⟨Nat.mod_lt i hW, by rw [Nat.div_lt_iff_lt_mul hW]; omega, ?_⟩
  rw [Nat.mul_comm]
  exact Nat.div_add_mod i W
end Go.Proofs.Ythekngnkajjhnaa.Pure
namespace Go.Proofs.Ythekngnkajjhnaa.Pure
set_option linter.unusedVariables false
set_option linter.unusedSimpArgs false
open Go.RowKit Go.Proofs.Ythekngnkajjhnaa.P Go.Proofs.YthekngnkajjhnaaW.PrintWords Go.Proofs.YthekngnkajjhnaaW.PrintLast Go.Proofs.YthekngnkajjhnaaW.PrintMore
def hoodI (W H : Nat) (l : List Int) (r i : Nat) : List Int := colI (hoodC W H l r (i % W) (i / W)) (hoodN W H r (i % W) (i / W))
def hoodS (W H : Nat) (l : List Int) (r i : Nat) : List Int := colS (hoodC W H l r (i % W) (i / W)) (hoodN W H r (i % W) (i / W))
theorem hoodN_le {W H : Nat} (hW : 1 ≤ W ∧ W ≤ 8) (hH : 1 ≤ H ∧ H ≤ 8) (r x y : Nat) : hoodN W H r x y ≤ 64 := Nat.mul_le_mul (show cn H y r ≤ 8 by unfold cn; omega) (show cn W x r ≤ 8 by unfold cn; omega)
theorem hoodI_len {W H : Nat} (hW : 1 ≤ W ∧ W ≤ 8) (hH : 1 ≤ H ∧ H ≤ 8) (l : List Int) (r i : Nat) : (hoodI W H l r i).length ≤ 64 := Nat.le_trans (colI_len _ _) (hoodN_le hW hH r _ _)
theorem hood_perm (W H : Nat) (l : List Int) (r i : Nat) : (hoodS W H l r i).Perm (hoodI W H l r i) := col_perm _ _
theorem hood_sorted (W H : Nat) (l : List Int) (r i : Nat) : (hoodS W H l r i).Pairwise (· ≤ ·) := colS_sorted _ _
theorem hoodI_val {W H : Nat} {l : List Int} (hl : l.length = H * W) (hc : ∀ x ∈ l, cellOk x = true) {r i : Nat} (hi : i < H * W) : ∀ x ∈ hoodI W H l r i, -9000 ≤ x ∧ x ≤ 9000 := by
  obtain ⟨g1, g2, _⟩ := grid_bd hi
  refine colI_all _ _ _ (fun j hj hn => ?_)
  have hcw : 0 < cn W (i % W) r := by unfold cn; omega
  have u := Nat.mod_lt j hcw
  have v : j / cn W (i % W) r < cn H (i / W) r := by rw [Nat.div_lt_iff_lt_mul hcw]; exact hj
  have hlt := hood_ix (hood_in g1 u) (hood_in g2 v)
  unfold hoodC at hn ⊢
  rw [getD_eq_get 0 (by omega)] at hn ⊢
  have := hc _ (List.getElem_mem (show (i / W - r + j / cn W (i % W) r) * W + (i % W - r + j % cn W (i % W) r) < l.length by omega))
  unfold cellOk at this
  rw [Bool.or_eq_true, decide_eq_true_eq, inb_iff] at this
  rcases this with e | e
  · exact absurd e hn
  · exact e
section
variable {W H r : Nat} {l : List Int} (hW : 1 ≤ W ∧ W ≤ 8) (hH : 1 ≤ H ∧ H ≤ 8) (hf : FieldIs (W : Int) (H : Int) l) (hl : l.length = H * W) (hr : r ≤ 3)
include hW hH hf hl hr
theorem filter_impl (p : Nat → List Int → Option Int) (q : Nat → Int)
    (hp : ∀ i, i < H * W → (hoodI W H l r i).length ≠ 0 → Ev (fun k => p k (hoodI W H l r i)) (q i)) (h0 : ∀ i, i < H * W → (hoodI W H l r i).length = 0 → q i = -9999) :
    Ev (fun k => impl_filteredField_at_mp_mpOwn.f k (p k) (W : Int) (H : Int) l (r : Int)) ((W : Int), (H : Int), tab (H * W) q, true) := by
  unfold impl_filteredField_at_mp_mpOwn.f
  rw [isValidField_is, within_is, fieldOk_iff.2 hf, inb_iff.2 (show (0 : Int) ≤ (r : Int) ∧ (r : Int) ≤ 3 by omega)]
  refine ev_bind (ev_some _) (ev_ifp rfl (ev_bind (ev_some _) (ev_ifp rfl (ev_bind (fieldBy_ev (fun k => fun z0_ z1_ => impl_filteredField_1_at_mp_mpOwn.f k (p k) z0_ z1_ (W : Int) (H : Int) l (r : Int)) q W H hW hH (fun i hi => ?_)) (ev_some _)))))
  obtain ⟨g1, g2, _⟩ := grid_bd hi
  unfold impl_filteredField_1_at_mp_mpOwn.f
  refine ev_bind (hood_impl hW hH hl hr g1 g2) ?_
  by_cases e : (hoodI W H l r i).length = 0
  · rw [h0 i hi e]
    exact ev_ifp (by show ((hoodI W H l r i).length : Int) = 0; omega) (ev_some _)
  · exact ev_ifn (by show ¬ ((hoodI W H l r i).length : Int) = 0; omega) (ev_bind (hp i hi e) (ev_some _))
theorem filter_spec (mode thr : Int) (q : Nat → Int) (hq : ∀ i, i < H * W → Ev (fun k => spec_l6Result.f k (hoodS W H l r i) mode thr) (q i)) :
    Ev (fun k => spec_l6Filter.f k (W : Int) (H : Int) l (r : Int) mode thr) ((W : Int), (H : Int), tab (H * W) q, true) := by
  have h64 : H * W ≤ 64 := Nat.mul_le_mul hH.2 hW.2
  have h := grid_ev (fun k t v => spec_l6Filter.l0 k (r : Int) mode thr (v : Int) (W : Int) (H : Int) l (W : Int) (H : Int) t)
    (fun k t v u => spec_l6Filter.l1 k (r : Int) mode thr (v : Int) (u : Int) (W : Int) (H : Int) l (W : Int) (H : Int) t) W H
    (fun i (t : List Int) => t ++ [q i]) (fun t => ((W : Int), (H : Int), t, true)) (fun j t => t.length = j)
    (fun v t s hI hv h => ev_step (fun k => by
      simp only [spec_l6Filter.l0]
      rw [if_pos (by omega)]
      rfl) h)
    (fun v u t s hI hv hu h => ?_)
    (fun v u t hI hv hu => by simp; omega)
    (fun v t s hI hv h => ev_step (fun k => by
      simp only [spec_l6Filter.l1]
      rw [if_neg (by omega), w64 (by omega) (by omega)]
      rfl) h)
    (fun t hI => ev_step (f := fun _ => some ((W : Int), (H : Int), t, true)) (fun k => by
      simp only [spec_l6Filter.l0]
      rw [if_neg (by omega)]) (ev_some _)) [] (by simp)
  · rw [iter_app0] at h
    have g1 := l2Good_ev (W : Int) (H : Int) l (by omega)
    rw [fieldOk_iff.2 hf] at g1
    unfold spec_l6Filter.f
    refine ev_bind g1 (ev_ifp rfl (ev_bind (r := true) (ev_const ((l1In_is _ _ _).trans (by rw [inb_iff.2 (show (0 : Int) ≤ (r : Int) ∧ (r : Int) ≤ 3 by omega)]))) (ev_step (fun k => spec_l6Filter.j0.eq_2 _ _ _ _ _ _ _ k) (ev_ifn (by simp) h))))
  · obtain ⟨d1, d2⟩ := div_at (y := v) hu
    have hi := hood_ix hu hv
    have hs := hood_spec hW hH hl hr hu hv
    have hq1 := hq (v * W + u) hi
    unfold hoodS at hq1
    rw [d1, d2] at hq1
    refine ev_step (fun k => spec_l6Filter.l1.eq_2 _ _ _ _ _ _ _ _ _ _ _ k) (ev_ifp (by omega) (ev_bind hs (ev_bind hq1 (ev_ifp (by omega) ?_))))
    rw [w64 (by omega) (by omega)]
    exact h
end
theorem colI_mem (c : Nat → Int) (n : Nat) : ∀ j, j < n → c j ≠ -9999 → c j ∈ colI c n :=
  iter_inv (colStep c) (fun i s => ∀ j, j < i → c j ≠ -9999 → c j ∈ s) n (fun i s hs hi j hj hn => by
    unfold colStep
    by_cases e : j = i
    · subst e
      rw [if_neg hn]
      exact List.mem_append.2 (.inr (List.mem_singleton.2 rfl))
    · have := hs j (by omega) hn
      split
      · exact this
      · exact List.mem_append.2 (.inl this)) n 0 [] (by omega) (fun j hj => absurd hj (by omega))
theorem cn_self {W x r : Nat} (hx : x < W) : x - (x - r) < cn W x r := by unfold cn; omega
theorem back_self (x r : Nat) : x - r + (x - (x - r)) = x := by omega
theorem hood_self {W H r : Nat} {l : List Int} {i : Nat} (hi : i < H * W) (h : l.getD i 0 ≠ -9999) : l.getD i 0 ∈ hoodI W H l r i := by
  obtain ⟨g1, g2, g3⟩ := grid_bd hi
  have hdx : i % W - (i % W - r) < cn W (i % W) r := cn_self g1
  have hdy : i / W - (i / W - r) < cn H (i / W) r := cn_self g2
  obtain ⟨d1, d2⟩ := div_at (y := i / W - (i / W - r)) hdx
  have hj := hood_ix hdx hdy
  have e : hoodC W H l r (i % W) (i / W) ((i / W - (i / W - r)) * cn W (i % W) r + (i % W - (i % W - r))) = l.getD i 0 := by
    unfold hoodC
    rw [d1, d2, back_self (i / W) r, back_self (i % W) r, g3]
  have := colI_mem (hoodC W H l r (i % W) (i / W)) (hoodN W H r (i % W) (i / W)) _ hj (by rw [e]; exact h)
  rw [e] at this
  exact this
theorem min_ev (l : List Int) (h1 : 1 ≤ l.length) (h2 : l.length ≤ 1000) : ∃ m, Ev (fun k => slices_Min_int_int.f k l) m ∧ m ∈ l ∧ ∀ x ∈ l, m ≤ x := by
  have mem : ∀ i, i < l.length → l.getD i 0 ∈ l := fun i hi => by rw [getD_eq_get 0 hi]; exact List.getElem_mem hi
  have step : ∀ i s, (s ∈ l ∧ ∀ j, j < i → s ≤ l.getD j 0) → i < l.length → (min s (l.getD i 0) ∈ l ∧ ∀ j, j < i + 1 → min s (l.getD i 0) ≤ l.getD j 0) := by
    intro i s hI hi
    refine ⟨?_, fun j hj => ?_⟩
    · by_cases e : s ≤ l.getD i 0
      · rw [Int.min_eq_left e]; exact hI.1
      · rw [Int.min_eq_right (by omega)]; exact mem i hi
    · by_cases e : j = i
      · subst e; omega
      · have := hI.2 j (by omega); omega
  have start : (l.getD 0 0 ∈ l ∧ ∀ j, j < 1 → l.getD 0 0 ≤ l.getD j 0) := ⟨mem 0 (by omega), fun j hj => by
    obtain rfl : j = 0 := by omega
    exact Int.le_refl _⟩
  have h := loop_ev (fun k s i => slices_Min_int_int.l0 k l s (i : Int)) l.length (fun i s => min s (l.getD i 0)) (fun s => s) (fun i s => s ∈ l ∧ ∀ j, j < i → s ≤ l.getD j 0)
    (fun i s r hI hi h => ev_step (fun k => by
      simp only [slices_Min_int_int.l0]
      rw [if_pos (by omega), if_pos (by omega), rd_nat, mn_is, w64 (by omega) (by omega)]
      rfl) h)
    (fun i s hI hi => step i s hI hi)
    (fun s hI => ev_step (f := fun _ => some s) (fun k => by
      simp only [slices_Min_int_int.l0]
      rw [if_neg (by omega)]) (ev_some _)) 1 (l.getD 0 0) h1 start
  obtain ⟨i1, i2⟩ := iter_inv (fun i s => min s (l.getD i 0)) (fun i s => s ∈ l ∧ ∀ j, j < i → s ≤ l.getD j 0) l.length (fun i s hI hi => step i s hI hi) (l.length - 1) 1 (l.getD 0 0) (by omega) start
  refine ⟨_, ?_, i1, fun x hx => ?_⟩
  · unfold slices_Min_int_int.f
    exact ev_ifn (by omega) (ev_ifp (by omega) h)
  · obtain ⟨j, hj, rfl⟩ := List.getElem_of_mem hx
    have := i2 j hj
    rw [getD_eq_get 0 hj] at this
    exact this
theorem first_min {s : List Int} (hs : s.Pairwise (· ≤ ·)) (h1 : 1 ≤ s.length) : s.getD 0 0 ∈ s ∧ ∀ x ∈ s, s.getD 0 0 ≤ x := by
  rw [getD_eq_get 0 (show 0 < s.length by omega)]
  refine ⟨List.getElem_mem _, fun x hx => ?_⟩
  obtain ⟨j, hj, rfl⟩ := List.getElem_of_mem hx
  by_cases e : j = 0
  · subst e; exact Int.le_refl _
  · exact List.pairwise_iff_getElem.1 hs 0 j (by omega) hj (by omega)
def minQ (W H : Nat) (l : List Int) (r i : Nat) : Int := if (hoodS W H l r i).length = 0 then -9999 else (hoodS W H l r i).getD 0 0
def minF (W H : Nat) (r : Nat) (l : List Int) : List Int := tab (H * W) (minQ W H l r)
section
variable {W H r : Nat} {l : List Int} (hW : 1 ≤ W ∧ W ≤ 8) (hH : 1 ≤ H ∧ H ≤ 8) (hf : FieldIs (W : Int) (H : Int) l) (hl : l.length = H * W) (hr : r ≤ 3)
include hW hH hf hl hr
theorem minF_impl : Ev (fun k => impl_MinimumFilter.f k (W : Int) (H : Int) l (r : Int)) ((W : Int), (H : Int), minF W H r l, true) := by
  unfold impl_MinimumFilter.f
  refine ev_bind (filter_impl hW hH hf hl hr (fun k z0_ => slices_Min_int_int.f k z0_) (minQ W H l r) (fun i hi h0 => ?_) (fun i hi h0 => ?_)) (ev_some _)
  · have hn := hoodI_len hW hH l r i
    have hp := hood_perm W H l r i
    have e := hp.length_eq
    obtain ⟨m, hm, m1, m2⟩ := min_ev (hoodI W H l r i) (by omega) (by omega)
    obtain ⟨a1, a2⟩ := first_min (hood_sorted W H l r i) (by omega)
    have : minQ W H l r i = m := by
      unfold minQ
      rw [if_neg (by omega)]
      exact Int.le_antisymm (a2 _ (hp.mem_iff.2 m1)) (m2 _ (hp.mem_iff.1 a1))
    rw [this]
    exact hm
  · unfold minQ
    rw [if_pos (by rw [(hood_perm W H l r i).length_eq]; exact h0)]
theorem minF_spec : Ev (fun k => spec_MinimumFilter.f k (W : Int) (H : Int) l (r : Int)) ((W : Int), (H : Int), minF W H r l, true) := by
  unfold spec_MinimumFilter.f
  refine ev_bind (filter_spec hW hH hf hl hr 2 0 (minQ W H l r) (fun i hi => ?_)) (ev_some _)
  have hn := hoodI_len hW hH l r i
  have e := (hood_perm W H l r i).length_eq
  unfold spec_l6Result.f minQ
  by_cases h0 : (hoodS W H l r i).length = 0
  · rw [if_pos h0]
    exact ev_ifp (by omega) (ev_some _)
  · rw [if_neg h0]
    exact ev_ifn (by omega) (ev_ifn (by omega) (ev_ifp rfl (ev_ifp (by omega) (ev_const rfl))))
end
theorem max_ev (l : List Int) (h1 : 1 ≤ l.length) (h2 : l.length ≤ 1000) : ∃ m, Ev (fun k => slices_Max_int_int.f k l) m ∧ m ∈ l ∧ ∀ x ∈ l, x ≤ m := by
  have mem : ∀ i, i < l.length → l.getD i 0 ∈ l := fun i hi => by rw [getD_eq_get 0 hi]; exact List.getElem_mem hi
  have step : ∀ i s, (s ∈ l ∧ ∀ j, j < i → l.getD j 0 ≤ s) → i < l.length → (max s (l.getD i 0) ∈ l ∧ ∀ j, j < i + 1 → l.getD j 0 ≤ max s (l.getD i 0)) := by
    intro i s hI hi
    refine ⟨?_, fun j hj => ?_⟩
    · by_cases e : s ≤ l.getD i 0
      · rw [Int.max_eq_right e]; exact mem i hi
      · rw [Int.max_eq_left (by omega)]; exact hI.1
    · by_cases e : j = i
      · subst e; omega
      · have := hI.2 j (by omega); omega
  have start : (l.getD 0 0 ∈ l ∧ ∀ j, j < 1 → l.getD j 0 ≤ l.getD 0 0) := ⟨mem 0 (by omega), fun j hj => by
    obtain rfl : j = 0 := by omega
    exact Int.le_refl _⟩
  have h := loop_ev (fun k s i => slices_Max_int_int.l0 k l s (i : Int)) l.length (fun i s => max s (l.getD i 0)) (fun s => s) (fun i s => s ∈ l ∧ ∀ j, j < i → l.getD j 0 ≤ s)
    (fun i s r hI hi h => ev_step (fun k => by
      simp only [slices_Max_int_int.l0]
      rw [if_pos (by omega), if_pos (by omega), rd_nat, mx_is, w64 (by omega) (by omega)]
      rfl) h)
    (fun i s hI hi => step i s hI hi)
    (fun s hI => ev_step (f := fun _ => some s) (fun k => by
      simp only [slices_Max_int_int.l0]
      rw [if_neg (by omega)]) (ev_some _)) 1 (l.getD 0 0) h1 start
  obtain ⟨i1, i2⟩ := iter_inv (fun i s => max s (l.getD i 0)) (fun i s => s ∈ l ∧ ∀ j, j < i → l.getD j 0 ≤ s) l.length (fun i s hI hi => step i s hI hi) (l.length - 1) 1 (l.getD 0 0) (by omega) start
  refine ⟨_, ?_, i1, fun x hx => ?_⟩
  · unfold slices_Max_int_int.f
    exact ev_ifn (by omega) (ev_ifp (by omega) h)
  · obtain ⟨j, hj, rfl⟩ := List.getElem_of_mem hx
    have := i2 j hj
    rw [getD_eq_get 0 hj] at this
    exact this
theorem last_max {s : List Int} (hs : s.Pairwise (· ≤ ·)) (h1 : 1 ≤ s.length) : s.getD (s.length - 1) 0 ∈ s ∧ ∀ x ∈ s, x ≤ s.getD (s.length - 1) 0 := by
  rw [getD_eq_get 0 (show s.length - 1 < s.length by omega)]
  refine ⟨List.getElem_mem _, fun x hx => ?_⟩
  obtain ⟨j, hj, rfl⟩ := List.getElem_of_mem hx
  by_cases e : j = s.length - 1
  · subst e; exact Int.le_refl _
  · exact List.pairwise_iff_getElem.1 hs j (s.length - 1) hj (by omega) (by omega)
def maxQ (W H : Nat) (l : List Int) (r i : Nat) : Int := if (hoodS W H l r i).length = 0 then -9999 else (hoodS W H l r i).getD ((hoodS W H l r i).length - 1) 0
def maxF (W H : Nat) (r : Nat) (l : List Int) : List Int := tab (H * W) (maxQ W H l r)
section
variable {W H r : Nat} {l : List Int} (hW : 1 ≤ W ∧ W ≤ 8) (hH : 1 ≤ H ∧ H ≤ 8) (hf : FieldIs (W : Int) (H : Int) l) (hl : l.length = H * W) (hr : r ≤ 3)
include hW hH hf hl hr
theorem maxF_impl : Ev (fun k => impl_MaximumFilter.f k (W : Int) (H : Int) l (r : Int)) ((W : Int), (H : Int), maxF W H r l, true) := by
  unfold impl_MaximumFilter.f
  refine ev_bind (filter_impl hW hH hf hl hr (fun k z0_ => slices_Max_int_int.f k z0_) (maxQ W H l r) (fun i hi h0 => ?_) (fun i hi h0 => ?_)) (ev_some _)
  · have hn := hoodI_len hW hH l r i
    have hp := hood_perm W H l r i
    have e := hp.length_eq
    obtain ⟨m, hm, m1, m2⟩ := max_ev (hoodI W H l r i) (by omega) (by omega)
    obtain ⟨a1, a2⟩ := last_max (hood_sorted W H l r i) (by omega)
    have : maxQ W H l r i = m := by
      unfold maxQ
      rw [if_neg (by omega)]
      exact Int.le_antisymm (m2 _ (hp.mem_iff.1 a1)) (a2 _ (hp.mem_iff.2 m1))
    rw [this]
    exact hm
  · unfold maxQ
    rw [if_pos (by rw [(hood_perm W H l r i).length_eq]; exact h0)]
theorem maxF_spec : Ev (fun k => spec_MaximumFilter.f k (W : Int) (H : Int) l (r : Int)) ((W : Int), (H : Int), maxF W H r l, true) := by
  unfold spec_MaximumFilter.f
  refine ev_bind (filter_spec hW hH hf hl hr 1 0 (maxQ W H l r) (fun i hi => ?_)) (ev_some _)
  have hn := hoodI_len hW hH l r i
  have e := (hood_perm W H l r i).length_eq
  unfold spec_l6Result.f maxQ
  by_cases h0 : (hoodS W H l r i).length = 0
  · rw [if_pos h0]
    exact ev_ifp (by omega) (ev_some _)
  · rw [if_neg h0]
    have e1 := Aside0.mk (show wrap64 (((hoodS W H l r i).length : Int) - 1) = (((hoodS W H l r i).length - 1 : Nat) : Int) by rw [w64 (by omega) (by omega)]; omega)
    rw [e1.out]
    exact ev_ifn (by omega) (ev_ifp rfl (ev_ifp (by omega) (ev_ifp (by omega) (ev_const (by rw [rd_nat])))))
omit hW hH hr in
end
def tot : List Int → Int
  | [] => 0
  | x :: l => x + tot l
theorem tot_append : ∀ l m : List Int, tot (l ++ m) = tot l + tot m
  | [], m => by simp [tot]
  | x :: l, m => by simp only [List.cons_append, tot]; rw [tot_append l m]; omega
theorem tot_perm {l m : List Int} (h : l.Perm m) : tot l = tot m := by
  induction h with
  | nil => rfl
  | cons x _ ih => simp only [tot]; rw [ih]
  | swap x y l => simp only [tot]; omega
  | trans _ _ h1 h2 => exact h1.trans h2
theorem tot_bd : ∀ l : List Int, (∀ x ∈ l, -9000 ≤ x ∧ x ≤ 9000) → -9000 * (l.length : Int) ≤ tot l ∧ tot l ≤ 9000 * (l.length : Int)
  | [], _ => by simp [tot]
  | x :: l, h => by
    have h1 := h x (List.mem_cons_self ..)
    have h2 := tot_bd l (fun y hy => h y (List.mem_cons_of_mem _ hy))
    simp only [tot, List.length_cons]
    omega
theorem tot_take (l : List Int) (i : Nat) (hi : i < l.length) : tot (l.take (i + 1)) = tot (l.take i) + l.getD i 0 := by
  rw [List.take_add_one, tot_append, getD_eq_get 0 hi, List.getElem?_eq_getElem hi]
  simp [tot]
theorem tot_iter (l : List Int) : iter (fun i s => s + l.getD i 0) 0 l.length 0 = tot l := by
  have := iter_inv (fun i s => s + l.getD i 0) (fun i s => s = tot (l.take i)) l.length (fun i s hI hi => by rw [tot_take l i hi, hI]) l.length 0 0 (by omega) rfl
  rw [this, List.take_length]
theorem take_bd {l : List Int} (h : ∀ x ∈ l, -9000 ≤ x ∧ x ≤ 9000) (hn : l.length ≤ 64) (i : Nat) : -576000 ≤ tot (l.take i) ∧ tot (l.take i) ≤ 576000 := by
  have := tot_bd (l.take i) (fun x hx => h x (List.mem_of_mem_take hx))
  have e : (l.take i).length ≤ 64 := by rw [List.length_take]; omega
  omega
theorem val_bd {l : List Int} (h : ∀ x ∈ l, -9000 ≤ x ∧ x ≤ 9000) {i : Nat} (hi : i < l.length) : -9000 ≤ l.getD i 0 ∧ l.getD i 0 ≤ 9000 := by
  rw [getD_eq_get 0 hi]; exact h _ (List.getElem_mem hi)
theorem sumOf_ev2 {l : List Int} (h : ∀ x ∈ l, -9000 ≤ x ∧ x ≤ 9000) (hn : l.length ≤ 64) : Ev (fun k => impl_sumOf.f k l) (tot l) := by
  have := loop_ev (fun k s i => impl_sumOf.l0 k s l (l.length : Int) (i : Int)) l.length (fun i s => s + l.getD i 0) (fun s => s) (fun i s => s = tot (l.take i))
    (fun i s r hI hi hh => by
      have b1 := take_bd h hn i
      have b2 := val_bd h hi
      rw [← hI] at b1
      refine ev_step (fun k => ?_) hh
      simp only [impl_sumOf.l0]
      rw [if_pos (by omega), if_pos (by omega), if_pos (by omega), rd_nat, w64 (x := s + l.getD i 0) (by omega) (by omega), w64 (by omega) (by omega)]
      rfl)
    (fun i s hI hi => by rw [tot_take l i hi, hI])
    (fun s hI => ev_step (f := fun _ => some s) (fun k => by
      simp only [impl_sumOf.l0]
      rw [if_neg (by omega)]) (ev_some _)) 0 0 (Nat.zero_le _) rfl
  rw [Nat.sub_zero, tot_iter] at this
  exact this
def rnd (s n : Int) : Int := if s < 0 then -((-2 * s + n) / (2 * n)) else (2 * s + n) / (2 * n)
theorem rnd_pos {s n : Int} (h0 : 0 ≤ s) (h1 : s ≤ 9000 * n) (hn : 1 ≤ n) : 0 ≤ (2 * s + n) / (2 * n) ∧ (2 * s + n) / (2 * n) ≤ 9000 := by
  refine ⟨Int.ediv_nonneg (by omega) (by omega), ?_⟩
  have : (2 * s + n) / (2 * n) < 9001 := by
    rw [Int.ediv_lt_iff_lt_mul (by omega)]
    omega
  omega
theorem nearest_is {s n : Int} (h0 : -9000 * n ≤ s) (h1 : s ≤ 9000 * n) (hn : 1 ≤ n) (hn2 : n ≤ 64) : impl_nearest.f s n = some (rnd s n) := by
  unfold impl_nearest.f rnd
  have e2 := Aside0.mk (show wrap64 (2 * n) = 2 * n from w64 (by omega) (by omega))
  rw [e2.out]
  by_cases hs : s < 0
  · have := rnd_pos (s := -s) (n := n) (by omega) (by omega) hn
    rw [show 2 * -s + n = -2 * s + n by omega] at this
    have e3 := Aside0.mk (show wrap64 ((wrap64 (-2 * s)) + n) = -2 * s + n by rw [w64 (x := -2 * s) (by omega) (by omega), w64 (by omega) (by omega)])
    rw [if_pos hs, if_neg (by omega), e3.out, Int.tdiv_eq_ediv_of_nonneg (by omega), w64 (x := (-2 * s + n) / (2 * n)) (by omega) (by omega), w64 (by omega) (by omega), if_pos hs]
  · have := rnd_pos (s := s) (n := n) (by omega) (by omega) hn
    have e3 := Aside0.mk (show wrap64 ((wrap64 (2 * s)) + n) = 2 * s + n by rw [w64 (x := 2 * s) (by omega) (by omega), w64 (by omega) (by omega)])
    rw [if_neg hs, if_neg (by omega), e3.out, Int.tdiv_eq_ediv_of_nonneg (by omega), w64 (by omega) (by omega), if_neg hs]
theorem l3Round_is (s n : Int) : spec_l3Round.f s n = impl_nearest.f s n := rfl
theorem meanOf_ev {l : List Int} (h : ∀ x ∈ l, -9000 ≤ x ∧ x ≤ 9000) (hn : l.length ≤ 64) (h1 : l.length ≠ 0) : Ev (fun k => impl_meanOf.f k l) (rnd (tot l) (l.length : Int)) := by
  have b := tot_bd l h
  unfold impl_meanOf.f
  exact ev_bind (sumOf_ev2 h hn) (ev_bind (ev_const (nearest_is b.1 b.2 (by omega) (by omega))) (ev_some _))
theorem l6Mean_ev {l : List Int} (h : ∀ x ∈ l, -9000 ≤ x ∧ x ≤ 9000) (hn : l.length ≤ 64) (thr : Int) : Ev (fun k => spec_l6Result.f k l 3 thr) (if l.length = 0 then -9999 else rnd (tot l) (l.length : Int)) := by
  unfold spec_l6Result.f
  by_cases h1 : l.length = 0
  · rw [if_pos h1]
    exact ev_ifp (by omega) (ev_some _)
  rw [if_neg h1]
  refine ev_ifn (by omega) (ev_ifn (by omega) (ev_ifn (by omega) (ev_ifn (by omega) ?_)))
  have b := tot_bd l h
  have := loop_ev (fun k (s : Int × Int) i => spec_l6Result.l0 k l 3 thr (l.length : Int) s.1 s.2 (i : Int)) l.length (fun i s => (s.1 + l.getD i 0, if l.getD i 0 ≥ thr then wrap64 (s.2 + 1) else s.2)) (fun _ => rnd (tot l) (l.length : Int)) (fun i s => s.1 = tot (l.take i))
    (fun i s r hI hi hh => by
      have b1 := take_bd h hn i
      have b2 := val_bd h hi
      rw [← hI] at b1
      have e1 := Aside0.mk (show wrap64 (s.1 + l.getD i 0) = s.1 + l.getD i 0 from w64 (by omega) (by omega))
      have e2 := Aside0.mk (show wrap64 ((i : Int) + 1) = ((i + 1 : Nat) : Int) by rw [w64 (by omega) (by omega)]; rfl)
      refine ev_step (fun k => ?_) hh
      simp only [spec_l6Result.l0]
      rw [if_pos (by omega), if_pos (by omega), if_pos (by omega), rd_nat, e1.out, e2.out]
      split <;> rfl)
    (fun i s hI hi => by show s.1 + l.getD i 0 = _; rw [tot_take l i hi, hI])
    (fun s hI => ev_step (f := fun _ => some (rnd (tot l) (l.length : Int))) (fun k => by
      simp only [spec_l6Result.l0]
      rw [if_neg (by omega), hI, List.take_length, l3Round_is, nearest_is b.1 b.2 (by omega) (by omega)]
      rfl) (ev_some _)) 0 (0, 0) (Nat.zero_le _) rfl
  exact this
def meanQ (W H : Nat) (l : List Int) (r i : Nat) : Int := if (hoodI W H l r i).length = 0 then -9999 else rnd (tot (hoodI W H l r i)) ((hoodI W H l r i).length : Int)
def meanF (W H : Nat) (r : Nat) (l : List Int) : List Int := tab (H * W) (meanQ W H l r)
section
variable {W H r : Nat} {l : List Int} (hW : 1 ≤ W ∧ W ≤ 8) (hH : 1 ≤ H ∧ H ≤ 8) (hf : FieldIs (W : Int) (H : Int) l) (hl : l.length = H * W) (hr : r ≤ 3)
include hW hH hf hl hr
theorem meanF_impl : Ev (fun k => impl_MeanFilter.f k (W : Int) (H : Int) l (r : Int)) ((W : Int), (H : Int), meanF W H r l, true) := by
  unfold impl_MeanFilter.f
  refine ev_bind (filter_impl hW hH hf hl hr (fun k z0_ => impl_meanOf.f k z0_) (meanQ W H l r) (fun i hi h0 => ?_) (fun i hi h0 => ?_)) (ev_some _)
  · unfold meanQ
    rw [if_neg h0]
    exact meanOf_ev (hoodI_val hl hf.cells hi) (hoodI_len hW hH l r i) h0
  · unfold meanQ
    rw [if_pos h0]
theorem meanF_spec : Ev (fun k => spec_MeanFilter.f k (W : Int) (H : Int) l (r : Int)) ((W : Int), (H : Int), meanF W H r l, true) := by
  unfold spec_MeanFilter.f
  refine ev_bind (filter_spec hW hH hf hl hr 3 0 (meanQ W H l r) (fun i hi => ?_)) (ev_some _)
  have hp := hood_perm W H l r i
  have hn := hoodI_len hW hH l r i
  have h := l6Mean_ev (l := hoodS W H l r i) (fun x hx => hoodI_val hl hf.cells hi x (hp.mem_iff.1 hx)) (by rw [hp.length_eq]; exact hn) 0
  rw [hp.length_eq, tot_perm hp] at h
  exact h
omit hr hW hH in
end
theorem tot_between {lo hi : Int} : ∀ l : List Int, (∀ x ∈ l, lo ≤ x ∧ x ≤ hi) → lo * (l.length : Int) ≤ tot l ∧ tot l ≤ hi * (l.length : Int)
  | [], _ => by simp [tot]
  | x :: l, h => by
    have h1 := h x (List.mem_cons_self ..)
    have h2 := tot_between l (fun y hy => h y (List.mem_cons_of_mem _ hy))
    simp only [tot, List.length_cons]
    rw [Int.natCast_succ, Int.mul_add, Int.mul_add]
    omega
theorem rnd_between {lo hi s n : Int} (h0 : lo * n ≤ s) (h1 : s ≤ hi * n) (hn : 1 ≤ n) : lo ≤ rnd s n ∧ rnd s n ≤ hi := by
  have e1 : ∀ a : Int, a * (2 * n) = 2 * (a * n) := fun a => Int.mul_left_comm a 2 n
  have e2 : (hi + 1) * n = hi * n + n := by rw [Int.add_mul, Int.one_mul]
  have e3 : (-lo + 1) * n = -(lo * n) + n := by rw [Int.add_mul, Int.one_mul, Int.neg_mul]
  have e4 : (-hi) * n = -(hi * n) := Int.neg_mul _ _
  unfold rnd
  split
  · have a1 : -hi ≤ (-2 * s + n) / (2 * n) := by
      rw [Int.le_ediv_iff_mul_le (by omega), e1, e4]
      omega
    have a2 : (-2 * s + n) / (2 * n) < -lo + 1 := by
      rw [Int.ediv_lt_iff_lt_mul (by omega), e1, e3]
      omega
    omega
  · have a1 : lo ≤ (2 * s + n) / (2 * n) := by
      rw [Int.le_ediv_iff_mul_le (by omega), e1]
      omega
    have a2 : (2 * s + n) / (2 * n) < hi + 1 := by
      rw [Int.ediv_lt_iff_lt_mul (by omega), e1, e2]
      omega
    omega
section
variable {W H r : Nat} {l : List Int} {i : Nat}
theorem minQ_le (h0 : (hoodI W H l r i).length ≠ 0) : ∀ x ∈ hoodI W H l r i, minQ W H l r i ≤ x := by
  have hp := hood_perm W H l r i
  have e := hp.length_eq
  unfold minQ
  rw [if_neg (by omega)]
  exact fun x hx => (first_min (hood_sorted W H l r i) (by omega)).2 x (hp.mem_iff.2 hx)
theorem le_maxQ (h0 : (hoodI W H l r i).length ≠ 0) : ∀ x ∈ hoodI W H l r i, x ≤ maxQ W H l r i := by
  have hp := hood_perm W H l r i
  have e := hp.length_eq
  unfold maxQ
  rw [if_neg (by omega)]
  exact fun x hx => (last_max (hood_sorted W H l r i) (by omega)).2 x (hp.mem_iff.2 hx)
theorem mean_between : minQ W H l r i ≤ meanQ W H l r i ∧ meanQ W H l r i ≤ maxQ W H l r i := by
  have e := (hood_perm W H l r i).length_eq
  by_cases h0 : (hoodI W H l r i).length = 0
  · unfold minQ meanQ maxQ
    rw [if_pos h0, if_pos (by omega), if_pos (by omega)]
    omega
  · have b := tot_between (hoodI W H l r i) (fun x hx => ⟨minQ_le h0 x hx, le_maxQ h0 x hx⟩)
    have := rnd_between b.1 b.2 (by omega)
    have e2 : meanQ W H l r i = rnd (tot (hoodI W H l r i)) ((hoodI W H l r i).length : Int) := by unfold meanQ; rw [if_neg h0]
    rw [e2]
    exact this
theorem self_between (hi : i < H * W) (h : l.getD i 0 ≠ -9999) : minQ W H l r i ≤ l.getD i 0 ∧ l.getD i 0 ≤ maxQ W H l r i := by
  have hm := hood_self (r := r) hi h
  have h0 : (hoodI W H l r i).length ≠ 0 := fun e => by
    rw [List.length_eq_zero_iff] at e
    rw [e] at hm
    exact absurd hm (by simp)
  exact ⟨minQ_le h0 _ hm, le_maxQ h0 _ hm⟩
end
def cge (t : Int) (l : List Int) : Int := (l.countP (fun x => decide (x ≥ t)) : Int)
theorem cge_bd (t : Int) (l : List Int) : 0 ≤ cge t l ∧ cge t l ≤ (l.length : Int) := by
  unfold cge
  have := List.countP_le_length (p := fun x : Int => decide (x ≥ t)) (l := l)
  omega
theorem cge_take (t : Int) (l : List Int) (i : Nat) (hi : i < l.length) : cge t (l.take (i + 1)) = if l.getD i 0 ≥ t then cge t (l.take i) + 1 else cge t (l.take i) := by
  unfold cge
  rw [List.take_add_one, List.countP_append, getD_eq_get 0 hi, List.getElem?_eq_getElem hi]
  by_cases h : l[i] ≥ t
  · simp [h]
  · simp [h]
theorem cge_perm (t : Int) {l m : List Int} (h : l.Perm m) : cge t l = cge t m := by unfold cge; rw [h.countP_eq]
theorem cge_tbd (t : Int) {l : List Int} (hn : l.length ≤ 64) (i : Nat) : 0 ≤ cge t (l.take i) ∧ cge t (l.take i) ≤ 64 := by
  have := cge_bd t (l.take i)
  have e : (l.take i).length ≤ 64 := by rw [List.length_take]; omega
  omega
theorem cov_end {l : List Int} (hn : l.length ≤ 64) (h1 : l.length ≠ 0) (t : Int) : impl_nearest.f (wrap64 (100 * cge t l)) (l.length : Int) = some (rnd (100 * cge t l) (l.length : Int)) := by
  have b := cge_bd t l
  rw [w64 (by omega) (by omega)]
  exact nearest_is (by omega) (by omega) (by omega) (by omega)
theorem covOf_ev {l : List Int} (hn : l.length ≤ 64) (h1 : l.length ≠ 0) (t : Int) : Ev (fun k => impl_CoverageFilter_1.f k l t) (rnd (100 * cge t l) (l.length : Int)) := by
  refine loop_ev (fun k s i => impl_CoverageFilter_1.l0 k l s l (l.length : Int) (i : Int) t) l.length (fun i s => if l.getD i 0 ≥ t then s + 1 else s) (fun _ => rnd (100 * cge t l) (l.length : Int)) (fun i s => s = cge t (l.take i))
    (fun i s r hI hi hh => ?_)
    (fun i s hI hi => by show (if l.getD i 0 ≥ t then s + 1 else s) = _; rw [cge_take t l i hi, hI])
    (fun s hI => ev_step (f := fun _ => some (rnd (100 * cge t l) (l.length : Int))) (fun k => by
      simp only [impl_CoverageFilter_1.l0]
      rw [if_neg (by omega), hI, List.take_length, cov_end hn h1]
      rfl) (ev_some _)) 0 0 (Nat.zero_le _) rfl
  have b := cge_tbd t hn i
  rw [← hI] at b
  have e1 := Aside0.mk (show wrap64 (s + 1) = s + 1 from w64 (by omega) (by omega))
  have e2 := Aside0.mk (show wrap64 ((i : Int) + 1) = ((i + 1 : Nat) : Int) by rw [w64 (by omega) (by omega)]; rfl)
  refine ev_step (fun k => ?_) hh
  simp only [impl_CoverageFilter_1.l0]
  rw [if_pos (by omega), if_pos (by omega), if_pos (by omega), rd_nat, e1.out, e2.out]
  split <;> rfl
theorem l6Cov_ev {l : List Int} (hn : l.length ≤ 64) (t : Int) : Ev (fun k => spec_l6Result.f k l 5 t) (if l.length = 0 then -9999 else rnd (100 * cge t l) (l.length : Int)) := by
  unfold spec_l6Result.f
  by_cases h1 : l.length = 0
  · rw [if_pos h1]
    exact ev_ifp (by omega) (ev_some _)
  rw [if_neg h1]
  refine ev_ifn (by omega) (ev_ifn (by omega) (ev_ifn (by omega) (ev_ifn (by omega) ?_)))
  have := loop_ev (fun k (s : Int × Int) i => spec_l6Result.l0 k l 5 t (l.length : Int) s.1 s.2 (i : Int)) l.length (fun i s => (wrap64 (s.1 + l.getD i 0), if l.getD i 0 ≥ t then s.2 + 1 else s.2)) (fun _ => rnd (100 * cge t l) (l.length : Int)) (fun i s => s.2 = cge t (l.take i))
    (fun i s r hI hi hh => by
      have b := cge_tbd t hn i
      rw [← hI] at b
      have e1 := Aside0.mk (show wrap64 (s.2 + 1) = s.2 + 1 from w64 (by omega) (by omega))
      have e2 := Aside0.mk (show wrap64 ((i : Int) + 1) = ((i + 1 : Nat) : Int) by rw [w64 (by omega) (by omega)]; rfl)
      refine ev_step (fun k => ?_) hh
      simp only [spec_l6Result.l0]
      rw [if_pos (by omega), if_pos (by omega), if_pos (by omega), rd_nat, e1.out, e2.out]
      split <;> rfl)
    (fun i s hI hi => by show (if l.getD i 0 ≥ t then s.2 + 1 else s.2) = _; rw [cge_take t l i hi, hI])
    (fun s hI => ev_step (f := fun _ => some (rnd (100 * cge t l) (l.length : Int))) (fun k => by
      simp only [spec_l6Result.l0]
      rw [if_neg (by omega), if_neg (by decide), hI, List.take_length, l3Round_is, cov_end hn h1]
      rfl) (ev_some _)) 0 (0, 0) (Nat.zero_le _) rfl
  exact this
def covQ (W H : Nat) (l : List Int) (r : Nat) (t : Int) (i : Nat) : Int := if (hoodI W H l r i).length = 0 then -9999 else rnd (100 * cge t (hoodI W H l r i)) ((hoodI W H l r i).length : Int)
section
variable {W H r : Nat} {l : List Int} (hW : 1 ≤ W ∧ W ≤ 8) (hH : 1 ≤ H ∧ H ≤ 8) (hf : FieldIs (W : Int) (H : Int) l) (hl : l.length = H * W) (hr : r ≤ 3)
include hW hH hf hl hr
theorem covF_impl (t : Int) : Ev (fun k => impl_filteredField_at_mp_mpOwn.f k (fun z0_ => impl_CoverageFilter_1.f k z0_ t) (W : Int) (H : Int) l (r : Int)) ((W : Int), (H : Int), tab (H * W) (covQ W H l r t), true) := by
  refine filter_impl hW hH hf hl hr (fun k z0_ => impl_CoverageFilter_1.f k z0_ t) (covQ W H l r t) (fun i hi h0 => ?_) (fun i hi h0 => ?_)
  · unfold covQ
    rw [if_neg h0]
    exact covOf_ev (hoodI_len hW hH l r i) h0 t
  · unfold covQ
    rw [if_pos h0]
theorem covF_spec (t : Int) : Ev (fun k => spec_l6Filter.f k (W : Int) (H : Int) l (r : Int) 5 t) ((W : Int), (H : Int), tab (H * W) (covQ W H l r t), true) := by
  refine filter_spec hW hH hf hl hr 5 t (covQ W H l r t) (fun i hi => ?_)
  have hp := hood_perm W H l r i
  have hn := hoodI_len hW hH l r i
  have h := l6Cov_ev (l := hoodS W H l r i) (by rw [hp.length_eq]; exact hn) t
  rw [hp.length_eq, cge_perm t hp] at h
  exact h
end
theorem sorted_unique : ∀ {s t : List Int}, s.Pairwise (· ≤ ·) → t.Pairwise (· ≤ ·) → s.Perm t → s = t
  | [], t, _, _, hp => (List.nil_perm.1 hp).symm
  | a :: s, [], _, _, hp => absurd (List.perm_nil.1 hp) (by simp)
  | a :: s, b :: t, h1, h2, hp => by
    rw [List.pairwise_cons] at h1 h2
    have ha : a ∈ b :: t := hp.mem_iff.1 (List.mem_cons_self ..)
    have hb : b ∈ a :: s := hp.mem_iff.2 (List.mem_cons_self ..)
    have hab : a = b := by
      rcases List.mem_cons.1 ha with e | e
      · exact e
      · rcases List.mem_cons.1 hb with e2 | e2
        · exact e2.symm
        · exact Int.le_antisymm (h1.1 b e2) (h2.1 a e)
    subst hab
    rw [sorted_unique h1.2 h2.2 (List.perm_cons a |>.1 hp)]
theorem srt_eq {s l : List Int} (hp : s.Perm l) (hs : s.Pairwise (· ≤ ·)) : srt l = s := by
  refine sorted_unique ?_ hs ((List.mergeSort_perm l _).trans hp.symm)
  have := List.pairwise_mergeSort (le := fun x y : Int => decide (x ≤ y)) (fun a b c h1 h2 => by simp only [decide_eq_true_eq] at *; omega) (fun a b => by simp; omega) l
  exact this.imp (fun h => by simpa using h)
def medQ (W H : Nat) (l : List Int) (r i : Nat) : Int := if (hoodS W H l r i).length = 0 then -9999 else rd (hoodS W H l r i) (wrap64 (Int.tdiv (wrap64 (((hoodS W H l r i).length : Int) - 1)) 2))
theorem mid_bd {n : Nat} (h1 : 1 ≤ n) (h2 : n ≤ 1000) : 0 ≤ wrap64 (Int.tdiv (wrap64 ((n : Int) - 1)) 2) ∧ wrap64 (Int.tdiv (wrap64 ((n : Int) - 1)) 2) < (n : Int) := by
  rw [w64 (x := (n : Int) - 1) (by omega) (by omega), Int.tdiv_eq_ediv_of_nonneg (by omega), w64 (by omega) (by omega)]
  omega
section
variable {W H r : Nat} {l : List Int} (hW : 1 ≤ W ∧ W ≤ 8) (hH : 1 ≤ H ∧ H ≤ 8) (hf : FieldIs (W : Int) (H : Int) l) (hl : l.length = H * W) (hr : r ≤ 3)
include hW hH hf hl hr
theorem medF_impl : Ev (fun k => impl_MedianFilter.f k (W : Int) (H : Int) l (r : Int)) ((W : Int), (H : Int), tab (H * W) (medQ W H l r), true) := by
  unfold impl_MedianFilter.f
  refine ev_bind (filter_impl hW hH hf hl hr (fun k z0_ => impl_MedianFilter_1.f z0_) (medQ W H l r) (fun i hi h0 => ev_const ?_) (fun i hi h0 => ?_)) (ev_some _)
  · have hn := hoodI_len hW hH l r i
    have hp := hood_perm W H l r i
    unfold impl_MedianFilter_1.f medQ
    rw [if_pos ⟨by omega, by omega⟩, srt_eq hp (hood_sorted W H l r i), if_neg (by rw [hp.length_eq]; exact h0), hp.length_eq]
  · unfold medQ
    rw [if_pos (by rw [(hood_perm W H l r i).length_eq]; exact h0)]
theorem medF_spec : Ev (fun k => spec_MedianFilter.f k (W : Int) (H : Int) l (r : Int)) ((W : Int), (H : Int), tab (H * W) (medQ W H l r), true) := by
  unfold spec_MedianFilter.f
  refine ev_bind (filter_spec hW hH hf hl hr 4 0 (medQ W H l r) (fun i hi => ?_)) (ev_some _)
  have hn := hoodI_len hW hH l r i
  have e := (hood_perm W H l r i).length_eq
  unfold spec_l6Result.f medQ
  by_cases h0 : (hoodS W H l r i).length = 0
  · rw [if_pos h0]
    exact ev_ifp (by omega) (ev_some _)
  · rw [if_neg h0]
    have m := mid_bd (n := (hoodS W H l r i).length) (by omega) (by omega)
    exact ev_ifn (by omega) (ev_ifn (by omega) (ev_ifn (by omega) (ev_ifp rfl (ev_ifp m.1 (ev_ifp m.2 (ev_some _))))))
end
theorem filtered_no {a b : Int} {l : List Int} {radius mode thr : Int} (p : Nat → List Int → Option Int) (hl : l.length ≤ 9223372036854775806) (h : ¬ (fieldOk a b l = true ∧ inb radius 0 3 = true)) :
    Ev (fun k => impl_filteredField_at_mp_mpOwn.f k (p k) a b l radius) (0, 0, [], false) ∧ Ev (fun k => spec_l6Filter.f k a b l radius mode thr) (0, 0, [], false) := by
  have g1 := l2Good_ev a b l hl
  have no : Ev (fun k => spec_l6Filter.j0 k radius mode thr true a b l) (0, 0, ([] : List Int), false) := ev_step (fun k => spec_l6Filter.j0.eq_2 _ _ _ _ _ _ _ k) (ev_ifp rfl (ev_some _))
  unfold impl_filteredField_at_mp_mpOwn.f spec_l6Filter.f
  rw [isValidField_is, within_is, l1In_is]
  cases hf : fieldOk a b l with
  | false =>
    rw [hf] at g1
    exact ⟨ev_bind (ev_some _) (ev_ifn (by simp) (ev_some _)), ev_bind g1 (ev_ifn (by simp) no)⟩
  | true =>
    rw [hf] at g1
    cases hr : inb radius 0 3 with
    | false => exact ⟨ev_bind (ev_some _) (ev_ifp rfl (ev_bind (ev_some _) (ev_ifn (by simp) (ev_some _)))), ev_bind g1 (ev_ifp rfl (ev_bind (ev_some _) no))⟩
    | true => exact absurd ⟨hf, hr⟩ h
end Go.Proofs.Ythekngnkajjhnaa.Pure
namespace Go.Proofs.Ythekngnkajjhnaa.Pure
set_option linter.unusedVariables false
open Go.RowKit Go.Proofs.YthekngnkajjhnaaW.PrintWords Go.Proofs.YthekngnkajjhnaaW.PrintLast
theorem ends_inv {σ ρ : Type} (F : Nat → σ → Nat → Option ρ) (n : Nat) (I : Nat → σ → Prop) (P : ρ → Prop)
    (hs : ∀ i s, I i s → i < n → ∃ s', I (i + 1) s' ∧ ∀ r, Ev (fun k => F k s' (i + 1)) r → Ev (fun k => F k s i) r)
    (he : ∀ s, I n s → ∃ r, Ev (fun k => F k s n) r ∧ P r) : ∀ i s, i ≤ n → I i s → ∃ r, Ev (fun k => F k s i) r ∧ P r := by
  have key : ∀ d i s, n - i = d → i ≤ n → I i s → ∃ r, Ev (fun k => F k s i) r ∧ P r := by
    intro d
    induction d with
    | zero =>
      intro i s h0 h1 h2
      obtain rfl : i = n := by omega
      exact he s h2
    | succ d ih =>
      intro i s h0 h1 h2
      obtain ⟨s', h3, h4⟩ := hs i s h2 (by omega)
      obtain ⟨r, h5, h6⟩ := ih (i + 1) s' (by omega) (by omega) h3
      exact ⟨r, h4 r h5, h6⟩
  exact fun i s h1 h2 => key (n - i) i s rfl h1 h2
end Go.Proofs.Ythekngnkajjhnaa.Pure
namespace Go.Proofs.Ythekngnkajjhnaa.Pure
set_option linter.unusedVariables false
set_option linter.unusedSimpArgs false
open Go Go.RowKit Go.Proofs.Ythekngnkajjhnaa.P Go.Proofs.YthekngnkajjhnaaW.PrintWords Go.Proofs.YthekngnkajjhnaaW.PrintLast
theorem u64_bd (x : Int) : 0 ≤ IntKind.u64.wrap x ∧ IntKind.u64.wrap x < 18446744073709551616 := by
  rw [IntKind.wrap_u64]
  omega
theorem wraps63 (n : Int) (h0 : 0 ≤ n) (h1 : n < 2 ^ 63) : IntKind.u64.wrap n = n := by
  rw [IntKind.wrap_u64]
  omega
theorem and255 (v : Int) (h0 : 0 ≤ v) (h1 : v < 18446744073709551616) : 0 ≤ Go.bits .and .u64 (v / 1099511627776) 255 ∧ Go.bits .and .u64 (v / 1099511627776) 255 ≤ 255 := by
  have h := bits_mask .u64 63 (by decide) wraps63 8 (by decide) (v / 1099511627776) (by omega) (by omega)
  have e : ((2 : Int) ^ 8 - 1) = 255 := by decide
  have e2 : ((2 : Int) ^ 8) = 256 := by decide
  rw [e, e2] at h
  rw [h]
  omega
structure Code (l : List Int) : Prop where
  len : l.length ≤ 65536
  byte : ∀ x ∈ l, 0 ≤ x ∧ x ≤ 255
theorem Code.bd {l : List Int} (h : Code l) (i : Int) : 0 ≤ rd l i ∧ rd l i ≤ 255 := by
  unfold rd
  by_cases hi : i.toNat < l.length
  · rw [getD_eq_get 0 hi]
    exact h.byte _ (List.getElem_mem hi)
  · simp [List.getD, List.getElem?_eq_none (show l.length ≤ i.toNat by omega)]
theorem next_at {l : List Int} (hl : Code l) (i s : Int) (h0 : 0 ≤ i) (h1 : i ≤ 1000000000) : ∃ x s', spec_l1Cur_next.f l i s = some (x, i + 1, s') ∧ 0 ≤ x ∧ x ≤ 255 := by
  unfold spec_l1Cur_next.f
  have hr := hl.bd i
  have w1 : wrap64 (i + 1) = i + 1 := w64 (by omega) (by omega)
  rw [w1]
  by_cases c1 : i < (l.length : Int)
  · rw [if_pos c1, if_pos h0, if_pos (by omega)]
    exact ⟨_, _, rfl, by rw [w64 (by omega) (by omega)]; exact hr.1, by rw [w64 (by omega) (by omega)]; exact hr.2⟩
  · rw [if_neg c1, if_neg (by omega)]
    have hb := u64_bd (IntKind.u64.wrap (IntKind.u64.wrap (s * 6364136223846793005)) + 889889)
    have ha := and255 _ hb.1 hb.2
    exact ⟨_, _, rfl, by rw [w64 (by omega) (by omega)]; exact ha.1, by rw [w64 (by omega) (by omega)]; exact ha.2⟩
theorem pick_at {l : List Int} (hl : Code l) (i s n : Int) (h0 : 0 ≤ i) (h1 : i ≤ 100000000) :
    ∃ x i' s', spec_l1Cur_pick.f l i s n = some (x, i', s') ∧ 0 ≤ x ∧ (1 ≤ n → x < n) ∧ i ≤ i' ∧ i' ≤ i + 2 := by
  unfold spec_l1Cur_pick.f
  by_cases c1 : n ≤ 1
  · rw [if_pos c1]
    exact ⟨_, _, _, rfl, by omega, fun h => by omega, by omega, by omega⟩
  · rw [if_neg c1]
    obtain ⟨x, s1, e1, b1, b2⟩ := next_at hl i s h0 (by omega)
    rw [e1, Option.bind_some]
    have cn : ¬ n = 0 := by omega
    by_cases c2 : n > 200
    · rw [if_pos c2]
      obtain ⟨y, s2, e2, b3, b4⟩ := next_at hl (i + 1) s1 (by omega) (by omega)
      simp only
      rw [e2, Option.bind_some, if_neg cn]
      simp only
      rw [w64 (x := x * 256) (by omega) (by omega), w64 (by omega) (by omega), Int.tmod_eq_emod_of_nonneg (by omega)]
      exact ⟨_, _, _, rfl, Int.emod_nonneg _ cn, fun _ => Int.emod_lt_of_pos _ (by omega), by omega, by omega⟩
    · rw [if_neg c2, if_neg cn]
      simp only
      rw [Int.tmod_eq_emod_of_nonneg (by omega)]
      exact ⟨_, _, _, rfl, Int.emod_nonneg _ cn, fun _ => Int.emod_lt_of_pos _ (by omega), by omega, by omega⟩
theorem one_at {l : List Int} (hl : Code l) (i s n : Int) (h0 : 0 ≤ i) (h1 : i ≤ 100000000) : ∃ b i' s', spec_l1Cur_one.f l i s n = some (b, i', s') ∧ i ≤ i' ∧ i' ≤ i + 2 := by
  unfold spec_l1Cur_one.f
  obtain ⟨x, i', s', e, _, _, b3, b4⟩ := pick_at hl i s n h0 h1
  rw [e, Option.bind_some]
  exact ⟨_, _, _, rfl, b3, b4⟩
theorem among_at {l : List Int} (hl : Code l) (i s : Int) (xs : List Int) (hx : 1 ≤ xs.length) (h0 : 0 ≤ i) (h1 : i ≤ 100000000) :
    ∃ x i' s', spec_l1Cur_among.f l i s xs = some (x, i', s') ∧ x ∈ xs ∧ i ≤ i' ∧ i' ≤ i + 2 := by
  unfold spec_l1Cur_among.f
  obtain ⟨x, i', s', e, b1, b2, b3, b4⟩ := pick_at hl i s (xs.length : Int) h0 h1
  have b5 := b2 (by omega)
  rw [e, Option.bind_some, if_pos b1, if_pos b5]
  refine ⟨_, _, _, rfl, ?_, b3, b4⟩
  unfold rd
  simp only
  have hlt : x.toNat < xs.length := by omega
  rw [getD_eq_get 0 hlt]
  exact List.getElem_mem hlt
theorem field_j1 {l : List Int} (hl : Code l) (i s : Int) (h0 : 0 ≤ i) (h1 : i ≤ 90000000) (w h : Int) (c : List Int) (hc : 1 ≤ c.length ∧ c.length ≤ 64) :
    ∃ r : Int × Int × List Int × Int × Int, Ev (fun k => spec_l1Cur_field.j1 k l i s w h c) r ∧ (1 ≤ r.2.2.1.length ∧ r.2.2.1.length ≤ 64) ∧ i ≤ r.2.2.2.1 ∧ r.2.2.2.1 ≤ i + 2 := by
  obtain ⟨b, i1, s1, e1, b1, b2⟩ := one_at hl i s 24 h0 (by omega)
  cases b with
  | true =>
    have hf := l2Fill_ev 8 8 3 (by decide) (by decide)
    refine ⟨(8, 8, List.replicate (8 * 8 : Int).toNat 3, i1, s1), ev_step (fun k => spec_l1Cur_field.j1.eq_2 _ _ _ _ _ _ k) (ev_bind (ev_const e1) (ev_ifp rfl (ev_bind hf (ev_some _)))), by simp, b1, b2⟩
  | false =>
    exact ⟨(w, h, c, i1, s1), ev_step (fun k => spec_l1Cur_field.j1.eq_2 _ _ _ _ _ _ k) (ev_bind (ev_const e1) (ev_ifn (by simp) (ev_some _))), hc, b1, b2⟩
theorem field_at {l : List Int} (hl : Code l) (i s : Int) (h0 : 0 ≤ i) (h1 : i ≤ 80000000) :
    ∃ r : Int × Int × List Int × Int × Int, Ev (fun k => spec_l1Cur_field.f k l i s) r ∧ (1 ≤ r.2.2.1.length ∧ r.2.2.1.length ≤ 64) ∧ i ≤ r.2.2.2.1 ∧ r.2.2.2.1 ≤ i + 200 := by
  obtain ⟨x1, i1, s1, e1, p1, q1, b1, b2⟩ := pick_at hl i s 5 h0 (by omega)
  obtain ⟨x2, i2, s2, e2, p2, q2, b3, b4⟩ := pick_at hl i1 s1 5 (by omega) (by omega)
  obtain ⟨x3, i3, s3, e3, _, b5, b6⟩ := among_at hl i2 s2 [0, 10, 100, (-50)] (by simp) (by omega) (by omega)
  have q1' := q1 (by omega)
  have q2' := q2 (by omega)
  obtain ⟨W, hW⟩ := Int.eq_ofNat_of_zero_le (show 0 ≤ 1 + x1 by omega)
  obtain ⟨H, hH⟩ := Int.eq_ofNat_of_zero_le (show 0 ≤ 1 + x2 by omega)
  have hm : W * H ≤ 25 := Nat.mul_le_mul (show W ≤ 5 by omega) (show H ≤ 5 by omega)
  have hm1 : 1 ≤ W * H := Nat.mul_pos (by omega) (by omega)
  have ew := Aside0.mk (show wrap64 ((W : Int) * (H : Int)) = ((W * H : Nat) : Int) by rw [← Int.natCast_mul, w64n (by omega)])
  obtain ⟨r, hr, hp⟩ := ends_inv (fun k (st : Int × Int × List Int) j => spec_l1Cur_field.l0 k x3 (j : Int) l st.1 st.2.1 (W : Int) (H : Int) st.2.2) (W * H) (fun j st => i3 ≤ st.1 ∧ st.1 ≤ i3 + 4 * (j : Int) ∧ st.2.2.length = j)
    (fun r => (1 ≤ r.2.2.1.length ∧ r.2.2.1.length ≤ 64) ∧ i ≤ r.2.2.2.1 ∧ r.2.2.2.1 ≤ i + 200)
    (fun j st hI hj => by
      obtain ⟨at_, sd, c⟩ := st
      obtain ⟨c1, c2, c3⟩ := hI
      simp only at c1 c2 c3
      obtain ⟨y, i4, s4, e4, _, _, d1, d2⟩ := pick_at hl at_ sd 40 (by omega) (by omega)
      obtain ⟨b, i5, s5, e5, d3, d4⟩ := one_at hl i4 s4 12 (by omega) (by omega)
      have ej := Aside0.mk (show wrap64 ((j : Int) + 1) = ((j + 1 : Nat) : Int) by rw [w64 (by omega) (by omega)]; rfl)
      cases b with
      | true =>
        refine ⟨(i5, s5, c ++ [(-9999)]), ⟨by simp only; omega, by simp only; omega, by simp [c3]⟩, fun r h => ev_step (fun k => ?_) h⟩
        simp only [spec_l1Cur_field.l0]
        rw [ew.out, if_pos (by omega), e4]
        simp only [Option.bind_some]
        rw [e5]
        simp only [Option.bind_some, if_true]
        rw [if_pos (by omega), ej.out]
      | false =>
        refine ⟨(i5, s5, c ++ [wrap64 (x3 + y)]), ⟨by simp only; omega, by simp only; omega, by simp [c3]⟩, fun r h => ev_step (fun k => ?_) h⟩
        simp only [spec_l1Cur_field.l0]
        rw [ew.out, if_pos (by omega), e4]
        simp only [Option.bind_some]
        rw [e5]
        simp only [Option.bind_some, Bool.false_eq_true, if_false]
        rw [if_pos (by omega), ej.out])
    (fun st hI => by
      obtain ⟨at_, sd, c⟩ := st
      obtain ⟨c1, c2, c3⟩ := hI
      simp only at c1 c2 c3
      obtain ⟨b, i4, s4, e4, d1, d2⟩ := one_at hl at_ sd 10 (by omega) (by omega)
      cases b with
      | true =>
        obtain ⟨y, i5, s5, e5, d3, d4, d5, d6⟩ := pick_at hl i4 s4 (c.length : Int) (by omega) (by omega)
        obtain ⟨z, i6, s6, e6, _, d7, d8⟩ := among_at hl i5 s5 [9000, (-9000), 0] (by simp) (by omega) (by omega)
        have d4' := d4 (by omega)
        obtain ⟨r, hr, hc, d9, d10⟩ := field_j1 hl i6 s6 (by omega) (by omega) (W : Int) (H : Int) (c.set y.toNat z) (by simp; omega)
        refine ⟨r, ev_step (fun k => ?_) hr, hc, by omega, by omega⟩
        simp only [spec_l1Cur_field.l0]
        rw [ew.out, if_neg (by omega), e4]
        simp only [Option.bind_some, if_true]
        rw [e5]
        simp only [Option.bind_some]
        rw [e6]
        simp only [Option.bind_some]
        rw [if_pos d3, if_pos d4']
      | false =>
        obtain ⟨r, hr, hc, d9, d10⟩ := field_j1 hl i4 s4 (by omega) (by omega) (W : Int) (H : Int) c (by omega)
        refine ⟨r, ev_step (fun k => ?_) hr, hc, by omega, by omega⟩
        simp only [spec_l1Cur_field.l0]
        rw [ew.out, if_neg (by omega), e4]
        simp only [Option.bind_some, Bool.false_eq_true, if_false]) 0 (i3, s3, []) (Nat.zero_le _) ⟨by simp only; omega, by simp only; omega, rfl⟩
  refine ⟨r, ?_, hp⟩
  unfold spec_l1Cur_field.f
  refine ev_bind (ev_const e1) (ev_bind (ev_const e2) (ev_bind (ev_const e3) ?_))
  simp only
  rw [w64 (x := 1 + x1) (by omega) (by omega), w64 (x := 1 + x2) (by omega) (by omega), hW, hH]
  exact hr
theorem anyField_at {l : List Int} (hl : Code l) (i s : Int) (h0 : 0 ≤ i) (h1 : i ≤ 70000000) :
    ∃ r : Int × Int × List Int × Int × Int, Ev (fun k => spec_l1Cur_anyField.f k l i s) r ∧ r.2.2.1.length ≤ 64 ∧ i ≤ r.2.2.2.1 ∧ r.2.2.2.1 ≤ i + 300 := by
  obtain ⟨⟨w, h, c, i1, s1⟩, hr, hc, b1, b2⟩ := field_at hl i s h0 (by omega)
  simp only at hc b1 b2
  obtain ⟨x, i2, s2, e2, _, _, b3, b4⟩ := pick_at hl i1 s1 24 (by omega) (by omega)
  unfold spec_l1Cur_anyField.f
  by_cases c0 : x = 0
  · obtain ⟨y, i3, s3, e3, _, b5, b6⟩ := among_at hl i2 s2 [0, 9, 8, h] (by simp) (by omega) (by omega)
    exact ⟨(y, h, c, i3, s3), ev_bind hr (ev_bind (ev_const e2) (ev_ifp c0 (ev_bind (ev_const e3) (ev_some _)))), by simp only; omega, by simp only; omega, by simp only; omega⟩
  · by_cases c1 : x = 1
    · obtain ⟨y, i3, s3, e3, p3, q3, b5, b6⟩ := pick_at hl i2 s2 (c.length : Int) (by omega) (by omega)
      obtain ⟨z, i4, s4, e4, _, b7, b8⟩ := among_at hl i3 s3 [9001, (-9001), (-9998), (-9999)] (by simp) (by omega) (by omega)
      exact ⟨(w, h, c.set y.toNat z, i4, s4), ev_bind hr (ev_bind (ev_const e2) (ev_ifn c0 (ev_ifp c1 (ev_bind (ev_const e3) (ev_bind (ev_const e4) (ev_ifp p3 (ev_ifp (q3 (by omega)) (ev_some _)))))))), by simp; omega, by simp only; omega, by simp only; omega⟩
    · by_cases c2 : x = 2
      · exact ⟨(w, h, c.drop (1 : Int).toNat, i2, s2), ev_bind hr (ev_bind (ev_const e2) (ev_ifn c0 (ev_ifn c1 (ev_ifp c2 (ev_ifp (by simp only; omega) (ev_some _)))))), by simp; omega, by simp only; omega, by simp only; omega⟩
      · exact ⟨(w, h, c, i2, s2), ev_bind hr (ev_bind (ev_const e2) (ev_ifn c0 (ev_ifn c1 (ev_ifn c2 (ev_some _))))), by simp only; omega, by simp only; omega, by simp only; omega⟩
theorem rInts_self (l : List Int) (hl : l.length ≤ 9223372036854775806) : Ev (fun k => laws_rInts.f k l l) true := by
  have h := loop_ev (σ := Unit) (fun k _ i => laws_rInts.l0 k l l (i : Int)) l.length (fun _ _ => ()) (fun _ => true) (fun _ _ => True)
    (fun i s r _ hi h => ev_step (fun k => by
      simp only [laws_rInts.l0]
      rw [if_pos (by omega), if_pos (by omega), if_pos (by omega), if_pos trivial, w64 (by omega) (by omega)]
      rfl) h)
    (fun _ _ _ _ => trivial)
    (fun _ _ => ev_step (f := fun _ => some true) (fun k => by
      simp only [laws_rInts.l0]
      rw [if_neg (by omega)]) (ev_some _)) 0 () (Nat.zero_le _) trivial
  unfold laws_rInts.f
  exact ev_ifp rfl h
theorem rFields_self (a b : Int) (l : List Int) (hl : l.length ≤ 9223372036854775806) : Ev (fun k => laws_rFields.f k a b l a b l) true := by
  unfold laws_rFields.f
  exact ev_ifp rfl (ev_ifp rfl (ev_bind (rInts_self l hl) (ev_some _)))
theorem codeR {l : List Int} (hl : l.length ≤ 9223372036854775807 ∧ ∀ z ∈ l, (Lit.int .u8 z).wf = true) (h : l.length ≤ 65536) : Code l :=
  ⟨h, fun x hx => by
    have := hl.2 x hx
    simp [Lit.wf, IntKind.min, IntKind.max, IntKind.signed, IntKind.bits] at this
    omega⟩
theorem part_bd {x : Int} (h0 : 0 ≤ x) (h1 : x < 24) (m : Int) (hm : 1 ≤ m ∧ m ≤ 5) : m ≤ wrap64 (m + wrap64 (Int.tdiv x 11)) ∧ wrap64 (m + wrap64 (Int.tdiv x 11)) ≤ m + 2 := by
  rw [Int.tdiv_eq_ediv_of_nonneg h0, w64 (x := x / 11) (by omega) (by omega), w64 (by omega) (by omega)]
  omega
theorem part_at {l : List Int} (hl : Code l) (i s : Int) (xs : List Int) (m : Int) (hm : 1 ≤ m ∧ m ≤ 5) (hx : (xs.length : Int) = m + 2) (h0 : 0 ≤ i) (h1 : i ≤ 90000000) :
    ∃ x i' s' y i2 s2, spec_l1Cur_pick.f l i s 24 = some (x, i', s') ∧ (0 ≤ wrap64 (m + wrap64 (Int.tdiv x 11))) ∧ (wrap64 (m + wrap64 (Int.tdiv x 11)) ≤ (xs.length : Int)) ∧
      spec_l1Cur_among.f l i' s' (xs.take (wrap64 (m + wrap64 (Int.tdiv x 11)) : Int).toNat) = some (y, i2, s2) ∧ i ≤ i2 ∧ i2 ≤ i + 4 := by
  obtain ⟨x, i1, s1, e1, p1, q1, b1, b2⟩ := pick_at hl i s 24 h0 (by omega)
  have q1' := q1 (by omega)
  have pb := part_bd p1 q1' m hm
  obtain ⟨y, i2, s2, e2, _, b3, b4⟩ := among_at hl i1 s1 (xs.take (wrap64 (m + wrap64 (Int.tdiv x 11)) : Int).toNat) (by rw [List.length_take]; omega) (by omega) (by omega)
  exact ⟨x, i1, s1, y, i2, s2, e1, by omega, by omega, e2, by omega, by omega⟩
theorem radius_at {l : List Int} (hl : Code l) (i s : Int) (h0 : 0 ≤ i) (h1 : i ≤ 90000000) : ∃ y i2 s2, spec_l1Cur_radius.f l i s = some (y, i2, s2) ∧ i ≤ i2 ∧ i2 ≤ i + 4 := by
  obtain ⟨x, i1, s1, y, i2, s2, e1, c1, c2, e2, b1, b2⟩ := part_at hl i s [0, 1, 1, 2, 3, (-1), 4] 5 (by omega) rfl h0 h1
  refine ⟨y, i2, s2, ?_, b1, b2⟩
  unfold spec_l1Cur_radius.f
  rw [Option.bind_some, e1, Option.bind_some, if_pos c1, if_pos c2, e2, Option.bind_some]
end Go.Proofs.Ythekngnkajjhnaa.Pure
namespace Go.Proofs.Ythekngnkajjhnaa.Pure
set_option linter.unusedVariables false
set_option linter.unusedSimpArgs false
open Go Go.RowKit Go.Proofs.Ythekngnkajjhnaa.P Go.Proofs.YthekngnkajjhnaaW.PrintWords Go.Proofs.YthekngnkajjhnaaW.PrintLast Go.Proofs.YthekngnkajjhnaaW.PrintMore
theorem drawMax_at {l : List Int} (hl : Code l) : ∃ r : Int × Int × List Int × Int, Ev (fun k => spec_DrawMaximumFilter.f k l) r ∧ r.2.2.1.length ≤ 64 := by
  obtain ⟨⟨w, h, c, i1, s1⟩, hr, hc, b1, b2⟩ := anyField_at hl 0 0 (by omega) (by omega)
  simp only at hc b1 b2
  obtain ⟨y, i2, s2, e1, _, _⟩ := radius_at hl i1 s1 (by omega) (by omega)
  unfold spec_DrawMaximumFilter.f
  exact ⟨(w, h, c, y), ev_bind hr (ev_bind (ev_const e1) (ev_some _)), hc⟩
theorem drawCov_j0 {l : List Int} (hl : Code l) (i s : Int) (h0 : 0 ≤ i) (h1 : i ≤ 80000000) (x : Int) (b : Bool) (w h : Int) (c : List Int) (hc : c.length ≤ 64) (hb : b = true → 1 ≤ c.length) :
    ∃ r : Int × Int × List Int × Int × Int, Ev (fun k => spec_DrawCoverageFilter.j0 k x b l i s w h c) r ∧ r.2.2.1.length ≤ 64 := by
  cases b with
  | true =>
    obtain ⟨x1, i1, s1, e1, p1, q1, _, _⟩ := pick_at hl i s (c.length : Int) h0 (by omega)
    have hb := hb rfl
    have q1' := q1 (by omega)
    exact ⟨_, ev_step (fun k => spec_DrawCoverageFilter.j0.eq_2 _ _ _ _ _ _ _ _ k) (ev_ifp rfl (ev_bind (ev_const e1) (ev_ifp p1 (ev_ifp q1' (ev_some (w, h, c, x, rd c x1)))))), hc⟩
  | false =>
    obtain ⟨x1, i1, s1, y, i2, s2, e1, c1, c2, e2, b1, b2⟩ := part_at hl i s [0, 5, (-5), 9000, (-9000), 9001, (-9001)] 5 (by omega) rfl h0 (by omega)
    refine ⟨(w, h, c, x, y), ev_step (f := fun _ => some (w, h, c, x, y)) (fun k => ?_) (ev_some _), hc⟩
    simp only [spec_DrawCoverageFilter.j0]
    rw [if_neg (by simp), Option.bind_some, e1, Option.bind_some, if_pos c1, if_pos c2, e2, Option.bind_some]
theorem drawCov_at {l : List Int} (hl : Code l) : ∃ r : Int × Int × List Int × Int × Int, Ev (fun k => spec_DrawCoverageFilter.f k l) r ∧ r.2.2.1.length ≤ 64 := by
  obtain ⟨⟨w, h, c, i1, s1⟩, hr, hc, b1, b2⟩ := anyField_at hl 0 0 (by omega) (by omega)
  simp only at hc b1 b2
  obtain ⟨y, i2, s2, e1, b3, b4⟩ := radius_at hl i1 s1 (by omega) (by omega)
  unfold spec_DrawCoverageFilter.f
  by_cases hp : (c.length : Int) > 0
  · obtain ⟨b, i3, s3, e2, b5, b6⟩ := one_at hl i2 s2 2 (by omega) (by omega)
    obtain ⟨r, hj, hc2⟩ := drawCov_j0 hl i3 s3 (by omega) (by omega) y b w h c hc (fun _ => by omega)
    exact ⟨r, ev_bind hr (ev_bind (ev_const e1) (ev_ifp hp (ev_bind (ev_const e2) hj))), hc2⟩
  · obtain ⟨r, hj, hc2⟩ := drawCov_j0 hl i2 s2 (by omega) (by omega) y false w h c hc (fun h => by cases h)
    exact ⟨r, ev_bind hr (ev_bind (ev_const e1) (ev_ifn hp hj)), hc2⟩
theorem coverage_both (a b : Int) (l : List Int) (radius t : Int) (hl : l.length ≤ 9223372036854775806) :
    ∃ r, Ev (fun k => spec_CoverageFilter.f k a b l radius t) r ∧ Ev (fun k => impl_CoverageFilter.f k a b l radius t) r ∧ r.2.2.1.length ≤ 64 := by
  unfold spec_CoverageFilter.f impl_CoverageFilter.f
  rw [within_is, l1In_is]
  cases ht : inb t (-9000) 9000 with
  | false => exact ⟨(0, 0, [], false), ev_bind (ev_some _) (ev_ifn (by simp) (ev_some _)), ev_bind (ev_some _) (ev_ifn (by simp) (ev_some _)), by simp⟩
  | true =>
    by_cases h : fieldOk a b l = true ∧ inb radius 0 3 = true
    · have fi := fieldOk_iff.1 h.1
      obtain ⟨W, H, rfl, rfl, hW, hH, hlen, h64⟩ := shape_nat fi
      have hr := inb_iff.1 h.2
      obtain ⟨R, rfl⟩ := Int.eq_ofNat_of_zero_le hr.1
      refine ⟨((W : Int), (H : Int), tab (H * W) (covQ W H l R t), true), ev_bind (ev_some _) (ev_ifp rfl (ev_bind (covF_spec hW hH fi hlen (by omega) t) (ev_some _))), ev_bind (ev_some _) (ev_ifp rfl (ev_bind (covF_impl hW hH fi hlen (by omega) t) (ev_some _))), ?_⟩
      show (tab (H * W) (covQ W H l R t)).length ≤ 64
      rw [tab_length]
      omega
    · obtain ⟨n1, n2⟩ := filtered_no (mode := 5) (thr := t) (fun k z0_ => impl_CoverageFilter_1.f k z0_ t) hl h
      exact ⟨(0, 0, [], false), ev_bind (ev_some _) (ev_ifp rfl (ev_bind n2 (ev_some _))), ev_bind (ev_some _) (ev_ifp rfl (ev_bind n1 (ev_some _))), by simp⟩
theorem filters_cov {l : List Int} (hl : Code l) (x6 : Bool) (i a0 a1 b0 b1 c0 c1 d0 d1 e0 e1 : Int) (a2 b2 c2 d2 e2 : List Int) :
    Ev (fun k => laws_FnFilters.j3 k l x6 i false a0 a1 a2 b0 b1 b2 c0 c1 c2 d0 d1 d2 e0 e1 e2) true := by
  obtain ⟨⟨w, h, c, r, t⟩, hd, hc⟩ := drawCov_at hl
  simp only at hc
  obtain ⟨⟨w2, h2, c2', ok⟩, h1, h3, hl2⟩ := coverage_both w h c r t (by omega)
  simp only at hl2
  exact ev_step (fun k => laws_FnFilters.j3.eq_2 _ _ _ _ _ _ _ _ _ _ _ _ _ _ _ _ _ _ _ k) (ev_ifn (by simp) (ev_bind hd (ev_bind h3 (ev_bind h1 (ev_ifp (by simp) (ev_bind (rFields_self w2 h2 c2' (by omega)) (ev_some _)))))))
theorem med_between {W H : Nat} (hW : 1 ≤ W ∧ W ≤ 8) (hH : 1 ≤ H ∧ H ≤ 8) (l : List Int) (r i : Nat) : minQ W H l r i ≤ medQ W H l r i ∧ medQ W H l r i ≤ maxQ W H l r i := by
  have hp := hood_perm W H l r i
  have hn := hoodI_len hW hH l r i
  have e := hp.length_eq
  by_cases h0 : (hoodI W H l r i).length = 0
  · unfold minQ medQ maxQ
    rw [if_pos (by omega), if_pos (by omega), if_pos (by omega)]
    omega
  · have m := mid_bd (n := (hoodS W H l r i).length) (by omega) (by omega)
    have hm : medQ W H l r i ∈ hoodI W H l r i := by
      unfold medQ
      rw [if_neg (by omega)]
      refine hp.mem_iff.1 ?_
      unfold rd
      rw [getD_eq_get 0 (by omega)]
      exact List.getElem_mem _
    exact ⟨minQ_le h0 _ hm, le_maxQ h0 _ hm⟩
theorem filters_loop {z : List Int} (hz : Code z) {W H r : Nat} {l : List Int} (hW : 1 ≤ W ∧ W ≤ 8) (hH : 1 ≤ H ∧ H ≤ 8) (hl : l.length = H * W) :
    Ev (fun k => laws_FnFilters.l0 k z true 0 (W : Int) (H : Int) l (W : Int) (H : Int) (tab (H * W) (maxQ W H l r)) (W : Int) (H : Int) (tab (H * W) (minQ W H l r)) (W : Int) (H : Int) (tab (H * W) (meanQ W H l r)) (W : Int) (H : Int) (tab (H * W) (medQ W H l r))) true := by
  have h64 : H * W ≤ 64 := Nat.mul_le_mul hH.2 hW.2
  refine loop_ev (σ := Unit) (fun k _ i => laws_FnFilters.l0 k z true (i : Int) (W : Int) (H : Int) l (W : Int) (H : Int) (tab (H * W) (maxQ W H l r)) (W : Int) (H : Int) (tab (H * W) (minQ W H l r)) (W : Int) (H : Int) (tab (H * W) (meanQ W H l r)) (W : Int) (H : Int) (tab (H * W) (medQ W H l r))) (H * W) (fun _ _ => ()) (fun _ => true) (fun _ _ => True)
    (fun i s q _ hi h => ?_)
    (fun _ _ _ _ => trivial)
    (fun _ _ => ?_) 0 () (Nat.zero_le _) trivial
  · have hlt : ∀ g : Nat → Int, (i : Int) < ((tab (H * W) g).length : Int) := fun g => by rw [tab_length]; exact_mod_cast hi
    have hrd : ∀ g : Nat → Int, rd (tab (H * W) g) (i : Int) = g i := fun g => by rw [rd_nat, tab_getD _ _ 0 hi]
    obtain ⟨m1, m2⟩ := med_between hW hH l r i
    obtain ⟨m3, m4⟩ := mean_between (W := W) (H := H) (l := l) (r := r) (i := i)
    have hi0 : (0 : Int) ≤ (i : Int) := Int.natCast_nonneg i
    have e1 := Aside0.mk (show wrap64 ((i : Int) + 1) = ((i + 1 : Nat) : Int) by rw [w64 (by omega) (by omega)]; rfl)
    refine ev_step (fun k => laws_FnFilters.l0.eq_2 _ _ _ _ _ _ _ _ _ _ _ _ _ _ _ _ _ _ k) (ev_ifp (by omega) ?_)
    refine ev_step (fun k => laws_FnFilters.j3.eq_2 _ _ _ _ _ _ _ _ _ _ _ _ _ _ _ _ _ _ _ k) (ev_ifp rfl (ev_ifp hi0 (ev_ifp (hlt _) (ev_ifp (hlt _) (ev_ifn (by rw [hrd, hrd]; omega) (ev_ifp (hlt _) (ev_ifn (by rw [hrd, hrd]; omega) (ev_ifp (hlt _) (ev_ifn (by rw [hrd, hrd]; omega) ?_)))))))))
    rw [hrd, hrd]
    refine ev_step (fun k => laws_FnFilters.j4.eq_2 _ _ _ _ _ _ _ _ _ _ _ _ _ _ _ _ _ _ _ k) (ev_ifn (by simp only [decide_eq_true_eq]; omega) (ev_ifp hi0 (ev_ifp (by omega) ?_)))
    rw [rd_nat, e1.out]
    by_cases hmiss : l.getD i 0 = -9999
    · exact ev_ifp hmiss h
    · obtain ⟨m5, m6⟩ := self_between (W := W) (H := H) (r := r) hi hmiss
      exact ev_ifn hmiss (ev_ifp (hlt _) (ev_ifn (by rw [hrd]; omega) (ev_ifp (hlt _) (ev_ifn (by rw [hrd]; omega) h))))
  · exact ev_step (fun k => laws_FnFilters.l0.eq_2 _ _ _ _ _ _ _ _ _ _ _ _ _ _ _ _ _ _ k) (ev_ifn (by omega) (filters_cov hz _ _ _ _ _ _ _ _ _ _ _ _ _ _ _ _ _))
theorem FnFilters : laws_FnFilters.Pure := by
  intro z hz _
  refine Ev.rounds ?_
  unfold laws_FnFilters.f laws_rBig.f
  refine ev_bind (ev_some _) ?_
  by_cases hb : (z.length : Int) > 65536
  · exact ev_ifp (decide_eq_true hb) (ev_some _)
  refine ev_ifn (by simp only [decide_eq_true_eq]; exact hb) ?_
  have hc := codeR hz (by omega)
  obtain ⟨⟨a, b, l, radius⟩, hd, hl⟩ := drawMax_at hc
  simp only at hl
  refine ev_bind hd ?_
  by_cases h : fieldOk a b l = true ∧ inb radius 0 3 = true
  · have fi := fieldOk_iff.1 h.1
    obtain ⟨W, H, rfl, rfl, hW, hH, hlen, h64⟩ := shape_nat fi
    have hr := inb_iff.1 h.2
    obtain ⟨R, rfl⟩ := Int.eq_ofNat_of_zero_le hr.1
    have hR : R ≤ 3 := by omega
    have tl : ∀ g : Nat → Int, (tab (H * W) g).length ≤ 9223372036854775806 := fun g => by rw [tab_length]; omega
    refine ev_bind (maxF_impl hW hH fi hlen hR) (ev_bind (minF_impl hW hH fi hlen hR) (ev_bind (meanF_impl hW hH fi hlen hR) (ev_bind (medF_impl hW hH fi hlen hR) (ev_bind (maxF_spec hW hH fi hlen hR) ?_))))
    refine ev_ifn (by simp) (ev_ifn (by simp) (ev_ifn (by simp) (ev_ifn (by simp) (ev_bind (rFields_self _ _ _ (tl _)) ?_))))
    refine ev_step (fun k => laws_FnFilters.j0.eq_2 _ _ _ _ _ _ _ _ _ _ _ _ _ _ _ _ _ _ _ k) (ev_ifn (by simp) ?_)
    refine ev_bind (minF_spec hW hH fi hlen hR) (ev_bind (meanF_spec hW hH fi hlen hR) (ev_bind (medF_spec hW hH fi hlen hR) ?_))
    refine ev_bind (rFields_self _ _ _ (tl _)) (ev_ifp rfl (ev_bind (rFields_self _ _ _ (tl _)) (ev_ifp rfl (ev_bind (rFields_self _ _ _ (tl _)) ?_))))
    exact ev_step (fun k => laws_FnFilters.j1.eq_2 _ _ _ _ _ _ _ _ _ _ _ _ _ _ _ _ _ _ k) (ev_ifn (by simp) (filters_loop hc hW hH hlen))
  · have hl2 : l.length ≤ 9223372036854775806 := by omega
    obtain ⟨p1, s1⟩ := filtered_no (mode := 1) (thr := 0) (fun k z0_ => slices_Max_int_int.f k z0_) hl2 h
    obtain ⟨p2, s2⟩ := filtered_no (mode := 2) (thr := 0) (fun k z0_ => slices_Min_int_int.f k z0_) hl2 h
    obtain ⟨p3, s3⟩ := filtered_no (mode := 3) (thr := 0) (fun k z0_ => impl_meanOf.f k z0_) hl2 h
    obtain ⟨p4, s4⟩ := filtered_no (mode := 4) (thr := 0) (fun k z0_ => impl_MedianFilter_1.f z0_) hl2 h
    have self0 := rFields_self 0 0 [] (by simp)
    refine ev_bind (r := (0, 0, [], false)) (by unfold impl_MaximumFilter.f; exact ev_bind p1 (ev_some _)) (ev_bind (r := (0, 0, [], false)) (by unfold impl_MinimumFilter.f; exact ev_bind p2 (ev_some _)) (ev_bind (r := (0, 0, [], false)) (by unfold impl_MeanFilter.f; exact ev_bind p3 (ev_some _)) (ev_bind (r := (0, 0, [], false)) (by unfold impl_MedianFilter.f; exact ev_bind p4 (ev_some _)) (ev_bind (r := (0, 0, [], false)) (by unfold spec_MaximumFilter.f; exact ev_bind s1 (ev_some _)) ?_))))
    refine ev_ifn (by simp) (ev_ifn (by simp) (ev_ifn (by simp) (ev_ifn (by simp) (ev_bind self0 ?_))))
    refine ev_step (fun k => laws_FnFilters.j0.eq_2 _ _ _ _ _ _ _ _ _ _ _ _ _ _ _ _ _ _ _ k) (ev_ifn (by simp) ?_)
    refine ev_bind (r := (0, 0, [], false)) (by unfold spec_MinimumFilter.f; exact ev_bind s2 (ev_some _)) (ev_bind (r := (0, 0, [], false)) (by unfold spec_MeanFilter.f; exact ev_bind s3 (ev_some _)) (ev_bind (r := (0, 0, [], false)) (by unfold spec_MedianFilter.f; exact ev_bind s4 (ev_some _)) ?_))
    refine ev_bind self0 (ev_ifp rfl (ev_bind self0 (ev_ifp rfl (ev_bind self0 ?_))))
    refine ev_step (fun k => laws_FnFilters.j1.eq_2 _ _ _ _ _ _ _ _ _ _ _ _ _ _ _ _ _ _ k) (ev_ifn (by simp) ?_)
    by_cases hz2 : (0 : Int) < (l.length : Int)
    · exact ev_step (fun k => laws_FnFilters.l0.eq_2 _ _ _ _ _ _ _ _ _ _ _ _ _ _ _ _ _ _ k) (ev_ifp hz2 (filters_cov hc _ _ _ _ _ _ _ _ _ _ _ _ _ _ _ _ _))
    · exact ev_step (fun k => laws_FnFilters.l0.eq_2 _ _ _ _ _ _ _ _ _ _ _ _ _ _ _ _ _ _ k) (ev_ifn hz2 (filters_cov hc _ _ _ _ _ _ _ _ _ _ _ _ _ _ _ _ _))
end Go.Proofs.Ythekngnkajjhnaa.Pure
namespace Go.Proofs.Ythekngnkajjhnaa.fnFilters
open Go.ChangeShapes Go.WideShapes Go.ChangeAt Go.RowKit Go.Proofs.Ythekngnkajjhnaa.Open Go.Proofs.Ythekngnkajjhnaa.P Go.Proofs.YthekngnkajjhnaaW.PrintWords
open Go.ChangeMaps (open_string shut_string)
set_option linter.unusedVariables false
theorem own : ownKnob Try.prog.godebug = none := by kernel_rfl
theorem laidOut : laidOutB Try.prog = true := by kernel_rfl
set_option maxRecDepth 100000 in
theorem lifted (os : Os) (started : os.Started) (H : Type) (enc : TypeId × Value → H) :
    ReturnsInHanded {} Try.checked os 3 .any (Rows.fnFiltersSpec.pre6 enc Try.prog Try.f3 Rows.fnFiltersRow.domain false) (Rows.fnFiltersSpec.post enc Try.prog Try.f3 false true false false) := by
  refine returnsInHanded_of_change_sized (C := Try.checked) own started (by kernel_rfl) Try.func3
    (ChangeSpec.witness6 (enc := enc) (C := Try.checked) false ⟨#[], #[.slice none 0 0], []⟩ 8 (by kernel_rfl) (by kernel_rfl) (by kernel_rfl) (by kernel_rfl)) ?_
  intro W base args ds gs before hval0 hW hcnd hsz0 _
  have hsz : (DataW.weightsEach Try.prog (Try.f3.params.toList ++ Rows.fnFiltersSpec.plain.varTypes Try.prog) (ds ++ gs)).all (· ≤ reachBytes) = true := hsz0
  have hval : ∀ (j : Nat) t v, Try.f3.params[j]? = some t → args[j]? = some v → Value.okWide Try.prog W .any base t v := hval0
  have hW' := hW
  obtain ⟨p, q, hA0, hV, rfl, hfz, hnd⟩ := hW
  have hA : DataW.TrodAll enc Try.prog W 0 (fun _ => true) true Try.f3.params.toList args.toList ds p := hA0
  rw [Try.params3] at hA hval hsz
  obtain ⟨v0, vs0, d0, ds0, p0, q0, hargs, rfl, rfl, h0, r0⟩ := trodAll_cons hA
  obtain ⟨rfl, rfl, rfl⟩ := trodAll_nil r0
  obtain rfl : args = #[v0] := by cases args; simp_all
  obtain ⟨rfl, rfl⟩ := trodVars_none hV
  obtain ⟨A0, len0, c0, rfl⟩ := okWide_slice Try.underlying22 (hval 0 22 v0 rfl rfl)
  have k0 := h0
  have lt0 : ∀ x ∈ p0, x.block < W.heap.size := by obtain ⟨m, hm⟩ := k0; exact DataW.trod_lt m _ _ _ hm
  have y0 : len0 * 1 ≤ 140737488351232 := sized_any hsz (j := 0) (t := 22) rfl rfl Try.underlying22 (by kernel_rfl) h0
  obtain ⟨l0, rfl, hc0, hr0, w0⟩ := slice_at (opens_slice Try.underlying22 (by kernel_rfl) (opens_int Try.underlying5)) h0
  clear hA0 hval0 hsz0 hsz
  obtain ⟨k, hp⟩ := Pure.FnFilters l0 w0 y0
  refine (laws_FnFilters.calls k A0 c0 l0 true W hr0 hc0 hp).mono fun e W' ⟨he, bel0⟩ => ?_
  have bel : Below W.heap.size W W' := bel0
  subst he
  exact ⟨_, rfl, _, _, _, [], _, [], hW', trodAll_mk1 (shut_bool Try.underlying4 _), (trodAll_cons_mk (Below.trod laidOut (by kernel_rfl) (of_decide_eq_true (by kernel_rfl)) k0 bel lt0) trodAll_mk0), rfl, bel.frame _, fun h => by cases h⟩
set_option maxHeartbeats 4000000 in
set_option maxRecDepth 100000 in
theorem closed : joinedFacts Try.prog 3 Try.f3 Rows.fnFiltersSpec Rows.fnFiltersRow = true := by
  unfold joinedFacts
  repeat' (with_reducible refine Bool.and_eq_true_iff.2 ⟨?_, ?_⟩)
  all_goals (as_aux_lemma => kernel_rfl)
theorem over : Rows.fnFiltersRow.holds Try.pinned (OpenSpec.ofChange Rows.fnFiltersSpec) :=
  OpenClaim.holds_of_wide 3 Try.f3 rfl rfl rfl rfl rfl rfl rfl ⟨rfl, rfl, rfl, rfl, rfl⟩ rfl rfl rfl rfl rfl (by kernel_rfl) Try.func3 closed
    (of_decide_eq_true (by kernel_rfl)) (by unfold Func.isWrapper; first | (rw [if_pos (by decide +kernel)]; kernel_rfl) | (rw [if_neg (by decide +kernel)]; exact ⟨rfl, rfl⟩))
    (fun os started H enc _ => lifted os started H enc)
theorem proved : Rows.FnFiltersSaid := over
#print axioms proved
end Go.Proofs.Ythekngnkajjhnaa.fnFilters
namespace Go.Proofs.Ythekngnkajjhnaa
theorem fnFilters_holds : Rows.FnFiltersSaid := fnFilters.proved
end Go.Proofs.Ythekngnkajjhnaa
