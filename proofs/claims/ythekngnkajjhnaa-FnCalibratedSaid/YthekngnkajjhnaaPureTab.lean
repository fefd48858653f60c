/- Lists told index by index, and loops with a number of rounds that is told. No conditions. -/
import Derived.Test.YthekngnkajjhnaaPureBase
namespace Go.Proofs.Ythekngnkajjhnaa.Pure
set_option linter.unusedVariables false
set_option linter.unusedSimpArgs false
open Go.RowKit Go.Proofs.YthekngnkajjhnaaW.PrintWords Go.Proofs.YthekngnkajjhnaaW.PrintLast Go.Proofs.YthekngnkajjhnaaW.PrintMore
/-- The list of q 0, q 1, .., q (n - 1). -/
def tab {α : Type} (n : Nat) (q : Nat → α) : List α := (List.range n).map q
theorem tab_length {α : Type} (n : Nat) (q : Nat → α) : (tab n q).length = n := by simp [tab]
theorem tab_getD {α : Type} (n : Nat) (q : Nat → α) (z : α) {i : Nat} (h : i < n) : (tab n q).getD i z = q i := by simp [tab, List.getD, h]
theorem tab_congr {α : Type} {n : Nat} {q r : Nat → α} (h : ∀ i, i < n → q i = r i) : tab n q = tab n r := by
  unfold tab
  exact List.map_congr_left (fun i hi => h i (List.mem_range.1 hi))
theorem tab_of {α : Type} (l : List α) (z : α) : tab l.length (fun i => l.getD i z) = l := eq_index z (tab_length _ _) (fun j hj => by rw [tab_length] at hj; exact tab_getD _ _ z hj)
theorem tab_mem {α : Type} {n : Nat} {q : Nat → α} {x : α} : x ∈ tab n q ↔ ∃ i, i < n ∧ q i = x := by simp [tab]
theorem iter_len {α : Type} (q : Nat → α) (n : Nat) : ∀ d i (s : List α), s.length = n → (iter (fun i (s : List α) => s.set i (q i)) i d s).length = n := by
  intro d
  induction d with
  | zero => intro i s h; exact h
  | succ d ih => intro i s h; exact ih (i + 1) _ (by simpa using h)
/-- Cells that are set one behind the other. -/
theorem iter_set_tab {α : Type} (z : α) (q : Nat → α) (n : Nat) (s : List α) (hs : s.length = n) : iter (fun i (s : List α) => s.set i (q i)) 0 n s = tab n q := by
  have hi := iter_inv (fun i (s : List α) => s.set i (q i)) (fun i s => s.length = n ∧ ∀ j, j < i → s.getD j z = q j) n
    (fun i s hI hi => ⟨by simp [hI.1], fun j hj => by
      by_cases e : j = i
      · subst e
        have := hI.1
        simp [List.getD, List.getElem?_set_self (show j < s.length by omega)]
      · rw [← hI.2 j (by omega)]
        simp [List.getD, List.getElem?_set_ne (Ne.symm e)]⟩) n 0 s (by omega) ⟨hs, fun j hj => by omega⟩
  exact eq_index z (by rw [hi.1, tab_length]) (fun j hj => by rw [hi.2 j (by have := hi.1; omega), tab_getD _ _ z (by have := hi.1; omega)])
/-- Cells that are appended one behind the other. -/
theorem iter_app_tab {α : Type} (q : Nat → α) : ∀ d i (s : List α), iter (fun i (s : List α) => s ++ [q i]) i d s = s ++ (List.range d).map (fun j => q (i + j)) := by
  intro d
  induction d with
  | zero => intro i s; simp [iter]
  | succ d ih =>
    intro i s
    show iter _ (i + 1) d (s ++ [q i]) = _
    rw [ih (i + 1) (s ++ [q i]), List.append_assoc, List.range_succ_eq_map, List.map_cons, List.map_map]
    congr 1
    show [q i] ++ _ = q (i + 0) :: _
    rw [List.singleton_append, Nat.add_zero]
    congr 1
    refine List.map_congr_left (fun j _ => ?_)
    show q (i + 1 + j) = q (i + (j + 1))
    congr 1
    omega
theorem iter_app0 {α : Type} (q : Nat → α) (n : Nat) : iter (fun i (s : List α) => s ++ [q i]) 0 n [] = tab n q := by
  rw [iter_app_tab, List.nil_append]
  unfold tab
  exact List.map_congr_left (fun j _ => by rw [Nat.zero_add])
/-- A loop, with more rounds than it takes. -/
theorem loop_at {σ ρ : Type} (F : Nat → σ → Nat → Option ρ) (n : Nat) (g : Nat → σ → σ) (fin : σ → ρ) (I : Nat → σ → Prop)
    (hs : ∀ k i s, I i s → i < n → F (k + 1) s i = F k (g i s) (i + 1)) (hI : ∀ i s, I i s → i < n → I (i + 1) (g i s))
    (he : ∀ k s, I n s → F (k + 1) s n = some (fin s)) : ∀ d k i s, n - i = d → i ≤ n → I i s → d < k → F k s i = some (fin (iter g i d s)) := by
  intro d
  induction d with
  | zero =>
    intro k i s h0 h1 h2 hk
    obtain ⟨k, rfl⟩ : ∃ m, k = m + 1 := ⟨k - 1, by omega⟩
    obtain rfl : i = n := by omega
    exact he k s h2
  | succ d ih =>
    intro k i s h0 h1 h2 hk
    obtain ⟨k, rfl⟩ : ∃ m, k = m + 1 := ⟨k - 1, by omega⟩
    rw [hs k i s h2 (by omega)]
    exact ih k (i + 1) (g i s) (by omega) (by omega) (hI i s h2 (by omega)) (by omega)
/-- Finitely many answers, with one number of rounds. -/
theorem ev_all {β : Type} (f : Nat → Nat → Option β) (q : Nat → β) (n : Nat) (h : ∀ i, i < n → Ev (fun k => f k i) (q i)) : ∃ K, ∀ k, K ≤ k → ∀ i, i < n → f k i = some (q i) := by
  induction n with
  | zero => exact ⟨0, fun k _ i hi => by omega⟩
  | succ n ih =>
    obtain ⟨K1, h1⟩ := ih (fun i hi => h i (by omega))
    obtain ⟨K2, h2⟩ := h n (by omega)
    refine ⟨K1 + K2, fun k hk i hi => ?_⟩
    by_cases e : i = n
    · rw [e]; exact h2 k (by omega)
    · exact h1 k (by omega) i (by omega)
end Go.Proofs.Ythekngnkajjhnaa.Pure
