/- Texts of the claim FnExactQuantileField, merged: part 8 of 8: the program's and the reference's functions as Lean functions, the walks that show it, and plain lemmas; no conditions. -/
import Derived.Test.YtbjbanemmoalhaaKFnExactQuantileField7
import Derived.Test.YtbjbanemmoalhaaKFnExactQuantileField2
import Derived.Test.YtbjbanemmoalhaaKFnExactQuantileField5
import Derived.Test.YtbjbanemmoalhaaKFnExactQuantileField4
import Derived.Test.YtbjbanemmoalhaaKFnExactQuantileField6
import Derived.Test.YtbjbanemmoalhaaKFnExactQuantileField1
import Derived.Test.YtbjbanemmoalhaaKFnExactQuantileField3
import Derived.Test.YtbjbanemmoalhaaRows
import Derived.WalkKit
import Derived.ProofKit
import Derived.OpenShut
import Derived.ShutString
import Derived.ChangeOld
import Derived.Below
import Derived.SizedLaws
/- An ensemble is valid in the program just when it is valid in the reference; copies of lists of fields. No conditions. -/
namespace Go.Proofs.Ytbjbanemmoalhaa.Pure
set_option linter.unusedVariables false
set_option linter.unusedSimpArgs false
open Go.RowKit Go.Proofs.Ytbjbanemmoalhaa.P Go.Proofs.YtbjbanemmoalhaaW.PrintWords Go.Proofs.YtbjbanemmoalhaaW.PrintLast
abbrev FF := S42
abbrev LF := S40
theorem rdf (xs : List FF) (i : Nat) : rd_T42 xs (i : Int) = xs.getD i z42 := by simp [rd_T42]
theorem rdf0 (xs : List FF) : rd_T42 xs 0 = xs.getD 0 z42 := rdf xs 0
theorem rdlf (xs : List LF) (i : Nat) : rd_T40 xs (i : Int) = xs.getD i z40 := by simp [rd_T40]
def ofF (f : LF) : FF := ⟨f.f0, f.f1, f.f2⟩
def memOk (l : List FF) (f : FF) : Bool := fieldOk f.f0 f.f1 f.f2 && (decide (f.f0 = (l.getD 0 z42).f0) && decide (f.f1 = (l.getD 0 z42).f1))
def ensOk (l : List FF) : Bool := inb (l.length : Int) 1 8 && l.all (memOk l)
theorem short_of (l : List FF) (h : ∀ x ∈ l, x.f2.length ≤ 9223372036854775806) (i : Nat) : (l.getD i z42).f2.length ≤ 9223372036854775806 := by
  by_cases hi : i < l.length
  · rw [getD_eq_get _ hi]
    exact h _ (List.getElem_mem hi)
  · simp [List.getD, List.getElem?_eq_none (show l.length ≤ i by omega), z42]
theorem l9Good_ev (l : List FF) (hl : l.length ≤ 9223372036854775806) (hs : ∀ x ∈ l, x.f2.length ≤ 9223372036854775806) : Ev (fun k => spec_l9Good.f k l) (ensOk l) := by
  unfold spec_l9Good.f ensOk
  rw [l1In_is]
  simp only [Option.bind_some]
  cases hb : inb (l.length : Int) 1 8 with
  | false => exact ev_ifn (by simp) (ev_some _)
  | true =>
    rw [Bool.true_and, ← rall_list l z42 (memOk l)]
    have hbd := inb_iff.1 hb
    refine ev_ifp rfl (allb_ev (fun k i => spec_l9Good.l0 k l (i : Int)) l.length (fun j => memOk l (l.getD j z42)) ?_ ?_ ?_)
    · intro i r hi hp h
      unfold memOk at hp
      rw [Bool.and_eq_true, Bool.and_eq_true, decide_eq_true_eq, decide_eq_true_eq] at hp
      refine ev_step (f := fun k => (spec_l2Good.f k (l.getD i z42).f0 (l.getD i z42).f1 (l.getD i z42).f2).bind fun t => if t = true then spec_l9Good.l0 k l ((i + 1 : Nat) : Int) else some false) (fun k => by
        simp only [spec_l9Good.l0, rdf, rdf0]
        rw [if_pos (by omega), if_pos (by omega), if_pos (show (0 : Int) < (l.length : Int) by omega), if_pos hp.2.1, if_pos hp.2.2, w64 (by omega) (by omega)]
        rfl) (ev_bind (l2Good_ev _ _ _ (short_of l hs i)) (by rw [hp.1]; exact ev_ifp rfl h))
    · intro i hi hp
      refine ev_step (f := fun k => (spec_l2Good.f k (l.getD i z42).f0 (l.getD i z42).f1 (l.getD i z42).f2).bind fun t => if t = true then (if (l.getD i z42).f0 = (l.getD 0 z42).f0 then (if (l.getD i z42).f1 = (l.getD 0 z42).f1 then spec_l9Good.l0 k l (wrap64 ((i : Int) + 1)) else some false) else some false) else some false) (fun k => by
        simp only [spec_l9Good.l0, rdf, rdf0]
        rw [if_pos (by omega), if_pos (by omega), if_pos (show (0 : Int) < (l.length : Int) by omega)]) (ev_bind (l2Good_ev _ _ _ (short_of l hs i)) ?_)
      unfold memOk at hp
      cases h1 : fieldOk (l.getD i z42).f0 (l.getD i z42).f1 (l.getD i z42).f2 with
      | false => exact ev_ifn (by simp) (ev_some _)
      | true =>
        refine ev_ifp rfl ?_
        rw [h1, Bool.true_and] at hp
        by_cases h2 : (l.getD i z42).f0 = (l.getD 0 z42).f0
        · refine ev_ifp h2 (ev_ifn ?_ (ev_some _))
          intro h3
          rw [decide_eq_true h2, decide_eq_true h3] at hp
          cases hp
        · exact ev_ifn h2 (ev_some _)
    · exact ev_step (f := fun _ => some true) (fun k => by
        simp only [spec_l9Good.l0]
        rw [if_neg (by omega)]) (ev_some _)
theorem sameShape_is (a b : Int) (l : List Int) (a' b' : Int) (l' : List Int) : impl_sameShape.f a b l a' b' l' = some (decide (a = a') && decide (b = b')) := by
  unfold impl_sameShape.f
  by_cases h : a = a'
  · rw [if_pos h, decide_eq_true h, Bool.true_and]
    congr 1
  · rw [if_neg h, decide_eq_false h, Bool.false_and]
theorem areAlike_ev (l : List FF) (hl : l.length ≤ 9223372036854775806) : Ev (fun k => impl_areAlike.f k l) (l.all (memOk l)) := by
  rw [← rall_list l z42 (memOk l)]
  refine allb_ev (fun k i => impl_areAlike.l0 k l l (l.length : Int) (i : Int)) l.length (fun j => memOk l (l.getD j z42)) ?_ ?_ ?_
  · intro i r hi hp h
    unfold memOk at hp
    rw [Bool.and_eq_true] at hp
    exact ev_step (fun k => by
      simp only [impl_areAlike.l0, rdf, rdf0, isValidField_is, sameShape_is, Option.bind_some]
      rw [if_pos (by omega), if_pos (by omega), if_pos (by omega), if_pos hp.1, if_pos (show (0 : Int) < (l.length : Int) by omega), if_pos hp.2, w64 (by omega) (by omega)]
      rfl) h
  · intro i hi hp
    unfold memOk at hp
    refine ev_step (f := fun _ => some false) (fun k => ?_) (ev_some _)
    simp only [impl_areAlike.l0, rdf, rdf0, isValidField_is, sameShape_is, Option.bind_some]
    rw [if_pos (by omega), if_pos (by omega), if_pos (by omega)]
    cases h1 : fieldOk (l.getD i z42).f0 (l.getD i z42).f1 (l.getD i z42).f2 with
    | false => rfl
    | true =>
      rw [h1, Bool.true_and] at hp
      rw [if_pos rfl, if_pos (show (0 : Int) < (l.length : Int) by omega), hp]
      rfl
  · exact ev_step (f := fun _ => some true) (fun k => by
      simp only [impl_areAlike.l0]
      rw [if_neg (by omega)]) (ev_some _)
theorem isValidEnsemble_ev (l : List FF) (hl : l.length ≤ 9223372036854775806) : Ev (fun k => impl_IsValidEnsemble.f k l) (ensOk l) := by
  unfold impl_IsValidEnsemble.f ensOk
  rw [within_is]
  simp only [Option.bind_some]
  cases hb : inb (l.length : Int) 1 8 with
  | false => exact ev_ifn (by simp) (ev_some _)
  | true =>
    rw [Bool.true_and]
    exact ev_ifp rfl (ev_bind (areAlike_ev l hl) (ev_some _))
/-- The sizes that the law's guard lets in. -/
def smallF (l : List LF) : Prop := l.length ≤ 1048576 ∧ ∀ x ∈ l, x.f2.length ≤ 1048576
theorem toFieldS_ev (xs : List LF) (hm : smallF xs) : Ev (fun k => laws_toFieldS.f k xs) (xs.map ofF) := by
  have hx := hm.1
  have h := copy_ev (fun k ys i => laws_toFieldS.l0 k xs ys (i : Int)) xs ofF z40 z42
    (fun i ys r hl hi h => by
      have hs : (xs.getD i z40).f2.length ≤ 1048576 := by
        rw [getD_eq_get _ hi]
        exact hm.2 _ (List.getElem_mem hi)
      refine ev_step (f := fun k => (laws_toField.f k (xs.getD i z40).f0 (xs.getD i z40).f1 (xs.getD i z40).f2).bind fun bt => laws_toFieldS.l0 k xs (ys.set i ⟨bt.1, bt.2.1, bt.2.2⟩) ((i + 1 : Nat) : Int)) (fun k => by
        have c : (i : Int) < (ys.length : Int) := by omega
        have e2 : wrap64 ((i : Int) + 1) = ((i + 1 : Nat) : Int) := w64 (by omega) (by omega)
        simp only [laws_toFieldS.l0, rdlf, c, e2, if_true]
        rw [if_pos (by omega), if_pos (by omega)]
        rfl) (ev_bind (toField_ev _ _ _ (by omega)) h))
    (fun ys hl => ev_step (f := fun _ => some ys) (fun k => by
      simp only [laws_toFieldS.l0]
      rw [if_neg (by omega)]) (ev_some _)) (List.replicate xs.length z42) (by simp)
  refine Ev.congr (fun k => ?_) h
  unfold laws_toFieldS.f
  rw [if_pos (by omega), if_pos (by omega)]
  rfl
theorem eqFieldS_self (xs : List FF) (hm : xs.length ≤ 9223372036854775806 ∧ ∀ x ∈ xs, x.f2.length ≤ 9223372036854775806) : Ev (fun k => laws_eqFieldS.f k xs xs) true := by
  have hx := hm.1
  have h := allb_ev (fun k i => laws_eqFieldS.l0 k xs xs (i : Int)) xs.length (fun _ => true)
    (fun i r hi _ h => by
      refine ev_step (f := fun k => (laws_eqField.f k (xs.getD i z42).f0 (xs.getD i z42).f1 (xs.getD i z42).f2 (xs.getD i z42).f0 (xs.getD i z42).f1 (xs.getD i z42).f2).bind fun t => if t = true then laws_eqFieldS.l0 k xs xs ((i + 1 : Nat) : Int) else some false) (fun k => by
        simp only [laws_eqFieldS.l0, rdf]
        rw [if_pos (by omega), if_pos (by omega), if_pos (by omega), w64 (by omega) (by omega)]
        rfl) (ev_bind (eqField_self _ _ _ (short_of xs hm.2 i)) (ev_ifp rfl h)))
    (fun i hi hp => by cases hp)
    (ev_step (f := fun _ => some true) (fun k => by
      simp only [laws_eqFieldS.l0]
      rw [if_neg (by omega)]) (ev_some _))
  rw [(rall_iff (fun _ => true) xs.length 0).2 (fun _ _ _ => rfl)] at h
  refine Ev.congr (fun k => ?_) h
  unfold laws_eqFieldS.f
  rw [if_pos rfl]
  rfl
theorem map_short {l : List LF} (h : smallF l) : (l.map ofF).length ≤ 9223372036854775806 ∧ ∀ x ∈ l.map ofF, x.f2.length ≤ 9223372036854775806 := by
  refine ⟨by have := h.1; simp; omega, fun x hx => ?_⟩
  obtain ⟨y, hy, rfl⟩ := List.mem_map.1 hx
  have := h.2 y hy
  show y.f2.length ≤ 9223372036854775806
  omega
/-- The law's guard on a list of fields: too large, or all lists are short. -/
theorem szFieldS_go (l : List LF) (s : Int) (hs : 0 ≤ s) (hs2 : s ≤ 1048576) (hl : l.length ≤ 9223372036854775807 ∧ ∀ x ∈ l, x.f2.length ≤ 9223372036854775807) :
    (∃ r, Ev (fun k => laws_szFieldS.f k l s) r ∧ r < 0) ∨ ∃ r, Ev (fun k => laws_szFieldS.f k l s) r ∧ ¬ r < 0 ∧ 0 ≤ r ∧ r ≤ 1048576 ∧ smallF l := by
  have hl1 := hl.1
  unfold laws_szFieldS.f
  rw [w64 (by omega) (by omega)]
  by_cases h : s - (l.length : Int) < 0
  · exact .inl ⟨_, ev_ifp h (ev_some _), by omega⟩
  · have key : ∀ d i (t : Int), l.length - i = d → i ≤ l.length → 0 ≤ t → t ≤ 1048576 →
        (∃ r, Ev (fun k => laws_szFieldS.l0 k l t (i : Int)) r ∧ r < 0) ∨ ∃ r, Ev (fun k => laws_szFieldS.l0 k l t (i : Int)) r ∧ ¬ r < 0 ∧ 0 ≤ r ∧ r ≤ 1048576 ∧ ∀ j, i ≤ j → j < l.length → (l.getD j z40).f2.length ≤ 1048576 := by
      intro d
      induction d with
      | zero =>
        intro i t h0 h1 h2 h3
        exact .inr ⟨t, ev_step (f := fun _ => some t) (fun k => by
          simp only [laws_szFieldS.l0]
          rw [if_neg (by omega)]) (ev_some _), by omega, h2, h3, fun j h4 h5 => by omega⟩
      | succ d ih =>
        intro i t h0 h1 h2 h3
        have hi : i < l.length := by omega
        have hx : (l.getD i z40).f2.length ≤ 9223372036854775807 := by
          rw [getD_eq_get _ hi]
          exact hl.2 _ (List.getElem_mem hi)
        rcases szField_go (l.getD i z40).f0 (l.getD i z40).f1 (l.getD i z40).f2 t h2 h3 hx with ⟨r, e, hr⟩ | ⟨r, e, hr, hr1, hr2, hsh⟩
        · exact .inl ⟨-1, ev_step (f := fun _ => some (-1)) (fun k => by
            simp only [laws_szFieldS.l0, rdlf]
            rw [if_pos (by omega), if_pos (by omega), e, Option.bind_some, if_pos hr]) (ev_some _), by omega⟩
        · have st : ∀ q, Ev (fun k => laws_szFieldS.l0 k l r ((i + 1 : Nat) : Int)) q → Ev (fun k => laws_szFieldS.l0 k l t (i : Int)) q := fun q hq => ev_step (fun k => by
            simp only [laws_szFieldS.l0, rdlf]
            rw [if_pos (by omega), if_pos (by omega), e, Option.bind_some, if_neg hr, w64 (by omega) (by omega)]
            rfl) hq
          rcases ih (i + 1) r (by omega) (by omega) hr1 hr2 with ⟨q, hq, hq0⟩ | ⟨q, hq, hq0, hq1, hq2, hq3⟩
          · exact .inl ⟨q, st q hq, hq0⟩
          · refine .inr ⟨q, st q hq, hq0, hq1, hq2, fun j h4 h5 => ?_⟩
            by_cases e2 : j = i
            · rw [e2]; exact hsh
            · exact hq3 j (by omega) h5
    rcases key l.length 0 (s - l.length) (by omega) (Nat.zero_le _) (by omega) (by omega) with ⟨r, hr, h0⟩ | ⟨r, hr, h0, h1, h2, h3⟩
    · exact .inl ⟨r, ev_ifn h hr, h0⟩
    · refine .inr ⟨r, ev_ifn h hr, h0, h1, h2, by omega, fun x hx => ?_⟩
      obtain ⟨j, hj, rfl⟩ := List.getElem_of_mem hx
      rw [← getD_eq_get z40 hj]
      exact h3 j (Nat.zero_le _) hj
end Go.Proofs.Ytbjbanemmoalhaa.Pure
/- Lists told index by index, and loops with a number of rounds that is told. No conditions. -/
namespace Go.Proofs.Ytbjbanemmoalhaa.Pure
set_option linter.unusedVariables false
set_option linter.unusedSimpArgs false
open Go.RowKit Go.Proofs.YtbjbanemmoalhaaW.PrintWords Go.Proofs.YtbjbanemmoalhaaW.PrintLast Go.Proofs.YtbjbanemmoalhaaW.PrintMore
/-- The list of q 0, q 1, .., q (n - 1). -/
def tab {α : Type} (n : Nat) (q : Nat → α) : List α := (List.range n).map q
theorem tab_length {α : Type} (n : Nat) (q : Nat → α) : (tab n q).length = n := by simp [tab]
theorem tab_getD {α : Type} (n : Nat) (q : Nat → α) (z : α) {i : Nat} (h : i < n) : (tab n q).getD i z = q i := by simp [tab, List.getD, h]
/-- Cells that are set one behind the other. -/
theorem iter_set_tab {α : Type} (z : α) (q : Nat → α) (n : Nat) (s : List α) (hs : s.length = n) : iter (fun i (s : List α) => s.set i (q i)) 0 n s = tab n q := by
  have hi := iter_inv (fun i (s : List α) => s.set i (q i)) (fun i s => s.length = n ∧ ∀ j, j < i → s.getD j z = q j) n
    (fun i s hI hi => ⟨by simp [hI.1], fun j hj => by
      by_cases e : j = i
      · subst e
        have := hI.1
        simp [List.getD, List.getElem?_set_self (show j < s.length by omega)]
      · rw [← hI.2 j (by omega)]
        simp [List.getD, List.getElem?_set_ne (Ne.symm e)]⟩) n 0 s (by omega) ⟨hs, fun j hj => by omega⟩
  exact eq_index z (by rw [hi.1, tab_length]) (fun j hj => by rw [hi.2 j (by have := hi.1; omega), tab_getD _ _ z (by have := hi.1; omega)])
/-- A loop, with more rounds than it takes. -/
theorem loop_at {σ ρ : Type} (F : Nat → σ → Nat → Option ρ) (n : Nat) (g : Nat → σ → σ) (fin : σ → ρ) (I : Nat → σ → Prop)
    (hs : ∀ k i s, I i s → i < n → F (k + 1) s i = F k (g i s) (i + 1)) (hI : ∀ i s, I i s → i < n → I (i + 1) (g i s))
    (he : ∀ k s, I n s → F (k + 1) s n = some (fin s)) : ∀ d k i s, n - i = d → i ≤ n → I i s → d < k → F k s i = some (fin (iter g i d s)) := by
  intro d
  induction d with
  | zero =>
    intro k i s h0 h1 h2 hk
    obtain ⟨k, rfl⟩ : ∃ m, k = m + 1 := ⟨k - 1, by omega⟩
    obtain rfl : i = n := by omega
    exact he k s h2
  | succ d ih =>
    intro k i s h0 h1 h2 hk
    obtain ⟨k, rfl⟩ : ∃ m, k = m + 1 := ⟨k - 1, by omega⟩
    rw [hs k i s h2 (by omega)]
    exact ih k (i + 1) (g i s) (by omega) (by omega) (hI i s h2 (by omega)) (by omega)
/-- Finitely many answers, with one number of rounds. -/
theorem ev_all {β : Type} (f : Nat → Nat → Option β) (q : Nat → β) (n : Nat) (h : ∀ i, i < n → Ev (fun k => f k i) (q i)) : ∃ K, ∀ k, K ≤ k → ∀ i, i < n → f k i = some (q i) := by
  induction n with
  | zero => exact ⟨0, fun k _ i hi => by omega⟩
  | succ n ih =>
    obtain ⟨K1, h1⟩ := ih (fun i hi => h i (by omega))
    obtain ⟨K2, h2⟩ := h n (by omega)
    refine ⟨K1 + K2, fun k hk i hi => ?_⟩
    by_cases e : i = n
    · rw [e]; exact h2 k (by omega)
    · exact h1 k (by omega) i (by omega)
end Go.Proofs.Ytbjbanemmoalhaa.Pure
/- A value put into its place in a row: the same values, in ascending order. No conditions. -/
namespace Go.Proofs.Ytbjbanemmoalhaa.Pure
set_option linter.unusedVariables false
set_option linter.unusedSimpArgs false
open Go.RowKit Go.Proofs.YtbjbanemmoalhaaW.PrintWords Go.Proofs.YtbjbanemmoalhaaW.PrintLast
/-- From place j on down: behind the last value that is not above x. -/
def pos (s : List Int) (x : Int) : Nat → Nat
  | 0 => 0
  | j + 1 => if s.getD j 0 > x then pos s x j else j + 1
theorem pos_le (s : List Int) (x : Int) : ∀ j, pos s x j ≤ j
  | 0 => Nat.le_refl _
  | j + 1 => by
    unfold pos
    split
    · have := pos_le s x j; omega
    · exact Nat.le_refl _
theorem pos_above (s : List Int) (x : Int) : ∀ j i, pos s x j ≤ i → i < j → s.getD i 0 > x
  | 0, i, _, h => by omega
  | j + 1, i, h1, h2 => by
    unfold pos at h1
    split at h1
    · rename_i hj
      by_cases e : i = j
      · rw [e]; exact hj
      · exact pos_above s x j i h1 (by omega)
    · omega
theorem pos_below (s : List Int) (x : Int) : ∀ j, 0 < pos s x j → s.getD (pos s x j - 1) 0 ≤ x
  | 0, h => by simp [pos] at h
  | j + 1, h => by
    unfold pos at h ⊢
    split
    · rename_i hj
      rw [if_pos hj] at h
      exact pos_below s x j h
    · rename_i hj
      rw [show j + 1 - 1 = j by omega]
      omega
def ins (s : List Int) (x : Int) : List Int := s.take (pos s x s.length) ++ (x :: s.drop (pos s x s.length))
theorem ins_perm (s : List Int) (x : Int) : (ins s x).Perm (x :: s) := by
  unfold ins
  have h : (s.take (pos s x s.length) ++ x :: s.drop (pos s x s.length)).Perm (x :: (s.take (pos s x s.length) ++ s.drop (pos s x s.length))) := List.perm_middle
  rw [List.take_append_drop] at h
  exact h
theorem ins_sorted (s : List Int) (x : Int) (h : s.Pairwise (· ≤ ·)) : (ins s x).Pairwise (· ≤ ·) := by
  have hp := pos_le s x s.length
  have ha := pos_above s x s.length
  have hb := pos_below s x s.length
  unfold ins
  generalize pos s x s.length = p at *
  have hidx := List.pairwise_iff_getElem.1 h
  rw [List.pairwise_append]
  refine ⟨h.sublist (List.take_sublist _ _), ?_, ?_⟩
  · rw [List.pairwise_cons]
    refine ⟨fun y hy => ?_, h.sublist (List.drop_sublist _ _)⟩
    obtain ⟨i, hi, rfl⟩ := List.getElem_of_mem hy
    rw [List.getElem_drop]
    have hl : p + i < s.length := by simp at hi; omega
    have := ha (p + i) (by omega) hl
    rw [getD_eq_get 0 hl] at this
    omega
  · intro y hy z hz
    obtain ⟨i, hi, rfl⟩ := List.getElem_of_mem hy
    rw [List.getElem_take]
    have hip : i < p := by simp at hi; omega
    have h0 := hb (by omega)
    have hl1 : p - 1 < s.length := by omega
    rw [getD_eq_get 0 hl1] at h0
    have hyx : s[i]'(by omega) ≤ x := by
      by_cases e : i = p - 1
      · subst e; exact h0
      · have := hidx i (p - 1) (by omega) hl1 (by omega)
        omega
    rcases List.mem_cons.1 hz with rfl | hz
    · exact hyx
    · obtain ⟨j, hj, rfl⟩ := List.getElem_of_mem hz
      rw [List.getElem_drop]
      have hl : p + j < s.length := by simp at hj; omega
      have := ha (p + j) (by omega) hl
      rw [getD_eq_get 0 hl] at this
      omega
end Go.Proofs.Ytbjbanemmoalhaa.Pure
/- The values of all members at a cell: in the program in the members' order, in the reference in ascending order: the same values. No conditions but that each member has the cell and that they are not more than a machine allows. -/
namespace Go.Proofs.Ytbjbanemmoalhaa.Pure
set_option linter.unusedVariables false
set_option linter.unusedSimpArgs false
open Go.RowKit Go.Proofs.Ytbjbanemmoalhaa.P Go.Proofs.YtbjbanemmoalhaaW.PrintWords Go.Proofs.YtbjbanemmoalhaaW.PrintLast
/-- The value of a member at a cell. -/
def cellOf (l : List FF) (c i : Nat) : Int := (l.getD i z42).f2.getD c 0
def memStep (l : List FF) (c i : Nat) (s : List Int) : List Int := if cellOf l c i = -9999 then s else s ++ [cellOf l c i]
def insStep (l : List FF) (c i : Nat) (s : List Int) : List Int := if cellOf l c i = -9999 then s else ins s (cellOf l c i)
/-- The values, in the members' order. -/
def vals (l : List FF) (c : Nat) : List Int := iter (memStep l c) 0 l.length []
/-- The values, in ascending order. -/
def svals (l : List FF) (c : Nat) : List Int := iter (insStep l c) 0 l.length []
theorem vals_perm (l : List FF) (c : Nat) : (svals l c).Perm (vals l c) := by
  have key : ∀ d i (s t : List Int), s.Perm t → (iter (insStep l c) i d s).Perm (iter (memStep l c) i d t) := by
    intro d
    induction d with
    | zero => intro i s t h; exact h
    | succ d ih =>
      intro i s t h
      refine ih (i + 1) _ _ ?_
      unfold insStep memStep
      split
      · exact h
      · exact (ins_perm _ _).trans ((List.Perm.cons _ h).trans (List.perm_append_singleton _ _).symm)
  exact key _ _ _ _ (List.Perm.refl _)
theorem svals_sorted (l : List FF) (c : Nat) : (svals l c).Pairwise (· ≤ ·) :=
  iter_inv (insStep l c) (fun _ s => s.Pairwise (· ≤ ·)) l.length (fun i s h _ => by unfold insStep; split; exact h; exact ins_sorted s _ h) l.length 0 [] (by omega) List.Pairwise.nil
theorem vals_len (l : List FF) (c : Nat) : (vals l c).length ≤ l.length :=
  iter_inv (memStep l c) (fun i s => s.length ≤ i) l.length (fun i s h _ => by unfold memStep; split; omega; simp; omega) l.length 0 [] (by omega) (by simp)
theorem svals_len (l : List FF) (c : Nat) : (svals l c).length = (vals l c).length := (vals_perm l c).length_eq
theorem memberValues_ev (l : List FF) (c : Nat) (hl : l.length ≤ 17592186044415) (hc : ∀ i, i < l.length → c < (l.getD i z42).f2.length) (hc2 : c ≤ 9223372036854775806) : Ev (fun k => impl_memberValues.f k l (c : Int)) (vals l c) := by
  have h := loop_ev (fun k s i => impl_memberValues.l0 k (c : Int) s l (l.length : Int) (i : Int)) l.length (memStep l c) (fun s => s) (fun i s => s.length ≤ i)
    (fun i s r hI hi h => ev_step (fun k => by
      have := hc i hi
      simp only [impl_memberValues.l0, rdf, rd_nat]
      rw [if_pos (by omega), if_pos (by omega), if_pos (by omega), if_pos (by omega), if_pos (by omega), w64 (by omega) (by omega), if_pos (c := s.length < 17592186044416) (by omega)]
      show (if cellOf l c i = -9999 then _ else _) = impl_memberValues.l0 k (c : Int) (memStep l c i s) l (l.length : Int) ((i : Int) + 1)
      unfold memStep
      split <;> rfl) h)
    (fun i s hI _ => by unfold memStep; split; omega; simp; omega)
    (fun s hI => ev_step (f := fun _ => some s) (fun k => by
      simp only [impl_memberValues.l0]
      rw [if_neg (by omega)]) (ev_some _)) 0 [] (Nat.zero_le _) (by simp)
  exact h
theorem l9Values_ev (l : List FF) (c : Nat) (hl : l.length ≤ 17592186044000) (hc : ∀ i, i < l.length → c < (l.getD i z42).f2.length) (hc2 : c ≤ 9223372036854775806) : Ev (fun k => spec_l9Values.f k l (c : Int)) (svals l c) := by
  have inner : ∀ (s : List Int) (i : Nat) (x : Int) (r : List Int) (j : Nat), s.length ≤ 17592186044000 → j ≤ s.length → Ev (fun k => spec_l9Values.l0 k l (c : Int) (s.take (pos s x j) ++ (x :: s.drop (pos s x j))) (wrap64 ((i : Int) + 1))) r → Ev (fun k => spec_l9Values.l1 k l (c : Int) s (i : Int) x (j : Int)) r := by
    intro s i x r j hs
    induction j with
    | zero =>
      intro hj h
      refine ev_step (f := fun k => spec_l9Values.l0 k l (c : Int) (s.take 0 ++ (x :: s.drop 0)) (wrap64 ((i : Int) + 1))) (fun k => ?_) h
      simp only [spec_l9Values.l1, Option.bind_some]
      rw [if_neg (by omega), if_pos (by omega), if_pos (by omega), if_pos (by simp), if_pos (by simp), if_pos (by simp; omega)]
      simp
    | succ j ih =>
      intro hj h
      unfold pos at h
      have e1 : wrap64 (((j + 1 : Nat) : Int) - 1) = (j : Int) := by rw [w64 (by omega) (by omega)]; omega
      by_cases hg : s.getD j 0 > x
      · rw [if_pos hg] at h
        refine ev_step (fun k => ?_) (ih (by omega) h)
        simp only [spec_l9Values.l1]
        rw [if_pos (by omega), e1, if_pos (by omega), if_pos (by omega), rd_nat, if_pos hg]
      · rw [if_neg hg] at h
        refine ev_step (fun k => ?_) h
        simp only [spec_l9Values.l1, Option.bind_some]
        rw [if_pos (by omega), e1, if_pos (by omega), if_pos (by omega), rd_nat, if_neg hg, if_pos (by omega), if_pos (by omega), Int.toNat_natCast, if_pos (by simp; omega), if_pos (by simp; omega), if_pos (by simp; omega)]
        simp
  have h := loop_ev (fun k s i => spec_l9Values.l0 k l (c : Int) s (i : Int)) l.length (insStep l c) (fun s => s) (fun i s => s.length ≤ i)
    (fun i s r hI hi h => by
      have hci := hc i hi
      by_cases e : cellOf l c i = -9999
      · refine ev_step (fun k => ?_) h
        simp only [spec_l9Values.l0, rdf, rd_nat]
        rw [if_pos (by omega), if_pos (by omega), if_pos (by omega), if_pos (by omega), if_pos (c := (l.getD i z42).f2.getD c 0 = -9999) e, w64 (by omega) (by omega), insStep, if_pos e]
        rfl
      · have h2 := inner s i (cellOf l c i) r s.length (by omega) (Nat.le_refl _) (by
          rw [insStep, if_neg e, ins] at h
          rw [w64 (by omega) (by omega)]
          exact h)
        refine ev_step (fun k => ?_) h2
        simp only [spec_l9Values.l0, rdf, rd_nat]
        rw [if_pos (by omega), if_pos (by omega), if_pos (by omega), if_pos (by omega), if_neg (c := (l.getD i z42).f2.getD c 0 = -9999) e]
        rfl)
    (fun i s hI _ => by
      unfold insStep
      split
      · omega
      · rw [(ins_perm s _).length_eq, List.length_cons]; omega)
    (fun s hI => ev_step (f := fun _ => some s) (fun k => by
      simp only [spec_l9Values.l0]
      rw [if_neg (by omega)]) (ev_some _)) 0 [] (Nat.zero_le _) (by simp)
  exact h
end Go.Proofs.Ytbjbanemmoalhaa.Pure
/- How many of some values are such and such; what a valid ensemble is. No conditions. -/
namespace Go.Proofs.Ytbjbanemmoalhaa.Pure
set_option linter.unusedVariables false
set_option linter.unusedSimpArgs false
open Go.RowKit Go.Proofs.Ytbjbanemmoalhaa.P Go.Proofs.YtbjbanemmoalhaaW.PrintWords Go.Proofs.YtbjbanemmoalhaaW.PrintLast
/-- What a valid ensemble is. -/
theorem ens_is {l : List FF} (h : ensOk l = true) : (1 ≤ l.length ∧ l.length ≤ 8) ∧ ∀ i, i < l.length → FieldIs (l.getD i z42).f0 (l.getD i z42).f1 (l.getD i z42).f2 ∧ (l.getD i z42).f0 = (l.getD 0 z42).f0 ∧ (l.getD i z42).f1 = (l.getD 0 z42).f1 := by
  unfold ensOk at h
  rw [Bool.and_eq_true, inb_iff, List.all_eq_true] at h
  refine ⟨by omega, fun i hi => ?_⟩
  rw [getD_eq_get _ hi]
  have := h.2 _ (List.getElem_mem hi)
  unfold memOk at this
  rw [Bool.and_eq_true, Bool.and_eq_true] at this
  exact ⟨fieldOk_iff.1 this.1, of_decide_eq_true this.2.1, of_decide_eq_true this.2.2⟩
end Go.Proofs.Ytbjbanemmoalhaa.Pure
/- The shape of an ensemble. No conditions. -/
namespace Go.Proofs.Ytbjbanemmoalhaa.Pure
set_option linter.unusedVariables false
set_option linter.unusedSimpArgs false
open Go.RowKit Go.Proofs.Ytbjbanemmoalhaa.P Go.Proofs.YtbjbanemmoalhaaW.PrintWords Go.Proofs.YtbjbanemmoalhaaW.PrintLast
def wide0 (l : List FF) : Int := (l.getD 0 z42).f0
def high0 (l : List FF) : Int := (l.getD 0 z42).f1
theorem ens_shape {l : List FF} (h : ensOk l = true) : (1 ≤ wide0 l ∧ wide0 l ≤ 8) ∧ (1 ≤ high0 l ∧ high0 l ≤ 8) ∧ ∀ i, i < l.length → ((l.getD i z42).f2.length : Int) = wide0 l * high0 l := by
  obtain ⟨h1, h2⟩ := ens_is h
  have h0 := h2 0 (by omega)
  refine ⟨⟨h0.1.a1, h0.1.a8⟩, ⟨h0.1.b1, h0.1.b8⟩, fun i hi => ?_⟩
  have := (h2 i hi).1.len
  rw [(h2 i hi).2.1, (h2 i hi).2.2] at this
  exact this
end Go.Proofs.Ytbjbanemmoalhaa.Pure
namespace Go.Proofs.Ytbjbanemmoalhaa.P
open Go.RowKit Go.Proofs.YtbjbanemmoalhaaW.PrintWords Go.Proofs.YtbjbanemmoalhaaW.PrintLast Go.Proofs.YtbjbanemmoalhaaW.PrintMore
attribute [local go_sem] max2_int min2_int max_two min_two max_three min_three max_four min_four   -- for this text's walks alone
set_option linter.unusedVariables false
set_option linter.unusedSimpArgs false

/-! ### spec_l2Fill: function 234 -/
def spec_l2Fill.l0 : Nat → Int → Int → Int → Int → Int → Int → List Int → Option (Int × Int × List Int)
 | 0, _, _, _, _, _, _, _ => none
 | k + 1, x0, x1, x2, x8, x103000, x103001, x103002 => if x8 < (wrap64 (x0 * x1)) then (if x103002.length < 17592186044416 then (spec_l2Fill.l0 k x0 x1 x2 (wrap64 (x8 + 1)) x103000 x103001 (x103002 ++ [x2])) else (none)) else (some (x103000, x103001, x103002))
def spec_l2Fill.f (k : Nat) (a0 : Int) (a1 : Int) (a2 : Int) : Option (Int × Int × List Int) := spec_l2Fill.l0 k a0 a1 a2 0 a0 a1 ([] : List Int)

set_option maxHeartbeats 8000000 in
set_option maxRecDepth 100000 in
theorem spec_l2Fill.calls (k : Nat) (a0 : Int) (a1 : Int) (a2 : Int) (r1 : Int) (r2 : Int) (r3 : List Int) (w : World) (h : spec_l2Fill.f k a0 a1 a2 = some (r1, r2, r3)) :
  Calls Try.prog 234 #[.int .i64 a0, .int .i64 a1, .int .i64 a2] w fun e w' => ∃ v2_ : Value, e = .returned (.agg #[.int .i64 r1, .int .i64 r2, v2_]) ∧ Kd.R (Kd.int .i64) 3 w' w.heap.size (fun _ => True) v2_ r3 ∧ Below w.heap.size w w' := by
 have hu42 := Try.underlying42
 have HB := aK (Below.refl w.heap.size w)
 have H : (spec_l2Fill.l0 k a0 a1 a2 0 a0 a1 ([] : List Int)) = some (r1, r2, r3) := h
 clear h
 have H' := Aside0.mk H
 clear H
 go_enter Try.func234, Try.ntmps234
 go_wp2_with (first | ((with_reducible refine gate_dst (N := 6) rfl ?_); refine box_event ?hg (N := 6) ?hd (cs := #[.int .i64 0, .int .i64 0, .slice none 0 0]) (t := 42) ?hr ?_; (case hd => rfl); (case hg => rfl); (case hr => first | (go_simp; done) | (go_simp; rfl)); intro gb101 hg w4 hbox hb; have BK101 := aK (hbox); have GW101 := aK (gE hg (pS HB.out)); have GE101 := aK (gE hg (pS HB.out)); replace HB := bS HB hb; clear hb hbox hg) | ((with_reducible refine gate_dst (N := 7) rfl ?_); refine box_event ?hg (N := 7) ?hd (cs := #[.int .i64 0, .int .i64 0, .slice none 0 0]) (t := 42) ?hr ?_; (case hd => rfl); (case hg => rfl); (case hr => first | (go_simp; done) | (go_simp; rfl)); intro gb102 hg w5 hbox hb; have BK102 := aK (hbox); have GW102 := aK (gE hg (pS HB.out)); have GE102 := aK (gE hg (pS HB.out)); have NB101_102 := aK (nL hg (pB BK101.out)); have NB102_101 := aK (nG hg (pB BK101.out)); replace BK101 := bB BK101 hb; replace HB := bS HB hb; clear hb hbox hg; have hnb6 := NB102_101.out; have hnc6 := NB101_102.out; have hcz7_0 : w5.cell? ⟨gb102, 0, none⟩ = some (.int .i64 0) := (blk_cell BK102.out 0).trans rfl; have hcz7_1 : w5.cell? ⟨gb102, 1, none⟩ = some (.int .i64 0) := (blk_cell BK102.out 1).trans rfl; have hcz7_2 : w5.cell? ⟨gb102, 2, none⟩ = some (.slice none 0 0) := (blk_cell BK102.out 2).trans rfl; have hfz7_0 := blk_frozen BK102.out 0; have hfz7_1 := blk_frozen BK102.out 1; have hfz7_2 := blk_frozen BK102.out 2))
 go_loopg [8] k (fun kq v8 w' => ∃ (x8_1 : Int) (x103002_1 : List Int) (u103002 : Value), v8 = .int .i64 x8_1 ∧ Aside0 (spec_l2Fill.l0 kq a0 a1 a2 x8_1 a0 a1 x103002_1 = some (r1, r2, r3)) ∧ Aside0 (kq ≤ k) ∧ Aside0 (Kd.R (Kd.int .i64) 3 w' w.heap.size (fun _ => True) u103002 x103002_1) ∧ Aside0 (w'.heap[gb101]? = some (.cells #[.int .i64 0, .int .i64 0, (.slice none 0 0)] 42 (0, 0))) ∧ Aside0 (w'.heap[gb102]? = some (.cells #[.int .i64 a0, .int .i64 a1, u103002] 42 (0, 0))) ∧ Aside0 (Below w.heap.size w w'))
 case atStart => exact ⟨(0), (([] : List Int)), (.slice none 0 0), (by first | rfl | (simp; done) | (simp [*]; done)), H', ⟨Nat.le_refl _⟩, ⟨by first | exact Kd.R_nil _ _ _ _ _ | exact Kd.N_nil _ _ _ _ _ | exact Kd.V_nil _ _ _ _ _ | exact Kd.Q_nil _ _ _ _ _ | exact Kd.S_nil _ _ _ _ _⟩, ⟨by (with_reducible repeat (first | refine blk_drewN ?_ _ | refine blk_drew ?_ | refine blk_alloc ?_ _)); refine blk_far ?_ NB101_102.out _; (with_reducible repeat (first | refine blk_drewN ?_ _ | refine blk_drew ?_ | refine blk_alloc ?_ _)); refine blk_far ?_ NB101_102.out _; (with_reducible repeat (first | refine blk_drewN ?_ _ | refine blk_drew ?_ | refine blk_alloc ?_ _)); refine blk_far ?_ NB101_102.out _; (with_reducible repeat (first | refine blk_drewN ?_ _ | refine blk_drew ?_ | refine blk_alloc ?_ _)); exact BK101.out⟩, ⟨by (with_reducible repeat (first | refine blk_drewN ?_ _ | refine blk_drew ?_ | refine blk_alloc ?_ _)); refine blk_put (cs := #[.int .i64 a0, .int .i64 a1, .slice none 0 0]) ?_ 2 _ rfl; (with_reducible repeat (first | refine blk_drewN ?_ _ | refine blk_drew ?_ | refine blk_alloc ?_ _)); refine blk_put (cs := #[.int .i64 a0, .int .i64 0, .slice none 0 0]) ?_ 1 _ rfl; (with_reducible repeat (first | refine blk_drewN ?_ _ | refine blk_drew ?_ | refine blk_alloc ?_ _)); refine blk_put (cs := #[.int .i64 0, .int .i64 0, .slice none 0 0]) ?_ 0 _ rfl; (with_reducible repeat (first | refine blk_drewN ?_ _ | refine blk_drew ?_ | refine blk_alloc ?_ _)); exact BK102.out⟩, ⟨by repeat (first | (with_reducible first | exact HB.out | apply below_alloc | apply pw_below_drewN | apply below_drew1 | refine below_set ?_ GE101.out | refine below_set ?_ GE102.out) | exact HB.out)⟩⟩
 case round =>
  clear H'
  try clear c2
  try clear p2
  try clear c6
  try clear hcz7_0
  try clear hcz7_1
  try clear hcz7_2
  try clear hfz7_0
  try clear hfz7_1
  try clear hfz7_2
  obtain ⟨x8_1, x103002_1, u103002, rfl, HA, HK1, HO_103002, BK101, BK102, HB⟩ := hrel
  cases gk with
  | zero => exact absurd HA.out (by simp [spec_l2Fill.l0])
  | succ k1 =>
   have H := HA.out
   clear HA
   simp only [spec_l2Fill.l0] at H
   by_cases c8 : x8_1 < (wrap64 (a0 * a1))
   ·
    rw [if_pos c8] at H
    have c8b0 : decide (x8_1 < (wrap64 (a0 * a1))) = true := decide_eq_true c8
    clear c8
    by_cases c9 : x103002_1.length < 17592186044416
    ·
     rw [if_pos c9] at H
     have LMc9 := Aside0.mk c9
     clear c9
     obtain ⟨y103, hy103⟩ : ∃ y_ : List Int, y_ = (x103002_1 ++ [a2]) := ⟨_, rfl⟩
     replace H : (spec_l2Fill.l0 k1 a0 a1 a2 (wrap64 (x8_1 + 1)) a0 a1 y103) = some (r1, r2, r3) := by first | (rw [hy103]; with_reducible exact H) | (have H2_ := (Option.bind_some _ _).symm.trans H; rw [hy103]; with_reducible exact H2_) | (have H2_ := (Option.bind_some _ _).symm.trans H; with_reducible exact H2_) | with_reducible exact H | (rw [hy103]; exact H) | exact H
     have Ny103 := Aside0.mk hy103
     clear hy103
     have H' := Aside0.mk H
     clear H
     have hnb10 := NB102_101.out
     have hnc10 := NB101_102.out
     have hcz11_0 : wr.cell? ⟨gb102, 0, none⟩ = some (.int .i64 a0) := (blk_cell BK102.out 0).trans rfl
     have hcz11_1 : wr.cell? ⟨gb102, 1, none⟩ = some (.int .i64 a1) := (blk_cell BK102.out 1).trans rfl
     have hcz11_2 : wr.cell? ⟨gb102, 2, none⟩ = some (u103002) := (blk_cell BK102.out 2).trans rfl
     have hfz11_0 := blk_frozen BK102.out 0
     have hfz11_1 := blk_frozen BK102.out 1
     have hfz11_2 := blk_frozen BK102.out 2
     go_wp2_with (first | ((with_reducible refine gate_builtin (b := .append) (xs := #[.tmp 20, .tmp 22]) rfl ?_); at_builtin; refine Kd.R_append (Kd.int .i64) (w0 := w) w.heap.size rfl (.tmp 20) (.tmp 22) 22 3 (.int .i64 0) 8 rfl Try.underlying22 info3 rfl (by decide) (by omega) u103002 x103002_1 a2 [.int .i64 a2] (fun _ => True) (fun _ => False) rfl rfl ?aP (fun _ hk => hk.elim) ?aF ?aO ?aB ?aS ?aL ?_; (case aP => exact rfl); (case aB => exact (pS HB.out)); (case aF => exact (fun _ _ => trivial)); (case aO => exact (pR HO_103002.out)); (case aS => exact (below_size (pS HB.out))); (case aL => have := LMc9.out; omega); intro v104 w12 ho hb hg hat; rw [← Ny103.out] at ho; have n0_ := aK (blk_grown (g := gb101) (o := .cells #[.int .i64 0, .int .i64 0, .slice none 0 0] 42 (0, 0)) (pB BK101.out) hg (Kd.R_ne HO_103002.out BK101.out (by decide))); have n1_ := aK (blk_grown (g := gb102) (o := .cells #[.int .i64 a0, .int .i64 a1, u103002] 42 (0, 0)) (pB BK102.out) hg (Kd.R_ne HO_103002.out BK102.out (by decide))); have n2_ := aK (hb); have HO105 := aK (ho); clear BK101 BK102 HB HO_103002; have BK101 := n0_; have BK102 := n1_; have HB := n2_; clear n0_ n1_ n2_ ho hb hg hat; obtain ⟨Ao13, co13, eo13⟩ := Kd.R_slice HO105.out; subst eo13; have hcz14_0 : w12.cell? ⟨gb102, 0, none⟩ = some (.int .i64 a0) := (blk_cell BK102.out 0).trans rfl; have hcz14_1 : w12.cell? ⟨gb102, 1, none⟩ = some (.int .i64 a1) := (blk_cell BK102.out 1).trans rfl; have hcz14_2 : w12.cell? ⟨gb102, 2, none⟩ = some (u103002) := (blk_cell BK102.out 2).trans rfl; have hfz14_0 := blk_frozen BK102.out 0; have hfz14_1 := blk_frozen BK102.out 1; have hfz14_2 := blk_frozen BK102.out 2))
     go_roundg k1
     case measure => have := HK1.out; omega
     case rel => exact ⟨(wrap64 (x8_1 + 1)), (y103), (.slice Ao13 y103.length co13), (by first | rfl | (simp; done) | (simp [*]; done)), H', ⟨by have := HK1.out; omega⟩, ⟨by (with_reducible repeat (first | apply Kd.R_alloc | apply Kd.R_drewN | apply Kd.R_drew)); exact Kd.R_mono (Kd.R_far (p := ⟨gb102, 2, none⟩) (Kd.R_types HO105.out BK102.out (by decide)) (fun _ hk => hk.2) (.slice Ao13 y103.length co13)) (fun _ hk => trivial)⟩, ⟨by (with_reducible repeat (first | refine blk_drewN ?_ _ | refine blk_drew ?_ | refine blk_alloc ?_ _)); refine blk_far ?_ NB101_102.out _; (with_reducible repeat (first | refine blk_drewN ?_ _ | refine blk_drew ?_ | refine blk_alloc ?_ _)); exact BK101.out⟩, ⟨by (with_reducible repeat (first | refine blk_drewN ?_ _ | refine blk_drew ?_ | refine blk_alloc ?_ _)); refine blk_put (cs := #[.int .i64 a0, .int .i64 a1, u103002]) ?_ 2 _ rfl; (with_reducible repeat (first | refine blk_drewN ?_ _ | refine blk_drew ?_ | refine blk_alloc ?_ _)); exact BK102.out⟩, ⟨by repeat (first | (with_reducible first | exact HB.out | apply below_alloc | apply pw_below_drewN | apply below_drew1 | refine below_set ?_ GE101.out | refine below_set ?_ GE102.out) | exact HB.out)⟩⟩
    ·
     rw [if_neg c9] at H
     exact absurd H (by simp)
   ·
    rw [if_neg c8] at H
    have c8b0 : decide (x8_1 < (wrap64 (a0 * a1))) = false := decide_eq_false c8
    clear c8
    simp only [Option.some.injEq, Prod.mk.injEq] at H
    obtain ⟨rfl, rfl, rfl⟩ := H
    have hnb15 := NB102_101.out
    have hnc15 := NB101_102.out
    have hcz16_0 : wr.cell? ⟨gb102, 0, none⟩ = some (.int .i64 a0) := (blk_cell BK102.out 0).trans rfl
    have hcz16_1 : wr.cell? ⟨gb102, 1, none⟩ = some (.int .i64 a1) := (blk_cell BK102.out 1).trans rfl
    have hcz16_2 : wr.cell? ⟨gb102, 2, none⟩ = some (u103002) := (blk_cell BK102.out 2).trans rfl
    have hfz16_0 := blk_frozen BK102.out 0
    have hfz16_1 := blk_frozen BK102.out 1
    have hfz16_2 := blk_frozen BK102.out 2
    have hcz17_0 : wr.cell? ⟨gb101, 0, none⟩ = some (.int .i64 0) := (blk_cell BK101.out 0).trans rfl
    have hcz17_1 : wr.cell? ⟨gb101, 1, none⟩ = some (.int .i64 0) := (blk_cell BK101.out 1).trans rfl
    have hcz17_2 : wr.cell? ⟨gb101, 2, none⟩ = some (.slice none 0 0) := (blk_cell BK101.out 2).trans rfl
    have hfz17_0 := blk_frozen BK101.out 0
    have hfz17_1 := blk_frozen BK101.out 1
    have hfz17_2 := blk_frozen BK101.out 2
    obtain ⟨Ao18, co18, eo18⟩ := Kd.R_slice HO_103002.out
    subst eo18
    go_wp2
    refine bodyPost_ret (results_cell_row rfl _ _ gb101 42 #[.int .i64 a0, .int .i64 a1, .slice Ao18 x103002_1.length co18] (0, 0) _ rfl (by (with_reducible repeat (first | refine blk_drewN ?_ _ | refine blk_drew ?_ | refine blk_alloc ?_ _)); refine blk_put (cs := #[.int .i64 a0, .int .i64 a1, .slice none 0 0]) ?_ 2 _ rfl; (with_reducible repeat (first | refine blk_drewN ?_ _ | refine blk_drew ?_ | refine blk_alloc ?_ _)); refine blk_put (cs := #[.int .i64 a0, .int .i64 0, .slice none 0 0]) ?_ 1 _ rfl; (with_reducible repeat (first | refine blk_drewN ?_ _ | refine blk_drew ?_ | refine blk_alloc ?_ _)); refine blk_put (cs := #[.int .i64 0, .int .i64 0, .slice none 0 0]) ?_ 0 _ rfl; (with_reducible repeat (first | refine blk_drewN ?_ _ | refine blk_drew ?_ | refine blk_alloc ?_ _)); exact BK101.out) Try.underlying42 rfl (by kernel_rfl)) rfl ?_
    exact ⟨_, by first | rfl | (simp [errW_none, errW_some] <;> rfl) | (simp [*, errW_none, errW_some] <;> rfl), by (with_reducible repeat (first | apply Kd.R_alloc | apply Kd.R_drewN | apply Kd.R_drew)); exact Kd.R_mono (Kd.R_far (p := ⟨gb101, 2, none⟩) (Kd.R_far (p := ⟨gb101, 1, none⟩) (Kd.R_far (p := ⟨gb101, 0, none⟩) (Kd.R_types HO_103002.out BK101.out (by decide)) (fun _ hk => hk.2) (.int .i64 a0)) (fun _ hk => hk.2) (.int .i64 a1)) (fun _ hk => hk.2) (.slice Ao18 x103002_1.length co18)) (fun _ hk => trivial), by repeat (first | (with_reducible first | exact HB.out | apply below_alloc | apply pw_below_drewN | apply below_drew1 | refine below_set ?_ GE101.out | refine below_set ?_ GE102.out) | exact HB.out)⟩

end Go.Proofs.Ytbjbanemmoalhaa.P
/- A field in which every cell is one value. No conditions but on the shape. -/
namespace Go.Proofs.Ytbjbanemmoalhaa.Pure
set_option linter.unusedVariables false
set_option linter.unusedSimpArgs false
open Go.RowKit Go.Proofs.Ytbjbanemmoalhaa.P Go.Proofs.YtbjbanemmoalhaaW.PrintWords Go.Proofs.YtbjbanemmoalhaaW.PrintLast
theorem filled_is (a b v : Int) (h0 : 1 ≤ a * b) (h1 : a * b ≤ 64) : impl_filled.f a b v = some (a, b, List.replicate (a * b).toNat v) := by
  unfold impl_filled.f slices_Repeat_int_int.f
  rw [w64 (by omega) (by omega), if_pos ⟨rfl, by omega, h1⟩]
  rfl
end Go.Proofs.Ytbjbanemmoalhaa.Pure
/- A field whose cells come out of the values of all members at the cell: in the program and, cell by cell, in the reference. No conditions but that the list is no longer than a machine allows. -/
namespace Go.Proofs.Ytbjbanemmoalhaa.Pure
set_option linter.unusedVariables false
set_option linter.unusedSimpArgs false
open Go.RowKit Go.Proofs.Ytbjbanemmoalhaa.P Go.Proofs.YtbjbanemmoalhaaW.PrintWords Go.Proofs.YtbjbanemmoalhaaW.PrintLast
theorem l2Own_is3 (a b : Int) (l : List Int) (hl : l.length < 17592186044416) : spec_l2Own.f a b l = some (a, b, l) := by
  unfold spec_l2Own.f spec_l1Own.f
  rw [Option.bind_some, if_pos (by simpa using hl)]
  rfl
structure EnsIs (l : List FF) (n : Nat) : Prop where
  n1 : 1 ≤ l.length ∧ l.length ≤ 8
  len : (l.getD 0 z42).f2.length = n
  n64 : n ≤ 64
  prod : (n : Int) = (l.getD 0 z42).f0 * (l.getD 0 z42).f1
  pos : 1 ≤ n
  cell : ∀ c, c < n → ∀ i, i < l.length → c < (l.getD i z42).f2.length
theorem ensIs {l : List FF} (ok : ensOk l = true) : ∃ n, EnsIs l n := by
  obtain ⟨n18, _⟩ := ens_is ok
  obtain ⟨⟨w1, w8⟩, ⟨h1, h8⟩, hlen⟩ := ens_shape ok
  have hb := mul_bd w1 w8 h1 h8
  have h0 := hlen 0 (by omega)
  refine ⟨(l.getD 0 z42).f2.length, n18, rfl, by omega, by rw [h0]; unfold wide0 high0; rfl, by omega, fun c hc i hi => ?_⟩
  have := hlen i hi
  omega
section
variable {l : List FF} {n : Nat} (e : EnsIs l n) (ok : ensOk l = true) (hl : l.length ≤ 9223372036854775806)
include e ok hl
omit ok hl in
theorem ensField_at (p : List Int → Option Int) (q : Nat → Int) (hp : ∀ c, c < n → (vals l c).length ≠ 0 → p (vals l c) = some (q c)) (hq : ∀ c, c < n → (vals l c).length = 0 → q c = -9999)
    (K : Nat) (hK : ∀ k, K ≤ k → ∀ c, c < n → impl_memberValues.f k l (c : Int) = some (vals l c)) (k : Nat) (hk : n < k) (a b : Int) :
    impl_ensembleField_at_mp_mpOwn.l0 p (k + K) l (n : Int) 0 a b (List.replicate n (-9999)) = some (a, b, tab n q, true) := by
  have h64 := e.n64
  have h := loop_at (fun k s i => impl_ensembleField_at_mp_mpOwn.l0 p (k + K) l (n : Int) (i : Int) a b s) n (fun i s => s.set i (q i)) (fun s => (a, b, s, true)) (fun i s => s.length = n ∧ ∀ j, i ≤ j → j < n → s.getD j 0 = -9999)
    (fun k i s hI hi => by
      have e1 := Aside0.mk (show wrap64 ((i : Int) + 1) = ((i + 1 : Nat) : Int) by rw [w64 (by omega) (by omega)]; rfl)
      have hs := hI.1
      show impl_ensembleField_at_mp_mpOwn.l0 p (k + 1 + K) l (n : Int) (i : Int) a b s = impl_ensembleField_at_mp_mpOwn.l0 p (k + K) l (n : Int) ((i + 1 : Nat) : Int) a b (s.set i (q i))
      rw [show k + 1 + K = (k + K) + 1 by omega]
      simp only [impl_ensembleField_at_mp_mpOwn.l0]
      rw [if_pos (by omega), hK (k + K) (by omega) i hi, Option.bind_some, e1.out]
      by_cases h0 : (vals l i).length = 0
      · rw [if_neg (by omega), hq i hi h0]
        congr 1
        refine eq_index 0 (by simp) (fun j hj => ?_)
        by_cases ej : j = i
        · subst ej
          rw [hI.2 j (Nat.le_refl _) hi]
          simp [List.getD, List.getElem?_set_self (show j < s.length by omega)]
        · simp [List.getD, List.getElem?_set_ne (Ne.symm ej)]
      · rw [if_pos (by omega), hp i hi h0, Option.bind_some, if_pos (by omega), if_pos (by omega), Int.toNat_natCast])
    (fun i s hI hi => ⟨by simpa using hI.1, fun j hj hjn => by
      rw [← hI.2 j (by omega) hjn]
      simp [List.getD, List.getElem?_set_ne (show i ≠ j by omega)]⟩)
    (fun k s hI => by
      show impl_ensembleField_at_mp_mpOwn.l0 p (k + 1 + K) l (n : Int) (n : Int) a b s = _
      rw [show k + 1 + K = (k + K) + 1 by omega]
      simp only [impl_ensembleField_at_mp_mpOwn.l0]
      rw [if_neg (by omega)]) n k 0 (List.replicate n (-9999)) (by omega) (Nat.zero_le _) ⟨by simp, fun j _ hj => by simp [List.getD, hj]⟩ hk
  rw [iter_set_tab 0 q n _ (by simp)] at h
  exact h
theorem ensField_ev (P : Nat → List Int → Option Int) (q : Nat → Int) (hp : ∀ c, c < n → (vals l c).length ≠ 0 → Ev (fun k => P k (vals l c)) (q c)) (hq : ∀ c, c < n → (vals l c).length = 0 → q c = -9999) :
    Ev (fun k => impl_ensembleField_at_mp_mpOwn.f k (P k) l) ((l.getD 0 z42).f0, (l.getD 0 z42).f1, tab n q, true) := by
  have g2 := isValidEnsemble_ev l hl
  rw [ok] at g2
  obtain ⟨K2, h2⟩ := g2
  obtain ⟨K1, h1⟩ := ev_all (fun k c => impl_memberValues.f k l (c : Int)) (fun c => vals l c) n (fun c hc => memberValues_ev l c (by have := e.n1; omega) (e.cell c hc) (by have := e.n64; omega))
  obtain ⟨K3, h3⟩ := ev_all (fun k c => if (vals l c).length = 0 then some (q c) else P k (vals l c)) q n (fun c hc => by
    by_cases h0 : (vals l c).length = 0
    · exact ev_ifp h0 (ev_some _)
    · exact ev_ifn h0 (hp c hc h0))
  refine ⟨K1 + K2 + K3 + 100, fun k hk => ?_⟩
  have ef := filled_is (l.getD 0 z42).f0 (l.getD 0 z42).f1 (-9999) (by have := e.prod; have := e.pos; omega) (by have := e.prod; have := e.n64; omega)
  have et : ((l.getD 0 z42).f0 * (l.getD 0 z42).f1).toNat = n := by have := e.prod; omega
  rw [et] at ef
  have n64 := e.n64
  have hat := ensField_at e (P k) q (fun c hc h0 => by
    have := h3 k (by omega) c hc
    rw [if_neg h0] at this
    exact this) hq K1 h1 (k - K1) (by omega) (l.getD 0 z42).f0 (l.getD 0 z42).f1
  rw [show k - K1 + K1 = k by omega] at hat
  have h2' : impl_IsValidEnsemble.f k l = some true := h2 k (by omega)
  show impl_ensembleField_at_mp_mpOwn.f k (P k) l = _
  unfold impl_ensembleField_at_mp_mpOwn.f
  rw [h2', Option.bind_some, if_pos rfl, if_pos (by have := e.n1; omega), rdf0, ef, Option.bind_some]
  simp only [List.length_replicate]
  exact hat
omit ok hl in
/-- The reference's loop, cell by cell. -/
theorem ensSpec_ev (F : Nat → List Int → Nat → Option (Int × Int × List Int × Bool)) (q : Nat → Int)
    (hs : ∀ i s r, s.length = n → i < n → Ev (fun k => F k (s.set i (q i)) (i + 1)) r → Ev (fun k => F k s i) r)
    (he : ∀ s, s.length = n → Ev (fun k => F k s n) ((l.getD 0 z42).f0, (l.getD 0 z42).f1, s, true)) :
    Ev (fun k => F k (l.getD 0 z42).f2 0) ((l.getD 0 z42).f0, (l.getD 0 z42).f1, tab n q, true) := by
  have h := loop_ev F n (fun i s => s.set i (q i)) (fun s => ((l.getD 0 z42).f0, (l.getD 0 z42).f1, s, true)) (fun _ s => s.length = n)
    (fun i s r hI hi h => hs i s r hI hi h)
    (fun i s hI _ => by simpa using hI)
    (fun s hI => he s hI) 0 (l.getD 0 z42).f2 (Nat.zero_le _) e.len
  rw [Nat.sub_zero, iter_set_tab 0 q n _ e.len] at h
  exact h
end
end Go.Proofs.Ytbjbanemmoalhaa.Pure
/- A row in ascending order is told by its values. No conditions. -/
namespace Go.Proofs.Ytbjbanemmoalhaa.Pure
set_option linter.unusedVariables false
set_option linter.unusedSimpArgs false
open Go.RowKit Go.Proofs.Ytbjbanemmoalhaa.P Go.Proofs.YtbjbanemmoalhaaW.PrintWords Go.Proofs.YtbjbanemmoalhaaW.PrintLast Go.Proofs.YtbjbanemmoalhaaW.PrintMore
theorem sorted_unique : ∀ {s t : List Int}, s.Pairwise (· ≤ ·) → t.Pairwise (· ≤ ·) → s.Perm t → s = t
  | [], t, _, _, hp => (List.nil_perm.1 hp).symm
  | a :: s, [], _, _, hp => absurd (List.perm_nil.1 hp) (by simp)
  | a :: s, b :: t, h1, h2, hp => by
    rw [List.pairwise_cons] at h1 h2
    have ha : a ∈ b :: t := hp.mem_iff.1 (List.mem_cons_self ..)
    have hb : b ∈ a :: s := hp.mem_iff.2 (List.mem_cons_self ..)
    have hab : a = b := by
      rcases List.mem_cons.1 ha with e | e
      · exact e
      · rcases List.mem_cons.1 hb with e2 | e2
        · exact e2.symm
        · exact Int.le_antisymm (h1.1 b e2) (h2.1 a e)
    subst hab
    rw [sorted_unique h1.2 h2.2 (List.perm_cons a |>.1 hp)]
theorem srt_eq {s l : List Int} (hp : s.Perm l) (hs : s.Pairwise (· ≤ ·)) : srt l = s := by
  refine sorted_unique ?_ hs ((List.mergeSort_perm l _).trans hp.symm)
  have := List.pairwise_mergeSort (le := fun x y : Int => decide (x ≤ y)) (fun a b c h1 h2 => by simp only [decide_eq_true_eq] at *; omega) (fun a b => by simp; omega) l
  exact this.imp (fun h => by simpa using h)
end Go.Proofs.Ytbjbanemmoalhaa.Pure
/- A quantile of all members, cell by cell: one field in the program and in the reference. No conditions but that the lists are no longer than a machine allows. -/
namespace Go.Proofs.Ytbjbanemmoalhaa.Pure
set_option linter.unusedVariables false
set_option linter.unusedSimpArgs false
open Go.RowKit Go.Proofs.Ytbjbanemmoalhaa.P Go.Proofs.YtbjbanemmoalhaaW.PrintWords Go.Proofs.YtbjbanemmoalhaaW.PrintLast Go.Proofs.YtbjbanemmoalhaaW.PrintMore
def quantV (s : List Int) (a b : Int) : Int := if 1 < quantAt s.length a b then rd s (wrap64 (quantAt s.length a b - 1)) else rd s 0
def quantQ (l : List FF) (a b : Int) (c : Nat) : Int := if (vals l c).length = 0 then -9999 else quantV (svals l c) a b
theorem quantile_both (l : List FF) (a b : Int) (hl : l.length ≤ 9223372036854775806) (hs : ∀ f ∈ l, f.f2.length ≤ 9223372036854775806) :
    ∃ r, Ev (fun k => spec_QuantileField.f k l a b) r ∧ Ev (fun k => impl_QuantileField.f k l a b) r ∧ r.2.2.1.length ≤ 64 := by
  have g1 := l9Good_ev l hl hs
  have g2 := isValidEnsemble_ev l hl
  have no : Ev (fun k => spec_QuantileField.j0 k l a b true) (0, 0, ([] : List Int), false) := ev_step (fun k => spec_QuantileField.j0.eq_2 _ _ _ _ k) (ev_ifp rfl (ev_some _))
  unfold spec_QuantileField.f impl_QuantileField.f
  rw [within_is, within_is, l1In_is, l1In_is]
  cases hb : inb b 1 100 with
  | false =>
    refine ⟨(0, 0, [], false), ?_, ev_bind (ev_some _) (ev_ifn (by simp) (ev_some _)), by simp⟩
    cases ok : ensOk l with
    | false => rw [ok] at g1; exact ev_bind g1 (ev_ifn (by simp) no)
    | true => rw [ok] at g1; exact ev_bind g1 (ev_ifp rfl (ev_bind (ev_some _) (ev_ifn (by simp) no)))
  | true =>
    cases ha : inb a 0 b with
    | false =>
      refine ⟨(0, 0, [], false), ?_, ev_bind (ev_some _) (ev_ifp rfl (ev_bind (ev_some _) (ev_ifn (by simp) (ev_some _)))), by simp⟩
      cases ok : ensOk l with
      | false => rw [ok] at g1; exact ev_bind g1 (ev_ifn (by simp) no)
      | true => rw [ok] at g1; exact ev_bind g1 (ev_ifp rfl (ev_bind (ev_some _) (ev_ifp rfl (ev_bind (ev_some _) no))))
    | true =>
      cases ok : ensOk l with
      | false =>
        rw [ok] at g1 g2
        refine ⟨(0, 0, [], false), ev_bind g1 (ev_ifn (by simp) no), ev_bind (ev_some _) (ev_ifp rfl (ev_bind (ev_some _) (ev_ifp rfl (ev_bind (r := (0, 0, [], false)) ?_ (ev_some _))))), by simp⟩
        unfold impl_ensembleField_at_mp_mpOwn.f
        exact ev_bind g2 (ev_ifn (by simp) (ev_some _))
      | true =>
        rw [ok] at g1
        have b1 := inb_iff.1 hb
        have a1 := inb_iff.1 ha
        obtain ⟨n, e⟩ := ensIs ok
        have n64 := e.n64
        have n18 := e.n1
        refine ⟨((l.getD 0 z42).f0, (l.getD 0 z42).f1, tab n (quantQ l a b), true), ?_, ?_, by show (tab n (quantQ l a b)).length ≤ 64; rw [tab_length]; exact n64⟩
        · refine ev_bind g1 (ev_ifp rfl (ev_bind (ev_some _) (ev_ifp rfl (ev_bind (ev_some _) (ev_step (fun k => spec_QuantileField.j0.eq_2 _ _ _ _ k) (ev_ifn (by simp) (ev_ifp (by omega) ?_)))))))
          rw [rdf0]
          refine ev_bind (ev_const (l2Own_is3 _ _ _ (by have := e.len; omega))) ?_
          refine ensSpec_ev e (fun k s i => spec_QuantileField.l0 k l a b (i : Int) (l.getD 0 z42).f0 (l.getD 0 z42).f1 s) (quantQ l a b) (fun i s r hI hi h => ?_) (fun s hI => ev_step (fun k => spec_QuantileField.l0.eq_2 _ _ _ _ _ _ _ k) (ev_ifn (by omega) (ev_some _)))
          have e1 := Aside0.mk (show wrap64 ((i : Int) + 1) = ((i + 1 : Nat) : Int) by rw [w64 (by omega) (by omega)]; rfl)
          have vl := vals_len l i
          have sl := svals_len l i
          unfold quantQ at h
          refine ev_step (fun k => spec_QuantileField.l0.eq_2 _ _ _ _ _ _ _ k) (ev_ifp (by omega) (ev_bind (l9Values_ev l i (by omega) (e.cell i hi) (by omega)) (ev_ifp (by omega) (ev_bind (ev_some _) ?_))))
          rw [e1.out, Int.toNat_natCast]
          by_cases h0 : (vals l i).length = 0
          · rw [if_pos h0] at h
            exact ev_ifn (by omega) h
          · rw [if_neg h0] at h
            unfold quantV at h
            refine ev_ifp (by omega) (ev_ifn (by omega) ?_)
            rw [show wrap64 (Int.tdiv (wrap64 ((wrap64 ((wrap64 (a * ((svals l i).length : Int))) + b)) - 1)) b) = quantAt (svals l i).length a b from rfl]
            obtain ⟨-, q0, q1⟩ := quantAt_is (n := (svals l i).length) (a := a) (b := b) (by omega) a1.1 a1.2 b1.1 b1.2
            generalize quantAt (svals l i).length a b = q at q0 q1 h ⊢
            by_cases hq : 1 < q
            · rw [if_pos hq] at h
              have em : spec_l1Most.f q 1 = some q := by unfold spec_l1Most.f; rw [if_pos (by omega)]
              refine ev_bind (ev_const em) ?_
              simp only [List.set_set]
              exact ev_ifp (by rw [w64 (by omega) (by omega)]; omega) (ev_ifp (by rw [w64 (by omega) (by omega)]; omega) h)
            · rw [if_neg hq] at h
              have em : spec_l1Most.f q 1 = some 1 := by unfold spec_l1Most.f; rw [if_neg (by omega)]
              refine ev_bind (ev_const em) ?_
              have w1 : wrap64 (1 - 1) = 0 := by rw [w64 (by omega) (by omega)]; rfl
              simp only [List.set_set, w1]
              exact ev_ifp (by omega) (ev_ifp (by omega) h)
        · refine ev_bind (ev_some _) (ev_ifp rfl (ev_bind (ev_some _) (ev_ifp rfl (ev_bind (ensField_ev e ok hl (fun k z0_ => impl_QuantileField_1.f z0_ a b) (quantQ l a b) (fun c hc h0 => ev_const ?_) (fun c hc h0 => ?_)) (ev_some _)))))
          · have vl := vals_len l c
            have hp := vals_perm l c
            unfold impl_QuantileField_1.f quantQ quantV
            rw [if_pos ⟨by omega, by omega, a1.1, a1.2, b1.1, b1.2⟩, if_neg h0, srt_eq hp (svals_sorted l c), hp.length_eq]
          · unfold quantQ
            rw [if_pos h0]
end Go.Proofs.Ytbjbanemmoalhaa.Pure
/- What the laws' marks come to: a row that is written with numbers rising from a is held by the same count. No conditions. -/
namespace Go.Proofs.Ytbjbanemmoalhaa.Pure
set_option linter.unusedVariables false
set_option linter.unusedSimpArgs false
open Go.RowKit Go.Proofs.Ytbjbanemmoalhaa.P Go.Proofs.YtbjbanemmoalhaaW.PrintWords Go.Proofs.YtbjbanemmoalhaaW.PrintLast
/-- n numbers rising from a. -/
def cnt (a : Int) (n : Nat) : List Int := (List.range n).map (fun i : Nat => a + (i : Int))
theorem cnt_length (a : Int) (n : Nat) : (cnt a n).length = n := by simp [cnt]
theorem cnt_getD (a : Int) (n i : Nat) (h : i < n) : (cnt a n).getD i 0 = a + i := by simp [cnt, List.getD, h]
theorem markIntS_ev (l : List Int) (a : Int) (h0 : 0 ≤ a) (h1 : a + l.length ≤ 9223372036854775806) : Ev (fun k => laws_markIntS.f k l a) (a + l.length, cnt a l.length) := by
  have h := loop_ev (fun k s i => laws_markIntS.l0 k s (a + (i : Int)) (i : Int)) l.length (fun i s => s.set i (a + i)) (fun s => (a + (l.length : Int), s))
    (fun i s => s.length = l.length ∧ ∀ j, j < i → s.getD j 0 = a + j)
    (fun i s r hI hi h => ev_step (fun k => by
      show laws_markIntS.l0 (k + 1) s (a + (i : Int)) (i : Int) = laws_markIntS.l0 k (s.set i (a + i)) (a + ((i + 1 : Nat) : Int)) ((i + 1 : Nat) : Int)
      have := hI.1
      simp only [laws_markIntS.l0]
      rw [if_pos (by omega), if_pos (by omega), w64 (by omega) (by omega), w64 (by omega) (by omega)]
      simp [Int.add_assoc]) h)
    (fun i s hI hi => ⟨by simp [hI.1], fun j hj => by
      by_cases e : j = i
      · subst e
        have := hI.1
        simp [List.getD, List.getElem?_set_self (show j < s.length by omega)]
      · have := hI.2 j (by omega)
        rw [← this]
        simp [List.getD, List.getElem?_set_ne (Ne.symm e)]⟩)
    (fun s hI => ev_step (f := fun _ => some (a + (l.length : Int), s)) (fun k => by
      have := hI.1
      simp only [laws_markIntS.l0]
      rw [if_neg (by omega)]) (ev_some _)) 0 l (Nat.zero_le _) ⟨rfl, fun j hj => by omega⟩
  have e : iter (fun i (s : List Int) => s.set i (a + i)) 0 (l.length - 0) l = cnt a l.length := by
    have hi := iter_inv (fun i (s : List Int) => s.set i (a + i)) (fun i s => s.length = l.length ∧ ∀ j, j < i → s.getD j 0 = a + j) l.length
      (fun i s hI hi => ⟨by simp [hI.1], fun j hj => by
        by_cases e : j = i
        · subst e
          have := hI.1
          simp [List.getD, List.getElem?_set_self (show j < s.length by omega)]
        · have := hI.2 j (by omega)
          rw [← this]
          simp [List.getD, List.getElem?_set_ne (Ne.symm e)]⟩) (l.length - 0) 0 l (by omega) ⟨rfl, fun j hj => by omega⟩
    exact eq_index 0 (by rw [hi.1, cnt_length]) (fun j hj => by rw [hi.2 j (by have := hi.1; omega), cnt_getD a _ j (by have := hi.1; omega)])
  rw [e] at h
  refine Ev.congr (fun k => ?_) h
  unfold laws_markIntS.f
  simp
theorem heldIntS_ev (a : Int) (n : Nat) (h0 : 0 ≤ a) (h1 : a + n ≤ 9223372036854775806) : Ev (fun k => laws_heldIntS.f k (cnt a n) a) (a + n) := by
  have h := loop_ev (σ := Unit) (fun k _ i => laws_heldIntS.l0 k (cnt a n) (a + (i : Int)) (i : Int)) n (fun _ _ => ()) (fun _ => a + (n : Int)) (fun _ _ => True)
    (fun i s r _ hi h => ev_step (fun k => by
      show laws_heldIntS.l0 (k + 1) (cnt a n) (a + (i : Int)) (i : Int) = laws_heldIntS.l0 k (cnt a n) (a + ((i + 1 : Nat) : Int)) ((i + 1 : Nat) : Int)
      simp only [laws_heldIntS.l0, cnt_length, rd_nat, cnt_getD a n i hi]
      rw [if_pos (by omega), if_pos (by omega), if_pos trivial, w64 (by omega) (by omega), w64 (by omega) (by omega)]
      simp [Int.add_assoc]) h)
    (fun _ _ _ _ => trivial)
    (fun _ _ => ev_step (f := fun _ => some (a + (n : Int))) (fun k => by
      simp only [laws_heldIntS.l0, cnt_length]
      rw [if_neg (by omega)]) (ev_some _)) 0 () (Nat.zero_le _) trivial
  refine Ev.congr (fun k => ?_) h
  unfold laws_heldIntS.f
  simp
end Go.Proofs.Ytbjbanemmoalhaa.Pure
/- A loop that ends in order. No conditions. -/
namespace Go.Proofs.Ytbjbanemmoalhaa.Pure
set_option linter.unusedVariables false
open Go.RowKit Go.Proofs.YtbjbanemmoalhaaW.PrintWords Go.Proofs.YtbjbanemmoalhaaW.PrintLast
/-- A loop that ends: at each index it goes on with some state that is in order; behind the last it answers. -/
theorem ends_inv {σ ρ : Type} (F : Nat → σ → Nat → Option ρ) (n : Nat) (I : Nat → σ → Prop) (P : ρ → Prop)
    (hs : ∀ i s, I i s → i < n → ∃ s', I (i + 1) s' ∧ ∀ r, Ev (fun k => F k s' (i + 1)) r → Ev (fun k => F k s i) r)
    (he : ∀ s, I n s → ∃ r, Ev (fun k => F k s n) r ∧ P r) : ∀ i s, i ≤ n → I i s → ∃ r, Ev (fun k => F k s i) r ∧ P r := by
  have key : ∀ d i s, n - i = d → i ≤ n → I i s → ∃ r, Ev (fun k => F k s i) r ∧ P r := by
    intro d
    induction d with
    | zero =>
      intro i s h0 h1 h2
      obtain rfl : i = n := by omega
      exact he s h2
    | succ d ih =>
      intro i s h0 h1 h2
      obtain ⟨s', h3, h4⟩ := hs i s h2 (by omega)
      obtain ⟨r, h5, h6⟩ := ih (i + 1) s' (by omega) (by omega) h3
      exact ⟨r, h4 r h5, h6⟩
  exact fun i s h1 h2 => key (n - i) i s rfl h1 h2
end Go.Proofs.Ytbjbanemmoalhaa.Pure
/- The mark on a list of fields: it comes to an end, at a number that is not negative. No conditions but that all lists are short. -/
namespace Go.Proofs.Ytbjbanemmoalhaa.Pure
set_option linter.unusedVariables false
set_option linter.unusedSimpArgs false
open Go.RowKit Go.Proofs.Ytbjbanemmoalhaa.P Go.Proofs.YtbjbanemmoalhaaW.PrintWords Go.Proofs.YtbjbanemmoalhaaW.PrintLast
theorem markFieldS_at (l : List FF) (hl : l.length ≤ 1048576) (hs : ∀ x ∈ l, x.f2.length ≤ 1048576) : ∃ r : Int × List FF, Ev (fun k => laws_markFieldS.f k l 1) r ∧ 0 ≤ r.1 := by
  have hsz : ∀ i, i < l.length → (l.getD i z42).f2.length ≤ 1048576 := fun i hi => by
    rw [getD_eq_get _ hi]
    exact hs _ (List.getElem_mem hi)
  obtain ⟨r, hr, h0⟩ := ends_inv (fun k (s : List FF × Int) i => laws_markFieldS.l0 k s.1 s.2 (i : Int)) l.length (fun i s => s.1.length = l.length ∧ (∀ j, i ≤ j → s.1.getD j z42 = l.getD j z42) ∧ 1 ≤ s.2 ∧ s.2 ≤ 1 + (i : Int) * 1048578)
    (fun r : Int × List FF => 0 ≤ r.1)
    (fun i s hI hi => by
      obtain ⟨i1, i2, i3, i4⟩ := hI
      have hb := hsz i hi
      have e0 : rd_T42 s.1 (i : Int) = l.getD i z42 := by rw [rdf, i2 i (Nat.le_refl _)]
      have e1 := Aside0.mk (show wrap64 (s.2 + 1) = s.2 + 1 from w64 (by omega) (by omega))
      have e2 := Aside0.mk (show wrap64 (s.2 + 1 + 1) = s.2 + 1 + 1 from w64 (by omega) (by omega))
      have e3 := Aside0.mk (show wrap64 ((i : Int) + 1) = ((i + 1 : Nat) : Int) by rw [w64 (by omega) (by omega)]; rfl)
      refine ⟨(s.1.set i ⟨s.2, s.2 + 1, cnt (s.2 + 1 + 1) (l.getD i z42).f2.length⟩, s.2 + 1 + 1 + (l.getD i z42).f2.length), ⟨by simpa using i1, fun j hj => ?_, by dsimp only; omega, by dsimp only; omega⟩, fun r h => ?_⟩
      · rw [← i2 j (by omega)]
        simp [List.getD, List.getElem?_set_ne (show i ≠ j by omega)]
      · refine ev_step (fun k => laws_markFieldS.l0.eq_2 _ _ _ k) (ev_ifp (by omega) (ev_ifp (by omega) ?_))
        rw [e0, e1.out, e2.out, e3.out, Int.toNat_natCast]
        exact ev_bind (markIntS_ev (l.getD i z42).f2 (s.2 + 1 + 1) (by omega) (by omega)) h)
    (fun s hI => ⟨(s.2, s.1), ev_step (fun k => laws_markFieldS.l0.eq_2 _ _ _ k) (ev_ifn (by omega) (ev_some _)), by dsimp only; omega⟩) 0 (l, 1) (Nat.zero_le _) ⟨rfl, fun _ _ => rfl, by simp, by simp⟩
  exact ⟨r, hr, h0⟩
theorem small_map {l : List LF} (h : smallF l) : (l.map ofF).length ≤ 1048576 ∧ ∀ x ∈ l.map ofF, x.f2.length ≤ 1048576 := by
  refine ⟨by have := h.1; simp; omega, fun x hx => ?_⟩
  obtain ⟨y, hy, rfl⟩ := List.mem_map.1 hx
  exact h.2 y hy
end Go.Proofs.Ytbjbanemmoalhaa.Pure
/- The marks of a field's row. No conditions. -/
namespace Go.Proofs.Ytbjbanemmoalhaa.Pure
set_option linter.unusedVariables false
set_option linter.unusedSimpArgs false
open Go.RowKit Go.Proofs.Ytbjbanemmoalhaa.P Go.Proofs.YtbjbanemmoalhaaW.PrintWords Go.Proofs.YtbjbanemmoalhaaW.PrintLast
theorem markField_ev (x y : Int) (l : List Int) (a : Int) (h0 : 0 ≤ a) (h1 : a + l.length ≤ 9223372036854775806) : Ev (fun k => laws_markField.f k x y l a) (a + l.length, cnt a l.length) := ev_bind (markIntS_ev l a h0 h1) (ev_some _)
end Go.Proofs.Ytbjbanemmoalhaa.Pure
/- What holds of a field's marks. No conditions. -/
namespace Go.Proofs.Ytbjbanemmoalhaa.Pure
set_option linter.unusedVariables false
set_option linter.unusedSimpArgs false
open Go.RowKit Go.Proofs.Ytbjbanemmoalhaa.P Go.Proofs.YtbjbanemmoalhaaW.PrintWords Go.Proofs.YtbjbanemmoalhaaW.PrintLast
theorem heldField_ev (x y : Int) (n : Nat) (a : Int) (h0 : 0 ≤ a) (h1 : a + n ≤ 9223372036854775806) : Ev (fun k => laws_heldField.f k x y (cnt a n) a) (a + n) :=
  ev_bind (heldIntS_ev a n h0 h1) (ev_ifn (by omega) (ev_some _))
end Go.Proofs.Ytbjbanemmoalhaa.Pure
/- The program's QuantileField returns what the reference's QuantileField returns, for all arguments; no conditions. -/
namespace Go.Proofs.Ytbjbanemmoalhaa.Pure
set_option linter.unusedVariables false
set_option linter.unusedSimpArgs false
open Go.RowKit Go.Proofs.Ytbjbanemmoalhaa.P Go.Proofs.YtbjbanemmoalhaaW.PrintWords Go.Proofs.YtbjbanemmoalhaaW.PrintLast
theorem FnExactQuantileField : laws_FnExactQuantileField.Pure := by
  intro l a b hl hy ha hb
  refine Ev.rounds ?_
  unfold laws_FnExactQuantileField.f
  rcases szFieldS_go l 1048576 (by first | omega | (dsimp only; omega) | (simp; omega)) (by first | omega | (dsimp only; omega) | (simp; omega)) (⟨hl.1, fun x hx => (hl.2 x hx).2.2.1⟩) with ⟨rz1, ez1, hz1⟩ | ⟨rz1, ez1, hz1, hza1, hzb1, hlz1⟩
  · exact ev_bind ez1 (ev_ifp hz1 (ev_some _))
  refine ev_bind ez1 ?_
  refine ev_ifn hz1 ?_
  have hm := map_short hlz1; have hsm := small_map hlz1; obtain ⟨⟨mk, ml⟩, hmk, hmk0⟩ := markFieldS_at (l.map ofF) hsm.1 hsm.2; have hmk1 : 0 ≤ mk := hmk0; obtain ⟨⟨r1, r2, r3, g⟩, hs, hi, hr⟩ := quantile_both (l.map ofF) a b hm.1 hm.2; have hr2 : r3.length ≤ 64 := hr
  refine ev_bind (toFieldS_ev _ ‹_›) ?_
  refine ev_bind hs ?_
  refine ev_bind (toFieldS_ev _ ‹_›) ?_
  refine ev_bind hi ?_
  refine ev_bind (eqField_self _ _ _ (by first | omega | (dsimp only; omega) | (simp; omega))) ?_
  refine ev_ifp rfl ?_
  refine ev_step (fun k => laws_FnExactQuantileField.j0.eq_2 _ _ _ _ _ _ _ _ _ _ _ _ _ k) ?_
  refine ev_ifn (by simp) ?_
  refine ev_bind (toFieldS_ev _ ‹_›) ?_
  refine ev_bind (eqFieldS_self _ ‹_›) ?_
  refine ev_ifp rfl ?_
  refine ev_bind hmk ?_
  refine ev_ifn (by first | (simp; done) | (simp; omega) | omega) ?_
  refine ev_bind (eqField_self _ _ _ (by first | omega | (dsimp only; omega) | (simp; omega))) ?_
  refine ev_ifp rfl ?_
  refine ev_step (fun k => laws_FnExactQuantileField.j1.eq_2 _ _ _ _ _ _ _ _ _ _ _ k) ?_
  refine ev_ifn (by simp) ?_
  refine ev_bind (markField_ev _ _ _ _ (by first | omega | (dsimp only; omega) | (simp; omega)) (by first | omega | (dsimp only; omega) | (simp; omega))) ?_
  refine ev_bind (heldField_ev _ _ _ _ (by first | omega | (dsimp only; omega) | (simp; omega)) (by first | omega | (dsimp only; omega) | (simp; omega))) ?_
  refine ev_ifn (by first | (simp; done) | (simp; omega) | omega) ?_
  refine ev_ifp (by first | rfl | (simp; done)) ?_
  refine ev_bind (toFieldS_ev _ ‹_›) ?_
  refine ev_bind hi ?_
  refine ev_bind (eqField_self _ _ _ (by first | omega | (dsimp only; omega) | (simp; omega))) ?_
  refine ev_ifp rfl ?_
  refine ev_step (fun k => laws_FnExactQuantileField.j2.eq_2 _ _ _ _ _ k) ?_
  refine ev_ifn (by simp) ?_
  refine ev_bind (heldField_ev _ _ _ _ (by first | omega | (dsimp only; omega) | (simp; omega)) (by first | omega | (dsimp only; omega) | (simp; omega))) ?_
  refine ev_ifn (by first | (simp; done) | (simp; omega) | omega) ?_
  refine ev_ifp (by first | rfl | (simp; done)) ?_
  exact ev_some _
end Go.Proofs.Ytbjbanemmoalhaa.Pure
/- The law FnExactQuantileField answers true whatever its arguments are; no conditions. (Written by mp.py out of the plain law and the walk.) -/
namespace Go.Proofs.Ytbjbanemmoalhaa.fnExactQuantileField
open Go.ChangeShapes Go.WideShapes Go.ChangeAt Go.RowKit Go.Proofs.Ytbjbanemmoalhaa.Open Go.Proofs.Ytbjbanemmoalhaa.P Go.Proofs.YtbjbanemmoalhaaW.PrintWords
open Go.ChangeMaps (open_string shut_string)
set_option linter.unusedVariables false
theorem own : ownKnob Try.prog.godebug = none := by kernel_rfl
theorem laidOut : laidOutB Try.prog = true := by kernel_rfl
set_option maxRecDepth 100000 in
theorem lifted (os : Os) (started : os.Started) (H : Type) (enc : TypeId × Value → H) :
    ReturnsInHanded {} Try.checked os 7 .any (Rows.fnExactQuantileFieldSpec.pre6 enc Try.prog Try.f7 Rows.fnExactQuantileFieldRow.domain false) (Rows.fnExactQuantileFieldSpec.post enc Try.prog Try.f7 false true false false) := by
  refine returnsInHanded_of_change_sized (C := Try.checked) own started (by kernel_rfl) Try.func7
    (ChangeSpec.witness6 (enc := enc) (C := Try.checked) false ⟨#[], #[.slice none 0 0, .int .i64 0, .int .i64 0], []⟩ 8 (by kernel_rfl) (by kernel_rfl) (by kernel_rfl) (by kernel_rfl)) ?_
  intro W base args ds gs before hval0 hW hcnd hsz0 _
  have hsz : (DataW.weightsEach Try.prog (Try.f7.params.toList ++ Rows.fnExactQuantileFieldSpec.plain.varTypes Try.prog) (ds ++ gs)).all (· ≤ reachBytes) = true := hsz0
  have hval : ∀ (j : Nat) t v, Try.f7.params[j]? = some t → args[j]? = some v → Value.okWide Try.prog W .any base t v := hval0
  have hW' := hW
  obtain ⟨p, q, hA0, hV, rfl, hfz, hnd⟩ := hW
  have hA : DataW.TrodAll enc Try.prog W 0 (fun _ => true) true Try.f7.params.toList args.toList ds p := hA0
  rw [Try.params7] at hA hval hsz
  obtain ⟨v0, vs0, d0, ds0, p0, q0, hargs, rfl, rfl, h0, r0⟩ := trodAll_cons hA
  obtain ⟨v1, vs1, d1, ds1, p1, q1, rfl, rfl, rfl, h1, r1⟩ := trodAll_cons r0
  obtain ⟨v2, vs2, d2, ds2, p2, q2, rfl, rfl, rfl, h2, r2⟩ := trodAll_cons r1
  obtain ⟨rfl, rfl, rfl⟩ := trodAll_nil r2
  obtain rfl : args = #[v0, v1, v2] := by cases args; simp_all
  obtain ⟨rfl, rfl⟩ := trodVars_none hV
  obtain ⟨A0, len0, c0, rfl⟩ := okWide_slice Try.underlying49 (hval 0 49 v0 rfl rfl)
  have k0 := h0
  have lt0 : ∀ x ∈ p0, x.block < W.heap.size := by obtain ⟨m, hm⟩ := k0; exact DataW.trod_lt m _ _ _ hm
  have y0 : len0 * 40 ≤ 140737488351232 := sized_any hsz (j := 0) (t := 49) rfl rfl Try.underlying49 (by kernel_rfl) h0
  obtain ⟨l0, rfl, hc0, hr0, w0⟩ := slice_at (opens_slice Try.underlying49 (by kernel_rfl) opens40) h0
  obtain ⟨a1, rfl, rfl, rfl, w1⟩ := open_int Try.underlying3 (hval 1 3 v1 rfl rfl) h1
  obtain ⟨a2, rfl, rfl, rfl, w2⟩ := open_int Try.underlying3 (hval 2 3 v2 rfl rfl) h2
  clear hA0 hval0 hsz0 hsz
  obtain ⟨k, hp⟩ := Pure.FnExactQuantileField l0 a1 a2 w0 y0 w1 w2
  refine (laws_FnExactQuantileField.calls k A0 c0 l0 a1 a2 true W hr0 hc0 hp).mono fun e W' ⟨he, bel0⟩ => ?_
  have bel : Below W.heap.size W W' := bel0
  subst he
  exact ⟨_, rfl, _, _, _, [], _, [], hW', trodAll_mk1 (shut_bool Try.underlying4 _), (trodAll_cons_mk (Below.trod laidOut (by kernel_rfl) (of_decide_eq_true (by kernel_rfl)) k0 bel lt0) (trodAll_cons_mk (shut_int Try.underlying3 w1) (trodAll_cons_mk (shut_int Try.underlying3 w2) trodAll_mk0))), rfl, bel.frame _, fun h => by cases h⟩
set_option maxHeartbeats 4000000 in
set_option maxRecDepth 100000 in
theorem closed : joinedFacts Try.prog 7 Try.f7 Rows.fnExactQuantileFieldSpec Rows.fnExactQuantileFieldRow = true := by
  unfold joinedFacts
  repeat' (with_reducible refine Bool.and_eq_true_iff.2 ⟨?_, ?_⟩)
  all_goals (as_aux_lemma => kernel_rfl)
theorem over : Rows.fnExactQuantileFieldRow.holds Try.pinned (OpenSpec.ofChange Rows.fnExactQuantileFieldSpec) :=
  OpenClaim.holds_of_wide 7 Try.f7 rfl rfl rfl rfl rfl rfl rfl ⟨rfl, rfl, rfl, rfl, rfl⟩ rfl rfl rfl rfl rfl (by kernel_rfl) Try.func7 closed
    (of_decide_eq_true (by kernel_rfl)) (by unfold Func.isWrapper; first | (rw [if_pos (by decide +kernel)]; kernel_rfl) | (rw [if_neg (by decide +kernel)]; exact ⟨rfl, rfl⟩))
    (fun os started H enc _ => lifted os started H enc)
theorem proved : Rows.FnExactQuantileFieldSaid := over
#print axioms proved
end Go.Proofs.Ytbjbanemmoalhaa.fnExactQuantileField
namespace Go.Proofs.Ytbjbanemmoalhaa
/-- The row, under a short name, for the claim. -/
theorem fnExactQuantileField_holds : Rows.FnExactQuantileFieldSaid := fnExactQuantileField.proved
end Go.Proofs.Ytbjbanemmoalhaa
