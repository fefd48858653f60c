/- Texts of the claim FnExactWithoutMember, merged: part 7 of 7: the program's and the reference's functions as Lean functions, the walks that show it, and plain lemmas; no conditions. -/
import Derived.Test.YthekngnkajjhnaaKFnExactWithoutMember6
import Derived.Test.YthekngnkajjhnaaKFnExactWithoutMember3
import Derived.Test.YthekngnkajjhnaaKFnExactWithoutMember5
import Derived.Test.YthekngnkajjhnaaKFnExactWithoutMember4
import Derived.Test.YthekngnkajjhnaaRows
import Derived.WalkKit
import Derived.ProofKit
import Derived.OpenShut
import Derived.ShutString
import Derived.ChangeOld
import Derived.Below
import Derived.SizedLaws
namespace Go.Proofs.Ythekngnkajjhnaa.Pure
set_option linter.unusedVariables false
set_option linter.unusedSimpArgs false
open Go.RowKit Go.Proofs.Ythekngnkajjhnaa.P Go.Proofs.YthekngnkajjhnaaW.PrintWords Go.Proofs.YthekngnkajjhnaaW.PrintLast
def cellOk (x : Int) : Bool := decide (x = -9999) || inb x (-9000) 9000
def fieldOk (a b : Int) (l : List Int) : Bool := inb a 1 8 && (inb b 1 8 && (decide ((l.length : Int) = a * b) && l.all cellOk))
structure FieldIs (a b : Int) (l : List Int) : Prop where
  a1 : 1 ≤ a
  a8 : a ≤ 8
  b1 : 1 ≤ b
  b8 : b ≤ 8
  len : (l.length : Int) = a * b
  cells : ∀ x ∈ l, cellOk x = true
theorem fieldOk_iff {a b : Int} {l : List Int} : fieldOk a b l = true ↔ FieldIs a b l := by
  unfold fieldOk
  rw [Bool.and_eq_true, Bool.and_eq_true, Bool.and_eq_true, inb_iff, inb_iff, decide_eq_true_eq, List.all_eq_true]
  exact ⟨fun ⟨⟨h1, h2⟩, ⟨h3, h4⟩, h5, h6⟩ => ⟨h1, h2, h3, h4, h5, h6⟩, fun h => ⟨⟨h.a1, h.a8⟩, ⟨h.b1, h.b8⟩, h.len, h.cells⟩⟩
theorem mul_bd {a b : Int} (a1 : 1 ≤ a) (a8 : a ≤ 8) (b1 : 1 ≤ b) (b8 : b ≤ 8) : 1 ≤ a * b ∧ a * b ≤ 64 := by
  obtain h | h | h | h | h | h | h | h : a = 1 ∨ a = 2 ∨ a = 3 ∨ a = 4 ∨ a = 5 ∨ a = 6 ∨ a = 7 ∨ a = 8 := by omega
  all_goals subst h; omega
theorem FieldIs.len64 {a b : Int} {l : List Int} (h : FieldIs a b l) : 1 ≤ l.length ∧ l.length ≤ 64 := by
  have := mul_bd h.a1 h.a8 h.b1 h.b8
  have := h.len
  omega
theorem l2Value_is (x : Int) : spec_l2Value.f x = some (cellOk x) := by
  unfold spec_l2Value.f cellOk
  rw [l1In_is]
  by_cases h : x = -9999
  · simp [h]
  · simp [h]
theorem l2Shape_is (a b : Int) : spec_l2Shape.f a b = some (inb a 1 8 && inb b 1 8) := by
  unfold spec_l2Shape.f
  rw [l1In_is, l1In_is]
  cases inb a 1 8 <;> simp
theorem shape_iff {a b : Int} : (inb a 1 8 && inb b 1 8) = true ↔ (1 ≤ a ∧ a ≤ 8) ∧ 1 ≤ b ∧ b ≤ 8 := by rw [Bool.and_eq_true, inb_iff, inb_iff]
theorem l2Good_ev (a b : Int) (l : List Int) (hl : l.length ≤ 9223372036854775806) : Ev (fun k => spec_l2Good.f k a b l) (fieldOk a b l) := by
  have no : Ev (fun k => spec_l2Good.j0 k true a b l) false := ev_step (f := fun _ => some false) (fun k => by simp [spec_l2Good.j0]) (ev_some _)
  unfold spec_l2Good.f
  rw [l2Shape_is]
  simp only [Option.bind_some]
  by_cases hs : (inb a 1 8 && inb b 1 8) = true
  · refine ev_ifp hs ?_
    obtain ⟨⟨a1, a8⟩, b1, b8⟩ := shape_iff.1 hs
    have hm := mul_bd a1 a8 b1 b8
    rw [w64 (by omega) (by omega)]
    by_cases hl2 : (l.length : Int) = a * b
    · have h := allb_ev (fun k i => spec_l2Good.l0 k (i : Int) a b l) l.length (fun i => cellOk (l.getD i 0))
        (fun i r hi hp hh => ev_step (fun k => by
          simp only [spec_l2Good.l0, l2Value_is, Option.bind_some, rd_nat]
          rw [if_pos (by omega), if_pos (by omega), if_pos hp, w64 (by omega) (by omega)]
          rfl) hh)
        (fun i hi hp => ev_step (f := fun _ => some false) (fun k => by
          simp only [spec_l2Good.l0, l2Value_is, Option.bind_some, rd_nat]
          rw [if_pos (by omega), if_pos (by omega), if_neg (by rw [hp]; decide)]) (ev_some _))
        (ev_step (f := fun _ => some true) (fun k => by
          simp only [spec_l2Good.l0]
          rw [if_neg (by omega)]) (ev_some _))
      rw [rall_list] at h
      have e : fieldOk a b l = l.all cellOk := by
        rw [Bool.and_eq_true] at hs
        simp [fieldOk, hs.1, hs.2, hl2]
      rw [e, show ((l.length : Int) != a * b) = false by rw [bne_eq_false_iff_eq]; exact hl2]
      exact ev_step (f := fun k => spec_l2Good.l0 k 0 a b l) (fun k => by simp [spec_l2Good.j0]) h
    · have e : fieldOk a b l = false := by simp [fieldOk, hl2]
      rw [e, show ((l.length : Int) != a * b) = true by rw [bne_iff_ne]; exact hl2]
      exact no
  · refine ev_ifn hs ?_
    have e : fieldOk a b l = false := by
      cases h1 : inb a 1 8 with
      | false => simp [fieldOk, h1]
      | true =>
        cases h2 : inb b 1 8 with
        | false => simp [fieldOk, h2]
        | true => exact absurd (by rw [h1, h2]; rfl) hs
    rw [e]
    exact no
theorem isValidField_is (a b : Int) (l : List Int) : impl_IsValidField.f a b l = some (fieldOk a b l) := by
  unfold impl_IsValidField.f slices_ContainsFunc_int_at_impl_IsValidField_1.f
  rw [within_is, within_is]
  simp only [Option.bind_some]
  cases h1 : inb a 1 8 with
  | false => simp [fieldOk, h1]
  | true =>
    cases h2 : inb b 1 8 with
    | false => simp [fieldOk, h2]
    | true =>
      have hm := mul_bd (inb_iff.1 h1).1 (inb_iff.1 h1).2 (inb_iff.1 h2).1 (inb_iff.1 h2).2
      rw [w64 (by omega) (by omega)]
      by_cases hl : (l.length : Int) = a * b
      · have e : (!l.any slices_ContainsFunc_int_at_impl_IsValidField_1.p) = l.all cellOk := by
          rw [List.not_any_eq_all_not]
          congr 1
          funext x
          simp [slices_ContainsFunc_int_at_impl_IsValidField_1.p, cellOk, inb]
        simp [fieldOk, h1, h2, hl, e]
      · simp [fieldOk, hl]
theorem toIntS_ev (xs : List Int) (hm : xs.length ≤ 35184372088832) : Ev (fun k => laws_toIntS.f k xs) xs := by
  have h := loop_ev (fun k ys i => laws_toIntS.l0 k xs ys (i : Int)) xs.length (fun i ys => ys.set i (xs.getD i 0)) (fun ys => ys)
    (fun i ys => ys.length = xs.length ∧ ∀ j, j < i → ys.getD j 0 = xs.getD j 0)
    (fun i ys r hI hi h => ev_step (fun k => by
      show laws_toIntS.l0 (k + 1) xs ys (i : Int) = laws_toIntS.l0 k xs (ys.set i (xs.getD i 0)) ((i + 1 : Nat) : Int)
      have hl := hI.1
      simp only [laws_toIntS.l0]
      rw [if_pos (by omega), if_pos (by omega), if_pos (by omega), w64 (by omega) (by omega), rd_nat]
      simp) h)
    (fun i ys hI hi => ⟨by simp [hI.1], fun j hj => by
      by_cases e : j = i
      · subst e
        have := hI.1
        simp [List.getD, List.getElem?_set_self (show j < ys.length by omega)]
      · have := hI.2 j (by omega)
        rw [← this]
        simp [List.getD, List.getElem?_set_ne (Ne.symm e)]⟩)
    (fun ys hI => ev_step (f := fun _ => some ys) (fun k => by
      simp only [laws_toIntS.l0]
      rw [if_neg (by omega)]) (ev_some _)) 0 (List.replicate xs.length 0) (Nat.zero_le _) ⟨by simp, fun j hj => by omega⟩
  have e : iter (fun i (ys : List Int) => ys.set i (xs.getD i 0)) 0 (xs.length - 0) (List.replicate xs.length 0) = xs := by
    have hi := iter_inv (fun i (ys : List Int) => ys.set i (xs.getD i 0)) (fun i ys => ys.length = xs.length ∧ ∀ j, j < i → ys.getD j 0 = xs.getD j 0) xs.length
      (fun i ys hI hi => ⟨by simp [hI.1], fun j hj => by
        by_cases e : j = i
        · subst e
          have := hI.1
          simp [List.getD, List.getElem?_set_self (show j < ys.length by omega)]
        · have := hI.2 j (by omega)
          rw [← this]
          simp [List.getD, List.getElem?_set_ne (Ne.symm e)]⟩) (xs.length - 0) 0 (List.replicate xs.length 0) (by omega) ⟨by simp, fun j hj => by omega⟩
    exact eq_index 0 hi.1 (fun j hj => hi.2 j (by have := hi.1; omega))
  rw [e] at h
  refine Ev.congr (fun k => ?_) h
  unfold laws_toIntS.f
  rw [if_pos (by omega), if_pos (by omega)]
  simp
theorem eqIntS_ev (xs ys : List Int) (hm : xs.length ≤ 9223372036854775806) : Ev (fun k => laws_eqIntS.f k xs ys) (decide (xs = ys)) := by
  by_cases hl : xs.length = ys.length
  · have h := allb_ev (fun k i => laws_eqIntS.l0 k xs ys (i : Int)) xs.length (fun i => decide (xs.getD i 0 = ys.getD i 0))
      (fun i r hi hp h => ev_step (fun k => by
        simp only [laws_eqIntS.l0]
        rw [if_pos (by omega), if_pos (by omega), if_pos (by omega), rd_nat, rd_nat, if_pos (by simpa using hp), w64 (by omega) (by omega)]
        rfl) h)
      (fun i hi hp => ev_step (f := fun _ => some false) (fun k => by
        simp only [laws_eqIntS.l0]
        rw [if_pos (by omega), if_pos (by omega), if_pos (by omega), rd_nat, rd_nat, if_neg (by simpa using hp)]) (ev_some _))
      (ev_step (f := fun _ => some true) (fun k => by
        simp only [laws_eqIntS.l0]
        rw [if_neg (by omega)]) (ev_some _))
    rw [rall_eq 0 hl] at h
    refine Ev.congr (fun k => ?_) h
    unfold laws_eqIntS.f
    rw [if_pos (by omega)]
    rfl
  · refine Ev.congr (f := fun _ => some false) (fun k => ?_) (by rw [decide_eq_false (fun e => hl (by rw [e]))]; exact ev_some _)
    unfold laws_eqIntS.f
    rw [if_neg (by omega)]
theorem toField_ev (a b : Int) (l : List Int) (hl : l.length ≤ 35184372088832) : Ev (fun k => laws_toField.f k a b l) (a, b, l) := ev_bind (toIntS_ev l hl) (ev_some _)
theorem eqField_ev (a b : Int) (l : List Int) (a' b' : Int) (l' : List Int) (hl : l.length ≤ 9223372036854775806) : Ev (fun k => laws_eqField.f k a b l a' b' l') (decide (a = a' ∧ b = b' ∧ l = l')) := by
  unfold laws_eqField.f
  by_cases h1 : a = a'
  · refine ev_ifp h1 ?_
    by_cases h2 : b = b'
    · refine ev_ifp h2 (ev_bind (eqIntS_ev l l' hl) ?_)
      by_cases h3 : l = l'
      · simp only [h1, h2, h3, decide_true, and_self, if_true]
        exact ev_some _
      · simp only [h3, decide_false, and_false, Bool.false_eq_true, if_false]
        exact ev_some _
    · simp only [h2, false_and, and_false, decide_false, if_false]
      exact ev_some _
  · simp only [h1, false_and, decide_false, if_false]
    exact ev_some _
theorem eqField_self (a b : Int) (l : List Int) (hl : l.length ≤ 9223372036854775806) : Ev (fun k => laws_eqField.f k a b l a b l) true := by
  have := eqField_ev a b l a b l hl
  simpa using this
theorem szInt_is (l : List Int) (a : Int) (ha : 0 ≤ a) (ha2 : a ≤ 1048576) (hl : l.length ≤ 9223372036854775807) : laws_szIntS.f l a = some (if a < l.length then -1 else a - l.length) := by
  unfold laws_szIntS.f
  rw [w64 (by omega) (by omega)]
  split
  · rw [if_pos (by omega)]
  · rw [if_neg (by omega)]
theorem szField_at (a b : Int) (l : List Int) (s : Int) (hs : 0 ≤ s) (hs2 : s ≤ 1048576) (hl : l.length ≤ 9223372036854775807) : laws_szField.f a b l s = some (if s < l.length then -1 else s - l.length) := by
  unfold laws_szField.f
  rw [szInt_is l s hs hs2 hl]
  by_cases h : s < (l.length : Int)
  · simp [h]
  · rw [if_neg h, Option.bind_some, if_neg (by omega)]
theorem szField_go (a b : Int) (l : List Int) (s : Int) (hs : 0 ≤ s) (hs2 : s ≤ 1048576) (hl : l.length ≤ 9223372036854775807) :
    (∃ r, laws_szField.f a b l s = some r ∧ r < 0) ∨ ∃ r, laws_szField.f a b l s = some r ∧ ¬ r < 0 ∧ 0 ≤ r ∧ r ≤ 1048576 ∧ l.length ≤ 1048576 := by
  rw [szField_at a b l s hs hs2 hl]
  by_cases h : s < (l.length : Int)
  · rw [if_pos h]
    exact .inl ⟨_, rfl, by omega⟩
  · rw [if_neg h]
    exact .inr ⟨_, rfl, by omega, by omega, by omega, by omega⟩
abbrev FF := S26
abbrev LF := S79
theorem rdf (xs : List FF) (i : Nat) : rd_T26 xs (i : Int) = xs.getD i z26 := by simp [rd_T26]
theorem rdf0 (xs : List FF) : rd_T26 xs 0 = xs.getD 0 z26 := rdf xs 0
theorem rdlf (xs : List LF) (i : Nat) : rd_T79 xs (i : Int) = xs.getD i z79 := by simp [rd_T79]
def ofF (f : LF) : FF := ⟨f.f0, f.f1, f.f2⟩
def memOk (l : List FF) (f : FF) : Bool := fieldOk f.f0 f.f1 f.f2 && (decide (f.f0 = (l.getD 0 z26).f0) && decide (f.f1 = (l.getD 0 z26).f1))
def ensOk (l : List FF) : Bool := inb (l.length : Int) 1 8 && l.all (memOk l)
theorem short_of (l : List FF) (h : ∀ x ∈ l, x.f2.length ≤ 9223372036854775806) (i : Nat) : (l.getD i z26).f2.length ≤ 9223372036854775806 := by
  by_cases hi : i < l.length
  · rw [getD_eq_get _ hi]
    exact h _ (List.getElem_mem hi)
  · simp [List.getD, List.getElem?_eq_none (show l.length ≤ i by omega), z26]
theorem l9Good_ev (l : List FF) (hl : l.length ≤ 9223372036854775806) (hs : ∀ x ∈ l, x.f2.length ≤ 9223372036854775806) : Ev (fun k => spec_l9Good.f k l) (ensOk l) := by
  unfold spec_l9Good.f ensOk
  rw [l1In_is]
  simp only [Option.bind_some]
  cases hb : inb (l.length : Int) 1 8 with
  | false => exact ev_ifn (by simp) (ev_some _)
  | true =>
    rw [Bool.true_and, ← rall_list l z26 (memOk l)]
    have hbd := inb_iff.1 hb
    refine ev_ifp rfl (allb_ev (fun k i => spec_l9Good.l0 k l (i : Int)) l.length (fun j => memOk l (l.getD j z26)) ?_ ?_ ?_)
    · intro i r hi hp h
      unfold memOk at hp
      rw [Bool.and_eq_true, Bool.and_eq_true, decide_eq_true_eq, decide_eq_true_eq] at hp
      refine ev_step (f := fun k => (spec_l2Good.f k (l.getD i z26).f0 (l.getD i z26).f1 (l.getD i z26).f2).bind fun t => if t = true then spec_l9Good.l0 k l ((i + 1 : Nat) : Int) else some false) (fun k => by
        simp only [spec_l9Good.l0, rdf, rdf0]
        rw [if_pos (by omega), if_pos (by omega), if_pos (show (0 : Int) < (l.length : Int) by omega), if_pos hp.2.1, if_pos hp.2.2, w64 (by omega) (by omega)]
        rfl) (ev_bind (l2Good_ev _ _ _ (short_of l hs i)) (by rw [hp.1]; exact ev_ifp rfl h))
    · intro i hi hp
      refine ev_step (f := fun k => (spec_l2Good.f k (l.getD i z26).f0 (l.getD i z26).f1 (l.getD i z26).f2).bind fun t => if t = true then (if (l.getD i z26).f0 = (l.getD 0 z26).f0 then (if (l.getD i z26).f1 = (l.getD 0 z26).f1 then spec_l9Good.l0 k l (wrap64 ((i : Int) + 1)) else some false) else some false) else some false) (fun k => by
        simp only [spec_l9Good.l0, rdf, rdf0]
        rw [if_pos (by omega), if_pos (by omega), if_pos (show (0 : Int) < (l.length : Int) by omega)]) (ev_bind (l2Good_ev _ _ _ (short_of l hs i)) ?_)
      unfold memOk at hp
      cases h1 : fieldOk (l.getD i z26).f0 (l.getD i z26).f1 (l.getD i z26).f2 with
      | false => exact ev_ifn (by simp) (ev_some _)
      | true =>
        refine ev_ifp rfl ?_
        rw [h1, Bool.true_and] at hp
        by_cases h2 : (l.getD i z26).f0 = (l.getD 0 z26).f0
        · refine ev_ifp h2 (ev_ifn ?_ (ev_some _))
          intro h3
          rw [decide_eq_true h2, decide_eq_true h3] at hp
          cases hp
        · exact ev_ifn h2 (ev_some _)
    · exact ev_step (f := fun _ => some true) (fun k => by
        simp only [spec_l9Good.l0]
        rw [if_neg (by omega)]) (ev_some _)
theorem sameShape_is (a b : Int) (l : List Int) (a' b' : Int) (l' : List Int) : impl_sameShape.f a b l a' b' l' = some (decide (a = a') && decide (b = b')) := by
  unfold impl_sameShape.f
  by_cases h : a = a'
  · rw [if_pos h, decide_eq_true h, Bool.true_and]
    congr 1
  · rw [if_neg h, decide_eq_false h, Bool.false_and]
theorem areAlike_ev (l : List FF) (hl : l.length ≤ 9223372036854775806) : Ev (fun k => impl_areAlike.f k l) (l.all (memOk l)) := by
  rw [← rall_list l z26 (memOk l)]
  refine allb_ev (fun k i => impl_areAlike.l0 k l l (l.length : Int) (i : Int)) l.length (fun j => memOk l (l.getD j z26)) ?_ ?_ ?_
  · intro i r hi hp h
    unfold memOk at hp
    rw [Bool.and_eq_true] at hp
    exact ev_step (fun k => by
      simp only [impl_areAlike.l0, rdf, rdf0, isValidField_is, sameShape_is, Option.bind_some]
      rw [if_pos (by omega), if_pos (by omega), if_pos (by omega), if_pos hp.1, if_pos (show (0 : Int) < (l.length : Int) by omega), if_pos hp.2, w64 (by omega) (by omega)]
      rfl) h
  · intro i hi hp
    unfold memOk at hp
    refine ev_step (f := fun _ => some false) (fun k => ?_) (ev_some _)
    simp only [impl_areAlike.l0, rdf, rdf0, isValidField_is, sameShape_is, Option.bind_some]
    rw [if_pos (by omega), if_pos (by omega), if_pos (by omega)]
    cases h1 : fieldOk (l.getD i z26).f0 (l.getD i z26).f1 (l.getD i z26).f2 with
    | false => rfl
    | true =>
      rw [h1, Bool.true_and] at hp
      rw [if_pos rfl, if_pos (show (0 : Int) < (l.length : Int) by omega), hp]
      rfl
  · exact ev_step (f := fun _ => some true) (fun k => by
      simp only [impl_areAlike.l0]
      rw [if_neg (by omega)]) (ev_some _)
theorem isValidEnsemble_ev (l : List FF) (hl : l.length ≤ 9223372036854775806) : Ev (fun k => impl_IsValidEnsemble.f k l) (ensOk l) := by
  unfold impl_IsValidEnsemble.f ensOk
  rw [within_is]
  simp only [Option.bind_some]
  cases hb : inb (l.length : Int) 1 8 with
  | false => exact ev_ifn (by simp) (ev_some _)
  | true =>
    rw [Bool.true_and]
    exact ev_ifp rfl (ev_bind (areAlike_ev l hl) (ev_some _))
def smallF (l : List LF) : Prop := l.length ≤ 1048576 ∧ ∀ x ∈ l, x.f2.length ≤ 1048576
theorem toFieldS_ev (xs : List LF) (hm : smallF xs) : Ev (fun k => laws_toFieldS.f k xs) (xs.map ofF) := by
  have hx := hm.1
  have h := copy_ev (fun k ys i => laws_toFieldS.l0 k xs ys (i : Int)) xs ofF z79 z26
    (fun i ys r hl hi h => by
      have hs : (xs.getD i z79).f2.length ≤ 1048576 := by
        rw [getD_eq_get _ hi]
        exact hm.2 _ (List.getElem_mem hi)
      refine ev_step (f := fun k => (laws_toField.f k (xs.getD i z79).f0 (xs.getD i z79).f1 (xs.getD i z79).f2).bind fun bt => laws_toFieldS.l0 k xs (ys.set i ⟨bt.1, bt.2.1, bt.2.2⟩) ((i + 1 : Nat) : Int)) (fun k => by
        have c : (i : Int) < (ys.length : Int) := by omega
        have e2 : wrap64 ((i : Int) + 1) = ((i + 1 : Nat) : Int) := w64 (by omega) (by omega)
        simp only [laws_toFieldS.l0, rdlf, c, e2, if_true]
        rw [if_pos (by omega), if_pos (by omega)]
        rfl) (ev_bind (toField_ev _ _ _ (by omega)) h))
    (fun ys hl => ev_step (f := fun _ => some ys) (fun k => by
      simp only [laws_toFieldS.l0]
      rw [if_neg (by omega)]) (ev_some _)) (List.replicate xs.length z26) (by simp)
  refine Ev.congr (fun k => ?_) h
  unfold laws_toFieldS.f
  rw [if_pos (by omega), if_pos (by omega)]
  rfl
theorem eqFieldS_self (xs : List FF) (hm : xs.length ≤ 9223372036854775806 ∧ ∀ x ∈ xs, x.f2.length ≤ 9223372036854775806) : Ev (fun k => laws_eqFieldS.f k xs xs) true := by
  have hx := hm.1
  have h := allb_ev (fun k i => laws_eqFieldS.l0 k xs xs (i : Int)) xs.length (fun _ => true)
    (fun i r hi _ h => by
      refine ev_step (f := fun k => (laws_eqField.f k (xs.getD i z26).f0 (xs.getD i z26).f1 (xs.getD i z26).f2 (xs.getD i z26).f0 (xs.getD i z26).f1 (xs.getD i z26).f2).bind fun t => if t = true then laws_eqFieldS.l0 k xs xs ((i + 1 : Nat) : Int) else some false) (fun k => by
        simp only [laws_eqFieldS.l0, rdf]
        rw [if_pos (by omega), if_pos (by omega), if_pos (by omega), w64 (by omega) (by omega)]
        rfl) (ev_bind (eqField_self _ _ _ (short_of xs hm.2 i)) (ev_ifp rfl h)))
    (fun i hi hp => by cases hp)
    (ev_step (f := fun _ => some true) (fun k => by
      simp only [laws_eqFieldS.l0]
      rw [if_neg (by omega)]) (ev_some _))
  rw [(rall_iff (fun _ => true) xs.length 0).2 (fun _ _ _ => rfl)] at h
  refine Ev.congr (fun k => ?_) h
  unfold laws_eqFieldS.f
  rw [if_pos rfl]
  rfl
theorem map_short {l : List LF} (h : smallF l) : (l.map ofF).length ≤ 9223372036854775806 ∧ ∀ x ∈ l.map ofF, x.f2.length ≤ 9223372036854775806 := by
  refine ⟨by have := h.1; simp; omega, fun x hx => ?_⟩
  obtain ⟨y, hy, rfl⟩ := List.mem_map.1 hx
  have := h.2 y hy
  show y.f2.length ≤ 9223372036854775806
  omega
theorem szFieldS_go (l : List LF) (s : Int) (hs : 0 ≤ s) (hs2 : s ≤ 1048576) (hl : l.length ≤ 9223372036854775807 ∧ ∀ x ∈ l, x.f2.length ≤ 9223372036854775807) :
    (∃ r, Ev (fun k => laws_szFieldS.f k l s) r ∧ r < 0) ∨ ∃ r, Ev (fun k => laws_szFieldS.f k l s) r ∧ ¬ r < 0 ∧ 0 ≤ r ∧ r ≤ 1048576 ∧ smallF l := by
  have hl1 := hl.1
  unfold laws_szFieldS.f
  rw [w64 (by omega) (by omega)]
  by_cases h : s - (l.length : Int) < 0
  · exact .inl ⟨_, ev_ifp h (ev_some _), by omega⟩
  · have key : ∀ d i (t : Int), l.length - i = d → i ≤ l.length → 0 ≤ t → t ≤ 1048576 →
        (∃ r, Ev (fun k => laws_szFieldS.l0 k l t (i : Int)) r ∧ r < 0) ∨ ∃ r, Ev (fun k => laws_szFieldS.l0 k l t (i : Int)) r ∧ ¬ r < 0 ∧ 0 ≤ r ∧ r ≤ 1048576 ∧ ∀ j, i ≤ j → j < l.length → (l.getD j z79).f2.length ≤ 1048576 := by
      intro d
      induction d with
      | zero =>
        intro i t h0 h1 h2 h3
        exact .inr ⟨t, ev_step (f := fun _ => some t) (fun k => by
          simp only [laws_szFieldS.l0]
          rw [if_neg (by omega)]) (ev_some _), by omega, h2, h3, fun j h4 h5 => by omega⟩
      | succ d ih =>
        intro i t h0 h1 h2 h3
        have hi : i < l.length := by omega
        have hx : (l.getD i z79).f2.length ≤ 9223372036854775807 := by
          rw [getD_eq_get _ hi]
          exact hl.2 _ (List.getElem_mem hi)
        rcases szField_go (l.getD i z79).f0 (l.getD i z79).f1 (l.getD i z79).f2 t h2 h3 hx with ⟨r, e, hr⟩ | ⟨r, e, hr, hr1, hr2, hsh⟩
        · exact .inl ⟨-1, ev_step (f := fun _ => some (-1)) (fun k => by
            simp only [laws_szFieldS.l0, rdlf]
            rw [if_pos (by omega), if_pos (by omega), e, Option.bind_some, if_pos hr]) (ev_some _), by omega⟩
        · have st : ∀ q, Ev (fun k => laws_szFieldS.l0 k l r ((i + 1 : Nat) : Int)) q → Ev (fun k => laws_szFieldS.l0 k l t (i : Int)) q := fun q hq => ev_step (fun k => by
            simp only [laws_szFieldS.l0, rdlf]
            rw [if_pos (by omega), if_pos (by omega), e, Option.bind_some, if_neg hr, w64 (by omega) (by omega)]
            rfl) hq
          rcases ih (i + 1) r (by omega) (by omega) hr1 hr2 with ⟨q, hq, hq0⟩ | ⟨q, hq, hq0, hq1, hq2, hq3⟩
          · exact .inl ⟨q, st q hq, hq0⟩
          · refine .inr ⟨q, st q hq, hq0, hq1, hq2, fun j h4 h5 => ?_⟩
            by_cases e2 : j = i
            · rw [e2]; exact hsh
            · exact hq3 j (by omega) h5
    rcases key l.length 0 (s - l.length) (by omega) (Nat.zero_le _) (by omega) (by omega) with ⟨r, hr, h0⟩ | ⟨r, hr, h0, h1, h2, h3⟩
    · exact .inl ⟨r, ev_ifn h hr, h0⟩
    · refine .inr ⟨r, ev_ifn h hr, h0, h1, h2, by omega, fun x hx => ?_⟩
      obtain ⟨j, hj, rfl⟩ := List.getElem_of_mem hx
      rw [← getD_eq_get z79 hj]
      exact h3 j (Nat.zero_le _) hj
def outStep (l : List FF) (m : Int) (i : Nat) (s : List FF) : List FF := if (i : Int) = m then s else s ++ [l.getD i z26]
def without (l : List FF) (m : Int) : List FF := iter (outStep l m) 0 l.length []
theorem without_of (l : List FF) (m : Int) : (without l m).length ≤ l.length ∧ ∀ x ∈ without l m, x ∈ l := by
  have h := iter_inv (outStep l m) (fun i s => s.length ≤ i ∧ ∀ x ∈ s, x ∈ l) l.length (fun i s hI hi => by
    unfold outStep
    split
    · exact ⟨by have := hI.1; omega, hI.2⟩
    · refine ⟨by rw [List.length_append, List.length_singleton]; have := hI.1; omega, fun x hx => ?_⟩
      rcases List.mem_append.1 hx with h | h
      · exact hI.2 x h
      · rw [List.mem_singleton.1 h, getD_eq_get _ hi]
        exact List.getElem_mem hi) l.length 0 [] (by omega) ⟨by simp, by simp⟩
  exact h
theorem ens_small {l : List FF} (ok : ensOk l = true) : (1 ≤ l.length ∧ l.length ≤ 8) ∧ ∀ i, i < l.length → (l.getD i z26).f2.length ≤ 64 := by
  unfold ensOk at ok
  rw [Bool.and_eq_true, inb_iff, List.all_eq_true] at ok
  refine ⟨by omega, fun i hi => ?_⟩
  rw [getD_eq_get _ hi]
  have h := ok.2 _ (List.getElem_mem hi)
  unfold memOk at h
  rw [Bool.and_eq_true, fieldOk_iff] at h
  exact h.1.len64.2
theorem wm_own (a b : Int) (l : List Int) (hl : l.length < 17592186044416) : spec_l2Own.f a b l = some (a, b, l) ∧ impl_cloneField.f a b l = some (a, b, l) := by
  unfold spec_l2Own.f impl_cloneField.f spec_l1Own.f slices_Clone_int_int.f
  constructor
  · rw [Option.bind_some, if_pos (by simpa using hl)]
    rfl
  · rw [if_pos hl]
    rfl
theorem withoutMember_both (l : List FF) (m : Int) (hl : l.length ≤ 9223372036854775806) (hs : ∀ x ∈ l, x.f2.length ≤ 9223372036854775806) :
    ∃ r : List FF × Bool, Ev (fun k => spec_WithoutMember.f k l m) r ∧ Ev (fun k => impl_WithoutMember.f k l m) r ∧ (r = ([], false) ∨ (r = (without l m, true) ∧ ensOk l = true ∧ 0 ≤ m ∧ m < l.length ∧ 2 ≤ l.length)) := by
  have g1 := l9Good_ev l hl hs
  have g2 := isValidEnsemble_ev l hl
  have no1 : Ev (fun k => spec_WithoutMember.j0 k l m [] true) ([], false) := ev_step (fun k => spec_WithoutMember.j0.eq_2 _ _ _ _ k) (ev_ifp rfl (ev_some _))
  have no2 : Ev (fun k => impl_WithoutMember.j0 k l m true) ([], false) := ev_step (fun k => impl_WithoutMember.j0.eq_2 _ _ _ k) (ev_ifp rfl (ev_some _))
  unfold spec_WithoutMember.f impl_WithoutMember.f
  cases ok : ensOk l with
  | false =>
    rw [ok] at g1 g2
    exact ⟨([], false), ev_bind (ev_some _) (ev_bind g1 (ev_ifn (by simp) no1)), ev_bind g2 (ev_ifn (by simp) no2), .inl rfl⟩
  | true =>
    rw [ok] at g1 g2
    obtain ⟨hn, h64⟩ := ens_small ok
    have ew : wrap64 ((l.length : Int) - 1) = (l.length : Int) - 1 := w64 (by omega) (by omega)
    rw [ew]
    cases hb : inb m 0 ((l.length : Int) - 1) with
    | false => exact ⟨([], false), ev_bind (ev_some _) (ev_bind g1 (ev_ifp rfl (ev_bind (r := false) (ev_const (by rw [l1In_is, hb])) (ev_ifn (by simp) no1)))), ev_bind g2 (ev_ifp rfl (ev_bind (r := false) (ev_const (by rw [within_is, hb])) (ev_ifn (by simp) no2))), .inl rfl⟩
    | true =>
      have hbi := inb_iff.1 hb
      have c1 : spec_l1In.f m 0 ((l.length : Int) - 1) = some true := by rw [l1In_is, hb]
      have c2 : impl_within.f m 0 ((l.length : Int) - 1) = some true := by rw [within_is, hb]
      by_cases h1 : l.length = 1
      · have e1 : ((l.length : Int) == 1) = true := by rw [beq_iff_eq]; omega
        rw [e1]
        exact ⟨([], false), ev_bind (ev_some _) (ev_bind g1 (ev_ifp rfl (ev_bind (ev_const c1) (ev_ifp rfl no1)))), ev_bind g2 (ev_ifp rfl (ev_bind (ev_const c2) (ev_ifp rfl no2))), .inl rfl⟩
      · have e1 : ((l.length : Int) == 1) = false := by rw [beq_eq_false_iff_ne]; omega
        rw [e1]
        have l1 : Ev (fun k => spec_WithoutMember.l0 k l m [] 0) (without l m, true) := by
          have h := loop_ev (fun k (s : List FF) i => spec_WithoutMember.l0 k l m s (i : Int)) l.length (outStep l m) (fun s => (s, true)) (fun i s => s.length ≤ i)
            (fun i s r hI hi hr => by
              have en := Aside0.mk (show wrap64 ((i : Int) + 1) = ((i + 1 : Nat) : Int) by rw [w64 (by omega) (by omega)]; rfl)
              have hi64 := h64 i hi
              refine ev_step (fun k => spec_WithoutMember.l0.eq_2 _ _ _ _ k) (ev_ifp (by omega) ?_)
              rw [en.out]
              unfold outStep at hr
              by_cases he : (i : Int) = m
              · rw [if_pos he] at hr
                exact ev_ifp he hr
              · rw [if_neg he] at hr
                refine ev_ifn he (ev_ifp (by omega) ?_)
                rw [rdf]
                exact ev_bind (ev_const (wm_own _ _ _ (by omega)).1) (ev_ifp (by omega) hr))
            (fun i s hI hi => by unfold outStep; split; (· omega); rw [List.length_append, List.length_singleton]; omega)
            (fun s hI => ev_step (fun k => spec_WithoutMember.l0.eq_2 _ _ _ _ k) (ev_ifn (by omega) (ev_some _))) 0 [] (Nat.zero_le _) (by simp)
          rw [Nat.sub_zero] at h
          exact h
        have l2 : Ev (fun k => impl_WithoutMember.l0 k m [] l (l.length : Int) 0) (without l m, true) := by
          have h := loop_ev (fun k (s : List FF) i => impl_WithoutMember.l0 k m s l (l.length : Int) (i : Int)) l.length (outStep l m) (fun s => (s, true)) (fun i s => s.length ≤ i)
            (fun i s r hI hi hr => by
              have en := Aside0.mk (show wrap64 ((i : Int) + 1) = ((i + 1 : Nat) : Int) by rw [w64 (by omega) (by omega)]; rfl)
              have hi64 := h64 i hi
              refine ev_step (fun k => impl_WithoutMember.l0.eq_2 _ _ _ _ _ k) (ev_ifp (by omega) (ev_ifp (by omega) (ev_ifp (by omega) ?_)))
              rw [en.out]
              unfold outStep at hr
              by_cases he : (i : Int) = m
              · rw [if_pos he] at hr
                exact ev_ifp he hr
              · rw [if_neg he] at hr
                refine ev_ifn he ?_
                rw [rdf]
                exact ev_bind (ev_const (wm_own _ _ _ (by omega)).2) (ev_ifp (by omega) hr))
            (fun i s hI hi => by unfold outStep; split; (· omega); rw [List.length_append, List.length_singleton]; omega)
            (fun s hI => ev_step (fun k => impl_WithoutMember.l0.eq_2 _ _ _ _ _ k) (ev_ifn (by omega) (ev_some _))) 0 [] (Nat.zero_le _) (by simp)
          rw [Nat.sub_zero] at h
          exact h
        exact ⟨(without l m, true), ev_bind (ev_some _) (ev_bind g1 (ev_ifp rfl (ev_bind (ev_const c1) (ev_ifp rfl (ev_step (fun k => spec_WithoutMember.j0.eq_2 _ _ _ _ k) (ev_ifn (by simp) l1)))))), ev_bind g2 (ev_ifp rfl (ev_bind (ev_const c2) (ev_ifp rfl (ev_step (fun k => impl_WithoutMember.j0.eq_2 _ _ _ k) (ev_ifn (by simp) l2))))), .inr ⟨rfl, rfl, by omega, by omega, by omega⟩⟩
def cnt (a : Int) (n : Nat) : List Int := (List.range n).map (fun i : Nat => a + (i : Int))
theorem cnt_length (a : Int) (n : Nat) : (cnt a n).length = n := by simp [cnt]
theorem cnt_getD (a : Int) (n i : Nat) (h : i < n) : (cnt a n).getD i 0 = a + i := by simp [cnt, List.getD, h]
theorem markIntS_ev (l : List Int) (a : Int) (h0 : 0 ≤ a) (h1 : a + l.length ≤ 9223372036854775806) : Ev (fun k => laws_markIntS.f k l a) (a + l.length, cnt a l.length) := by
  have h := loop_ev (fun k s i => laws_markIntS.l0 k s (a + (i : Int)) (i : Int)) l.length (fun i s => s.set i (a + i)) (fun s => (a + (l.length : Int), s))
    (fun i s => s.length = l.length ∧ ∀ j, j < i → s.getD j 0 = a + j)
    (fun i s r hI hi h => ev_step (fun k => by
      show laws_markIntS.l0 (k + 1) s (a + (i : Int)) (i : Int) = laws_markIntS.l0 k (s.set i (a + i)) (a + ((i + 1 : Nat) : Int)) ((i + 1 : Nat) : Int)
      have := hI.1
      simp only [laws_markIntS.l0]
      rw [if_pos (by omega), if_pos (by omega), w64 (by omega) (by omega), w64 (by omega) (by omega)]
      simp [Int.add_assoc]) h)
    (fun i s hI hi => ⟨by simp [hI.1], fun j hj => by
      by_cases e : j = i
      · subst e
        have := hI.1
        simp [List.getD, List.getElem?_set_self (show j < s.length by omega)]
      · have := hI.2 j (by omega)
        rw [← this]
        simp [List.getD, List.getElem?_set_ne (Ne.symm e)]⟩)
    (fun s hI => ev_step (f := fun _ => some (a + (l.length : Int), s)) (fun k => by
      have := hI.1
      simp only [laws_markIntS.l0]
      rw [if_neg (by omega)]) (ev_some _)) 0 l (Nat.zero_le _) ⟨rfl, fun j hj => by omega⟩
  have e : iter (fun i (s : List Int) => s.set i (a + i)) 0 (l.length - 0) l = cnt a l.length := by
    have hi := iter_inv (fun i (s : List Int) => s.set i (a + i)) (fun i s => s.length = l.length ∧ ∀ j, j < i → s.getD j 0 = a + j) l.length
      (fun i s hI hi => ⟨by simp [hI.1], fun j hj => by
        by_cases e : j = i
        · subst e
          have := hI.1
          simp [List.getD, List.getElem?_set_self (show j < s.length by omega)]
        · have := hI.2 j (by omega)
          rw [← this]
          simp [List.getD, List.getElem?_set_ne (Ne.symm e)]⟩) (l.length - 0) 0 l (by omega) ⟨rfl, fun j hj => by omega⟩
    exact eq_index 0 (by rw [hi.1, cnt_length]) (fun j hj => by rw [hi.2 j (by have := hi.1; omega), cnt_getD a _ j (by have := hi.1; omega)])
  rw [e] at h
  refine Ev.congr (fun k => ?_) h
  unfold laws_markIntS.f
  simp
theorem heldIntS_ev (a : Int) (n : Nat) (h0 : 0 ≤ a) (h1 : a + n ≤ 9223372036854775806) : Ev (fun k => laws_heldIntS.f k (cnt a n) a) (a + n) := by
  have h := loop_ev (σ := Unit) (fun k _ i => laws_heldIntS.l0 k (cnt a n) (a + (i : Int)) (i : Int)) n (fun _ _ => ()) (fun _ => a + (n : Int)) (fun _ _ => True)
    (fun i s r _ hi h => ev_step (fun k => by
      show laws_heldIntS.l0 (k + 1) (cnt a n) (a + (i : Int)) (i : Int) = laws_heldIntS.l0 k (cnt a n) (a + ((i + 1 : Nat) : Int)) ((i + 1 : Nat) : Int)
      simp only [laws_heldIntS.l0, cnt_length, rd_nat, cnt_getD a n i hi]
      rw [if_pos (by omega), if_pos (by omega), if_pos trivial, w64 (by omega) (by omega), w64 (by omega) (by omega)]
      simp [Int.add_assoc]) h)
    (fun _ _ _ _ => trivial)
    (fun _ _ => ev_step (f := fun _ => some (a + (n : Int))) (fun k => by
      simp only [laws_heldIntS.l0, cnt_length]
      rw [if_neg (by omega)]) (ev_some _)) 0 () (Nat.zero_le _) trivial
  refine Ev.congr (fun k => ?_) h
  unfold laws_heldIntS.f
  simp
end Go.Proofs.Ythekngnkajjhnaa.Pure
namespace Go.Proofs.Ythekngnkajjhnaa.Pure
set_option linter.unusedVariables false
set_option linter.unusedSimpArgs false
open Go.RowKit Go.Proofs.YthekngnkajjhnaaW.PrintWords Go.Proofs.YthekngnkajjhnaaW.PrintLast Go.Proofs.YthekngnkajjhnaaW.PrintMore
def tab {α : Type} (n : Nat) (q : Nat → α) : List α := (List.range n).map q
theorem tab_length {α : Type} (n : Nat) (q : Nat → α) : (tab n q).length = n := by simp [tab]
theorem tab_getD {α : Type} (n : Nat) (q : Nat → α) (z : α) {i : Nat} (h : i < n) : (tab n q).getD i z = q i := by simp [tab, List.getD, h]
theorem iter_set_tab {α : Type} (z : α) (q : Nat → α) (n : Nat) (s : List α) (hs : s.length = n) : iter (fun i (s : List α) => s.set i (q i)) 0 n s = tab n q := by
  have hi := iter_inv (fun i (s : List α) => s.set i (q i)) (fun i s => s.length = n ∧ ∀ j, j < i → s.getD j z = q j) n
    (fun i s hI hi => ⟨by simp [hI.1], fun j hj => by
      by_cases e : j = i
      · subst e
        have := hI.1
        simp [List.getD, List.getElem?_set_self (show j < s.length by omega)]
      · rw [← hI.2 j (by omega)]
        simp [List.getD, List.getElem?_set_ne (Ne.symm e)]⟩) n 0 s (by omega) ⟨hs, fun j hj => by omega⟩
  exact eq_index z (by rw [hi.1, tab_length]) (fun j hj => by rw [hi.2 j (by have := hi.1; omega), tab_getD _ _ z (by have := hi.1; omega)])
end Go.Proofs.Ythekngnkajjhnaa.Pure
namespace Go.Proofs.Ythekngnkajjhnaa.Pure
set_option linter.unusedVariables false
set_option linter.unusedSimpArgs false
open Go.RowKit Go.Proofs.Ythekngnkajjhnaa.P Go.Proofs.YthekngnkajjhnaaW.PrintWords Go.Proofs.YthekngnkajjhnaaW.PrintLast
def mkAt (l : List FF) : Nat → Int
  | 0 => 1
  | i + 1 => mkAt l i + 1 + 1 + ((l.getD i z26).f2.length : Int)
def mkEl (l : List FF) (i : Nat) : FF := ⟨mkAt l i, mkAt l i + 1, cnt (mkAt l i + 1 + 1) (l.getD i z26).f2.length⟩
theorem mkAt_bd {l : List FF} (hs : ∀ i, (l.getD i z26).f2.length ≤ 1048576) : ∀ i : Nat, 1 ≤ mkAt l i ∧ mkAt l i ≤ 1 + 1048578 * (i : Int)
  | 0 => by unfold mkAt; omega
  | i + 1 => by
    have h := mkAt_bd hs i
    have := hs i
    unfold mkAt
    omega
theorem markHeldFieldS (l : List FF) (hl : l.length ≤ 1048576) (hs : ∀ x ∈ l, x.f2.length ≤ 1048576) : ∃ r : Int × List FF, Ev (fun k => laws_markFieldS.f k l 1) r ∧ Ev (fun k => laws_heldFieldS.f k r.2 1) r.1 ∧ 0 ≤ r.1 := by
  have hsz : ∀ i, (l.getD i z26).f2.length ≤ 1048576 := fun i => by
    by_cases hi : i < l.length
    · rw [getD_eq_get _ hi]
      exact hs _ (List.getElem_mem hi)
    · simp [List.getD, List.getElem?_eq_none (show l.length ≤ i by omega), z26]
  have hb := mkAt_bd hsz
  have h1 : Ev (fun k => laws_markFieldS.l0 k l 1 0) (mkAt l l.length, tab l.length (mkEl l)) := by
    have h := loop_ev (fun k (s : List FF) i => laws_markFieldS.l0 k s (mkAt l i) (i : Int)) l.length (fun i s => s.set i (mkEl l i)) (fun s => (mkAt l l.length, s)) (fun i s => s.length = l.length ∧ ∀ j, i ≤ j → s.getD j z26 = l.getD j z26)
      (fun i s r hI hi hr => by
        obtain ⟨i1, i2⟩ := hI
        have b := hb i
        have bl := hsz i
        have e0 : rd_T26 s (i : Int) = l.getD i z26 := by rw [rdf, i2 i (Nat.le_refl _)]
        have e1 := Aside0.mk (show wrap64 (mkAt l i + 1) = mkAt l i + 1 from w64 (by omega) (by omega))
        have e2 := Aside0.mk (show wrap64 (mkAt l i + 1 + 1) = mkAt l i + 1 + 1 from w64 (by omega) (by omega))
        have e3 := Aside0.mk (show wrap64 ((i : Int) + 1) = ((i + 1 : Nat) : Int) by rw [w64 (by omega) (by omega)]; rfl)
        refine ev_step (fun k => laws_markFieldS.l0.eq_2 _ _ _ k) (ev_ifp (by omega) (ev_ifp (by omega) ?_))
        rw [e0, e1.out, e2.out, e3.out, Int.toNat_natCast]
        exact ev_bind (markIntS_ev (l.getD i z26).f2 (mkAt l i + 1 + 1) (by omega) (by omega)) hr)
      (fun i s hI hi => ⟨by rw [List.length_set]; exact hI.1, fun j hj => by rw [List.getD, List.getElem?_set_ne (by omega)]; exact hI.2 j (by omega)⟩)
      (fun s hI => ev_step (fun k => laws_markFieldS.l0.eq_2 _ _ _ k) (ev_ifn (by have := hI.1; omega) (ev_some _))) 0 l (Nat.zero_le _) ⟨rfl, fun _ _ => rfl⟩
    rw [Nat.sub_zero, iter_set_tab z26 (mkEl l) l.length l rfl] at h
    exact h
  have h2 : Ev (fun k => laws_heldFieldS.l0 k (tab l.length (mkEl l)) 1 0) (mkAt l l.length) := by
    have h := loop_ev (σ := Unit) (fun k _ i => laws_heldFieldS.l0 k (tab l.length (mkEl l)) (mkAt l i) (i : Int)) l.length (fun _ _ => ()) (fun _ => mkAt l l.length) (fun _ _ => True)
      (fun i s r _ hi hr => by
        have b := hb i
        have bl := hsz i
        have e0 : rd_T26 (tab l.length (mkEl l)) (i : Int) = mkEl l i := by rw [rdf, tab_getD _ _ _ hi]
        have e1 := Aside0.mk (show wrap64 (mkAt l i + 1) = mkAt l i + 1 from w64 (by omega) (by omega))
        have e2 := Aside0.mk (show wrap64 (mkAt l i + 1 + 1) = mkAt l i + 1 + 1 from w64 (by omega) (by omega))
        have e3 := Aside0.mk (show wrap64 ((i : Int) + 1) = ((i + 1 : Nat) : Int) by rw [w64 (by omega) (by omega)]; rfl)
        refine ev_step (fun k => laws_heldFieldS.l0.eq_2 _ _ _ k) (ev_ifp (by rw [tab_length]; omega) (ev_ifp (by omega) ?_))
        rw [e0, e1.out, e2.out, e3.out]
        exact ev_ifp rfl (ev_ifp rfl (ev_bind (heldIntS_ev (mkAt l i + 1 + 1) (l.getD i z26).f2.length (by omega) (by omega)) (ev_ifn (by omega) hr)))
        )
      (fun _ _ _ _ => trivial)
      (fun s _ => ev_step (fun k => laws_heldFieldS.l0.eq_2 _ _ _ k) (ev_ifn (by rw [tab_length]; omega) (ev_some _))) 0 () (Nat.zero_le _) trivial
    exact h
  exact ⟨(mkAt l l.length, tab l.length (mkEl l)), h1, h2, by have := hb l.length; dsimp only; omega⟩
theorem small_map {l : List LF} (h : smallF l) : (l.map ofF).length ≤ 1048576 ∧ ∀ x ∈ l.map ofF, x.f2.length ≤ 1048576 := by
  refine ⟨by have := h.1; simp; omega, fun x hx => ?_⟩
  obtain ⟨y, hy, rfl⟩ := List.mem_map.1 hx
  exact h.2 y hy
theorem wm_small {l : List FF} {m : Int} {r1 : List FF} {g : Bool} {P : Prop} (h : l.length ≤ 1048576 ∧ ∀ x ∈ l, x.f2.length ≤ 1048576) (hr : (r1, g) = ([], false) ∨ ((r1, g) = (without l m, true) ∧ P)) : r1.length ≤ 1048576 ∧ ∀ x ∈ r1, x.f2.length ≤ 1048576 := by
  rcases hr with e | ⟨e, _⟩
  · obtain ⟨rfl, rfl⟩ := Prod.mk.inj e
    exact ⟨by simp, by simp⟩
  · obtain ⟨rfl, rfl⟩ := Prod.mk.inj e
    have hw := without_of l m
    exact ⟨by have := h.1; omega, fun x hx => h.2 x (hw.2 x hx)⟩
theorem FnExactWithoutMember : laws_FnExactWithoutMember.Pure := by
  intro l m hl hy hm
  refine Ev.rounds ?_
  unfold laws_FnExactWithoutMember.f
  rcases szFieldS_go l 1048576 (by first | omega | (dsimp only; omega) | (simp; omega)) (by first | omega | (dsimp only; omega) | (simp; omega)) (⟨hl.1, fun x hx => (hl.2 x hx).2.2.1⟩) with ⟨rz1, ez1, hz1⟩ | ⟨rz1, ez1, hz1, hza1, hzb1, hlz1⟩
  · exact ev_bind ez1 (ev_ifp hz1 (ev_some _))
  refine ev_bind ez1 ?_
  refine ev_ifn hz1 ?_
  have hs0 := map_short hlz1; have hsm := small_map hlz1; obtain ⟨⟨mk, ml⟩, hmk, _, hmk0⟩ := markHeldFieldS (l.map ofF) hsm.1 hsm.2; have hmk1 : 0 ≤ mk := hmk0; obtain ⟨⟨r1, g⟩, hs, hi, hr⟩ := withoutMember_both (l.map ofF) m hs0.1 hs0.2; have hr0 : r1.length ≤ 1048576 ∧ ∀ x ∈ r1, x.f2.length ≤ 1048576 := wm_small hsm hr; have hr2 : r1.length ≤ 9223372036854775806 ∧ ∀ x ∈ r1, x.f2.length ≤ 9223372036854775806 := ⟨by have := hr0.1; omega, fun x hx => by have := hr0.2 x hx; omega⟩; obtain ⟨⟨mk2, ml2⟩, hmk2, hmh, hmk3⟩ := markHeldFieldS r1 hr0.1 hr0.2; have hmk4 : 0 ≤ mk2 := hmk3; have hmh2 : Ev (fun k => laws_heldFieldS.f k ml2 1) mk2 := hmh
  refine ev_bind (toFieldS_ev _ ‹_›) ?_
  refine ev_bind hs ?_
  refine ev_bind (toFieldS_ev _ ‹_›) ?_
  refine ev_bind hi ?_
  refine ev_bind (eqFieldS_self _ ‹_›) ?_
  refine ev_ifp rfl ?_
  refine ev_step (fun k => laws_FnExactWithoutMember.j0.eq_2 _ _ _ _ _ _ _ _ k) ?_
  refine ev_ifn (by simp) ?_
  refine ev_bind (toFieldS_ev _ ‹_›) ?_
  refine ev_bind (eqFieldS_self _ ‹_›) ?_
  refine ev_ifp rfl ?_
  refine ev_bind ‹_› ?_
  refine ev_ifn (by first | (simp; done) | (simp; omega) | omega) ?_
  refine ev_bind (eqFieldS_self _ ‹_›) ?_
  refine ev_ifp rfl ?_
  refine ev_step (fun k => laws_FnExactWithoutMember.j1.eq_2 _ _ _ _ _ _ k) ?_
  refine ev_ifn (by simp) ?_
  refine ev_bind ‹_› ?_
  refine ev_bind ‹_› ?_
  refine ev_ifn (by first | (simp; done) | (simp; omega) | omega) ?_
  refine ev_ifp (by first | rfl | (simp; done)) ?_
  refine ev_bind (toFieldS_ev _ ‹_›) ?_
  refine ev_bind hi ?_
  refine ev_bind (eqFieldS_self _ ‹_›) ?_
  refine ev_ifp rfl ?_
  refine ev_step (fun k => laws_FnExactWithoutMember.j2.eq_2 _ _ _ k) ?_
  refine ev_ifn (by simp) ?_
  refine ev_bind ‹_› ?_
  refine ev_ifn (by first | (simp; done) | (simp; omega) | omega) ?_
  refine ev_ifp (by first | rfl | (simp; done)) ?_
  exact ev_some _
end Go.Proofs.Ythekngnkajjhnaa.Pure
namespace Go.Proofs.Ythekngnkajjhnaa.fnExactWithoutMember
open Go.ChangeShapes Go.WideShapes Go.ChangeAt Go.RowKit Go.Proofs.Ythekngnkajjhnaa.Open Go.Proofs.Ythekngnkajjhnaa.P Go.Proofs.YthekngnkajjhnaaW.PrintWords
open Go.ChangeMaps (open_string shut_string)
set_option linter.unusedVariables false
theorem own : ownKnob Try.prog.godebug = none := by kernel_rfl
theorem laidOut : laidOutB Try.prog = true := by kernel_rfl
set_option maxRecDepth 100000 in
theorem lifted (os : Os) (started : os.Started) (H : Type) (enc : TypeId × Value → H) :
    ReturnsInHanded {} Try.checked os 12 .any (Rows.fnExactWithoutMemberSpec.pre6 enc Try.prog Try.f12 Rows.fnExactWithoutMemberRow.domain false) (Rows.fnExactWithoutMemberSpec.post enc Try.prog Try.f12 false true false false) := by
  refine returnsInHanded_of_change_sized (C := Try.checked) own started (by kernel_rfl) Try.func12
    (ChangeSpec.witness6 (enc := enc) (C := Try.checked) false ⟨#[], #[.slice none 0 0, .int .i64 0], []⟩ 8 (by kernel_rfl) (by kernel_rfl) (by kernel_rfl) (by kernel_rfl)) ?_
  intro W base args ds gs before hval0 hW hcnd hsz0 _
  have hsz : (DataW.weightsEach Try.prog (Try.f12.params.toList ++ Rows.fnExactWithoutMemberSpec.plain.varTypes Try.prog) (ds ++ gs)).all (· ≤ reachBytes) = true := hsz0
  have hval : ∀ (j : Nat) t v, Try.f12.params[j]? = some t → args[j]? = some v → Value.okWide Try.prog W .any base t v := hval0
  have hW' := hW
  obtain ⟨p, q, hA0, hV, rfl, hfz, hnd⟩ := hW
  have hA : DataW.TrodAll enc Try.prog W 0 (fun _ => true) true Try.f12.params.toList args.toList ds p := hA0
  rw [Try.params12] at hA hval hsz
  obtain ⟨v0, vs0, d0, ds0, p0, q0, hargs, rfl, rfl, h0, r0⟩ := trodAll_cons hA
  obtain ⟨v1, vs1, d1, ds1, p1, q1, rfl, rfl, rfl, h1, r1⟩ := trodAll_cons r0
  obtain ⟨rfl, rfl, rfl⟩ := trodAll_nil r1
  obtain rfl : args = #[v0, v1] := by cases args; simp_all
  obtain ⟨rfl, rfl⟩ := trodVars_none hV
  obtain ⟨A0, len0, c0, rfl⟩ := okWide_slice Try.underlying85 (hval 0 85 v0 rfl rfl)
  have k0 := h0
  have lt0 : ∀ x ∈ p0, x.block < W.heap.size := by obtain ⟨m, hm⟩ := k0; exact DataW.trod_lt m _ _ _ hm
  have y0 : len0 * 40 ≤ 140737488351232 := sized_any hsz (j := 0) (t := 85) rfl rfl Try.underlying85 (by kernel_rfl) h0
  obtain ⟨l0, rfl, hc0, hr0, w0⟩ := slice_at (opens_slice Try.underlying85 (by kernel_rfl) opens79) h0
  obtain ⟨a1, rfl, rfl, rfl, w1⟩ := open_int Try.underlying3 (hval 1 3 v1 rfl rfl) h1
  clear hA0 hval0 hsz0 hsz
  obtain ⟨k, hp⟩ := Pure.FnExactWithoutMember l0 a1 w0 y0 w1
  refine (laws_FnExactWithoutMember.calls k A0 c0 l0 a1 true W hr0 hc0 hp).mono fun e W' ⟨he, bel0⟩ => ?_
  have bel : Below W.heap.size W W' := bel0
  subst he
  exact ⟨_, rfl, _, _, _, [], _, [], hW', trodAll_mk1 (shut_bool Try.underlying4 _), (trodAll_cons_mk (Below.trod laidOut (by kernel_rfl) (of_decide_eq_true (by kernel_rfl)) k0 bel lt0) (trodAll_cons_mk (shut_int Try.underlying3 w1) trodAll_mk0)), rfl, bel.frame _, fun h => by cases h⟩
set_option maxHeartbeats 4000000 in
set_option maxRecDepth 100000 in
theorem closed : joinedFacts Try.prog 12 Try.f12 Rows.fnExactWithoutMemberSpec Rows.fnExactWithoutMemberRow = true := by
  unfold joinedFacts
  repeat' (with_reducible refine Bool.and_eq_true_iff.2 ⟨?_, ?_⟩)
  all_goals (as_aux_lemma => kernel_rfl)
theorem over : Rows.fnExactWithoutMemberRow.holds Try.pinned (OpenSpec.ofChange Rows.fnExactWithoutMemberSpec) :=
  OpenClaim.holds_of_wide 12 Try.f12 rfl rfl rfl rfl rfl rfl rfl ⟨rfl, rfl, rfl, rfl, rfl⟩ rfl rfl rfl rfl rfl (by kernel_rfl) Try.func12 closed
    (of_decide_eq_true (by kernel_rfl)) (by unfold Func.isWrapper; first | (rw [if_pos (by decide +kernel)]; kernel_rfl) | (rw [if_neg (by decide +kernel)]; exact ⟨rfl, rfl⟩))
    (fun os started H enc _ => lifted os started H enc)
theorem proved : Rows.FnExactWithoutMemberSaid := over
#print axioms proved
end Go.Proofs.Ythekngnkajjhnaa.fnExactWithoutMember
namespace Go.Proofs.Ythekngnkajjhnaa
theorem fnExactWithoutMember_holds : Rows.FnExactWithoutMemberSaid := fnExactWithoutMember.proved
end Go.Proofs.Ythekngnkajjhnaa
