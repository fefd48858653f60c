/- Texts of the claim FnRegions, merged: part 7 of 7: the program's and the reference's functions as Lean functions, the walks that show it, and plain lemmas; no conditions. -/
import Derived.Test.YtnpclamoabcbgaaKFnRegions6
import Derived.Test.YtnpclamoabcbgaaKFnRegions2
import Derived.Test.YtnpclamoabcbgaaKFnRegions3
import Derived.Test.YtnpclamoabcbgaaKFnRegions4
import Derived.Test.YtnpclamoabcbgaaRows
import Derived.WalkKit
import Derived.ProofKit
import Derived.OpenShut
import Derived.ShutString
import Derived.ChangeOld
import Derived.Below
import Derived.SizedLaws
namespace Go.Proofs.Ytnpclamoabcbgaa.Pure
set_option linter.unusedVariables false
set_option linter.unusedSimpArgs false
open Go Go.RowKit Go.Proofs.Ytnpclamoabcbgaa.P Go.Proofs.YtnpclamoabcbgaaW.PrintWords Go.Proofs.YtnpclamoabcbgaaW.PrintLast
theorem region_j1 {l : List Int} (hl : Code l) (i s : Int) (h0 : 0 ≤ i) (h1 : i ≤ 90000000) (w h : Int) (c : List Int) :
    ∃ r : Int × Int × List Int × Int × Int, Ev (fun k => spec_l1Cur_region.j1 k w h c l i s) r ∧ r.2.2.1 = c ∧ 0 ≤ r.2.2.2.1 ∧ r.2.2.2.1 ≤ i + 4 := by
  obtain ⟨b, i1, s1, e1, b1, b2⟩ := one_at hl i s 24 h0 (by omega)
  cases b with
  | true =>
    obtain ⟨x, i2, s2, e2, _, b3, b4⟩ := among_at hl i1 s1 [0, 9, 8] (by simp) (by omega) (by omega)
    exact ⟨(x, h, c, i2, s2), ev_step (fun k => spec_l1Cur_region.j1.eq_2 _ _ _ _ _ _ k) (ev_bind (ev_const e1) (ev_ifp rfl (ev_bind (ev_const e2) (ev_some _)))), rfl, by show 0 ≤ i2; omega, by show i2 ≤ _; omega⟩
  | false =>
    exact ⟨(w, h, c, i1, s1), ev_step (fun k => spec_l1Cur_region.j1.eq_2 _ _ _ _ _ _ k) (ev_bind (ev_const e1) (ev_ifn (by simp) (ev_some _))), rfl, by show 0 ≤ i1; omega, by show i1 ≤ _; omega⟩
theorem region_at {l : List Int} (hl : Code l) (i s : Int) (h0 : 0 ≤ i) (h1 : i ≤ 80000000) :
    ∃ r : Int × Int × List Int × Int × Int, Ev (fun k => spec_l1Cur_region.f k l i s) r ∧ r.2.2.1.length ≤ 26 ∧ 0 ≤ r.2.2.2.1 ∧ r.2.2.2.1 ≤ i + 200 := by
  obtain ⟨x1, i1, s1, e1, p1, q1, b1, b2⟩ := pick_at hl i s 5 h0 (by omega)
  obtain ⟨x2, i2, s2, e2, p2, q2, b3, b4⟩ := pick_at hl i1 s1 5 (by omega) (by omega)
  have q1' := q1 (by omega)
  have q2' := q2 (by omega)
  obtain ⟨W, hW⟩ := Int.eq_ofNat_of_zero_le (show 0 ≤ 1 + x1 by omega)
  obtain ⟨H, hH⟩ := Int.eq_ofNat_of_zero_le (show 0 ≤ 1 + x2 by omega)
  have hm : W * H ≤ 25 := Nat.mul_le_mul (show W ≤ 5 by omega) (show H ≤ 5 by omega)
  have ew := Aside0.mk (show wrap64 ((W : Int) * (H : Int)) = ((W * H : Nat) : Int) by rw [← Int.natCast_mul, w64n (by omega)])
  obtain ⟨r, hr, hp⟩ := ends_inv (fun k (st : Int × Int × List Int) j => spec_l1Cur_region.l0 k (W : Int) (H : Int) st.2.2 (j : Int) l st.1 st.2.1) (W * H) (fun j st => i2 ≤ st.1 ∧ st.1 ≤ i2 + 4 * (j : Int) ∧ st.2.2.length ≤ j)
    (fun r => r.2.2.1.length ≤ 26 ∧ 0 ≤ r.2.2.2.1 ∧ r.2.2.2.1 ≤ i + 200)
    (fun j st hI hj => by
      obtain ⟨at_, sd, c⟩ := st
      obtain ⟨c1, c2, c3⟩ := hI
      simp only at c1 c2 c3
      obtain ⟨b, i5, s5, e5, d3, d4⟩ := one_at hl at_ sd 3 (by omega) (by omega)
      have ej := Aside0.mk (show wrap64 ((j : Int) + 1) = ((j + 1 : Nat) : Int) by rw [w64 (by omega) (by omega)]; rfl)
      cases b with
      | true =>
        refine ⟨(i5, s5, c), ⟨by simp only; omega, by simp only; omega, by simp only; omega⟩, fun r h => ev_step (fun k => ?_) h⟩
        simp only [spec_l1Cur_region.l0]
        rw [ew.out, if_pos (by omega), e5]
        simp only [Option.bind_some, if_true]
        rw [ej.out]
      | false =>
        refine ⟨(i5, s5, c ++ [(j : Int)]), ⟨by simp only; omega, by simp only; omega, by simp; omega⟩, fun r h => ev_step (fun k => ?_) h⟩
        simp only [spec_l1Cur_region.l0]
        rw [ew.out, if_pos (by omega), e5]
        simp only [Option.bind_some, Bool.false_eq_true, if_false]
        rw [if_pos (by omega), ej.out])
    (fun st hI => by
      obtain ⟨at_, sd, c⟩ := st
      obtain ⟨c1, c2, c3⟩ := hI
      simp only at c1 c2 c3
      obtain ⟨b, i4, s4, e4, d1, d2⟩ := one_at hl at_ sd 12 (by omega) (by omega)
      cases b with
      | true =>
        obtain ⟨y, i5, s5, e5, d3, d4, d5, d6⟩ := pick_at hl i4 s4 30 (by omega) (by omega)
        obtain ⟨r, hr, hc, d9, d10⟩ := region_j1 hl i5 s5 (by omega) (by omega) (W : Int) (H : Int) (c ++ [y])
        refine ⟨r, ev_step (fun k => ?_) hr, by rw [hc]; simp; omega, by omega, by omega⟩
        simp only [spec_l1Cur_region.l0]
        rw [ew.out, if_neg (by omega), e4]
        simp only [Option.bind_some, if_true]
        rw [e5]
        simp only [Option.bind_some]
        rw [if_pos (by omega)]
      | false =>
        obtain ⟨r, hr, hc, d9, d10⟩ := region_j1 hl i4 s4 (by omega) (by omega) (W : Int) (H : Int) c
        refine ⟨r, ev_step (fun k => ?_) hr, by rw [hc]; omega, by omega, by omega⟩
        simp only [spec_l1Cur_region.l0]
        rw [ew.out, if_neg (by omega), e4]
        simp only [Option.bind_some, Bool.false_eq_true, if_false]) 0 (i2, s2, []) (Nat.zero_le _) ⟨by simp only; omega, by simp only; omega, by simp⟩
  refine ⟨r, ?_, hp⟩
  unfold spec_l1Cur_region.f
  refine ev_bind (ev_const e1) (ev_bind (ev_const e2) ?_)
  simp only
  rw [w64 (by omega) (by omega), w64 (by omega) (by omega), hW, hH]
  exact hr
end Go.Proofs.Ytnpclamoabcbgaa.Pure
namespace Go.Proofs.Ytnpclamoabcbgaa.Pure
set_option linter.unusedVariables false
set_option linter.unusedSimpArgs false
open Go.RowKit Go.Proofs.Ytnpclamoabcbgaa.P Go.Proofs.YtnpclamoabcbgaaW.PrintWords Go.Proofs.YtnpclamoabcbgaaW.PrintLast
def cellOk (x : Int) : Bool := decide (x = -9999) || inb x (-9000) 9000
def fieldOk (a b : Int) (l : List Int) : Bool := inb a 1 8 && (inb b 1 8 && (decide ((l.length : Int) = a * b) && l.all cellOk))
theorem isValidField_is (a b : Int) (l : List Int) : impl_IsValidField.f a b l = some (fieldOk a b l) := by
  unfold impl_IsValidField.f slices_ContainsFunc_int_at_impl_IsValidField_1.f
  rw [within_is, within_is]
  simp only [Option.bind_some]
  cases h1 : inb a 1 8 with
  | false => simp [fieldOk, h1]
  | true =>
    cases h2 : inb b 1 8 with
    | false => simp [fieldOk, h2]
    | true =>
      have hm := mul_bd (inb_iff.1 h1).1 (inb_iff.1 h1).2 (inb_iff.1 h2).1 (inb_iff.1 h2).2
      rw [w64 (by omega) (by omega)]
      by_cases hl : (l.length : Int) = a * b
      · have e : (!l.any slices_ContainsFunc_int_at_impl_IsValidField_1.p) = l.all cellOk := by
          rw [List.not_any_eq_all_not]
          congr 1
          funext x
          simp [slices_ContainsFunc_int_at_impl_IsValidField_1.p, cellOk, inb]
        simp [fieldOk, h1, h2, hl, e]
      · simp [fieldOk, hl]
theorem filled_is (a b v : Int) (h0 : 1 ≤ a * b) (h1 : a * b ≤ 64) : impl_filled.f a b v = some (a, b, List.replicate (a * b).toNat v) := by
  unfold impl_filled.f slices_Repeat_int_int.f
  rw [w64 (by omega) (by omega), if_pos ⟨rfl, by omega, h1⟩]
  rfl
def markCell (l : List Int) (i : Nat) (s : List Int) : List Int := s.set (l.getD i 0).toNat 1
def regionField (a b : Int) (l : List Int) : Int × Int × List Int × Bool :=
  if regionOk a b l = true then (a, b, iter (markCell l) 0 l.length (List.replicate (a * b).toNat 0), true) else (0, 0, [], false)
theorem region_cells {a b : Int} {l : List Int} (h : regionOk a b l = true) : ((1 ≤ a ∧ a ≤ 8) ∧ 1 ≤ b ∧ b ≤ 8) ∧ ∀ i, i < l.length → 0 ≤ l.getD i 0 ∧ l.getD i 0 ≤ a * b - 1 := by
  unfold regionOk at h
  rw [Bool.and_eq_true] at h
  obtain ⟨h1, h2⟩ := h
  rw [Bool.and_eq_true, rall_iff] at h2
  exact ⟨shape_iff.1 h1, fun i hi => inb_iff.1 (h2.2 i (Nat.zero_le _) (by omega))⟩
theorem regionFieldI_ev (a b : Int) (l : List Int) (hl : l.length ≤ 9223372036854775806) : Ev (fun k => impl_RegionField.f k a b l) (regionField a b l) := by
  unfold impl_RegionField.f regionField
  refine ev_bind (isRegion_ev a b l hl) (ev_ite (fun ok => ?_) (fun _ => ev_some _))
  obtain ⟨⟨⟨a1, a8⟩, b1, b8⟩, hc⟩ := region_cells ok
  have hm := mul_bd a1 a8 b1 b8
  refine ev_bind (ev_const (filled_is a b 0 hm.1 hm.2)) ?_
  exact loop_ev (fun k s i => impl_RegionField.l0 k l (l.length : Int) (i : Int) a b s) l.length (markCell l) (fun s => (a, b, s, true)) (fun i s => (s.length : Int) = a * b)
    (fun i s r hI hi h => ev_step (fun k => by
      have := hc i hi
      simp only [impl_RegionField.l0, rd_nat]
      rw [if_pos (by omega), if_pos (by omega), if_pos (by omega), if_pos (by omega), if_pos (by omega), w64 (by omega) (by omega)]
      rfl) h)
    (fun i s hI _ => by simpa [markCell] using hI)
    (fun s hI => ev_step (f := fun _ => some (a, b, s, true)) (fun k => by
      simp only [impl_RegionField.l0]
      rw [if_neg (by omega)]) (ev_some _)) 0 _ (Nat.zero_le _) (by rw [List.length_replicate]; omega)
def aboveStep (lim : Int) (l : List Int) (i : Nat) (s : List Int) : List Int := if l.getD i 0 = -9999 then s else if l.getD i 0 > lim then s ++ [(i : Int)] else s
def above (lim : Int) (l : List Int) : List Int := iter (aboveStep lim l) 0 l.length []
theorem aboveStep_len (lim : Int) (l : List Int) (i : Nat) (s : List Int) (h : s.length ≤ i) : (aboveStep lim l i s).length ≤ i + 1 := by
  unfold aboveStep
  split
  · omega
  · split
    · simp; omega
    · omega
theorem regionAbove_ev (a b : Int) (l : List Int) (lim : Int) (hl : l.length ≤ 17592186044416) : Ev (fun k => impl_regionAbove.f k a b l lim) (above lim l) := by
  exact loop_ev (fun k s i => impl_regionAbove.l0 k lim s l (l.length : Int) (i : Int)) l.length (aboveStep lim l) (fun s => s) (fun i s => s.length ≤ i)
    (fun i s r hI hi h => ev_step (fun k => by
      simp only [impl_regionAbove.l0, rd_nat]
      rw [if_pos (by omega), if_pos (by omega), if_pos (by omega), if_pos (show s.length < 17592186044416 by omega), w64 (by omega) (by omega)]
      unfold aboveStep
      split
      · rfl
      · split <;> rfl) h)
    (fun i s hI hi => aboveStep_len lim l i s hI)
    (fun s hI => ev_step (f := fun _ => some s) (fun k => by
      simp only [impl_regionAbove.l0]
      rw [if_neg (by omega)]) (ev_some _)) 0 [] (Nat.zero_le _) (by simp)
end Go.Proofs.Ytnpclamoabcbgaa.Pure
namespace Go.Proofs.Ytnpclamoabcbgaa.Pure
set_option linter.unusedVariables false
set_option linter.unusedSimpArgs false
open Go.RowKit Go.Proofs.Ytnpclamoabcbgaa.P Go.Proofs.YtnpclamoabcbgaaW.PrintWords Go.Proofs.YtnpclamoabcbgaaW.PrintLast Go.Proofs.YtnpclamoabcbgaaW.PrintMore
theorem inc_ext : ∀ {s t : List Int}, s.Pairwise (· < ·) → t.Pairwise (· < ·) → (∀ x, x ∈ s ↔ x ∈ t) → s = t
  | [], [], _, _, _ => rfl
  | [], b :: t, _, _, h => absurd ((h b).2 (List.mem_cons_self ..)) (by simp)
  | a :: s, [], _, _, h => absurd ((h a).1 (List.mem_cons_self ..)) (by simp)
  | a :: s, b :: t, h1, h2, h => by
    rw [List.pairwise_cons] at h1 h2
    have ha := (h a).1 (List.mem_cons_self ..)
    have hb := (h b).2 (List.mem_cons_self ..)
    have hab : a = b := by
      rcases List.mem_cons.1 ha with e | e
      · exact e
      · rcases List.mem_cons.1 hb with e2 | e2
        · exact e2.symm
        · have := h1.1 b e2; have := h2.1 a e; omega
    subst hab
    rw [inc_ext h1.2 h2.2 (fun x => ?_)]
    constructor
    · intro hx
      rcases List.mem_cons.1 ((h x).1 (List.mem_cons_of_mem _ hx)) with e | e
      · have := h1.1 x hx; omega
      · exact e
    · intro hx
      rcases List.mem_cons.1 ((h x).2 (List.mem_cons_of_mem _ hx)) with e | e
      · have := h2.1 x hx; omega
      · exact e
theorem bang_is (l : List Int) (j : Nat) : l.toArray[j]! = l.getD j 0 := by simp [List.getD]
theorem cpt_mem {l : List Int} {x : Int} : x ∈ cpt l ↔ ∃ j, j < l.length ∧ (j = 0 ∨ l.getD j 0 ≠ l.getD (j - 1) 0) ∧ l.getD j 0 = x := by
  unfold cpt Go.Lib.compact Go.Lib.compactUpTo Go.Lib.keeps
  simp only [List.mem_map, List.mem_filter, List.mem_range, decide_eq_true_eq, bang_is]
  constructor
  · rintro ⟨j, ⟨h1, h2⟩, h3⟩; exact ⟨j, h1, h2, h3⟩
  · rintro ⟨j, h1, h2, h3⟩; exact ⟨j, ⟨h1, h2⟩, h3⟩
theorem cpt_has {l : List Int} (x : Int) : x ∈ cpt l ↔ x ∈ l := by
  rw [cpt_mem]
  constructor
  · rintro ⟨j, h1, _, rfl⟩
    rw [getD_eq_get 0 h1]
    exact List.getElem_mem h1
  · intro hx
    obtain ⟨i, hi, rfl⟩ := List.getElem_of_mem hx
    have key : ∀ n, ∀ j, j ≤ n → j < l.length → ∃ k, k < l.length ∧ (k = 0 ∨ l.getD k 0 ≠ l.getD (k - 1) 0) ∧ l.getD k 0 = l.getD j 0 := by
      intro n
      induction n with
      | zero => intro j h1 h2; exact ⟨j, h2, .inl (by omega), rfl⟩
      | succ n ih =>
        intro j h1 h2
        by_cases e : j = 0
        · exact ⟨j, h2, .inl e, rfl⟩
        · by_cases e2 : l.getD j 0 = l.getD (j - 1) 0
          · obtain ⟨k, k1, k2, k3⟩ := ih (j - 1) (by omega) (by omega)
            exact ⟨k, k1, k2, k3.trans e2.symm⟩
          · exact ⟨j, h2, .inr e2, rfl⟩
    obtain ⟨k, k1, k2, k3⟩ := key i i (Nat.le_refl _) hi
    exact ⟨k, k1, k2, by rw [k3, getD_eq_get 0 hi]⟩
theorem cpt_len (l : List Int) : (cpt l).length ≤ l.length := by
  unfold cpt Go.Lib.compact Go.Lib.compactUpTo
  rw [List.length_map]
  exact Nat.le_trans (List.length_filter_le _ _) (by simp)
theorem cpt_inc {l : List Int} (h : l.Pairwise (· ≤ ·)) : (cpt l).Pairwise (· < ·) := by
  have hidx : ∀ i j, i ≤ j → j < l.length → l.getD i 0 ≤ l.getD j 0 := fun i j h1 h2 => by
    rw [getD_eq_get 0 (show i < l.length by omega), getD_eq_get 0 h2]
    by_cases e : i = j
    · subst e; exact Int.le_refl _
    · exact List.pairwise_iff_getElem.1 h i j (by omega) h2 (by omega)
  unfold cpt Go.Lib.compact Go.Lib.compactUpTo Go.Lib.keeps
  rw [List.pairwise_map, List.pairwise_filter]
  refine List.Pairwise.imp_of_mem (fun {a b} ha hb hab h1 h2 => ?_) (List.pairwise_lt_range (n := l.length))
  simp only [decide_eq_true_eq, bang_is] at h1 h2 ⊢
  have hb := List.mem_range.1 hb
  rcases h2 with e | e
  · omega
  · have := hidx a (b - 1) (by omega) (by omega)
    have := hidx (b - 1) b (by omega) hb
    omega
theorem srt_sorted (l : List Int) : (srt l).Pairwise (· ≤ ·) := by
  have := List.pairwise_mergeSort (le := fun x y : Int => decide (x ≤ y)) (fun a b c h1 h2 => by simp only [decide_eq_true_eq] at *; omega) (fun a b => by simp; omega) l
  exact this.imp (fun h => by simpa using h)
theorem srt_has {l : List Int} (x : Int) : x ∈ srt l ↔ x ∈ l := (List.mergeSort_perm l _).mem_iff
def fcells (a b : Int) (l : List Int) : List Int := iter (markCell l) 0 l.length (List.replicate (a * b).toNat 0)
theorem fcells_at {a b : Int} {l : List Int} (h : regionOk a b l = true) : (fcells a b l).length = (a * b).toNat ∧ ∀ c, c < (a * b).toNat → (fcells a b l).getD c 0 = if (c : Int) ∈ l then 1 else 0 := by
  obtain ⟨⟨⟨a1, a8⟩, b1, b8⟩, hc⟩ := region_cells h
  have hm := mul_bd a1 a8 b1 b8
  have := iter_inv (markCell l) (fun i s => s.length = (a * b).toNat ∧ ∀ c, c < (a * b).toNat → s.getD c 0 = if (c : Int) ∈ l.take i then 1 else 0) l.length (fun i s hI hi => by
    obtain ⟨h1, h2⟩ := hI
    unfold markCell
    refine ⟨by rw [List.length_set]; exact h1, fun c hcc => ?_⟩
    have hx := hc i hi
    have ht : l.take (i + 1) = l.take i ++ [l.getD i 0] := by
      rw [List.take_add_one, List.getElem?_eq_getElem hi, getD_eq_get 0 hi]
      rfl
    rw [ht]
    by_cases e : c = (l.getD i 0).toNat
    · rw [if_pos (List.mem_append.2 (.inr (by rw [List.mem_singleton]; omega)))]
      rw [← e, getD_eq_get 0 (by rw [List.length_set]; omega), List.getElem_set_self]
    · have e2 : ((c : Int) ∈ l.take i ++ [l.getD i 0]) ↔ (c : Int) ∈ l.take i := by
        rw [List.mem_append, List.mem_singleton]
        constructor
        · rintro (h | h)
          · exact h
          · exact absurd (by omega) e
        · exact .inl
      rw [List.getD_eq_getElem?_getD, List.getElem?_set_ne (by omega), ← List.getD_eq_getElem?_getD, h2 c hcc]
      by_cases e3 : (c : Int) ∈ l.take i
      · rw [if_pos e3, if_pos (e2.2 e3)]
      · rw [if_neg e3, if_neg (fun h => e3 (e2.1 h))]) l.length 0 (List.replicate (a * b).toNat 0) (by omega) ⟨by simp, fun c hcc => by rw [getD_eq_get 0 (by simpa using hcc)]; simp⟩
  rw [List.take_length] at this
  exact this
theorem fcells_ok {a b : Int} {l : List Int} (h : regionOk a b l = true) : fieldOk a b (fcells a b l) = true := by
  obtain ⟨f1, f2⟩ := fcells_at h
  obtain ⟨⟨⟨a1, a8⟩, b1, b8⟩, hc⟩ := region_cells h
  have hm := mul_bd a1 a8 b1 b8
  unfold fieldOk
  rw [Bool.and_eq_true, Bool.and_eq_true, Bool.and_eq_true, inb_iff, inb_iff, List.all_eq_true]
  refine ⟨⟨a1, a8⟩, ⟨b1, b8⟩, decide_eq_true (by rw [f1]; omega), fun x hx => ?_⟩
  obtain ⟨c, hcl, rfl⟩ := List.getElem_of_mem hx
  have := f2 c (by omega)
  rw [getD_eq_get 0 hcl] at this
  rw [this]
  split <;> decide
theorem above_back {a b : Int} {l : List Int} (h : regionOk a b l = true) : above 0 (fcells a b l) = l := by
  obtain ⟨f1, f2⟩ := fcells_at h
  obtain ⟨W, H, rfl, rfl, hW, hH, hc, hup, h64⟩ := region_facts h
  have hN : ((W : Int) * (H : Int)).toNat = H * W := by rw [← Int.natCast_mul, Int.toNat_natCast, Nat.mul_comm]
  rw [hN] at f1 f2
  have e := iter_inv (aboveStep 0 (fcells (W : Int) (H : Int) l)) (fun i s => s.Pairwise (· < ·) ∧ ∀ x, x ∈ s ↔ x ∈ l ∧ x < (i : Int)) (H * W) (fun i s hI hi => by
    obtain ⟨h1, h2⟩ := hI
    unfold aboveStep
    rw [f2 i hi]
    by_cases hm : (i : Int) ∈ l
    · rw [if_pos hm, if_neg (by decide), if_pos (by decide)]
      refine ⟨List.pairwise_append.2 ⟨h1, by simp, fun x hx y hy => by rw [List.mem_singleton] at hy; have := (h2 x).1 hx; omega⟩, fun x => ?_⟩
      rw [List.mem_append, List.mem_singleton, h2]
      constructor
      · rintro (h | h)
        · exact ⟨h.1, by omega⟩
        · exact ⟨h ▸ hm, by omega⟩
      · rintro ⟨h3, h4⟩
        by_cases e : x = (i : Int)
        · exact .inr e
        · exact .inl ⟨h3, by omega⟩
    · rw [if_neg hm, if_neg (by decide), if_neg (by decide)]
      refine ⟨h1, fun x => ?_⟩
      rw [h2]
      constructor
      · rintro ⟨h3, h4⟩
        exact ⟨h3, by omega⟩
      · rintro ⟨h3, h4⟩
        exact ⟨h3, by
          have : x ≠ (i : Int) := fun e => hm (e ▸ h3)
          omega⟩) (H * W) 0 [] (by omega) ⟨List.Pairwise.nil, fun x => by
    constructor
    · intro h; exact absurd h (by simp)
    · rintro ⟨h3, h4⟩; have := (hc x h3).1; omega⟩
  unfold above
  rw [f1]
  refine inc_ext e.1 hup (fun x => ?_)
  rw [e.2 x]
  exact ⟨fun h => h.1, fun h => ⟨h, (hc x h).2⟩⟩
theorem fieldBack_ev {a b : Int} {l : List Int} (h : regionOk a b l = true) (hl : l.length ≤ 9223372036854775806) : Ev (fun k => impl_RegionField.f k a b l) (a, b, fcells a b l, true) ∧ Ev (fun k => impl_RegionAbove.f k a b (fcells a b l) 0) (l, true) := by
  have h1 := regionFieldI_ev a b l hl
  have e : regionField a b l = (a, b, fcells a b l, true) := by unfold regionField; rw [if_pos h]; rfl
  rw [e] at h1
  refine ⟨h1, ?_⟩
  unfold impl_RegionAbove.f
  rw [isValidField_is]
  simp only [Option.bind_some]
  rw [fcells_ok h]
  have hlen : (fcells a b l).length ≤ 17592186044416 := by
    obtain ⟨⟨⟨a1, a8⟩, b1, b8⟩, _⟩ := region_cells h
    have hm := mul_bd a1 a8 b1 b8
    rw [(fcells_at h).1]
    omega
  have h2 := regionAbove_ev a b (fcells a b l) 0 hlen
  rw [above_back h] at h2
  exact ev_ifp rfl (ev_bind h2 (ev_some _))
end Go.Proofs.Ytnpclamoabcbgaa.Pure
namespace Go.Proofs.Ytnpclamoabcbgaa.Pure
set_option linter.unusedVariables false
set_option linter.unusedSimpArgs false
open Go.RowKit Go.Proofs.Ytnpclamoabcbgaa.P Go.Proofs.YtnpclamoabcbgaaW.PrintWords Go.Proofs.YtnpclamoabcbgaaW.PrintLast
theorem vInts_self (l : List Int) (hl : l.length ≤ 9223372036854775806) : Ev (fun k => laws_vInts.f k l l) true := by
  have h := loop_ev (σ := Unit) (fun k _ i => laws_vInts.l0 k l l (i : Int)) l.length (fun _ _ => ()) (fun _ => true) (fun _ _ => True)
    (fun i s r _ hi h => ev_step (fun k => by
      simp only [laws_vInts.l0]
      rw [if_pos (by omega), if_pos (by omega), if_pos (by omega), if_pos trivial, w64 (by omega) (by omega)]
      rfl) h)
    (fun _ _ _ _ => trivial)
    (fun _ _ => ev_step (f := fun _ => some true) (fun k => by
      simp only [laws_vInts.l0]
      rw [if_neg (by omega)]) (ev_some _)) 0 () (Nat.zero_le _) trivial
  unfold laws_vInts.f
  exact ev_ifp rfl h
theorem rdlT (xs : List (List Int)) (i : Nat) : rd_L1 xs (i : Int) = xs.getD i [] := by simp [rd_L1]
theorem vTableR_self (l : List (List Int)) (hl : l.length ≤ 1048576) (hs : ∀ s ∈ l, s.length ≤ 1048576) : Ev (fun k => laws_vTable.f k l l) true := by
  have h := loop_ev (σ := Unit) (fun k _ i => laws_vTable.l0 k l l (i : Int)) l.length (fun _ _ => ()) (fun _ => true) (fun _ _ => True)
    (fun i s r _ hi hr => by
      have e3 := Aside0.mk (show wrap64 ((i : Int) + 1) = ((i + 1 : Nat) : Int) by rw [w64 (by omega) (by omega)]; rfl)
      have hb : (l.getD i []).length ≤ 1048576 := by rw [getD_eq_get _ hi]; exact hs _ (List.getElem_mem hi)
      refine ev_step (fun k => laws_vTable.l0.eq_2 _ _ _ k) (ev_ifp (by omega) (ev_ifp (by omega) (ev_ifp (by omega) ?_)))
      rw [rdlT, e3.out]
      exact ev_bind (vInts_self _ (by omega)) (ev_ifp rfl hr))
    (fun _ _ _ _ => trivial)
    (fun s _ => ev_step (fun k => laws_vTable.l0.eq_2 _ _ _ k) (ev_ifn (by omega) (ev_some _))) 0 () (Nat.zero_le _) trivial
  unfold laws_vTable.f
  exact ev_ifp rfl h
theorem vHas_yes (l : List Int) (x : Int) (hl : l.length ≤ 9223372036854775806) (j : Nat) (hj : j < l.length) (hx : l.getD j 0 = x) : Ev (fun k => laws_vHas.f k l x) true := by
  have key : ∀ d i : Nat, j - i = d → i ≤ j → Ev (fun k => laws_vHas.l0 k l x (i : Int)) true := by
    intro d
    induction d with
    | zero =>
      intro i h0 h1
      obtain rfl : i = j := by omega
      refine ev_step (f := fun _ => some true) (fun k => ?_) (ev_some _)
      simp only [laws_vHas.l0, rd_nat]
      rw [if_pos (by omega), if_pos (by omega), if_pos hx]
    | succ d ih =>
      intro i h0 h1
      by_cases e : l.getD i 0 = x
      · refine ev_step (f := fun _ => some true) (fun k => ?_) (ev_some _)
        simp only [laws_vHas.l0, rd_nat]
        rw [if_pos (by omega), if_pos (by omega), if_pos e]
      · refine ev_step (fun k => ?_) (ih (i + 1) (by omega) (by omega))
        simp only [laws_vHas.l0, rd_nat]
        rw [if_pos (by omega), if_pos (by omega), if_neg e, w64 (by omega) (by omega)]
        rfl
  exact key j 0 rfl (Nat.zero_le _)
end Go.Proofs.Ytnpclamoabcbgaa.Pure
namespace Go.Proofs.Ytnpclamoabcbgaa.Pure
set_option linter.unusedVariables false
set_option linter.unusedSimpArgs false
set_option linter.unusedSectionVars false
open Go.RowKit Go.Proofs.Ytnpclamoabcbgaa.P Go.Proofs.YtnpclamoabcbgaaW.PrintWords Go.Proofs.YtnpclamoabcbgaaW.PrintLast Go.Proofs.YtnpclamoabcbgaaW.PrintMore
def natL (l : List Int) : List Nat := l.map Int.toNat
structure RegIs (W H : Nat) (l : List Int) : Prop where
  W8 : 1 ≤ W ∧ W ≤ 8
  H8 : 1 ≤ H ∧ H ≤ 8
  cell : ∀ i, i < l.length → 0 ≤ l.getD i 0 ∧ l.getD i 0 < ((H * W : Nat) : Int)
theorem reg_is {a b : Int} {l : List Int} (h : regionOk a b l = true) : ∃ W H : Nat, a = W ∧ b = H ∧ RegIs W H l := by
  unfold regionOk at h
  rw [Bool.and_eq_true, Bool.and_eq_true, Bool.and_eq_true, inb_iff, inb_iff, rall_iff] at h
  obtain ⟨⟨h1, h2⟩, _, h3⟩ := h
  obtain ⟨W, rfl⟩ := Int.eq_ofNat_of_zero_le (show 0 ≤ a by omega)
  obtain ⟨H, rfl⟩ := Int.eq_ofNat_of_zero_le (show 0 ≤ b by omega)
  refine ⟨W, H, rfl, rfl, by omega, by omega, fun i hi => ?_⟩
  have := inb_iff.1 (h3 i (Nat.zero_le _) (by omega))
  rw [← Int.natCast_mul, Nat.mul_comm] at this
  omega
def nextTo (W : Nat) (l : List Int) (c : Nat) : Bool := (natL l).any (fun o => adj W o c)
def inOrNext (W : Nat) (l : List Int) (c : Nat) : Bool := decide ((c : Int) ∈ l) || nextTo W l c
section
variable {W H : Nat} {l : List Int} (R : RegIs W H l) (hl : l.length ≤ 9223372036854775806)
include R hl
theorem natL_get {i : Nat} (hi : i < l.length) : (natL l).getD i 0 < H * W ∧ (((natL l).getD i 0 : Nat) : Int) = l.getD i 0 := by
  have h := R.cell i hi
  have e : (natL l).getD i 0 = (l.getD i 0).toNat := by
    unfold natL
    rw [getD_eq_get 0 (show i < (l.map Int.toNat).length by simpa using hi), List.getElem_map, getD_eq_get 0 hi]
  rw [e]
  omega
theorem contains_next {c : Nat} (hc : c < H * W) : Ev (fun k => slices_ContainsFunc_int_at_mp_mpGi64_bool.f k (fun z0_ => impl_GrowRegion_1.f z0_ (W : Int) (c : Int)) l) (nextTo W l c) := by
  have hn : (natL l).length = l.length := by unfold natL; rw [List.length_map]
  have h := find_ev (fun k i => slices_IndexFunc_int_at_mp_mpGi64_bool.l0 (fun z0_ => impl_GrowRegion_1.f z0_ (W : Int) (c : Int)) k l (l.length : Int) (i : Int)) l.length (fun i => adj W ((natL l).getD i 0) c)
    (fun i r hi hp h => by
      obtain ⟨g1, g2⟩ := natL_get R hl hi
      have e1 := Aside0.mk (show wrap64 ((i : Int) + 1) = ((i + 1 : Nat) : Int) by rw [w64 (by omega) (by omega)]; rfl)
      have ec : impl_GrowRegion_1.f (l.getD i 0) (W : Int) (c : Int) = some false := by
        unfold impl_GrowRegion_1.f
        rw [← g2, connected_is R.W8 R.H8 g1 hc, hp]
        rfl
      refine ev_step (fun k => slices_IndexFunc_int_at_mp_mpGi64_bool.l0.eq_2 _ _ _ _ k) (ev_ifp (by omega) (ev_ifp (by omega) (ev_ifp (by omega) ?_)))
      rw [rd_nat, e1.out]
      exact ev_bind (ev_const ec) (ev_ifn (by simp) h))
    (fun i hi hp => by
      obtain ⟨g1, g2⟩ := natL_get R hl hi
      have ec : impl_GrowRegion_1.f (l.getD i 0) (W : Int) (c : Int) = some true := by
        unfold impl_GrowRegion_1.f
        rw [← g2, connected_is R.W8 R.H8 g1 hc, hp]
        rfl
      refine ev_step (fun k => slices_IndexFunc_int_at_mp_mpGi64_bool.l0.eq_2 _ _ _ _ k) (ev_ifp (by omega) (ev_ifp (by omega) (ev_ifp (by omega) ?_)))
      rw [rd_nat]
      exact ev_bind (ev_const ec) (ev_ifp rfl (ev_some _)))
    (ev_step (fun k => slices_IndexFunc_int_at_mp_mpGi64_bool.l0.eq_2 _ _ _ _ k) (ev_ifn (by omega) (ev_some _)))
  have e2 : decide (fidx (fun i => adj W ((natL l).getD i 0) c) 0 l.length ≥ 0) = nextTo W l c := by
    rw [fidx_nonneg]
    unfold nextTo
    rw [Bool.eq_iff_iff, Bool.not_eq_true', ← Bool.not_eq_true, rall_iff, List.any_eq_true]
    constructor
    · intro hh
      apply Classical.byContradiction
      intro hno
      refine hh (fun j _ hj => ?_)
      rw [Bool.not_eq_true']
      cases e : adj W ((natL l).getD j 0) c with
      | false => rfl
      | true => exact absurd ⟨_, by rw [getD_eq_get 0 (show j < (natL l).length by omega)]; exact List.getElem_mem _, e⟩ hno
    · rintro ⟨o, ho, ha⟩ hh
      obtain ⟨j, hj, rfl⟩ := List.getElem_of_mem ho
      have := hh j (Nat.zero_le _) (by omega)
      rw [getD_eq_get 0 hj, ha] at this
      cases this
  unfold slices_ContainsFunc_int_at_mp_mpGi64_bool.f slices_IndexFunc_int_at_mp_mpGi64_bool.f
  refine ev_bind h ?_
  rw [e2]
  exact ev_some _
theorem next_spec {out : List Int} {c : Nat} (hc : c < H * W) (b : Bool) (r : List Int × Bool)
    (h : Ev (fun k => spec_GrowRegion.l1 k (W : Int) (H : Int) l out (c : Int) (b || nextTo W l c) (l.length : Int)) r) : Ev (fun k => spec_GrowRegion.l1 k (W : Int) (H : Int) l out (c : Int) b 0) r := by
  have hn : (natL l).length = l.length := by unfold natL; rw [List.length_map]
  have key : ∀ d i (b : Bool), l.length - i = d → i ≤ l.length → Ev (fun k => spec_GrowRegion.l1 k (W : Int) (H : Int) l out (c : Int) (b || ((natL l).drop i).any (fun o => adj W o c)) (l.length : Int)) r → Ev (fun k => spec_GrowRegion.l1 k (W : Int) (H : Int) l out (c : Int) b (i : Int)) r := by
    intro d
    induction d with
    | zero =>
      intro i b h0 h1 h
      obtain rfl : i = l.length := by omega
      rw [List.drop_of_length_le (by omega)] at h
      simpa using h
    | succ d ih =>
      intro i b h0 h1 h
      have hi : i < l.length := by omega
      obtain ⟨g1, g2⟩ := natL_get R hl hi
      have e1 := Aside0.mk (show wrap64 ((i : Int) + 1) = ((i + 1 : Nat) : Int) by rw [w64 (by omega) (by omega)]; rfl)
      rw [List.drop_eq_getElem_cons (show i < (natL l).length by omega), List.any_cons, ← getD_eq_get 0 (show i < (natL l).length by omega)] at h
      refine ev_step (fun k => spec_GrowRegion.l1.eq_2 _ _ _ _ _ _ _ k) (ev_ifp (by omega) ?_)
      rw [e1.out]
      cases b with
      | true => exact ev_ifp rfl (ih (i + 1) true (by omega) (by omega) (by simpa using h))
      | false =>
        refine ev_ifn (by simp) (ev_ifp (by omega) ?_)
        rw [rd_nat, ← g2]
        exact ev_bind (ev_const (beside_is R.W8 R.H8 g1 hc)) (ih (i + 1) _ (by omega) (by omega) (by simpa using h))
  refine key l.length 0 b rfl (Nat.zero_le _) ?_
  rw [List.drop_zero]
  exact h
end
def growL (W H : Nat) (l : List Int) : List Int := ((List.range (H * W)).filter (inOrNext W l)).map (fun c : Nat => (c : Int))
theorem grow_inc (W H : Nat) (l : List Int) : (growL W H l).Pairwise (· < ·) := by
  unfold growL
  rw [List.pairwise_map]
  exact (List.pairwise_lt_range.filter _).imp (fun h => by omega)
theorem grow_len (W H : Nat) (l : List Int) (h : H * W ≤ 64) : (growL W H l).length ≤ 64 := by
  unfold growL
  rw [List.length_map]
  have := List.length_filter_le (inOrNext W l) (List.range (H * W))
  rw [List.length_range] at this
  omega
theorem grow_mem {W H : Nat} {l : List Int} (R : RegIs W H l) {c : Int} (hc : c ∈ l) : c ∈ growL W H l := by
  obtain ⟨j, hj, rfl⟩ := List.getElem_of_mem hc
  have hb := R.cell j hj
  rw [getD_eq_get 0 hj] at hb
  unfold growL
  refine List.mem_map.2 ⟨(l[j]).toNat, List.mem_filter.2 ⟨List.mem_range.2 (by omega), ?_⟩, by omega⟩
  unfold inOrNext
  rw [Bool.or_eq_true, decide_eq_true_eq]
  exact .inl (by rw [Int.toNat_of_nonneg hb.1]; exact List.getElem_mem hj)
theorem grow_all (a b : Int) (l : List Int) (hl : l.length ≤ 1048576) :
    ∃ r, Ev (fun k => spec_GrowRegion.f k a b l) r ∧ Ev (fun k => impl_GrowRegion.f k a b l) r ∧ r.1.length ≤ 64 ∧ (regionOk a b l = true → ∀ c ∈ l, c ∈ r.1) := by
  have g1 := l8Region_ev a b l (by omega)
  have g2 := isRegion_ev a b l (by omega)
  unfold spec_GrowRegion.f impl_GrowRegion.f
  cases ok : regionOk a b l with
  | false =>
    rw [ok] at g1 g2
    exact ⟨([], false), ev_bind (ev_some _) (ev_bind g1 (ev_ifn (by simp) (ev_some _))), ev_bind g2 (ev_ifn (by simp) (ev_some _)), by simp, fun h => absurd h (by simp)⟩
  | true =>
    rw [ok] at g1 g2
    obtain ⟨W, H, rfl, rfl, R⟩ := reg_is ok
    have h64 : H * W ≤ 64 := Nat.mul_le_mul R.H8.2 R.W8.2
    have eN := Aside0.mk (show wrap64 ((W : Int) * (H : Int)) = ((H * W : Nat) : Int) by rw [← Int.natCast_mul, w64n (by rw [Nat.mul_comm]; omega), Nat.mul_comm])
    refine ⟨(growL W H l, true), ev_bind (ev_some _) (ev_bind g1 (ev_ifp rfl ?_)), ev_bind g2 (ev_ifp rfl ?_), grow_len W H l h64, fun _ c hc => grow_mem R hc⟩
    · have h := loop_ev (fun k s i => spec_GrowRegion.l0 k (W : Int) (H : Int) l s (i : Int)) (H * W) (fun i s => if inOrNext W l i = true then s ++ [(i : Int)] else s) (fun s => (s, true)) (fun i s => s = ((List.range i).filter (inOrNext W l)).map (fun c : Nat => (c : Int)))
        (fun i s r hI hi hh => by
          have hlen : s.length ≤ i := by
            rw [hI, List.length_map]
            have := List.length_filter_le (inOrNext W l) (List.range i)
            rw [List.length_range] at this
            exact this
          have e1 := Aside0.mk (show wrap64 ((i : Int) + 1) = ((i + 1 : Nat) : Int) by rw [w64 (by omega) (by omega)]; rfl)
          refine ev_step (fun k => spec_GrowRegion.l0.eq_2 _ _ _ _ _ k) ?_
          rw [eN.out]
          refine ev_ifp (by omega) (ev_bind (l1Has_ev l (i : Int) (by omega)) (next_spec R (by omega) hi _ _ ?_))
          refine ev_step (fun k => spec_GrowRegion.l1.eq_2 _ _ _ _ _ _ _ k) (ev_ifn (by omega) ?_)
          rw [e1.out]
          have er : (decide ((i : Int) ∈ l) || nextTo W l i) = inOrNext W l i := rfl
          rw [er]
          cases hb : inOrNext W l i with
          | true => simp only [hb, if_true] at hh; exact ev_ifp rfl (ev_ifp (by omega) hh)
          | false => simp only [hb, Bool.false_eq_true, if_false] at hh; exact ev_ifn (by simp) hh)
        (fun i s hI hi => by
          show (if inOrNext W l i = true then s ++ [(i : Int)] else s) = _
          rw [List.range_succ, List.filter_append, List.map_append, ← hI]
          cases hb : inOrNext W l i with
          | true => simp [hb]
          | false => simp [hb])
        (fun s hI => by
          refine ev_step (fun k => spec_GrowRegion.l0.eq_2 _ _ _ _ _ k) ?_
          rw [eN.out]
          exact ev_ifn (by omega) (ev_some _)) 0 [] (Nat.zero_le _) rfl
      have hI := iter_inv (fun i s => if inOrNext W l i = true then s ++ [(i : Int)] else s) (fun i s => s = ((List.range i).filter (inOrNext W l)).map (fun c : Nat => (c : Int))) (H * W) (fun i s hI hi => by
          show (if inOrNext W l i = true then s ++ [(i : Int)] else s) = _
          rw [List.range_succ, List.filter_append, List.map_append, ← hI]
          cases hb : inOrNext W l i with
          | true => simp [hb]
          | false => simp [hb]) (H * W) 0 [] (by omega) rfl
      rw [Nat.sub_zero, hI] at h
      exact h
    · have hcl : slices_Clone_int_int.f l = some l := by unfold slices_Clone_int_int.f; rw [if_pos (by omega)]
      have hm : ∀ n, ∀ x : Int, x ∈ l ++ ((List.range n).filter (nextTo W l)).map (fun c : Nat => (c : Int)) ↔ x ∈ l ∨ ∃ c, c < n ∧ nextTo W l c = true ∧ (c : Int) = x := fun n x => by
        rw [List.mem_append, List.mem_map]
        constructor
        · rintro (h | ⟨c, h1, h2⟩)
          · exact .inl h
          · obtain ⟨h3, h4⟩ := List.mem_filter.1 h1
            exact .inr ⟨c, List.mem_range.1 h3, h4, h2⟩
        · rintro (h | ⟨c, h1, h2, h3⟩)
          · exact .inl h
          · exact .inr ⟨c, List.mem_filter.2 ⟨List.mem_range.2 h1, h2⟩, h3⟩
      have efin : cpt (srt (l ++ ((List.range (H * W)).filter (nextTo W l)).map (fun c : Nat => (c : Int)))) = growL W H l := by
        refine inc_ext (cpt_inc (srt_sorted _)) (grow_inc W H l) (fun x => ?_)
        rw [cpt_has, srt_has, hm]
        unfold growL
        rw [List.mem_map]
        constructor
        · rintro (h | ⟨c, h1, h2, h3⟩)
          · obtain ⟨j, hj, rfl⟩ := List.getElem_of_mem h
            have hb := R.cell j hj
            rw [getD_eq_get 0 hj] at hb
            refine ⟨(l[j]).toNat, List.mem_filter.2 ⟨List.mem_range.2 (by omega), ?_⟩, by omega⟩
            unfold inOrNext
            rw [Bool.or_eq_true, decide_eq_true_eq]
            exact .inl (by rw [Int.toNat_of_nonneg hb.1]; exact List.getElem_mem hj)
          · refine ⟨c, List.mem_filter.2 ⟨List.mem_range.2 h1, ?_⟩, h3⟩
            unfold inOrNext
            rw [h2, Bool.or_true]
        · rintro ⟨c, h1, rfl⟩
          obtain ⟨h2, h3⟩ := List.mem_filter.1 h1
          unfold inOrNext at h3
          rw [Bool.or_eq_true, decide_eq_true_eq] at h3
          rcases h3 with h3 | h3
          · exact .inl h3
          · exact .inr ⟨c, List.mem_range.1 h2, h3, rfl⟩
      refine ev_bind (ev_const hcl) ?_
      rw [eN.out]
      have h := loop_ev (fun k s i => impl_GrowRegion.l0 k l s ((H * W : Nat) : Int) (i : Int) (W : Int)) (H * W) (fun i s => if nextTo W l i = true then s ++ [(i : Int)] else s) (fun _ => (growL W H l, true)) (fun i s => s = l ++ ((List.range i).filter (nextTo W l)).map (fun c : Nat => (c : Int)))
        (fun i s r hI hi hh => by
          have hlen : s.length ≤ 1048576 + i := by
            rw [hI, List.length_append, List.length_map]
            have := List.length_filter_le (nextTo W l) (List.range i)
            rw [List.length_range] at this
            omega
          have e1 := Aside0.mk (show wrap64 ((i : Int) + 1) = ((i + 1 : Nat) : Int) by rw [w64 (by omega) (by omega)]; rfl)
          refine ev_step (fun k => impl_GrowRegion.l0.eq_2 _ _ _ _ _ k) (ev_ifp (by omega) (ev_bind (contains_next R (by omega) hi) ?_))
          rw [e1.out]
          cases hb : nextTo W l i with
          | true => simp only [hb, if_true] at hh; exact ev_ifp rfl (ev_ifp (by omega) hh)
          | false => simp only [hb, Bool.false_eq_true, if_false] at hh; exact ev_ifn (by simp) hh)
        (fun i s hI hi => by
          show (if nextTo W l i = true then s ++ [(i : Int)] else s) = _
          rw [List.range_succ, List.filter_append, List.map_append, ← List.append_assoc, ← hI]
          cases hb : nextTo W l i with
          | true => simp [hb]
          | false => simp [hb])
        (fun s hI => by
          have hlen : s.length ≤ 1048640 := by
            rw [hI, List.length_append, List.length_map]
            have := List.length_filter_le (nextTo W l) (List.range (H * W))
            rw [List.length_range] at this
            omega
          have es : slices_Sort_int_int.f s = some (srt s) := by unfold slices_Sort_int_int.f; rw [if_pos (by omega)]
          have ec : slices_Compact_int_int.f (srt s) = some (growL W H l) := by
            unfold slices_Compact_int_int.f
            rw [if_pos ⟨by rw [srt_len]; omega, cpt_len _⟩, hI, efin]
          exact ev_step (fun k => impl_GrowRegion.l0.eq_2 _ _ _ _ _ k) (ev_ifn (by omega) (ev_bind (ev_const es) (ev_bind (ev_const ec) (ev_some _))))) 0 l (Nat.zero_le _) (by simp)
      exact h
end Go.Proofs.Ytnpclamoabcbgaa.Pure
namespace Go.Proofs.Ytnpclamoabcbgaa.Pure
set_option linter.unusedVariables false
set_option linter.unusedSimpArgs false
open Go.RowKit Go.Proofs.Ytnpclamoabcbgaa.P Go.Proofs.YtnpclamoabcbgaaW.PrintWords Go.Proofs.YtnpclamoabcbgaaW.PrintLast Go.Proofs.YtnpclamoabcbgaaW.PrintMore
theorem lens_take (P : List (List Int)) : ∀ i, i < P.length → lens (P.take (i + 1)) = lens (P.take i) + (P.getD i []).length := fun i hi => by
  rw [List.take_add_one, List.getElem?_eq_getElem hi, getD_eq_get [] hi, lens_app]
  simp [lens]
theorem lens_bd {P : List (List Int)} (h : ∀ s ∈ P, s.length ≤ 64) : lens P ≤ 64 * P.length := by
  induction P with
  | nil => simp [lens]
  | cons s P ih =>
    have h1 := h s (List.mem_cons_self ..)
    have h2 := ih (fun t ht => h t (List.mem_cons_of_mem _ ht))
    rw [lens, List.length_cons]
    omega
theorem codeG {l : List Int} (hl : l.length ≤ 9223372036854775807 ∧ ∀ z ∈ l, (Lit.int .u8 z).wf = true) (h : l.length ≤ 65536) : Code l :=
  ⟨h, fun x hx => by
    have := hl.2 x hx
    simp [Lit.wf, IntKind.min, IntKind.max, IntKind.signed, IntKind.bits] at this
    omega⟩
theorem FnRegions : laws_FnRegions.Pure := by
  intro code hm hl
  refine Ev.rounds ?_
  unfold laws_FnRegions.f
  refine ev_bind (ev_const (show laws_vBig.f code = some _ from rfl)) ?_
  by_cases hbig : decide ((code.length : Int) > 65536) = true
  · exact ev_ifp hbig (ev_some _)
  refine ev_ifn hbig ?_
  have hC : Code code := codeG hm (by simp only [decide_eq_true_eq] at hbig; omega)
  obtain ⟨⟨a, b, l, i1, s1⟩, hd, hd1, _, _⟩ := region_at hC 0 0 (by omega) (by omega)
  simp only at hd1
  have hdraw : Ev (fun k => spec_DrawRegionParts.f k code) (a, b, l) := by
    unfold spec_DrawRegionParts.f
    exact ev_bind hd (ev_some _)
  refine ev_bind hdraw ?_
  have hi := parts_ev a b l (by omega)
  have hs := partsS_ev a b l (by omega)
  refine ev_bind hi ?_
  refine ev_bind hs ?_
  cases ok : regionOk a b l with
  | false =>
    rw [if_neg (by simp)]
    refine ev_ifn (by simp) (ev_bind (vTableR_self [] (by simp) (by simp)) ?_)
    exact ev_step (fun k => laws_FnRegions.j0.eq_2 _ _ _ _ _ _ k) (ev_ifn (by simp) (ev_ifn (by simp) (ev_some _)))
  | true =>
    rw [if_pos rfl]
    obtain ⟨z1, z2⟩ := partsOf_size ok
    obtain ⟨t1, t2⟩ := partsOf_all ok
    obtain ⟨b1, b2⟩ := fieldBack_ev ok (by omega)
    obtain ⟨⟨g, gb⟩, g1, g2, g3, g4⟩ := grow_all a b l (by omega)
    have g5 := g4 ok
    simp only at g3 g5
    have hlb := lens_bd z2
    refine ev_ifn (by simp) (ev_bind (vTableR_self _ (by show (partsOf a l).length ≤ _; omega) (fun s hs2 => by have := z2 s hs2; omega)) ?_)
    refine ev_step (fun k => laws_FnRegions.j0.eq_2 _ _ _ _ _ _ k) (ev_ifn (by simp) (ev_ifp rfl ?_))
    have fin : Ev (fun k => laws_FnRegions.l1 k l ((l.length : Nat) : Int) true l true g 0) true := by
      exact loop_ev (σ := Unit) (fun k _ i => laws_FnRegions.l1 k l ((l.length : Nat) : Int) true l true g (i : Int)) l.length (fun _ _ => ()) (fun _ => true) (fun _ _ => True)
        (fun i s r _ hi2 hr => by
          have e3 := Aside0.mk (show wrap64 ((i : Int) + 1) = ((i + 1 : Nat) : Int) by rw [w64 (by omega) (by omega)]; rfl)
          refine ev_step (fun k => laws_FnRegions.l1.eq_2 _ _ _ _ _ _ _ k) (ev_ifp (by omega) (ev_ifp (by omega) ?_))
          rw [rd_nat, e3.out]
          have hx : l.getD i 0 ∈ g := g5 _ (by rw [getD_eq_get 0 hi2]; exact List.getElem_mem hi2)
          obtain ⟨j, hj, ej⟩ := List.getElem_of_mem hx
          exact ev_bind (vHas_yes g (l.getD i 0) (by omega) j hj (by rw [getD_eq_get 0 hj]; exact ej)) (ev_ifp rfl hr))
        (fun _ _ _ _ => trivial)
        (fun s _ => ev_step (fun k => laws_FnRegions.l1.eq_2 _ _ _ _ _ _ _ k) (ev_ifn (by omega) (ev_ifp rfl (ev_ifp rfl (ev_ifp rfl (ev_bind (vInts_self l (by omega)) (ev_some _))))))) 0 () (Nat.zero_le _) trivial
    have hlen := t1
    exact loop_ev (σ := Int) (fun k s i => laws_FnRegions.l0 k a b l (partsOf a l) s (i : Int)) (partsOf a l).length (fun i s => s + (((partsOf a l).getD i []).length : Int)) (fun _ => true) (fun i s => s = ((lens ((partsOf a l).take i) : Nat) : Int))
      (fun i s r hI hi2 hr => by
        have e3 := Aside0.mk (show wrap64 ((i : Int) + 1) = ((i + 1 : Nat) : Int) by rw [w64 (by omega) (by omega)]; rfl)
        have hmem : (partsOf a l).getD i [] ∈ partsOf a l := by rw [getD_eq_get [] hi2]; exact List.getElem_mem hi2
        obtain ⟨r1, r2⟩ := t2 _ hmem
        have hz := z2 _ hmem
        have hp := parts_ev a b ((partsOf a l).getD i []) (by omega)
        rw [if_pos r1, r2] at hp
        have hl2 := lens_take (partsOf a l) i hi2
        have hl3 := lens_app ((partsOf a l).take i) ((partsOf a l).drop i)
        rw [List.take_append_drop] at hl3
        refine ev_step (fun k => laws_FnRegions.l0.eq_2 _ _ _ _ _ _ k) (ev_ifp (by omega) (ev_ifp (by omega) ?_))
        rw [rdlT, e3.out]
        refine ev_bind hp (ev_ifp rfl (ev_ifp rfl ?_))
        rw [show wrap64 (s + (((partsOf a l).getD i []).length : Int)) = s + (((partsOf a l).getD i []).length : Int) from w64 (by omega) (by omega)]
        exact hr)
      (fun i s hI hi2 => by
        show s + _ = _
        rw [hI, lens_take _ _ hi2]
        omega)
      (fun s hI => by
        rw [List.take_length, t1] at hI
        subst hI
        refine ev_step (fun k => laws_FnRegions.l0.eq_2 _ _ _ _ _ _ k) (ev_ifn (by omega) ?_)
        refine ev_bind b1 (ev_bind b2 (ev_bind g2 (ev_bind g1 (ev_ifn (by simp) (ev_bind (vInts_self g (by omega)) ?_)))))
        exact ev_step (fun k => laws_FnRegions.j2.eq_2 _ _ _ _ _ _ _ k) (ev_ifn (by simp) fin)) 0 0 (Nat.zero_le _) rfl
end Go.Proofs.Ytnpclamoabcbgaa.Pure
namespace Go.Proofs.Ytnpclamoabcbgaa.fnRegions
open Go.ChangeShapes Go.WideShapes Go.ChangeAt Go.RowKit Go.Proofs.Ytnpclamoabcbgaa.Open Go.Proofs.Ytnpclamoabcbgaa.P Go.Proofs.YtnpclamoabcbgaaW.PrintWords
open Go.ChangeMaps (open_string shut_string)
set_option linter.unusedVariables false
theorem own : ownKnob Try.prog.godebug = none := by kernel_rfl
theorem laidOut : laidOutB Try.prog = true := by kernel_rfl
set_option maxRecDepth 100000 in
theorem lifted (os : Os) (started : os.Started) (H : Type) (enc : TypeId × Value → H) :
    ReturnsInHanded {} Try.checked os 4 .any (Rows.fnRegionsSpec.pre6 enc Try.prog Try.f4 Rows.fnRegionsRow.domain false) (Rows.fnRegionsSpec.post enc Try.prog Try.f4 false true false false) := by
  refine returnsInHanded_of_change_sized (C := Try.checked) own started (by kernel_rfl) Try.func4
    (ChangeSpec.witness6 (enc := enc) (C := Try.checked) false ⟨#[], #[.slice none 0 0], []⟩ 8 (by kernel_rfl) (by kernel_rfl) (by kernel_rfl) (by kernel_rfl)) ?_
  intro W base args ds gs before hval0 hW hcnd hsz0 _
  have hsz : (DataW.weightsEach Try.prog (Try.f4.params.toList ++ Rows.fnRegionsSpec.plain.varTypes Try.prog) (ds ++ gs)).all (· ≤ reachBytes) = true := hsz0
  have hval : ∀ (j : Nat) t v, Try.f4.params[j]? = some t → args[j]? = some v → Value.okWide Try.prog W .any base t v := hval0
  have hW' := hW
  obtain ⟨p, q, hA0, hV, rfl, hfz, hnd⟩ := hW
  have hA : DataW.TrodAll enc Try.prog W 0 (fun _ => true) true Try.f4.params.toList args.toList ds p := hA0
  rw [Try.params4] at hA hval hsz
  obtain ⟨v0, vs0, d0, ds0, p0, q0, hargs, rfl, rfl, h0, r0⟩ := trodAll_cons hA
  obtain ⟨rfl, rfl, rfl⟩ := trodAll_nil r0
  obtain rfl : args = #[v0] := by cases args; simp_all
  obtain ⟨rfl, rfl⟩ := trodVars_none hV
  obtain ⟨A0, len0, c0, rfl⟩ := okWide_slice Try.underlying32 (hval 0 32 v0 rfl rfl)
  have k0 := h0
  have lt0 : ∀ x ∈ p0, x.block < W.heap.size := by obtain ⟨m, hm⟩ := k0; exact DataW.trod_lt m _ _ _ hm
  have y0 : len0 * 1 ≤ 140737488351232 := sized_any hsz (j := 0) (t := 32) rfl rfl Try.underlying32 (by kernel_rfl) h0
  obtain ⟨l0, rfl, hc0, hr0, w0⟩ := slice_at (opens_slice Try.underlying32 (by kernel_rfl) (opens_int Try.underlying5)) h0
  clear hA0 hval0 hsz0 hsz
  obtain ⟨k, hp⟩ := Pure.FnRegions l0 w0 y0
  refine (laws_FnRegions.calls k A0 c0 l0 true W hr0 hc0 hp).mono fun e W' ⟨he, bel0⟩ => ?_
  have bel : Below W.heap.size W W' := bel0
  subst he
  exact ⟨_, rfl, _, _, _, [], _, [], hW', trodAll_mk1 (shut_bool Try.underlying4 _), (trodAll_cons_mk (Below.trod laidOut (by kernel_rfl) (of_decide_eq_true (by kernel_rfl)) k0 bel lt0) trodAll_mk0), rfl, bel.frame _, fun h => by cases h⟩
set_option maxHeartbeats 4000000 in
set_option maxRecDepth 100000 in
theorem closed : joinedFacts Try.prog 4 Try.f4 Rows.fnRegionsSpec Rows.fnRegionsRow = true := by
  unfold joinedFacts
  repeat' (with_reducible refine Bool.and_eq_true_iff.2 ⟨?_, ?_⟩)
  all_goals (as_aux_lemma => kernel_rfl)
theorem over : Rows.fnRegionsRow.holds Try.pinned (OpenSpec.ofChange Rows.fnRegionsSpec) :=
  OpenClaim.holds_of_wide 4 Try.f4 rfl rfl rfl rfl rfl rfl rfl ⟨rfl, rfl, rfl, rfl, rfl⟩ rfl rfl rfl rfl rfl (by kernel_rfl) Try.func4 closed
    (of_decide_eq_true (by kernel_rfl)) (by unfold Func.isWrapper; first | (rw [if_pos (by decide +kernel)]; kernel_rfl) | (rw [if_neg (by decide +kernel)]; exact ⟨rfl, rfl⟩))
    (fun os started H enc _ => lifted os started H enc)
theorem proved : Rows.FnRegionsSaid := over
#print axioms proved
end Go.Proofs.Ytnpclamoabcbgaa.fnRegions
namespace Go.Proofs.Ytnpclamoabcbgaa
theorem fnRegions_holds : Rows.FnRegionsSaid := fnRegions.proved
end Go.Proofs.Ytnpclamoabcbgaa
