/- Texts of the claim FnExactHoleCount, merged: part 10 of 10: the program's and the reference's functions as Lean functions, the walks that show it, and plain lemmas; no conditions. -/
import Derived.Test.YtnbpcacnbfbjkaaKFnExactHoleCount9
import Derived.Test.YtnbpcacnbfbjkaaKFnExactHoleCount6
import Derived.Test.YtnbpcacnbfbjkaaKFnExactHoleCount7
import Derived.Test.YtnbpcacnbfbjkaaRows
import Derived.WalkKit
import Derived.ProofKit
import Derived.OpenShut
import Derived.ShutString
import Derived.ChangeOld
import Derived.Below
import Derived.SizedLaws
import Derived.Test.YtnbpcacnbfbjkaaKFnExactHoleCount3
namespace Go.Proofs.Ytnbpcacnbfbjkaa.Pure
set_option linter.unusedVariables false
set_option linter.unusedSimpArgs false
set_option linter.unusedSectionVars false
open Go.RowKit Go.Proofs.Ytnbpcacnbfbjkaa.P Go.Proofs.YtnbpcacnbfbjkaaW.PrintWords Go.Proofs.YtnbpcacnbfbjkaaW.PrintLast
def pt (s : Sd) : S48 := ⟨s.x, s.y⟩
def Tip (M : Int → Int → Bool) (t : Sd) : Prop := IsSd M t ∧ ((t.w = 1 ∧ inM M t.x t.y 2 = true) ∨ (t.w = 0 ∧ inM M t.x t.y 3 = true))
theorem tip_unique {M : Int → Int → Bool} {t u : Sd} (ht : Tip M t) (hu : Tip M u) (e : pt t = pt u) : t = u := by
  have ex : t.x = u.x := congrArg S48.f0 e
  have ey : t.y = u.y := congrArg S48.f1 e
  obtain ⟨h1, h2⟩ := ht
  obtain ⟨k1, k2⟩ := hu
  obtain ⟨x, y, w⟩ := t
  obtain ⟨x', y', w'⟩ := u
  simp only at ex ey h2 k2
  subst ex; subst ey
  rcases h2 with ⟨rfl, h2⟩ | ⟨rfl, h2⟩ <;> rcases k2 with ⟨rfl, k2⟩ | ⟨rfl, k2⟩
  · rfl
  · exact absurd ⟨k2, h1.2⟩ (turn_two _ _ _ _)
  · exact absurd ⟨h2, k1.2⟩ (turn_two _ _ _ _)
  · rfl
theorem mem_cR {s t : Sd} {p : S48} (h : p ∈ cR s t) : p = pt t ∧ t.w ≠ s.w := by
  unfold cR at h
  split at h
  · cases h
  · exact ⟨List.mem_singleton.1 h, by assumption⟩
theorem mem_preP {g : Nat → Sd} {m : Nat} {p : S48} : ∀ (i : Nat), p ∈ preP g m i → ∃ j, j < i ∧ p = pt (g j)
  | 0, h => by cases h
  | i + 1, h => by
    rcases List.mem_append.1 (show p ∈ preP g m i ++ cR (g (ahd m i)) (g i) from h) with h | h
    · obtain ⟨j, h1, h2⟩ := mem_preP i h
      exact ⟨j, by omega, h2⟩
    · exact ⟨i, by omega, (mem_cR h).1⟩
theorem preP_has {g : Nat → Sd} {m : Nat} {p : S48} {j : Nat} (hp : cR (g (ahd m j)) (g j) = [p]) : ∀ (i : Nat), j < i → p ∈ preP g m i
  | 0, h => by omega
  | i + 1, h => by
    show p ∈ preP g m i ++ cR (g (ahd m i)) (g i)
    by_cases e : j = i
    · subst e
      rw [hp]
      exact List.mem_append.2 (.inr (List.mem_singleton.2 rfl))
    · exact List.mem_append.2 (.inl (preP_has hp i (by omega)))
theorem count_pre {g : Nat → Sd} {m i1 : Nat} {p : S48} : ∀ (n : Nat), (∀ i, i < n → p = pt (g i) → i = i1) → (preP g m n).count p ≤ 1 ∧ (n ≤ i1 → (preP g m n).count p = 0)
  | 0, _ => ⟨Nat.zero_le _, fun _ => rfl⟩
  | n + 1, h => by
    obtain ⟨c1, c2⟩ := count_pre n (fun i hi => h i (by omega))
    show (preP g m n ++ cR (g (ahd m n)) (g n)).count p ≤ 1 ∧ (_ → (preP g m n ++ cR (g (ahd m n)) (g n)).count p = 0)
    rw [List.count_append]
    by_cases hp : p ∈ cR (g (ahd m n)) (g n)
    · have e := h n (by omega) (mem_cR hp).1
      subst e
      have z1 : (preP g m n).count p = 0 := c2 (Nat.le_refl _)
      have z2 := List.count_le_length (l := cR (g (ahd m n)) (g n)) (a := p)
      have z3 := cR_len (g (ahd m n)) (g n)
      rw [z1]
      exact ⟨by omega, fun h => by omega⟩
    · rw [List.count_eq_zero_of_not_mem hp]
      exact ⟨by omega, fun h => by rw [c2 (by omega)]⟩
theorem idx_first {c : List S48} : ∀ (f : Nat), f < c.length → (∀ j, j < f → c.getD j zPt ≠ c.getD f zPt) → c.idxOf (c.getD f zPt) = f := by
  induction c with
  | nil => intro f hf; cases hf
  | cons a c ih =>
    intro f hf hne
    cases f with
    | zero => exact List.idxOf_cons_self
    | succ f =>
      have h0 := hne 0 (by omega)
      show (a :: c).idxOf (c.getD f zPt) = f + 1
      rw [List.idxOf_cons, show (a == c.getD f zPt) = false from beq_eq_false_iff_ne.mpr h0]
      have := ih f (by simpa using hf) (fun j hj => hne (j + 1) (by omega))
      show c.idxOf (c.getD f zPt) + 1 = f + 1
      rw [this]
theorem am_spec {c : List S48} (hc : 0 < c.length) : amF c 0 1 (c.length - 1) < c.length ∧ (∀ j, j < c.length → bef (c.getD j zPt) (c.getD (amF c 0 1 (c.length - 1)) zPt) = false) ∧ (∀ j, j < amF c 0 1 (c.length - 1) → bef (c.getD (amF c 0 1 (c.length - 1)) zPt) (c.getD j zPt) = true) := by
  have h := amF_spec c (c.length - 1) 0 1 (by omega) (fun j hj => by obtain rfl : j = 0 := by omega
                                                                     exact bef_irr _) (fun j hj => by omega)
  rw [show 1 + (c.length - 1) = c.length by omega] at h
  exact h
theorem turned_at {c : List S48} {p : S48} (hp : p ∈ c) (hmin : ∀ q ∈ c, bef q p = false) : turned c = turnTo p c ∧ 0 < (turned c).length ∧ (turned c).getD 0 zPt = p := by
  have hc := List.length_pos_of_mem hp
  obtain ⟨h1, h2, h3⟩ := am_spec hc
  have e : c.getD (amF c 0 1 (c.length - 1)) zPt = p := by
    obtain ⟨j, hj, rfl⟩ := List.getElem_of_mem hp
    have q1 := h2 j hj
    have q2 := hmin (c.getD (amF c 0 1 (c.length - 1)) zPt) (by rw [getD_eq_get _ h1]; exact List.getElem_mem h1)
    rw [getD_eq_get _ hj] at q1
    generalize c.getD (amF c 0 1 (c.length - 1)) zPt = u at *
    generalize c[j] = v at *
    rw [Bool.eq_false_iff, ne_eq, bef_iff] at q1 q2
    obtain ⟨a, b⟩ := u
    obtain ⟨a', b'⟩ := v
    simp only at q1 q2
    rw [show a = a' by omega, show b = b' by omega]
  have hi : c.idxOf p = amF c 0 1 (c.length - 1) := by
    have := idx_first _ h1 (fun j hj hh => by
      have := h3 j hj
      rw [hh, bef_irr] at this
      cases this)
    rw [e] at this
    exact this
  refine ⟨by unfold turned turnTo; rw [hi], by unfold turned; rw [List.length_append, List.length_drop]; omega, ?_⟩
  unfold turned
  rw [List.getD_eq_getElem?_getD, List.getElem?_append_left (by rw [List.length_drop]; omega), List.getElem?_drop, ← List.getD_eq_getElem?_getD]
  exact e
section
variable {M : Int → Int → Bool} {g : Nat → Sd} {m : Nat} (hg : RingG M g m)
include hg
theorem tip_of_min {i : Nat} (hi : i < m) (hmin : ∀ j, j < m → bef (pt (g j)) (pt (g i)) = false) : Tip M (g i) ∧ cR (g (ahd m i)) (g i) = [pt (g i)] := by
  have ha : ahd m i < m := by unfold ahd; split <;> omega
  have h1 := hmin _ ha
  have sa := hg.sd _ (Nat.le_of_lt ha)
  have sg := hg.sd i (Nat.le_of_lt hi)
  have hnb := no_back sa
  have hin := end_in sa
  have ea := hg.ahead hi
  have h2 : bef (pt (nextS M (g i))) (pt (g i)) = false := by
    rw [← hg.next i hi]
    by_cases e : i + 1 < m
    · exact hmin _ e
    · rw [show i + 1 = m by omega, hg.back]
      exact hmin 0 hg.pos
  rw [← ea] at hnb
  have ex : (g i).x = endX (g (ahd m i)) := by rw [ea]; rfl
  have ey : (g i).y = endY (g (ahd m i)) := by rw [ea]; rfl
  rw [← ex, ← ey] at hin
  clear ea hmin
  generalize g (ahd m i) = a at *
  generalize hb : g i = b at *
  rw [Bool.eq_false_iff, ne_eq, bef_iff] at h1 h2
  have wa := sa.1
  have wb := sg.1
  have nx : (nextS M b).x = endX b := rfl
  have ny : (nextS M b).y = endY b := rfl
  unfold pt at h1 h2
  simp only [nx, ny] at h1 h2
  unfold endX endY at *
  obtain ⟨xa, ya, va⟩ := a
  obtain ⟨xb, yb, vb⟩ := b
  simp only at *
  rcases four wa with rfl | rfl | rfl | rfl
  · simp at ex ey; omega
  · simp at ex ey; omega
  · rcases four wb with rfl | rfl | rfl | rfl
    · simp at hnb
    · exact ⟨⟨sg, .inl ⟨rfl, hin⟩⟩, by simp [cR, pt]⟩
    · exfalso; simp at h2; omega
    · exfalso; simp at h2; omega
  · rcases four wb with rfl | rfl | rfl | rfl
    · exact ⟨⟨sg, .inr ⟨rfl, hin⟩⟩, by simp [cR, pt]⟩
    · simp at hnb
    · exfalso; simp at h2; omega
    · exfalso; simp at h2; omega
theorem has_min : ∃ i, i < m ∧ ∀ j, j < m → bef (pt (g j)) (pt (g i)) = false := by
  have hc : 0 < ((List.range m).map (fun i => pt (g i))).length := by rw [List.length_map, List.length_range]; exact hg.pos
  have hget : ∀ j, j < m → ((List.range m).map (fun i => pt (g i))).getD j zPt = pt (g j) := fun j hj => by
    rw [getD_eq_get _ (by rw [List.length_map, List.length_range]; exact hj), List.getElem_map, List.getElem_range]
  obtain ⟨h1, h2, _⟩ := am_spec hc
  rw [List.length_map, List.length_range] at h1 h2
  refine ⟨_, h1, fun j hj => ?_⟩
  have := h2 j hj
  rw [hget j hj, hget _ h1] at this
  exact this
theorem ring_turned (hd : ∀ i j, i < m → j < m → g i = g j → i = j) : turned (preP g m m) = turned (corF g 0 m) ∧ 0 < (turned (corF g 0 m)).length ∧ ∃ i, i < m ∧ Tip M (g i) ∧ (turned (corF g 0 m)).getD 0 zPt = pt (g i) := by
  obtain ⟨i, hi, hmin⟩ := has_min hg
  obtain ⟨ht, hc⟩ := tip_of_min hg hi hmin
  have hpos := hg.pos
  have e1 : preP g m m = cR (g (m - 1)) (g 0) ++ corF g 0 (m - 1) := by
    have := preP_is g m (m - 1)
    rw [show m - 1 + 1 = m by omega] at this
    exact this
  have e2 : corF g 0 m = corF g 0 (m - 1) ++ cR (g (m - 1)) (g 0) := by
    have := corF_snoc g (m - 1) 0
    rw [show m - 1 + 1 = m by omega, Nat.zero_add, show m - 1 + 1 = m by omega, hg.back] at this
    exact this
  have hin : pt (g i) ∈ preP g m m := preP_has hc m hi
  have hcnt := (count_pre (g := g) (m := m) (i1 := i) (p := pt (g i)) m (fun j hj e => by
    have hj2 : ∀ q, q < m → bef (pt (g q)) (pt (g j)) = false := fun q hq => by rw [← e]; exact hmin q hq
    exact (hd i j hi hj (tip_unique ht (tip_of_min hg hj hj2).1 e)).symm)).1
  have m1 : ∀ q ∈ preP g m m, bef q (pt (g i)) = false := fun q hq => by
    obtain ⟨j, hj, rfl⟩ := mem_preP m hq
    exact hmin j hj
  have hsame : ∀ q, q ∈ preP g m m ↔ q ∈ corF g 0 m := fun q => by
    rw [e1, e2, List.mem_append, List.mem_append]
    exact Or.comm
  obtain ⟨t1, t2, t3⟩ := turned_at hin m1
  obtain ⟨u1, u2, u3⟩ := turned_at ((hsame _).1 hin) (fun q hq => m1 q ((hsame q).2 hq))
  refine ⟨?_, u2, i, hi, ht, u3⟩
  rw [t1, u1]
  rw [e1] at hin hcnt ⊢
  rw [e2]
  exact turnTo_turn hin hcnt
end
def kpos (Y : List (List S48)) (T : List S48) : Nat → Nat
  | 0 => 0
  | j + 1 => if lpLt T (Y.getD j []) = true then kpos Y T j else j + 1
theorem turned_len (c : List S48) : (turned c).length = c.length := by
  unfold turned
  rw [List.length_append, List.length_drop, List.length_take]
  omega
theorem kpos_le (Y : List (List S48)) (T : List S48) : ∀ j, kpos Y T j ≤ j
  | 0 => Nat.le_refl _
  | j + 1 => by
    unfold kpos
    have := kpos_le Y T j
    split <;> omega
theorem kpos_above (Y : List (List S48)) (T : List S48) : ∀ j i, kpos Y T j ≤ i → i < j → lpLt T (Y.getD i []) = true
  | 0, i, _, h => by omega
  | j + 1, i, h1, h2 => by
    unfold kpos at h1
    split at h1
    · rename_i h
      by_cases e : i = j
      · subst e; exact h
      · exact kpos_above Y T j i h1 (by omega)
    · omega
theorem kpos_below (Y : List (List S48)) (T : List S48) : ∀ j, 0 < kpos Y T j → lpLt T (Y.getD (kpos Y T j - 1) []) = false
  | 0, h => by cases h
  | j + 1, h => by
    unfold kpos at h ⊢
    split
    · rename_i hh
      rw [if_pos hh] at h
      exact kpos_below Y T j h
    · rename_i hh
      rw [Nat.add_sub_cancel]
      exact Bool.eq_false_iff.2 hh
def insL (Y : List (List S48)) (T : List S48) : List (List S48) := (([] ++ Y.take (kpos Y T Y.length)) ++ [T]) ++ Y.drop (kpos Y T Y.length)
theorem insL_perm (Y : List (List S48)) (T : List S48) : (insL Y T).Perm (Y ++ [T]) := by
  unfold insL
  rw [List.nil_append, List.append_assoc]
  have h1 : (Y.take (kpos Y T Y.length) ++ ([T] ++ Y.drop (kpos Y T Y.length))).Perm (Y.take (kpos Y T Y.length) ++ (Y.drop (kpos Y T Y.length) ++ [T])) := List.Perm.append_left _ List.perm_append_comm
  refine h1.trans ?_
  rw [← List.append_assoc, List.take_append_drop]
theorem insL_sorted {Y : List (List S48)} {T : List S48} (h : Y.Pairwise (fun a b => lpLt b a = false)) : (insL Y T).Pairwise (fun a b => lpLt b a = false) := by
  have hk := kpos_le Y T Y.length
  have hget : ∀ i j, i < j → j < Y.length → lpLt (Y.getD j []) (Y.getD i []) = false := fun i j hij hj => by
    rw [getD_eq_get _ hj, getD_eq_get _ (Nat.lt_trans hij hj)]
    exact List.pairwise_iff_getElem.1 h i j _ _ hij
  have hlow : ∀ i, i < kpos Y T Y.length → lpLt T (Y.getD i []) = false := fun i hi => by
    have h1 := kpos_below Y T Y.length (by omega)
    by_cases e : i = kpos Y T Y.length - 1
    · rw [e]; exact h1
    · have h2 := hget i (kpos Y T Y.length - 1) (by omega) (by omega)
      rw [lpLt_no] at *
      omega
  unfold insL
  rw [List.nil_append, List.append_assoc, List.pairwise_append]
  refine ⟨h.sublist (List.take_sublist _ _), ?_, ?_⟩
  · rw [List.singleton_append, List.pairwise_cons]
    refine ⟨fun b hb => ?_, h.sublist (List.drop_sublist _ _)⟩
    obtain ⟨j, hj, rfl⟩ := List.getElem_of_mem hb
    rw [List.length_drop] at hj
    rw [List.getElem_drop]
    have := kpos_above Y T Y.length (kpos Y T Y.length + j) (by omega) (by omega)
    rw [getD_eq_get _ (show kpos Y T Y.length + j < Y.length by omega)] at this
    exact lp_asym this
  · intro a ha b hb
    obtain ⟨i, hi, rfl⟩ := List.getElem_of_mem ha
    rw [List.length_take] at hi
    rw [List.getElem_take]
    rcases List.mem_append.1 hb with hb | hb
    · rw [List.mem_singleton.1 hb]
      have := hlow i (by omega)
      rw [getD_eq_get _ (show i < Y.length by omega)] at this
      exact this
    · obtain ⟨j, hj, rfl⟩ := List.getElem_of_mem hb
      rw [List.length_drop] at hj
      rw [List.getElem_drop]
      have := hget i (kpos Y T Y.length + j) (by omega) (by omega)
      rw [getD_eq_get _ (show i < Y.length by omega), getD_eq_get _ (show kpos Y T Y.length + j < Y.length by omega)] at this
      exact this
theorem rdL (Y : List (List S48)) (i : Nat) : rd_L3 Y (i : Int) = Y.getD i [] := by
  unfold rd_L3
  rw [Int.toNat_natCast]
theorem lt_split (T S : List S48) : lpLt T S = (bef (rd_T48 T 0) (rd_T48 S 0) || (((rd_T48 T 0).f0 == (rd_T48 S 0).f0 && ((rd_T48 T 0).f1 == (rd_T48 S 0).f1)) && decide ((T.length : Int) < (S.length : Int)))) := by
  unfold lpLt bef lpX lpY
  generalize rd_T48 T 0 = p
  generalize rd_T48 S 0 = q
  rw [Bool.eq_iff_iff]
  simp only [decide_eq_true_eq, Bool.or_eq_true, Bool.and_eq_true, beq_iff_eq]
  omega
theorem kl_ev (Y : List (List S48)) (T : List S48) (hT : 0 < T.length) (hY : ∀ j, j < Y.length → 0 < (Y.getD j []).length) (hl : Y.length ≤ 400000) : ∀ j, j ≤ Y.length → Ev (fun k => spec_l8Loops.kl k Y T (j : Int)) ((kpos Y T j : Nat) : Int)
  | 0, _ => ev_step (fun k => spec_l8Loops.kl.eq_2 _ _ _ k) (ev_ifn (by omega) (ev_some _))
  | j + 1, hj => by
    have e3 := Aside0.mk (show wrap64 (((j + 1 : Nat) : Int) - 1) = ((j : Nat) : Int) by rw [w64 (by omega) (by omega)]; omega)
    have h1 := hY j (by omega)
    have ih := kl_ev Y T hT hY hl j (by omega)
    refine ev_step (fun k => spec_l8Loops.kl.eq_2 _ _ _ k) (ev_ifp (by omega) (ev_ifp (by omega) ?_))
    rw [e3.out, rdL]
    refine ev_ifp (by omega) (ev_ifp (by omega) (ev_ifp (by omega) (ev_bind (ev_const (before_is _ _)) ?_)))
    unfold kpos
    rw [lt_split]
    generalize bef (rd_T48 T 0) (rd_T48 (Y.getD j []) 0) = b1
    generalize ((rd_T48 T 0).f0 == (rd_T48 (Y.getD j []) 0).f0 && ((rd_T48 T 0).f1 == (rd_T48 (Y.getD j []) 0).f1)) = b2
    cases b1 with
    | true =>
      rw [Bool.true_or, if_pos rfl]
      exact ev_ifp rfl ih
    | false =>
      rw [Bool.false_or]
      refine ev_ifn (by simp) ?_
      cases b2 with
      | true =>
        rw [Bool.true_and]
        refine ev_ifp rfl ?_
        by_cases hlt : (T.length : Int) < ((Y.getD j []).length : Int)
        · rw [if_pos (decide_eq_true hlt)]
          exact ev_ifp hlt ih
        · rw [if_neg (by rw [decide_eq_false hlt]; simp)]
          exact ev_ifn hlt (ev_some _)
      | false =>
        rw [Bool.false_and, if_neg (by simp)]
        exact ev_ifn (by simp) (ev_some _)
section
variable {W : Int} {l : List Int} {L : List Sd} (hL : ∀ s, s ∈ L ↔ IsSd (inR W l) s) (hb : ∀ s ∈ L, -100 ≤ s.x ∧ s.x ≤ 100 ∧ -100 ≤ s.y ∧ s.y ≤ 100) (hn : L.Nodup) (hl : L.length ≤ 100000)
structure InvL (W : Int) (l : List Int) (L : List Sd) (u : List Bool) (X Y : List (List S48)) (i : Nat) : Prop where
  len : u.length = L.length
  closed : ClosedU (nxI W l L) L.length u
  pos : ∀ T ∈ X, 0 < T.length
  small : ∀ T ∈ X, T.length ≤ 400000
  tip : ∀ T ∈ X, ∃ a, a < L.length ∧ u.getD a false = true ∧ Tip (inR W l) (L.getD a z0Sd) ∧ (lpX T, lpY T) = ((L.getD a z0Sd).x, (L.getD a z0Sd).y)
  nodup : (X.map (fun a => (lpX a, lpY a))).Nodup
  perm : Y.Perm X
  sorted : Y.Pairwise (fun a b => lpLt b a = false)
  few : X.length ≤ i
include hL hb hn hl
theorem loop_one {u : List Bool} {X Y : List (List S48)} {i : Nat} (hI : InvL W l L u X Y i) (hi : i < L.length) (hu : u.getD i false = false) :
    ∃ (T : List S48) (u' : List Bool), Ev (fun k => spec_l8Loop.f k (L.map toR) (i : Int) u) (T, u') ∧
      (∀ (x19 : Int) (r : List (List S48)), Ev (fun k => impl_outlines.l0 k (L.map (toP W)) u' (X ++ [T]) (L.length : Int) (wrap64 (x19 + 1))) r → Ev (fun k => impl_outlines.l1 k (L.map (toP W)) u X [] (i : Int) (L.length : Int) x19) r) ∧
      0 < T.length ∧ InvL W l L u' (X ++ [T]) (insL Y T) (i + 1) := by
  have hlt : ∀ x, x < L.length → nxI W l L x < L.length := fun x hx => nxI_lt (L := L) hL hb hn (by omega) hx
  have inj : ∀ x y, x < L.length → y < L.length → nxI W l L x = nxI W l L y → x = y := fun x y hx hy e => nxI_inj (L := L) hL hb hn (by omega) hx hy e
  obtain ⟨m, m0, mn, hback, hno, hyes, hO, hcl⟩ := orbit_all hlt inj hi hu hI.closed hI.len
  have hlt2 : ∀ j, j ≤ m → itN (nxI W l L) j i < L.length := fun j hj => hO.lt j hj
  have hg : RingG (inR W l) (fun j => L.getD (itN (nxI W l L) j i) z0Sd) m := ⟨m0, fun j hj => (hL _).1 (getD_mem (L := L) hL hb (by omega) (hlt2 j hj)), fun j hj => nxI_get (L := L) hL hb hn (by omega) (hlt2 j (by omega)), by show L.getD (itN _ m i) _ = L.getD i _; rw [hback]⟩
  have hd : ∀ a b, a < m → b < m → L.getD (itN (nxI W l L) a i) z0Sd = L.getD (itN (nxI W l L) b i) z0Sd → a = b := fun a b ha hb2 e => by
    rw [getD_eq_get _ (hlt2 a (by omega)), getD_eq_get _ (hlt2 b (by omega))] at e
    exact hO.dist a b ha hb2 ((List.getElem_inj hn).1 e)
  obtain ⟨t1, t2, q, hq, htip, hfirst⟩ := ring_turned hg hd
  have hcl2 := corF_len (fun j => L.getD (itN (nxI W l L) j i) z0Sd) m 0
  refine ⟨turned (corF (fun j => L.getD (itN (nxI W l L) j i) z0Sd) 0 m), usedN (nxI W l L) i u m, ?_, ?_, t2, ?_⟩
  · have h := loop_walk (L := L) hL hb hn (by omega) (s := i) (u0 := u) hlt2 hI.len hno hyes mn (turned (corF (fun j => L.getD (itN (nxI W l L) j i) z0Sd) 0 m), usedN (nxI W l L) i u m) (fun C hC => by rw [hC]; exact turned_spec _ _ (by omega)) m 0 (by omega)
    exact h
  · intro x19 r hr
    have hco := cornersOf_ev (W := W) hg (by omega)
    rw [t1] at hco
    have hf := hI.few
    exact out_walk (L := L) hL hb hn (by omega) (s := i) (u0 := u) hlt2 hI.len hno hyes mn X x19 r (ev_bind hco (ev_ifp (by omega) hr)) m 0 (by omega)
  · have hmono : ∀ a, u.getD a false = true → (usedN (nxI W l L) i u m).getD a false = true := fun a ha => (hO.used a).2 (.inl ha)
    have hxy : (lpX (turned (corF (fun j => L.getD (itN (nxI W l L) j i) z0Sd) 0 m)), lpY (turned (corF (fun j => L.getD (itN (nxI W l L) j i) z0Sd) 0 m))) = ((L.getD (itN (nxI W l L) q i) z0Sd).x, (L.getD (itN (nxI W l L) q i) z0Sd).y) := by
      unfold lpX lpY
      rw [show (0 : Int) = ((0 : Nat) : Int) from rfl, rd_pt, hfirst]
      rfl
    refine ⟨by rw [usedN_len]; exact hI.len, hcl, fun T hT => ?_, fun T hT => ?_, fun T hT => ?_, ?_, (insL_perm Y _).trans (hI.perm.append_right _), insL_sorted hI.sorted, by rw [List.length_append, List.length_singleton]; have := hI.few; omega⟩
    · rcases List.mem_append.1 hT with h | h
      · exact hI.pos T h
      · rw [List.mem_singleton.1 h]; exact t2
    · rcases List.mem_append.1 hT with h | h
      · exact hI.small T h
      · rw [List.mem_singleton.1 h, turned_len]; omega
    · rcases List.mem_append.1 hT with h | h
      · obtain ⟨a, a1, a2, a3, a4⟩ := hI.tip T h
        exact ⟨a, a1, hmono a a2, a3, a4⟩
      · rw [List.mem_singleton.1 h]
        exact ⟨itN (nxI W l L) q i, hlt2 q (by omega), (hO.used _).2 (.inr ⟨q, hq, rfl⟩), htip, hxy⟩
    · rw [List.map_append, List.nodup_append]
      refine ⟨hI.nodup, by simp, fun z hz z' hz' e => ?_⟩
      subst e
      obtain ⟨S, hS, hSz⟩ := List.mem_map.1 hz
      have h2 : z = _ := List.mem_singleton.1 hz'
      obtain ⟨a, a1, a2, a3, a4⟩ := hI.tip S hS
      have e2 : (lpX S, lpY S) = ((L.getD (itN (nxI W l L) q i) z0Sd).x, (L.getD (itN (nxI W l L) q i) z0Sd).y) := hSz.trans (h2.trans hxy)
      rw [a4, Prod.mk.injEq] at e2
      have e3 : L.getD a z0Sd = L.getD (itN (nxI W l L) q i) z0Sd := tip_unique a3 htip (by unfold pt; rw [e2.1, e2.2])
      rw [getD_eq_get _ a1, getD_eq_get _ (hlt2 q (by omega))] at e3
      have e4 := (List.getElem_inj hn).1 e3
      have h5 := hO.fresh q hq
      rw [← e4, a2] at h5
      cases h5
theorem loops_both : ∀ (d i : Nat) (u : List Bool) (X Y : List (List S48)), i + d = L.length → InvL W l L u X Y i → ∃ Z, Ev (fun k => impl_outlines.l0 k (L.map (toP W)) u X (L.length : Int) (i : Int)) Z ∧ Ev (fun k => spec_l8Loops.l0 k Y (L.map toR) u (i : Int)) Z ∧ (∀ T ∈ Z, 0 < T.length ∧ T.length ≤ 400000) ∧ Z.length ≤ L.length
  | 0, i, u, X, Y, hd, hI => by
    have hlenR : (L.map toR).length = L.length := List.length_map ..
    have hok : lpOk X = true := by
      unfold lpOk
      rw [Bool.and_eq_true, List.all_eq_true]
      exact ⟨fun T hT => decide_eq_true (hI.pos T hT), decide_eq_true hI.nodup⟩
    have hs := lpSrt_is hok hI.perm hI.sorted
    have hf := hI.few
    refine ⟨Y, ?_, ev_step (fun k => spec_l8Loops.l0.eq_2 _ _ _ _ k) (ev_ifn (by rw [hlenR]; omega) (ev_some _)), fun T hT => ⟨hI.pos T (hI.perm.mem_iff.1 hT), hI.small T (hI.perm.mem_iff.1 hT)⟩, by rw [hI.perm.length_eq]; omega⟩
    rw [hs]
    exact ev_step (fun k => impl_outlines.l0.eq_2 _ _ _ _ _ k) (ev_ifn (by omega) (ev_ifp ⟨by omega, hok⟩ (ev_some _)))
  | d + 1, i, u, X, Y, hd, hI => by
    have hi : i < L.length := by omega
    have hlenR : (L.map toR).length = L.length := List.length_map ..
    have hul := hI.len
    have e3 := Aside0.mk (show wrap64 ((i : Int) + 1) = ((i + 1 : Nat) : Int) by rw [w64 (by omega) (by omega)]; rfl)
    have hrd : rdOf false u (i : Int) = u.getD i false := by
      unfold rdOf
      rw [Int.toNat_natCast]
    by_cases hu : u.getD i false = true
    · obtain ⟨Z, z1, z2, z3, z4⟩ := loops_both d (i + 1) u X Y (by omega) ⟨hI.len, hI.closed, hI.pos, hI.small, hI.tip, hI.nodup, hI.perm, hI.sorted, by have := hI.few; omega⟩
      refine ⟨Z, ev_step (fun k => impl_outlines.l0.eq_2 _ _ _ _ _ k) (ev_ifp (by omega) (ev_ifp (by omega) (ev_ifp (by omega) (ev_ifp (by rw [hrd]; exact hu) ?_)))), ev_step (fun k => spec_l8Loops.l0.eq_2 _ _ _ _ k) (ev_ifp (by rw [hlenR]; omega) (ev_ifp (by omega) (ev_ifp (by omega) (ev_ifp (by rw [hrd]; exact hu) ?_)))), z3, z4⟩
      · rw [e3.out]; exact z1
      · rw [e3.out]; exact z2
    · have hu2 := Bool.eq_false_iff.2 hu
      obtain ⟨T, u', f1, f2, f3, f4⟩ := loop_one hL hb hn hl hI hi hu2
      obtain ⟨Z, z1, z2, z3, z4⟩ := loops_both d (i + 1) u' (X ++ [T]) (insL Y T) (by omega) f4
      have hYl := hI.perm.length_eq
      have hf := hI.few
      have hk := kl_ev Y T f3 (fun j hj => hI.pos _ (hI.perm.mem_iff.1 (by rw [getD_eq_get _ hj]; exact List.getElem_mem hj))) (by omega) Y.length (Nat.le_refl _)
      have hkp := kpos_le Y T Y.length
      refine ⟨Z, ev_step (fun k => impl_outlines.l0.eq_2 _ _ _ _ _ k) (ev_ifp (by omega) (ev_ifp (by omega) (ev_ifp (by omega) (ev_ifn (by rw [hrd]; exact hu) (f2 _ _ ?_))))), ev_step (fun k => spec_l8Loops.l0.eq_2 _ _ _ _ k) (ev_ifp (by rw [hlenR]; omega) (ev_ifp (by omega) (ev_ifp (by omega) (ev_ifn (by rw [hrd]; exact hu) (ev_bind f1 (ev_bind hk (ev_bind (ev_some _) (ev_ifp (by omega) (ev_ifp (by omega) (ev_bind (ev_some _) (ev_ifp ?_ (ev_bind (ev_some _) (ev_bind (ev_some _) (ev_ifp ?_ (ev_bind (ev_some _) (ev_bind (ev_some _) (ev_ifp ?_ ?_))))))))))))))))), z3, z4⟩
      · rw [e3.out]; exact z1
      · simp only [List.length_nil, List.length_take]; omega
      · simp only [List.length_append, List.length_nil, List.length_take, List.length_singleton]; omega
      · simp only [List.length_append, List.length_nil, List.length_take, List.length_singleton, List.length_drop]; omega
      · rw [e3.out, Int.toNat_natCast]; exact z2
end
theorem wrap_order (x a b : Int) : wrap64 (x + wrap64 (wrap64 a - wrap64 b)) = wrap64 (wrap64 (x + wrap64 a) - wrap64 b) := by
  unfold wrap64
  omega
theorem loopArea_same (xs : List S48) : ∀ k s i, impl_loopArea.l0 k xs s xs (xs.length : Int) i = spec_l8Area.l0 k xs s i := by
  intro k
  induction k with
  | zero => intro s i; rfl
  | succ k ih =>
    intro s i
    simp only [impl_loopArea.l0, spec_l8Area.l0, ih, wrap_order]
    by_cases h0 : i < (xs.length : Int)
    · simp only [h0, if_true]
    · simp only [h0, if_false]
theorem area_same (xs : List S48) (k : Nat) : impl_loopArea.f k xs = spec_l8Area.f k xs := loopArea_same xs k 0 0
theorem area_ends (xs : List S48) (hn : xs.length ≤ 9223372036854775806) : ∃ r, Ev (fun k => spec_l8Area.f k xs) r := by
  have h := ends_ev (fun k (s : Int) i => spec_l8Area.l0 k xs s (i : Int)) xs.length (fun i s hi => .inl ⟨_, fun r h => ev_step (fun k => by
      simp only [spec_l8Area.l0]
      rw [if_pos (by omega), if_pos (by omega), if_neg (by omega), w64 (by omega) (by omega), tmod_next hi, if_pos (by omega), if_pos (by have := Nat.mod_lt (i + 1) (show 0 < xs.length by omega); omega)]
      rfl) h⟩)
    (fun s => ⟨wrap64 (Int.tdiv s 2), ev_step (f := fun _ => some (wrap64 (Int.tdiv s 2))) (fun k => by
      simp only [spec_l8Area.l0]
      rw [if_neg (by omega)]) (ev_some _)⟩) 0 0 (Nat.zero_le _)
  exact h
theorem rising_ge {l : List Int} (h : rising l = true) (h0 : ∀ x ∈ l, 0 ≤ x) : ∀ j, j < l.length → (j : Int) ≤ l.getD j 0
  | 0, hj => by
    have := h0 (l.getD 0 0) (by rw [getD_eq_get _ hj]; exact List.getElem_mem hj)
    omega
  | j + 1, hj => by
    have h1 := rising_ge h h0 j (by omega)
    have h2 := rising_lt h (j + 1) j (by omega) hj
    omega
theorem sd0_len (b : Bool) (s : Sd) : (sd0 b s).length ≤ 1 := by cases b <;> simp [sd0]
theorem sdFrom_len (W : Int) (l : List Int) : ∀ (d i : Nat), (sdFrom W l i d).length ≤ 4 * d
  | 0, i => Nat.zero_le _
  | d + 1, i => by
    show (sdAt W l _ _ ++ sdFrom W l (i + 1) d).length ≤ _
    have := sdFrom_len W l d (i + 1)
    unfold sdAt
    simp only [List.length_append]
    have a1 := sd0_len (inR W l (Int.tmod (l.getD i 0) W) (Int.tdiv (l.getD i 0) W - 1)) ⟨Int.tmod (l.getD i 0) W, Int.tdiv (l.getD i 0) W, 0⟩
    have a2 := sd0_len (inR W l (Int.tmod (l.getD i 0) W + 1) (Int.tdiv (l.getD i 0) W)) ⟨Int.tmod (l.getD i 0) W + 1, Int.tdiv (l.getD i 0) W, 1⟩
    have a3 := sd0_len (inR W l (Int.tmod (l.getD i 0) W) (Int.tdiv (l.getD i 0) W + 1)) ⟨Int.tmod (l.getD i 0) W + 1, Int.tdiv (l.getD i 0) W + 1, 2⟩
    have a4 := sd0_len (inR W l (Int.tmod (l.getD i 0) W - 1) (Int.tdiv (l.getD i 0) W)) ⟨Int.tmod (l.getD i 0) W, Int.tdiv (l.getD i 0) W + 1, 3⟩
    omega
theorem rep_false (n a : Nat) : (List.replicate n false).getD a false = false := by
  rw [List.getD_eq_getElem?_getD, List.getElem?_replicate]
  split <;> rfl
theorem outlines_both {a b : Int} {l : List Int} (hl : l.length ≤ 1048576) (ok : regionOk a b l = true) : ∃ Z : List (List S48), Ev (fun k => impl_outlines.f k a l) Z ∧ Ev (fun k => spec_l8Loops.f k a b l) Z ∧ (∀ T ∈ Z, 0 < T.length ∧ T.length ≤ 400000) ∧ Z.length ≤ 100000 := by
  unfold regionOk at ok
  obtain ⟨hs, hok⟩ := Bool.and_eq_true_iff.1 ok
  obtain ⟨hris, hin⟩ := Bool.and_eq_true_iff.1 hok
  rw [rall_iff] at hin
  obtain ⟨⟨a1, a8⟩, b1, b8⟩ := shape_iff.1 hs
  have hr : ∀ x ∈ l, 0 ≤ x ∧ x < a * b := fun x hx => by
    obtain ⟨i, hi, rfl⟩ := List.getElem_of_mem hx
    have := inb_iff.1 (hin i (Nat.zero_le _) (by omega))
    rw [getD_eq_get _ hi] at this
    omega
  have h0 : ∀ x ∈ l, 0 ≤ x := fun x hx => (hr x hx).1
  have hp := mul_bd a1 a8 b1 b8
  have hl64 : l.length ≤ 64 := by
    rcases Nat.lt_or_ge 64 l.length with h | h
    · have h1 := rising_ge hris h0 64 h
      have h2 := (hr (l.getD 64 0) (by rw [getD_eq_get _ h]; exact List.getElem_mem h)).2
      omega
    · exact h
  have hlen := sdFrom_len a l l.length 0
  have hmem := fun s => mem_sides (W := a) (l := l) a1 h0 (s := s)
  have hnd := nodup_sdFrom (W := a) (l := l) a1 h0 (fun i j hij hj e => by have := rising_lt hris j i hij hj; omega) l.length 0 (by omega)
  have hbd : ∀ s ∈ sdFrom a l 0 l.length, -100 ≤ s.x ∧ s.x ≤ 100 ∧ -100 ≤ s.y ∧ s.y ≤ 100 := fun s hs => by
    obtain ⟨j, _, hj, h⟩ := (mem_sdFrom l.length 0).1 hs
    obtain ⟨w4, hx, hy, _⟩ := mem_sdAt.1 h
    obtain ⟨c1, c2, c3, c4⟩ := cell_bd a1 a8 b1 b8 hr (i := j) (by omega)
    rw [← hx] at c1 c2
    rw [← hy] at c3 c4
    unfold cellX at c1 c2
    unfold cellY at c3 c4
    split at c1 <;> split at c3 <;> simp_all <;> omega
  have g1 := sides_impl a1 a8 b1 b8 hl hr l.length 0 [] (by omega) (by simp)
  have g2 := sides_spec a1 a8 b1 b8 hl hr l.length 0 [] (by omega) (by simp)
  rw [List.nil_append] at g1 g2
  generalize sdFrom a l 0 l.length = L at *
  have hlP : (L.map (toP a)).length = L.length := List.length_map ..
  have hlR : (L.map toR).length = L.length := List.length_map ..
  have hI : InvL a l L (List.replicate L.length false) [] [] 0 := ⟨List.length_replicate .., (fun x hx hu => by rw [rep_false] at hu; cases hu), fun T hT => (by cases hT), fun T hT => (by cases hT), fun T hT => (by cases hT), List.nodup_nil, List.Perm.refl _, List.Pairwise.nil, Nat.le_refl _⟩
  obtain ⟨Z, z1, z2, z3, z4⟩ := loops_both (W := a) (l := l) (L := L) hmem hbd hnd (by omega) L.length 0 _ [] [] (by omega) hI
  refine ⟨Z, ?_, ?_, z3, by omega⟩
  · unfold impl_outlines.f
    refine ev_bind g1 ?_
    rw [hlP]
    refine ev_ifp (by omega) (ev_ifp (by omega) ?_)
    rw [Int.toNat_natCast]
    exact z1
  · unfold spec_l8Loops.f
    refine ev_bind g2 ?_
    rw [hlR]
    refine ev_ifp (by omega) (ev_ifp (by omega) ?_)
    rw [Int.toNat_natCast]
    exact z2
theorem holes_both (Z : List (List S48)) (hZ : Z.length ≤ 100000) (hT : ∀ T ∈ Z, 0 < T.length ∧ T.length ≤ 400000) : ∀ (d i n : Nat), i + d = Z.length → n ≤ i → ∃ r : Int × Bool, Ev (fun k => spec_HoleCount.l0 k Z (n : Int) (i : Int)) r ∧ Ev (fun k => impl_HoleCount.l0 k (n : Int) Z (Z.length : Int) (i : Int)) r
  | 0, i, n, h0, hn => ⟨((n : Int), true), ev_step (fun k => spec_HoleCount.l0.eq_2 _ _ _ k) (ev_ifn (by omega) (ev_some _)), ev_step (fun k => impl_HoleCount.l0.eq_2 _ _ _ _ k) (ev_ifn (by omega) (ev_some _))⟩
  | d + 1, i, n, h0, hn => by
    have hi : i < Z.length := by omega
    have e3 := Aside0.mk (show wrap64 ((i : Int) + 1) = ((i + 1 : Nat) : Int) by rw [w64 (by omega) (by omega)]; rfl)
    have e4 := Aside0.mk (show wrap64 ((n : Int) + 1) = ((n + 1 : Nat) : Int) by rw [w64 (by omega) (by omega)]; rfl)
    have hm := hT (Z.getD i []) (by rw [getD_eq_get _ hi]; exact List.getElem_mem hi)
    obtain ⟨A, hA⟩ := area_ends (Z.getD i []) (by omega)
    have hA2 : Ev (fun k => impl_loopArea.f k (Z.getD i [])) A := Ev.congr (fun k => area_same _ k) hA
    by_cases hneg : A < 0
    · obtain ⟨r, r1, r2⟩ := holes_both Z hZ hT d (i + 1) (n + 1) (by omega) (by omega)
      refine ⟨r, ev_step (fun k => spec_HoleCount.l0.eq_2 _ _ _ k) (ev_ifp (by omega) (ev_ifp (by omega) ?_)), ev_step (fun k => impl_HoleCount.l0.eq_2 _ _ _ _ k) (ev_ifp (by omega) (ev_ifp (by omega) (ev_ifp (by omega) ?_)))⟩
      · rw [rdL, e3.out, e4.out]
        exact ev_bind hA (ev_ifp hneg r1)
      · rw [rdL, e3.out, e4.out]
        exact ev_bind hA2 (ev_ifp hneg r2)
    · obtain ⟨r, r1, r2⟩ := holes_both Z hZ hT d (i + 1) n (by omega) (by omega)
      refine ⟨r, ev_step (fun k => spec_HoleCount.l0.eq_2 _ _ _ k) (ev_ifp (by omega) (ev_ifp (by omega) ?_)), ev_step (fun k => impl_HoleCount.l0.eq_2 _ _ _ _ k) (ev_ifp (by omega) (ev_ifp (by omega) (ev_ifp (by omega) ?_)))⟩
      · rw [rdL, e3.out]
        exact ev_bind hA (ev_ifn hneg r1)
      · rw [rdL, e3.out]
        exact ev_bind hA2 (ev_ifn hneg r2)
theorem holeCount_both (a b : Int) (l : List Int) (hl : l.length ≤ 1048576) : ∃ r : Int × Bool, Ev (fun k => spec_HoleCount.f k a b l) r ∧ Ev (fun k => impl_HoleCount.f k a b l) r := by
  have g1 := l8Region_ev a b l (by omega)
  have g2 := isRegion_ev a b l (by omega)
  unfold spec_HoleCount.f impl_HoleCount.f
  cases ok : regionOk a b l with
  | false =>
    rw [ok] at g1 g2
    exact ⟨(0, false), ev_bind g1 (ev_ifn (by simp) (ev_some _)), ev_bind g2 (ev_ifn (by simp) (ev_some _))⟩
  | true =>
    rw [ok] at g1 g2
    obtain ⟨Z, z1, z2, z3, z4⟩ := outlines_both (a := a) (b := b) hl ok
    obtain ⟨r, r1, r2⟩ := holes_both Z z4 z3 Z.length 0 0 (by omega) (Nat.le_refl _)
    exact ⟨r, ev_bind g1 (ev_ifp rfl (ev_bind z2 r1)), ev_bind g2 (ev_ifp rfl (ev_bind z1 r2))⟩
end Go.Proofs.Ytnbpcacnbfbjkaa.Pure
namespace Go.Proofs.Ytnbpcacnbfbjkaa.Pure
set_option linter.unusedVariables false
set_option linter.unusedSimpArgs false
open Go.RowKit Go.Proofs.Ytnbpcacnbfbjkaa.P Go.Proofs.YtnbpcacnbfbjkaaW.PrintWords Go.Proofs.YtnbpcacnbfbjkaaW.PrintLast
theorem toIntS_ev (xs : List Int) (hm : xs.length ≤ 35184372088832) : Ev (fun k => laws_toIntS.f k xs) xs := by
  have h := loop_ev (fun k ys i => laws_toIntS.l0 k xs ys (i : Int)) xs.length (fun i ys => ys.set i (xs.getD i 0)) (fun ys => ys)
    (fun i ys => ys.length = xs.length ∧ ∀ j, j < i → ys.getD j 0 = xs.getD j 0)
    (fun i ys r hI hi h => ev_step (fun k => by
      show laws_toIntS.l0 (k + 1) xs ys (i : Int) = laws_toIntS.l0 k xs (ys.set i (xs.getD i 0)) ((i + 1 : Nat) : Int)
      have hl := hI.1
      simp only [laws_toIntS.l0]
      rw [if_pos (by omega), if_pos (by omega), if_pos (by omega), w64 (by omega) (by omega), rd_nat]
      simp) h)
    (fun i ys hI hi => ⟨by simp [hI.1], fun j hj => by
      by_cases e : j = i
      · subst e
        have := hI.1
        simp [List.getD, List.getElem?_set_self (show j < ys.length by omega)]
      · have := hI.2 j (by omega)
        rw [← this]
        simp [List.getD, List.getElem?_set_ne (Ne.symm e)]⟩)
    (fun ys hI => ev_step (f := fun _ => some ys) (fun k => by
      simp only [laws_toIntS.l0]
      rw [if_neg (by omega)]) (ev_some _)) 0 (List.replicate xs.length 0) (Nat.zero_le _) ⟨by simp, fun j hj => by omega⟩
  have e : iter (fun i (ys : List Int) => ys.set i (xs.getD i 0)) 0 (xs.length - 0) (List.replicate xs.length 0) = xs := by
    have hi := iter_inv (fun i (ys : List Int) => ys.set i (xs.getD i 0)) (fun i ys => ys.length = xs.length ∧ ∀ j, j < i → ys.getD j 0 = xs.getD j 0) xs.length
      (fun i ys hI hi => ⟨by simp [hI.1], fun j hj => by
        by_cases e : j = i
        · subst e
          have := hI.1
          simp [List.getD, List.getElem?_set_self (show j < ys.length by omega)]
        · have := hI.2 j (by omega)
          rw [← this]
          simp [List.getD, List.getElem?_set_ne (Ne.symm e)]⟩) (xs.length - 0) 0 (List.replicate xs.length 0) (by omega) ⟨by simp, fun j hj => by omega⟩
    exact eq_index 0 hi.1 (fun j hj => hi.2 j (by have := hi.1; omega))
  rw [e] at h
  refine Ev.congr (fun k => ?_) h
  unfold laws_toIntS.f
  rw [if_pos (by omega), if_pos (by omega)]
  simp
theorem eqIntS_ev (xs ys : List Int) (hm : xs.length ≤ 9223372036854775806) : Ev (fun k => laws_eqIntS.f k xs ys) (decide (xs = ys)) := by
  by_cases hl : xs.length = ys.length
  · have h := allb_ev (fun k i => laws_eqIntS.l0 k xs ys (i : Int)) xs.length (fun i => decide (xs.getD i 0 = ys.getD i 0))
      (fun i r hi hp h => ev_step (fun k => by
        simp only [laws_eqIntS.l0]
        rw [if_pos (by omega), if_pos (by omega), if_pos (by omega), rd_nat, rd_nat, if_pos (by simpa using hp), w64 (by omega) (by omega)]
        rfl) h)
      (fun i hi hp => ev_step (f := fun _ => some false) (fun k => by
        simp only [laws_eqIntS.l0]
        rw [if_pos (by omega), if_pos (by omega), if_pos (by omega), rd_nat, rd_nat, if_neg (by simpa using hp)]) (ev_some _))
      (ev_step (f := fun _ => some true) (fun k => by
        simp only [laws_eqIntS.l0]
        rw [if_neg (by omega)]) (ev_some _))
    rw [rall_eq 0 hl] at h
    refine Ev.congr (fun k => ?_) h
    unfold laws_eqIntS.f
    rw [if_pos (by omega)]
    rfl
  · refine Ev.congr (f := fun _ => some false) (fun k => ?_) (by rw [decide_eq_false (fun e => hl (by rw [e]))]; exact ev_some _)
    unfold laws_eqIntS.f
    rw [if_neg (by omega)]
theorem eqIntS_self (xs : List Int) (hm : xs.length ≤ 9223372036854775806) : Ev (fun k => laws_eqIntS.f k xs xs) true := by
  have := eqIntS_ev xs xs hm
  simpa using this
theorem FnExactHoleCount : laws_FnExactHoleCount.Pure := by
  intro a b l ha hb hl hy
  refine Ev.rounds ?_
  unfold laws_FnExactHoleCount.f
  by_cases hlen0 : (l.length : Int) > 1048576
  · exact ev_ifp hlen0 (ev_some _)
  refine ev_ifn hlen0 ?_
  obtain ⟨⟨r, g⟩, hs, hi⟩ := holeCount_both a b l (by omega)
  refine ev_bind (toIntS_ev _ (by omega)) (ev_bind hs (ev_bind (toIntS_ev _ (by omega)) (ev_bind hi (ev_ifp rfl ?_))))
  refine ev_step (fun k => laws_FnExactHoleCount.j0.eq_2 _ _ _ k) (ev_ifn (by simp) ?_)
  exact ev_bind (toIntS_ev _ (by omega)) (ev_bind (eqIntS_self _ (by omega)) (ev_ifp rfl (ev_some _)))
end Go.Proofs.Ytnbpcacnbfbjkaa.Pure
namespace Go.Proofs.Ytnbpcacnbfbjkaa.fnExactHoleCount
open Go.ChangeShapes Go.WideShapes Go.ChangeAt Go.RowKit Go.Proofs.Ytnbpcacnbfbjkaa.Open Go.Proofs.Ytnbpcacnbfbjkaa.P Go.Proofs.YtnbpcacnbfbjkaaW.PrintWords
open Go.ChangeMaps (open_string shut_string)
set_option linter.unusedVariables false
theorem own : ownKnob Try.prog.godebug = none := by kernel_rfl
theorem laidOut : laidOutB Try.prog = true := by kernel_rfl
set_option maxRecDepth 100000 in
theorem lifted (os : Os) (started : os.Started) (H : Type) (enc : TypeId × Value → H) :
    ReturnsInHanded {} Try.checked os 3 .any (Rows.fnExactHoleCountSpec.pre6 enc Try.prog Try.f3 Rows.fnExactHoleCountRow.domain false) (Rows.fnExactHoleCountSpec.post enc Try.prog Try.f3 false true false false) := by
  refine returnsInHanded_of_change_sized (C := Try.checked) own started (by kernel_rfl) Try.func3
    (ChangeSpec.witness6 (enc := enc) (C := Try.checked) false ⟨#[], #[.int .i64 0, .int .i64 0, .slice none 0 0], []⟩ 8 (by kernel_rfl) (by kernel_rfl) (by kernel_rfl) (by kernel_rfl)) ?_
  intro W base args ds gs before hval0 hW hcnd hsz0 _
  have hsz : (DataW.weightsEach Try.prog (Try.f3.params.toList ++ Rows.fnExactHoleCountSpec.plain.varTypes Try.prog) (ds ++ gs)).all (· ≤ reachBytes) = true := hsz0
  have hval : ∀ (j : Nat) t v, Try.f3.params[j]? = some t → args[j]? = some v → Value.okWide Try.prog W .any base t v := hval0
  have hW' := hW
  obtain ⟨p, q, hA0, hV, rfl, hfz, hnd⟩ := hW
  have hA : DataW.TrodAll enc Try.prog W 0 (fun _ => true) true Try.f3.params.toList args.toList ds p := hA0
  rw [Try.params3] at hA hval hsz
  obtain ⟨v0, vs0, d0, ds0, p0, q0, hargs, rfl, rfl, h0, r0⟩ := trodAll_cons hA
  obtain ⟨v1, vs1, d1, ds1, p1, q1, rfl, rfl, rfl, h1, r1⟩ := trodAll_cons r0
  obtain ⟨v2, vs2, d2, ds2, p2, q2, rfl, rfl, rfl, h2, r2⟩ := trodAll_cons r1
  obtain ⟨rfl, rfl, rfl⟩ := trodAll_nil r2
  obtain rfl : args = #[v0, v1, v2] := by cases args; simp_all
  obtain ⟨rfl, rfl⟩ := trodVars_none hV
  obtain ⟨a0, rfl, rfl, rfl, w0⟩ := open_int Try.underlying3 (hval 0 3 v0 rfl rfl) h0
  obtain ⟨a1, rfl, rfl, rfl, w1⟩ := open_int Try.underlying3 (hval 1 3 v1 rfl rfl) h1
  obtain ⟨A2, len2, c2, rfl⟩ := okWide_slice Try.underlying22 (hval 2 22 v2 rfl rfl)
  have k2 := h2
  have lt2 : ∀ x ∈ p2, x.block < W.heap.size := by obtain ⟨m, hm⟩ := k2; exact DataW.trod_lt m _ _ _ hm
  have y2 : len2 * 8 ≤ 140737488351232 := sized_any hsz (j := 2) (t := 22) rfl rfl Try.underlying22 (by kernel_rfl) h2
  obtain ⟨l2, rfl, hc2, hr2, w2⟩ := slice_at (opens_slice Try.underlying22 (by kernel_rfl) (opens_int Try.underlying3)) h2
  clear hA0 hval0 hsz0 hsz
  obtain ⟨k, hp⟩ := Pure.FnExactHoleCount a0 a1 l2 w0 w1 w2 y2
  refine (laws_FnExactHoleCount.calls k a0 a1 A2 c2 l2 true W hr2 hc2 hp).mono fun e W' ⟨he, bel0⟩ => ?_
  have bel : Below W.heap.size W W' := bel0
  subst he
  exact ⟨_, rfl, _, _, _, [], _, [], hW', trodAll_mk1 (shut_bool Try.underlying4 _), (trodAll_cons_mk (shut_int Try.underlying3 w0) (trodAll_cons_mk (shut_int Try.underlying3 w1) (trodAll_cons_mk (Below.trod laidOut (by kernel_rfl) (of_decide_eq_true (by kernel_rfl)) k2 bel lt2) trodAll_mk0))), rfl, bel.frame _, fun h => by cases h⟩
theorem over : Rows.fnExactHoleCountRow.holds Try.pinned (OpenSpec.ofChange Rows.fnExactHoleCountSpec) :=
  OpenClaim.holds_of_wide 3 Try.f3 rfl rfl rfl rfl rfl rfl rfl ⟨rfl, rfl, rfl, rfl, rfl⟩ rfl rfl rfl rfl rfl (by kernel_rfl) Try.func3 (by kernel_rfl)
    (of_decide_eq_true (by kernel_rfl)) (by unfold Func.isWrapper; first | (rw [if_pos (by decide +kernel)]; kernel_rfl) | (rw [if_neg (by decide +kernel)]; exact ⟨rfl, rfl⟩))
    (fun os started H enc _ => lifted os started H enc)
theorem proved : Rows.FnExactHoleCountSaid := over
#print axioms proved
end Go.Proofs.Ytnbpcacnbfbjkaa.fnExactHoleCount
namespace Go.Proofs.Ytnbpcacnbfbjkaa
theorem fnExactHoleCount_holds : Rows.FnExactHoleCountSaid := fnExactHoleCount.proved
end Go.Proofs.Ytnbpcacnbfbjkaa
