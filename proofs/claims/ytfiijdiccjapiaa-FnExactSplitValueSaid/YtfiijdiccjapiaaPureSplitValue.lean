/- A value divided among places: one answer in the program and in the reference. No conditions but that the list is no longer than a machine allows. -/
import Derived.Test.YtfiijdiccjapiaaPureSplit
import Derived.Test.YtfiijdiccjapiaaPf17
import Derived.Test.YtfiijdiccjapiaaPf15
namespace Go.Proofs.Ytfiijdiccjapiaa.Pure
set_option linter.unusedVariables false
set_option linter.unusedSimpArgs false
open Go.RowKit Go.Proofs.Ytfiijdiccjapiaa.P Go.Proofs.YtfiijdiccjapiaaW.PrintWords Go.Proofs.YtfiijdiccjapiaaW.PrintLast
theorem wrap64_le (x : Int) : wrap64 x ≤ 9223372036854775807 := by unfold wrap64; omega
theorem impl_hand' (L : Int) (hL : L ≤ 9223372036854775807) (ps rs : List Int) (h : ps.length = rs.length) (h1 : 1 ≤ rs.length) (h2 : rs.length ≤ 9223372036854775806) : Ev (fun k => impl_splitValue.l1 k ps rs L) (hand L.toNat ps rs) := by
  by_cases hp : L > 0
  · have := impl_hand L hL L.toNat ps rs h h1 h2 (by omega)
    rw [Int.toNat_of_nonneg (by omega)] at this
    exact this
  · rw [show L.toNat = 0 by omega]
    exact ev_step (fun k => impl_splitValue.l1.eq_2 _ _ _ k) (ev_ifn hp (ev_some _))
theorem spec_hand' (L : Int) (hL : L ≤ 9223372036854775807) (ps rs : List Int) (h : ps.length = rs.length) (h1 : 1 ≤ rs.length) (h2 : rs.length ≤ 9223372036854775806) : Ev (fun k => spec_l7Split.l2 k ps rs L) (hand L.toNat ps rs) := by
  by_cases hp : L > 0
  · have := spec_hand L.toNat ps rs h h1 h2 (by omega)
    rw [Int.toNat_of_nonneg (by omega)] at this
    exact this
  · rw [show L.toNat = 0 by omega]
    exact ev_step (fun k => spec_l7Split.l2.eq_2 _ _ _ k) (ev_ifn hp (ev_some _))
def sumStep (l : List Int) (i : Nat) (s : Int) : Int := s + l.getD i 0
def ssum (l : List Int) : Int := iter (sumStep l) 0 l.length 0
structure WOk (l : List Int) : Prop where
  n1 : 1 ≤ l.length
  n64 : l.length ≤ 64
  at_ : ∀ i, i < l.length → 0 ≤ l.getD i 0 ∧ l.getD i 0 ≤ 64
theorem ssum_bd {l : List Int} (h : WOk l) : 0 ≤ ssum l ∧ ssum l ≤ 4096 := by
  have := iter_inv (sumStep l) (fun i s => 0 ≤ s ∧ s ≤ 64 * i) l.length (fun i s hI hi => by have := h.at_ i hi; unfold sumStep; omega) l.length 0 0 (by omega) (by omega)
  have h64 := h.n64
  unfold ssum
  omega
theorem sumOf_ev {l : List Int} (h : WOk l) : Ev (fun k => impl_sumOf.f k l) (ssum l) :=
  loop_ev (fun k s i => impl_sumOf.l0 k s l (l.length : Int) (i : Int)) l.length (sumStep l) (fun s => s) (fun i s => 0 ≤ s ∧ s ≤ 64 * i)
    (fun i s r hI hi hh => ev_step (fun k => by
      have := h.at_ i hi; have := h.n64
      simp only [impl_sumOf.l0, rd_nat]
      rw [if_pos (by omega), if_pos (by omega), if_pos (by omega), w64 (x := s + l.getD i 0) (by omega) (by omega), w64 (by omega) (by omega)]
      rfl) hh)
    (fun i s hI hi => by have := h.at_ i hi; unfold sumStep; omega)
    (fun s hI => ev_step (fun k => impl_sumOf.l0.eq_2 _ _ _ _ k) (ev_ifn (by omega) (ev_some _))) 0 0 (Nat.zero_le _) (by omega)
def part (a : Int) (l : List Int) (i : Nat) : Int := a * l.getD i 0 / ssum l
def rest (a : Int) (l : List Int) (i : Nat) : Int := wrap64 (a * l.getD i 0 - wrap64 (part a l i * ssum l))
def leftStep (a : Int) (l : List Int) (i : Nat) (s : Int) : Int := wrap64 (s - part a l i)
def split (a : Int) (l : List Int) : List Int := hand (iter (leftStep a l) 0 l.length a).toNat ((List.range l.length).map (part a l)) ((List.range l.length).map (rest a l))
theorem split_len (a : Int) (l : List Int) : (split a l).length = l.length := by unfold split; rw [hand_len]; simp
theorem prod_bd {a x : Int} (h0 : -9000 ≤ a) (h1 : a ≤ 9000) (x0 : 0 ≤ x) (x1 : x ≤ 64) : -576000 ≤ a * x ∧ a * x ≤ 576000 := by
  have h2 : a * x ≤ 9000 * x := Int.mul_le_mul_of_nonneg_right h1 x0
  have h3 : -9000 * x ≤ a * x := Int.mul_le_mul_of_nonneg_right h0 x0
  omega
theorem set_next (f : Nat → Int) (n i : Nat) (h : i < n) : ((List.range i).map f ++ List.replicate (n - i) 0).set i (f i) = (List.range (i + 1)).map f ++ List.replicate (n - (i + 1)) 0 := by
  rw [show n - i = (n - (i + 1)) + 1 by omega, List.replicate_succ, List.set_append_right _ _ (by simp), List.range_succ, List.map_append]
  simp
theorem rd_next (f : Nat → Int) (n i : Nat) : rd ((List.range (i + 1)).map f ++ List.replicate n 0) (i : Int) = f i := by
  rw [rd_nat, List.getD, List.getElem?_append_left (by simp)]
  simp
theorem splitValue_ev {a : Int} {l : List Int} (h0 : -9000 ≤ a) (h1 : a ≤ 9000) (h : WOk l) (hs : ssum l ≠ 0) : Ev (fun k => impl_splitValue.f k a l) (split a l) := by
  have hb := ssum_bd h
  have n1 := h.n1; have n64 := h.n64
  unfold impl_splitValue.f
  refine ev_bind (sumOf_ev h) (ev_ifp (by omega) (ev_ifp (by omega) ?_))
  have e0 : ((l.length : Int) : Int).toNat = l.length := Int.toNat_natCast _
  rw [e0]
  have hh := loop_ev (fun k s i => impl_splitValue.l0 k a (ssum l) ((List.range i).map (part a l) ++ List.replicate (l.length - i) 0) ((List.range i).map (rest a l) ++ List.replicate (l.length - i) 0) s l (l.length : Int) (i : Int)) l.length (leftStep a l)
    (fun s => hand s.toNat ((List.range l.length).map (part a l)) ((List.range l.length).map (rest a l))) (fun _ s => s ≤ 9223372036854775807)
    (fun i s r hI hi hh => by
      have hw := h.at_ i hi
      have hp := prod_bd h0 h1 hw.1 hw.2
      have hf := floorDiv_is (a := a * l.getD i 0) (b := ssum l) (by omega) (by omega) (by omega) (by omega)
      refine ev_step (fun k => impl_splitValue.l0.eq_2 _ _ _ _ _ _ _ _ k) (ev_ifp (by omega) (ev_ifp (by omega) (ev_ifp (by omega) ?_)))
      rw [rd_nat, w64 (x := a * l.getD i 0) (by omega) (by omega)]
      refine ev_bind (ev_const hf) (ev_ifp (by simp; omega) (ev_bind (ev_some _) (ev_ifp (by simp; omega) ?_)))
      rw [Int.toNat_natCast]
      show Ev (fun k => impl_splitValue.l0 k a (ssum l) (((List.range i).map (part a l) ++ List.replicate (l.length - i) 0).set i (part a l i)) (((List.range i).map (rest a l) ++ List.replicate (l.length - i) 0).set i (wrap64 (a * l.getD i 0 - wrap64 (rd (((List.range i).map (part a l) ++ List.replicate (l.length - i) 0).set i (part a l i)) (i : Int) * ssum l)))) (wrap64 (s - rd (((List.range i).map (part a l) ++ List.replicate (l.length - i) 0).set i (part a l i)) (i : Int))) l (l.length : Int) (wrap64 ((i : Int) + 1))) r
      rw [set_next (part a l) l.length i hi, rd_next, w64 (x := (i : Int) + 1) (by omega) (by omega)]
      have e2 := set_next (rest a l) l.length i hi
      unfold rest at e2 hh ⊢
      rw [e2]
      exact hh)
    (fun i s _ _ => wrap64_le _)
    (fun s hI => ev_step (fun k => impl_splitValue.l0.eq_2 _ _ _ _ _ _ _ _ k) (ev_ifn (by omega) (by
      rw [Nat.sub_self, List.replicate_zero, List.append_nil, List.append_nil]
      exact impl_hand' s hI _ _ (by simp) (by simpa using n1) (by simp; omega)))) 0 a (Nat.zero_le _) (by omega)
  exact hh
theorem l7Split_ev {a : Int} {l : List Int} (h0 : -9000 ≤ a) (h1 : a ≤ 9000) (h : WOk l) (hs : ssum l ≠ 0) : Ev (fun k => spec_l7Split.f k a l) (split a l) := by
  have hb := ssum_bd h
  have n1 := h.n1; have n64 := h.n64
  have h2 := loop_ev (fun k s i => spec_l7Split.l1 k a l (ssum l) ((List.range i).map (part a l)) ((List.range i).map (rest a l)) s (i : Int)) l.length (leftStep a l)
    (fun s => hand s.toNat ((List.range l.length).map (part a l)) ((List.range l.length).map (rest a l))) (fun _ s => s ≤ 9223372036854775807)
    (fun i s r hI hi hh => by
      have hw := h.at_ i hi
      have hp := prod_bd h0 h1 hw.1 hw.2
      have hf := l4Floor_is (a := a * l.getD i 0) (b := ssum l) (by omega) (by omega) (by omega) (by omega)
      refine ev_step (fun k => spec_l7Split.l1.eq_2 _ _ _ _ _ _ _ k) (ev_ifp (by omega) (ev_ifp (by omega) ?_))
      rw [rd_nat, w64 (x := a * l.getD i 0) (by omega) (by omega)]
      refine ev_bind (ev_const hf) (ev_ifp (by simp; omega) (ev_ifp (by simp; omega) ?_))
      rw [w64 (x := (i : Int) + 1) (by omega) (by omega)]
      have e1 : (List.range i).map (part a l) ++ [a * l.getD i 0 / ssum l] = (List.range (i + 1)).map (part a l) := by rw [List.range_succ, List.map_append]; rfl
      have e2 : (List.range i).map (rest a l) ++ [wrap64 (a * l.getD i 0 - wrap64 (a * l.getD i 0 / ssum l * ssum l))] = (List.range (i + 1)).map (rest a l) := by rw [List.range_succ, List.map_append]; rfl
      rw [e1, e2]
      exact hh)
    (fun i s _ _ => wrap64_le _)
    (fun s hI => ev_step (fun k => spec_l7Split.l1.eq_2 _ _ _ _ _ _ _ k) (ev_ifn (by omega) (spec_hand' s hI _ _ (by simp) (by simpa using n1) (by simp; omega)))) 0 a (Nat.zero_le _) (by omega)
  exact loop_ev (fun k s i => spec_l7Split.l0 k a l s (i : Int)) l.length (sumStep l) (fun _ => split a l) (fun i s => (0 ≤ s ∧ s ≤ 64 * i) ∧ s = iter (sumStep l) 0 i 0)
    (fun i s r hI hi hh => ev_step (fun k => by
      have := h.at_ i hi
      simp only [spec_l7Split.l0, rd_nat]
      rw [if_pos (by omega), if_pos (by omega), w64 (x := s + l.getD i 0) (by omega) (by omega), w64 (by omega) (by omega)]
      rfl) hh)
    (fun i s hI hi => by
      have := h.at_ i hi
      refine ⟨by unfold sumStep; omega, ?_⟩
      rw [iter_add (sumStep l) i 0 1 0, ← hI.2, Nat.zero_add]
      rfl)
    (fun s hI => ev_step (fun k => spec_l7Split.l0.eq_2 _ _ _ _ k) (ev_ifn (by omega) (by rw [hI.2]; exact h2))) 0 0 (Nat.zero_le _) ⟨by omega, rfl⟩
end Go.Proofs.Ytfiijdiccjapiaa.Pure
