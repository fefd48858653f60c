/- SplitValue: one answer in the program and in the reference. No conditions but that the list is no longer than a machine allows. -/
import Derived.Test.YtfiijdiccjapiaaPureSplitValue
namespace Go.Proofs.Ytfiijdiccjapiaa.Pure
set_option linter.unusedVariables false
set_option linter.unusedSimpArgs false
open Go.RowKit Go.Proofs.Ytfiijdiccjapiaa.P Go.Proofs.YtfiijdiccjapiaaW.PrintWords Go.Proofs.YtfiijdiccjapiaaW.PrintLast
def inW (l : List Int) (i : Nat) : Bool := inb (l.getD i 0) 0 64
theorem wok_of {l : List Int} (h1 : inb (l.length : Int) 1 64 = true) (h2 : rall (inW l) 0 l.length = true) : WOk l := by
  rw [inb_iff] at h1
  rw [rall_iff] at h2
  exact ⟨by omega, by omega, fun i hi => inb_iff.1 (h2 i (Nat.zero_le _) (by omega))⟩
def splitV (a : Int) (l : List Int) : List Int × Bool := if ssum l = 0 then ([], false) else (split a l, true)
theorem spec_stop (a : Int) (l : List Int) (hl : l.length ≤ 9223372036854775806) : ∀ (d i : Nat) (s : Int), i + d = l.length → rall (inW l) i d = false → Ev (fun k => spec_SplitValue.l0 k a l s (i : Int)) ([], false)
  | 0, i, s, h, hr => by cases hr
  | d + 1, i, s, h, hr => by
    refine ev_step (fun k => spec_SplitValue.l0.eq_2 _ _ _ _ k) (ev_ifp (by omega) (ev_ifp (by omega) ?_))
    rw [rd_nat]
    refine ev_bind (ev_const (l1In_is _ 0 64)) ?_
    cases hp : inb (l.getD i 0) 0 64 with
    | false => exact ev_ifn (by simp) (ev_some _)
    | true =>
      rw [w64 (x := (i : Int) + 1) (by omega) (by omega)]
      refine ev_ifp rfl (spec_stop a l hl d (i + 1) _ (by omega) ?_)
      have hr2 : (inW l i && rall (inW l) (i + 1) d) = false := hr
      rw [show inW l i = true from hp, Bool.true_and] at hr2
      exact hr2
theorem spec_sum {a : Int} {l : List Int} (h0 : -9000 ≤ a) (h1 : a ≤ 9000) (h : WOk l) : Ev (fun k => spec_SplitValue.l0 k a l 0 0) (splitV a l) := by
  have n64 := h.n64
  exact loop_ev (fun k s i => spec_SplitValue.l0 k a l s (i : Int)) l.length (sumStep l) (fun _ => splitV a l) (fun i s => (0 ≤ s ∧ s ≤ 64 * i) ∧ s = iter (sumStep l) 0 i 0)
    (fun i s r hI hi hh => by
      have hw := h.at_ i hi
      refine ev_step (fun k => spec_SplitValue.l0.eq_2 _ _ _ _ k) (ev_ifp (by omega) (ev_ifp (by omega) ?_))
      rw [rd_nat]
      refine ev_bind (ev_const (l1In_is _ 0 64)) (ev_ifp (inb_iff.2 hw) ?_)
      rw [w64 (x := s + l.getD i 0) (by omega) (by omega), w64 (by omega) (by omega)]
      exact hh)
    (fun i s hI hi => by
      have := h.at_ i hi
      refine ⟨by unfold sumStep; omega, ?_⟩
      rw [iter_add (sumStep l) i 0 1 0, ← hI.2, Nat.zero_add]
      rfl)
    (fun s hI => ev_step (fun k => spec_SplitValue.l0.eq_2 _ _ _ _ k) (ev_ifn (by omega) (by
      have e : s = ssum l := hI.2
      rw [e]
      unfold splitV
      by_cases hs : ssum l = 0
      · rw [if_pos hs]; exact ev_ifp hs (ev_some _)
      · rw [if_neg hs]; exact ev_ifn hs (ev_bind (l7Split_ev h0 h1 h hs) (ev_some _))))) 0 0 (Nat.zero_le _) ⟨by omega, rfl⟩
theorem splitValue_both (a : Int) (l : List Int) (hl : l.length ≤ 9223372036854775806) :
    ∃ r, Ev (fun k => spec_SplitValue.f k a l) r ∧ Ev (fun k => impl_SplitValue.f k a l) r ∧ r.1.length ≤ 64 := by
  have no : Ev (fun k => spec_SplitValue.j0 k a l true) ([], false) := ev_step (fun k => spec_SplitValue.j0.eq_2 _ _ _ k) (ev_ifp rfl (ev_some _))
  unfold spec_SplitValue.f impl_SplitValue.f
  cases ha : inb a (-9000) 9000 with
  | false =>
    exact ⟨([], false), ev_bind (r := false) (ev_const (by rw [l1In_is, ha])) (ev_ifn (by simp) no), ev_bind (r := false) (ev_const (by rw [within_is, ha])) (ev_ifn (by simp) (ev_some _)), by simp⟩
  | true =>
    cases hn : inb (l.length : Int) 1 64 with
    | false =>
      exact ⟨([], false), ev_bind (r := true) (ev_const (by rw [l1In_is, ha])) (ev_ifp rfl (ev_bind (r := false) (ev_const (by rw [l1In_is, hn])) no)),
        ev_bind (r := true) (ev_const (by rw [within_is, ha])) (ev_ifp rfl (ev_bind (r := false) (ev_const (by rw [within_is, hn])) (ev_ifn (by simp) (ev_some _)))), by simp⟩
    | true =>
      have aw := allWithin_ev l 0 64 hl
      have h01 := inb_iff.1 ha
      cases hw : rall (inW l) 0 l.length with
      | false =>
        have aw2 : Ev (fun k => impl_allWithin.f k l 0 64) false := by rw [← hw]; exact aw
        exact ⟨([], false), ev_bind (r := true) (ev_const (by rw [l1In_is, ha])) (ev_ifp rfl (ev_bind (r := true) (ev_const (by rw [l1In_is, hn])) (ev_step (fun k => spec_SplitValue.j0.eq_2 _ _ _ k) (ev_ifn (by simp) (spec_stop a l hl l.length 0 0 (by omega) hw))))),
          ev_bind (r := true) (ev_const (by rw [within_is, ha])) (ev_ifp rfl (ev_bind (r := true) (ev_const (by rw [within_is, hn])) (ev_ifp rfl (ev_bind aw2 (ev_ifn (by simp) (ev_some _)))))), by simp⟩
      | true =>
        have aw2 : Ev (fun k => impl_allWithin.f k l 0 64) true := by rw [← hw]; exact aw
        have hk := wok_of hn hw
        refine ⟨splitV a l, ?_, ?_, ?_⟩
        · exact ev_bind (r := true) (ev_const (by rw [l1In_is, ha])) (ev_ifp rfl (ev_bind (r := true) (ev_const (by rw [l1In_is, hn])) (ev_step (fun k => spec_SplitValue.j0.eq_2 _ _ _ k) (ev_ifn (by simp) (spec_sum h01.1 h01.2 hk)))))
        · refine ev_bind (r := true) (ev_const (by rw [within_is, ha])) (ev_ifp rfl (ev_bind (r := true) (ev_const (by rw [within_is, hn])) (ev_ifp rfl (ev_bind aw2 (ev_ifp rfl (ev_bind (sumOf_ev hk) ?_))))))
          unfold splitV
          by_cases hs : ssum l = 0
          · rw [if_pos hs]; exact ev_ifp hs (ev_some _)
          · rw [if_neg hs]; exact ev_ifn hs (ev_bind (splitValue_ev h01.1 h01.2 hk hs) (ev_some _))
        · unfold splitV
          split
          · simp
          · have := split_len a l; have := hk.n64; simp only; omega
end Go.Proofs.Ytfiijdiccjapiaa.Pure
