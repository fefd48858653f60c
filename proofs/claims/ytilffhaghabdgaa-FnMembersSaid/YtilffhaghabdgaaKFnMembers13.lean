/- Texts of the claim FnMembers, merged: part 13 of 13: the program's and the reference's functions as Lean functions, the walks that show it, and plain lemmas; no conditions. -/
import Derived.Test.YtilffhaghabdgaaKFnMembers12
import Derived.Test.YtilffhaghabdgaaKFnMembers3
import Derived.Test.YtilffhaghabdgaaKFnMembers4
import Derived.Test.YtilffhaghabdgaaKFnMembers5
import Derived.Test.YtilffhaghabdgaaKFnMembers11
import Derived.Test.YtilffhaghabdgaaKFnMembers7
import Derived.Test.YtilffhaghabdgaaKFnMembers6
import Derived.Test.YtilffhaghabdgaaKFnMembers8
import Derived.Test.YtilffhaghabdgaaKFnMembers9
import Derived.Test.YtilffhaghabdgaaKFnMembers10
import Derived.Test.YtilffhaghabdgaaRows
import Derived.WalkKit
import Derived.ProofKit
import Derived.OpenShut
import Derived.ShutString
import Derived.ChangeOld
import Derived.Below
import Derived.SizedLaws
namespace Go.Proofs.Ytilffhaghabdgaa.Pure
set_option linter.unusedVariables false
set_option linter.unusedSimpArgs false
open Go.RowKit Go.Proofs.Ytilffhaghabdgaa.P Go.Proofs.YtilffhaghabdgaaW.PrintWords Go.Proofs.YtilffhaghabdgaaW.PrintLast
theorem iter_rep {α : Type} (v : α) : ∀ d i (s : List α), iter (fun _ s => s ++ [v]) i d s = s ++ List.replicate d v
  | 0, i, s => by simp [iter]
  | d + 1, i, s => by
    show iter (fun _ s => s ++ [v]) (i + 1) d (s ++ [v]) = _
    rw [iter_rep v d (i + 1), List.append_assoc, List.replicate_succ]
    rfl
theorem l2Fill_ev (a b v : Int) (h0 : 1 ≤ a * b) (h1 : a * b ≤ 64) : Ev (fun k => spec_l2Fill.f k a b v) (a, b, List.replicate (a * b).toNat v) := by
  obtain ⟨n, hn⟩ := Int.eq_ofNat_of_zero_le (show 0 ≤ a * b by omega)
  have h := loop_ev (fun k s i => spec_l2Fill.l0 k a b v (i : Int) a b s) n (fun _ s => s ++ [v]) (fun s => (a, b, s)) (fun i s => s.length = i)
    (fun i s r hI hi h => ev_step (fun k => by
      simp only [spec_l2Fill.l0]
      rw [w64 (x := a * b) (by omega) (by omega), if_pos (by omega), if_pos (by omega), w64 (by omega) (by omega)]
      rfl) h)
    (fun i s hI _ => by simp [hI])
    (fun s hI => ev_step (f := fun _ => some (a, b, s)) (fun k => by
      simp only [spec_l2Fill.l0]
      rw [w64 (x := a * b) (by omega) (by omega), if_neg (by omega)]) (ev_some _)) 0 [] (Nat.zero_le _) rfl
  rw [iter_rep, List.nil_append, Nat.sub_zero] at h
  rw [hn, Int.toNat_natCast]
  exact h
end Go.Proofs.Ytilffhaghabdgaa.Pure
namespace Go.Proofs.Ytilffhaghabdgaa.Pure
set_option linter.unusedVariables false
set_option linter.unusedSimpArgs false
open Go Go.RowKit Go.Proofs.Ytilffhaghabdgaa.P Go.Proofs.YtilffhaghabdgaaW.PrintWords Go.Proofs.YtilffhaghabdgaaW.PrintLast
theorem field_j1 {l : List Int} (hl : Code l) (i s : Int) (h0 : 0 ≤ i) (h1 : i ≤ 90000000) (w h : Int) (c : List Int) (hc : 1 ≤ c.length ∧ c.length ≤ 64) :
    ∃ r : Int × Int × List Int × Int × Int, Ev (fun k => spec_l1Cur_field.j1 k l i s w h c) r ∧ (1 ≤ r.2.2.1.length ∧ r.2.2.1.length ≤ 64) ∧ i ≤ r.2.2.2.1 ∧ r.2.2.2.1 ≤ i + 2 := by
  obtain ⟨b, i1, s1, e1, b1, b2⟩ := one_at hl i s 24 h0 (by omega)
  cases b with
  | true =>
    have hf := l2Fill_ev 8 8 3 (by decide) (by decide)
    refine ⟨(8, 8, List.replicate (8 * 8 : Int).toNat 3, i1, s1), ev_step (fun k => spec_l1Cur_field.j1.eq_2 _ _ _ _ _ _ k) (ev_bind (ev_const e1) (ev_ifp rfl (ev_bind hf (ev_some _)))), by simp, b1, b2⟩
  | false =>
    exact ⟨(w, h, c, i1, s1), ev_step (fun k => spec_l1Cur_field.j1.eq_2 _ _ _ _ _ _ k) (ev_bind (ev_const e1) (ev_ifn (by simp) (ev_some _))), hc, b1, b2⟩
theorem field_at {l : List Int} (hl : Code l) (i s : Int) (h0 : 0 ≤ i) (h1 : i ≤ 80000000) :
    ∃ r : Int × Int × List Int × Int × Int, Ev (fun k => spec_l1Cur_field.f k l i s) r ∧ (1 ≤ r.2.2.1.length ∧ r.2.2.1.length ≤ 64) ∧ i ≤ r.2.2.2.1 ∧ r.2.2.2.1 ≤ i + 200 := by
  obtain ⟨x1, i1, s1, e1, p1, q1, b1, b2⟩ := pick_at hl i s 5 h0 (by omega)
  obtain ⟨x2, i2, s2, e2, p2, q2, b3, b4⟩ := pick_at hl i1 s1 5 (by omega) (by omega)
  obtain ⟨x3, i3, s3, e3, _, b5, b6⟩ := among_at hl i2 s2 [0, 10, 100, (-50)] (by simp) (by omega) (by omega)
  have q1' := q1 (by omega)
  have q2' := q2 (by omega)
  obtain ⟨W, hW⟩ := Int.eq_ofNat_of_zero_le (show 0 ≤ 1 + x1 by omega)
  obtain ⟨H, hH⟩ := Int.eq_ofNat_of_zero_le (show 0 ≤ 1 + x2 by omega)
  have hm : W * H ≤ 25 := Nat.mul_le_mul (show W ≤ 5 by omega) (show H ≤ 5 by omega)
  have hm1 : 1 ≤ W * H := Nat.mul_pos (by omega) (by omega)
  have ew := Aside0.mk (show wrap64 ((W : Int) * (H : Int)) = ((W * H : Nat) : Int) by rw [← Int.natCast_mul, w64n (by omega)])
  obtain ⟨r, hr, hp⟩ := ends_inv (fun k (st : Int × Int × List Int) j => spec_l1Cur_field.l0 k x3 (j : Int) l st.1 st.2.1 (W : Int) (H : Int) st.2.2) (W * H) (fun j st => i3 ≤ st.1 ∧ st.1 ≤ i3 + 4 * (j : Int) ∧ st.2.2.length = j)
    (fun r => (1 ≤ r.2.2.1.length ∧ r.2.2.1.length ≤ 64) ∧ i ≤ r.2.2.2.1 ∧ r.2.2.2.1 ≤ i + 200)
    (fun j st hI hj => by
      obtain ⟨at_, sd, c⟩ := st
      obtain ⟨c1, c2, c3⟩ := hI
      simp only at c1 c2 c3
      obtain ⟨y, i4, s4, e4, _, _, d1, d2⟩ := pick_at hl at_ sd 40 (by omega) (by omega)
      obtain ⟨b, i5, s5, e5, d3, d4⟩ := one_at hl i4 s4 12 (by omega) (by omega)
      have ej := Aside0.mk (show wrap64 ((j : Int) + 1) = ((j + 1 : Nat) : Int) by rw [w64 (by omega) (by omega)]; rfl)
      cases b with
      | true =>
        refine ⟨(i5, s5, c ++ [(-9999)]), ⟨by simp only; omega, by simp only; omega, by simp [c3]⟩, fun r h => ev_step (fun k => ?_) h⟩
        simp only [spec_l1Cur_field.l0]
        rw [ew.out, if_pos (by omega), e4]
        simp only [Option.bind_some]
        rw [e5]
        simp only [Option.bind_some, if_true]
        rw [if_pos (by omega), ej.out]
      | false =>
        refine ⟨(i5, s5, c ++ [wrap64 (x3 + y)]), ⟨by simp only; omega, by simp only; omega, by simp [c3]⟩, fun r h => ev_step (fun k => ?_) h⟩
        simp only [spec_l1Cur_field.l0]
        rw [ew.out, if_pos (by omega), e4]
        simp only [Option.bind_some]
        rw [e5]
        simp only [Option.bind_some, Bool.false_eq_true, if_false]
        rw [if_pos (by omega), ej.out])
    (fun st hI => by
      obtain ⟨at_, sd, c⟩ := st
      obtain ⟨c1, c2, c3⟩ := hI
      simp only at c1 c2 c3
      obtain ⟨b, i4, s4, e4, d1, d2⟩ := one_at hl at_ sd 10 (by omega) (by omega)
      cases b with
      | true =>
        obtain ⟨y, i5, s5, e5, d3, d4, d5, d6⟩ := pick_at hl i4 s4 (c.length : Int) (by omega) (by omega)
        obtain ⟨z, i6, s6, e6, _, d7, d8⟩ := among_at hl i5 s5 [9000, (-9000), 0] (by simp) (by omega) (by omega)
        have d4' := d4 (by omega)
        obtain ⟨r, hr, hc, d9, d10⟩ := field_j1 hl i6 s6 (by omega) (by omega) (W : Int) (H : Int) (c.set y.toNat z) (by simp; omega)
        refine ⟨r, ev_step (fun k => ?_) hr, hc, by omega, by omega⟩
        simp only [spec_l1Cur_field.l0]
        rw [ew.out, if_neg (by omega), e4]
        simp only [Option.bind_some, if_true]
        rw [e5]
        simp only [Option.bind_some]
        rw [e6]
        simp only [Option.bind_some]
        rw [if_pos d3, if_pos d4']
      | false =>
        obtain ⟨r, hr, hc, d9, d10⟩ := field_j1 hl i4 s4 (by omega) (by omega) (W : Int) (H : Int) c (by omega)
        refine ⟨r, ev_step (fun k => ?_) hr, hc, by omega, by omega⟩
        simp only [spec_l1Cur_field.l0]
        rw [ew.out, if_neg (by omega), e4]
        simp only [Option.bind_some, Bool.false_eq_true, if_false]) 0 (i3, s3, []) (Nat.zero_le _) ⟨by simp only; omega, by simp only; omega, rfl⟩
  refine ⟨r, ?_, hp⟩
  unfold spec_l1Cur_field.f
  refine ev_bind (ev_const e1) (ev_bind (ev_const e2) (ev_bind (ev_const e3) ?_))
  simp only
  rw [w64 (x := 1 + x1) (by omega) (by omega), w64 (x := 1 + x2) (by omega) (by omega), hW, hH]
  exact hr
theorem anyField_at {l : List Int} (hl : Code l) (i s : Int) (h0 : 0 ≤ i) (h1 : i ≤ 70000000) :
    ∃ r : Int × Int × List Int × Int × Int, Ev (fun k => spec_l1Cur_anyField.f k l i s) r ∧ r.2.2.1.length ≤ 64 ∧ i ≤ r.2.2.2.1 ∧ r.2.2.2.1 ≤ i + 300 := by
  obtain ⟨⟨w, h, c, i1, s1⟩, hr, hc, b1, b2⟩ := field_at hl i s h0 (by omega)
  simp only at hc b1 b2
  obtain ⟨x, i2, s2, e2, _, _, b3, b4⟩ := pick_at hl i1 s1 24 (by omega) (by omega)
  unfold spec_l1Cur_anyField.f
  by_cases c0 : x = 0
  · obtain ⟨y, i3, s3, e3, _, b5, b6⟩ := among_at hl i2 s2 [0, 9, 8, h] (by simp) (by omega) (by omega)
    exact ⟨(y, h, c, i3, s3), ev_bind hr (ev_bind (ev_const e2) (ev_ifp c0 (ev_bind (ev_const e3) (ev_some _)))), by simp only; omega, by simp only; omega, by simp only; omega⟩
  · by_cases c1 : x = 1
    · obtain ⟨y, i3, s3, e3, p3, q3, b5, b6⟩ := pick_at hl i2 s2 (c.length : Int) (by omega) (by omega)
      obtain ⟨z, i4, s4, e4, _, b7, b8⟩ := among_at hl i3 s3 [9001, (-9001), (-9998), (-9999)] (by simp) (by omega) (by omega)
      exact ⟨(w, h, c.set y.toNat z, i4, s4), ev_bind hr (ev_bind (ev_const e2) (ev_ifn c0 (ev_ifp c1 (ev_bind (ev_const e3) (ev_bind (ev_const e4) (ev_ifp p3 (ev_ifp (q3 (by omega)) (ev_some _)))))))), by simp; omega, by simp only; omega, by simp only; omega⟩
    · by_cases c2 : x = 2
      · exact ⟨(w, h, c.drop (1 : Int).toNat, i2, s2), ev_bind hr (ev_bind (ev_const e2) (ev_ifn c0 (ev_ifn c1 (ev_ifp c2 (ev_ifp (by simp only; omega) (ev_some _)))))), by simp; omega, by simp only; omega, by simp only; omega⟩
      · exact ⟨(w, h, c, i2, s2), ev_bind hr (ev_bind (ev_const e2) (ev_ifn c0 (ev_ifn c1 (ev_ifn c2 (ev_some _))))), by simp only; omega, by simp only; omega, by simp only; omega⟩
end Go.Proofs.Ytilffhaghabdgaa.Pure
namespace Go.Proofs.Ytilffhaghabdgaa.Pure
set_option linter.unusedVariables false
set_option linter.unusedSimpArgs false
open Go.RowKit Go.Proofs.Ytilffhaghabdgaa.P Go.Proofs.YtilffhaghabdgaaW.PrintWords Go.Proofs.YtilffhaghabdgaaW.PrintLast
abbrev FF := S29
theorem rdf (xs : List FF) (i : Nat) : rd_T29 xs (i : Int) = xs.getD i z29 := by simp [rd_T29]
theorem rdf0 (xs : List FF) : rd_T29 xs 0 = xs.getD 0 z29 := rdf xs 0
theorem short_of (l : List FF) (h : ∀ x ∈ l, x.f2.length ≤ 9223372036854775806) (i : Nat) : (l.getD i z29).f2.length ≤ 9223372036854775806 := by
  by_cases hi : i < l.length
  · rw [getD_eq_get _ hi]
    exact h _ (List.getElem_mem hi)
  · simp [List.getD, List.getElem?_eq_none (show l.length ≤ i by omega), z29]
end Go.Proofs.Ytilffhaghabdgaa.Pure
namespace Go.Proofs.Ytilffhaghabdgaa.Pure
set_option linter.unusedVariables false
set_option linter.unusedSimpArgs false
open Go Go.RowKit Go.Proofs.Ytilffhaghabdgaa.P Go.Proofs.YtilffhaghabdgaaW.PrintWords Go.Proofs.YtilffhaghabdgaaW.PrintLast
theorem l2Own_isE (a b : Int) (l : List Int) (hl : l.length < 17592186044416) : spec_l2Own.f a b l = some (a, b, l) := by
  unfold spec_l2Own.f spec_l1Own.f
  rw [Option.bind_some, if_pos (by simpa using hl)]
  rfl
def EnsP (i : Int) (m : Int) (r : List FF × Int × Int) : Prop := (r.1.length ≤ 9 ∧ ∀ x ∈ r.1, x.f2.length ≤ 64) ∧ i ≤ r.2.1 ∧ r.2.1 ≤ i + m
theorem ens_l2 {l : List Int} (hl : Code l) : ∀ (d : Nat) (out : List FF) (i s : Int), out.length + d = 9 → 1 ≤ out.length → (∀ x ∈ out, x.f2.length ≤ 64) → 0 ≤ i → i + 2 * (d : Int) ≤ 60000100 →
    ∃ r, Ev (fun k => spec_l1Cur_ensemble.l2 k out l i s) r ∧ EnsP i (2 * (d : Int) + 2) r := by
  intro d
  induction d with
  | zero =>
    intro out i s hd h1 hs h0 hi
    obtain ⟨x, i2, s2, e2, p2, q2, d1, d2⟩ := pick_at hl i s 2 h0 (by omega)
    have q2' := q2 (by omega)
    refine ⟨(out, i2, s2), ev_step (f := fun _ => some (out, i2, s2)) (fun k => ?_) (ev_some _), ⟨by simp only; omega, hs⟩, by simp only; omega, by simp only; omega⟩
    simp only [spec_l1Cur_ensemble.l2]
    rw [e2]
    simp only [Option.bind_some]
    rw [w64 (x := 8 + x) (by omega) (by omega), if_neg (by omega)]
  | succ d ih =>
    intro out i s hd h1 hs h0 hi
    obtain ⟨x, i2, s2, e2, p2, q2, d1, d2⟩ := pick_at hl i s 2 h0 (by omega)
    have q2' := q2 (by omega)
    by_cases hc : (out.length : Int) < 8 + x
    · have h0m := hs _ (List.getElem_mem (show 0 < out.length by omega))
      have er : rd_T29 out 0 = out[0] := by rw [rdf0, getD_eq_get _ (by omega)]
      obtain ⟨r, hr, ⟨h3, h4⟩, h5, h6⟩ := ih (out ++ [(⟨(out[0]).f0, (out[0]).f1, (out[0]).f2⟩ : FF)]) i2 s2 (by simp; omega) (by simp) (fun y hy => by
        rcases List.mem_append.1 hy with hy | hy
        · exact hs y hy
        · rw [List.mem_singleton.1 hy]; exact h0m) (by omega) (by omega)
      refine ⟨r, ev_step (fun k => ?_) hr, ⟨h3, h4⟩, by omega, by omega⟩
      simp only [spec_l1Cur_ensemble.l2]
      rw [e2]
      simp only [Option.bind_some]
      rw [w64 (x := 8 + x) (by omega) (by omega), if_pos hc, if_pos (by omega), er, l2Own_isE _ _ _ (by omega)]
      simp only [Option.bind_some]
      rw [if_pos (by omega)]
    · refine ⟨(out, i2, s2), ev_step (f := fun _ => some (out, i2, s2)) (fun k => ?_) (ev_some _), ⟨by simp only; omega, hs⟩, by simp only; omega, by simp only; omega⟩
      simp only [spec_l1Cur_ensemble.l2]
      rw [e2]
      simp only [Option.bind_some]
      rw [w64 (x := 8 + x) (by omega) (by omega), if_neg hc]
theorem ens_tail {l : List Int} (hl : Code l) (W H : Int) (out : List FF) (i s : Int) (h1 : 1 ≤ out.length) (h5 : out.length ≤ 5) (hc : ∀ x ∈ out, 1 ≤ x.f2.length ∧ x.f2.length ≤ 16) (h0 : 0 ≤ i) (hi : i ≤ 50000000) :
    ∃ r, Ev (fun k => spec_l1Cur_ensemble.l0 k W H out 0 l i s) r ∧ EnsP i 400 r := by
  obtain ⟨x, i2, s2, e2, _, _, d1, d2⟩ := pick_at hl i s 40 h0 (by omega)
  have hs : ∀ x ∈ out, x.f2.length ≤ 64 := fun x hx => by have := hc x hx; omega
  have st : ∀ {r : List FF × Int × Int} {g : Nat → Option (List FF × Int × Int)}, (∀ k, spec_l1Cur_ensemble.l0 (k + 1) W H out 0 l i s = g k) → Ev g r → Ev (fun k => spec_l1Cur_ensemble.l0 k W H out 0 l i s) r := fun e h => ev_step e h
  by_cases x0 : x = 0
  · obtain ⟨⟨w, h, c, i3, s3⟩, hr, hcl, b1, b2⟩ := anyField_at hl i2 s2 (by omega) (by omega)
    simp only at hcl b1 b2
    refine ⟨(out ++ [(⟨w, h, c⟩ : FF)], i3, s3), st (g := fun k => (spec_l1Cur_anyField.f k l i2 s2).bind fun bt129 => (if out.length < 3518437208883 then (some ((out ++ [(⟨bt129.1, bt129.2.1, bt129.2.2.1⟩ : FF)]), bt129.2.2.2.1, bt129.2.2.2.2)) else (none))) (fun k => ?_) (ev_bind hr (ev_ifp (by omega) (ev_some _))), ⟨by simp; omega, fun y hy => ?_⟩, by simp only; omega, by simp only; omega⟩
    · simp only [spec_l1Cur_ensemble.l0]
      rw [if_neg (by omega), e2]
      simp only [Option.bind_some]
      rw [if_pos x0]
    · rcases List.mem_append.1 hy with hy | hy
      · exact hs y hy
      · rw [List.mem_singleton.1 hy]; exact hcl
  · by_cases x1 : x = 1
    · refine ⟨([], i2, s2), st (g := fun _ => some ([], i2, s2)) (fun k => ?_) (ev_some _), ⟨by simp, by simp⟩, by simp only; omega, by simp only; omega⟩
      simp only [spec_l1Cur_ensemble.l0]
      rw [if_neg (by omega), e2]
      simp only [Option.bind_some]
      rw [if_neg x0, if_pos x1]
    · by_cases x2 : x = 2
      · obtain ⟨r, hr, h3, h4, h6⟩ := ens_l2 hl (9 - out.length) out i2 s2 (by omega) h1 hs (by omega) (by omega)
        refine ⟨r, st (g := fun k => spec_l1Cur_ensemble.l2 k out l i2 s2) (fun k => ?_) hr, h3, by omega, by omega⟩
        simp only [spec_l1Cur_ensemble.l0]
        rw [if_neg (by omega), e2]
        simp only [Option.bind_some]
        rw [if_neg x0, if_neg x1, if_pos x2]
      · by_cases x3 : x = 3
        · obtain ⟨z, i3, s3, e3, _, b1, b2⟩ := among_at hl i2 s2 [9001, (-9000), 9000] (by simp) (by omega) (by omega)
          have hm := hc _ (List.getElem_mem (show 0 < out.length by omega))
          have er : rd_T29 out 0 = out[0] := by rw [rdf0, getD_eq_get _ (by omega)]
          refine ⟨(out.set (0 : Int).toNat (⟨(out[0]).f0, (out[0]).f1, (out[0]).f2.set (0 : Int).toNat z⟩ : FF), i3, s3), st (g := fun _ => some (out.set (0 : Int).toNat (⟨(out[0]).f0, (out[0]).f1, (out[0]).f2.set (0 : Int).toNat z⟩ : FF), i3, s3)) (fun k => ?_) (ev_some _), ⟨by simp; omega, fun y hy => ?_⟩, by simp only; omega, by simp only; omega⟩
          · simp only [spec_l1Cur_ensemble.l0]
            rw [if_neg (by omega), e2]
            simp only [Option.bind_some]
            rw [if_neg x0, if_neg x1, if_neg x2, if_pos x3, if_pos (by omega), e3, er]
            simp only [Option.bind_some]
            rw [if_pos (by omega)]
          · rcases List.mem_or_eq_of_mem_set hy with hy | hy
            · exact hs y hy
            · rw [hy, List.length_set]; omega
        · refine ⟨(out, i2, s2), st (g := fun _ => some (out, i2, s2)) (fun k => ?_) (ev_some _), ⟨by simp only; omega, hs⟩, by simp only; omega, by simp only; omega⟩
          simp only [spec_l1Cur_ensemble.l0]
          rw [if_neg (by omega), e2]
          simp only [Option.bind_some]
          rw [if_neg x0, if_neg x1, if_neg x2, if_neg x3]
theorem ens_l0 {l : List Int} (hl : Code l) (W H : Nat) (hW : 1 ≤ W ∧ W ≤ 4) (hH : 1 ≤ H ∧ H ≤ 4) : ∀ (n : Nat) (out : List FF) (i s : Int), 1 ≤ out.length + n → out.length + n ≤ 5 → (∀ x ∈ out, 1 ≤ x.f2.length ∧ x.f2.length ≤ 16) → 0 ≤ i → i + 100 * (n : Int) ≤ 41000000 →
    ∃ r, Ev (fun k => spec_l1Cur_ensemble.l0 k (W : Int) (H : Int) out (n : Int) l i s) r ∧ EnsP i (400 + 40 * (n : Int)) r := by
  have hm : W * H ≤ 16 := Nat.mul_le_mul hW.2 hH.2
  have hm1 : 1 ≤ W * H := Nat.mul_pos (by omega) (by omega)
  have ew := Aside0.mk (show wrap64 ((W : Int) * (H : Int)) = ((W * H : Nat) : Int) by rw [← Int.natCast_mul, w64n (by omega)])
  intro n
  induction n with
  | zero =>
    intro out i s h1 h5 hc h0 hi
    obtain ⟨r, hr, hp1, hp2, hp3⟩ := ens_tail hl (W : Int) (H : Int) out i s (by omega) (by omega) hc h0 (by omega)
    exact ⟨r, hr, hp1, hp2, by omega⟩
  | succ n ih =>
    intro out i s h1 h5 hc h0 hi
    obtain ⟨r, hr, hp⟩ := ends_inv (fun k (st : Int × Int × List Int) j => spec_l1Cur_ensemble.l1 k (W : Int) (H : Int) out ((n + 1 : Nat) : Int) (j : Int) l st.1 st.2.1 (W : Int) (H : Int) st.2.2) (W * H) (fun j st => i ≤ st.1 ∧ st.1 ≤ i + 2 * (j : Int) ∧ st.2.2.length = j)
      (EnsP i (400 + 40 * ((n + 1 : Nat) : Int)))
      (fun j st hI hj => by
        obtain ⟨at_, sd, c⟩ := st
        obtain ⟨c1, c2, c3⟩ := hI
        simp only at c1 c2 c3
        obtain ⟨z, i3, s3, e3, _, b1, b2⟩ := among_at hl at_ sd [0, 5, 10, 15, 20, (-5), (-9999)] (by simp) (by omega) (by omega)
        have ej := Aside0.mk (show wrap64 ((j : Int) + 1) = ((j + 1 : Nat) : Int) by rw [w64 (by omega) (by omega)]; rfl)
        refine ⟨(i3, s3, c ++ [z]), ⟨by simp only; omega, by simp only; omega, by simp [c3]⟩, fun r h => ev_step (fun k => ?_) h⟩
        simp only [spec_l1Cur_ensemble.l1]
        rw [ew.out, if_pos (by omega), e3]
        simp only [Option.bind_some]
        rw [if_pos (by omega), ej.out])
      (fun st hI => by
        obtain ⟨at_, sd, c⟩ := st
        obtain ⟨c1, c2, c3⟩ := hI
        simp only at c1 c2 c3
        obtain ⟨r, hr, hp1, hp2, hp3⟩ := ih (out ++ [(⟨(W : Int), (H : Int), c⟩ : FF)]) at_ sd (by simp; omega) (by simp; omega) (fun y hy => by
          rcases List.mem_append.1 hy with hy | hy
          · exact hc y hy
          · rw [List.mem_singleton.1 hy]
            show 1 ≤ c.length ∧ c.length ≤ 16
            omega) (by omega) (by omega)
        refine ⟨r, ev_step (fun k => ?_) hr, hp1, by omega, by omega⟩
        simp only [spec_l1Cur_ensemble.l1]
        rw [ew.out, if_neg (by omega), if_pos (by omega), w64 (x := ((n + 1 : Nat) : Int) - 1) (by omega) (by omega), show ((n + 1 : Nat) : Int) - 1 = (n : Int) by omega]) 0 (i, s, []) (Nat.zero_le _) ⟨by simp only; omega, by simp only; omega, rfl⟩
    refine ⟨r, ev_step (fun k => ?_) hr, hp⟩
    simp only [spec_l1Cur_ensemble.l0]
    rw [if_pos (by omega)]
    rfl
theorem ens_at {l : List Int} (hl : Code l) (i s : Int) (h0 : 0 ≤ i) (h1 : i ≤ 40000000) : ∃ r, Ev (fun k => spec_l1Cur_ensemble.f k l i s) r ∧ EnsP i 700 r := by
  obtain ⟨x1, i1, s1, e1, p1, q1, b1, b2⟩ := pick_at hl i s 4 h0 (by omega)
  obtain ⟨x2, i2, s2, e2, p2, q2, b3, b4⟩ := pick_at hl i1 s1 4 (by omega) (by omega)
  obtain ⟨x3, i3, s3, e3, p3, q3, b5, b6⟩ := pick_at hl i2 s2 5 (by omega) (by omega)
  have q1' := q1 (by omega)
  have q2' := q2 (by omega)
  have q3' := q3 (by omega)
  obtain ⟨W, hW⟩ := Int.eq_ofNat_of_zero_le (show 0 ≤ 1 + x1 by omega)
  obtain ⟨H, hH⟩ := Int.eq_ofNat_of_zero_le (show 0 ≤ 1 + x2 by omega)
  obtain ⟨n, hn⟩ := Int.eq_ofNat_of_zero_le (show 0 ≤ 1 + x3 by omega)
  obtain ⟨r, hr, hp1, hp2, hp3⟩ := ens_l0 hl W H (by omega) (by omega) n [] i3 s3 (by simp; omega) (by simp; omega) (by simp) (by omega) (by omega)
  refine ⟨r, ?_, hp1, by omega, by omega⟩
  unfold spec_l1Cur_ensemble.f
  refine ev_bind (ev_const e1) (ev_bind (ev_const e2) (ev_bind (ev_const e3) ?_))
  simp only
  rw [w64 (x := 1 + x1) (by omega) (by omega), w64 (x := 1 + x2) (by omega) (by omega), w64 (x := 1 + x3) (by omega) (by omega), hW, hH, hn]
  exact hr
theorem codeE {l : List Int} (hl : l.length ≤ 9223372036854775807 ∧ ∀ z ∈ l, (Lit.int .u8 z).wf = true) (h : l.length ≤ 65536) : Code l :=
  ⟨h, fun x hx => by
    have := hl.2 x hx
    simp [Lit.wf, IntKind.min, IntKind.max, IntKind.signed, IntKind.bits] at this
    omega⟩
theorem thr_at {l : List Int} (hl : Code l) (i s : Int) (h0 : 0 ≤ i) (h1 : i ≤ 80000000) : ∃ x i' s', spec_l1Cur_threshold9.f l i s = some (x, i', s') := by
  obtain ⟨x, i2, s2, e2, p2, q2, b1, b2⟩ := pick_at hl i s 24 h0 (by omega)
  have q2' := q2 (by omega)
  have ed : Int.tdiv x 11 = x / 11 := Int.tdiv_eq_ediv_of_nonneg p2
  have e1 : wrap64 (7 + wrap64 (Int.tdiv x 11)) = 7 + x / 11 := by rw [ed, w64 (x := x / 11) (by omega) (by omega), w64 (by omega) (by omega)]
  obtain ⟨y, i3, s3, e3, _⟩ := among_at hl i2 s2 (([0, 5, 10, 16, (-5), 9000, (-9000), 9001, (-9999)] : List Int).take (7 + x / 11).toNat) (by rw [List.length_take]; simp; omega) (by omega) (by omega)
  unfold spec_l1Cur_threshold9.f
  rw [Option.bind_some, e2, Option.bind_some]
  simp only
  rw [e1, if_pos (by omega), if_pos (by simp; omega), e3]
  exact ⟨_, _, _, rfl⟩
theorem drawCount_at {l : List Int} (hl : Code l) : ∃ r : List FF × Int, Ev (fun k => spec_DrawCountAtLeast.f k l) r ∧ (r.1.length ≤ 9 ∧ ∀ x ∈ r.1, x.f2.length ≤ 64) := by
  obtain ⟨⟨e, i1, s1⟩, hr, ⟨h1, h2⟩, h3, h4⟩ := ens_at hl 0 0 (by omega) (by omega)
  simp only at h1 h2 h3 h4
  obtain ⟨x, i2, s2, e2⟩ := thr_at hl i1 s1 (by omega) (by omega)
  unfold spec_DrawCountAtLeast.f
  exact ⟨(e, x), ev_bind hr (ev_bind (ev_const e2) (ev_some _)), h1, h2⟩
theorem rInts_self (l : List Int) (hl : l.length ≤ 9223372036854775806) : Ev (fun k => laws_rInts.f k l l) true := by
  have h := loop_ev (σ := Unit) (fun k _ i => laws_rInts.l0 k l l (i : Int)) l.length (fun _ _ => ()) (fun _ => true) (fun _ _ => True)
    (fun i s r _ hi h => ev_step (fun k => by
      simp only [laws_rInts.l0]
      rw [if_pos (by omega), if_pos (by omega), if_pos (by omega), if_pos trivial, w64 (by omega) (by omega)]
      rfl) h)
    (fun _ _ _ _ => trivial)
    (fun _ _ => ev_step (f := fun _ => some true) (fun k => by
      simp only [laws_rInts.l0]
      rw [if_neg (by omega)]) (ev_some _)) 0 () (Nat.zero_le _) trivial
  unfold laws_rInts.f
  exact ev_ifp rfl h
theorem rFields_self (a b : Int) (l : List Int) (hl : l.length ≤ 9223372036854775806) : Ev (fun k => laws_rFields.f k a b l a b l) true := by
  unfold laws_rFields.f
  exact ev_ifp rfl (ev_ifp rfl (ev_bind (rInts_self l hl) (ev_some _)))
end Go.Proofs.Ytilffhaghabdgaa.Pure
namespace Go.Proofs.Ytilffhaghabdgaa.P
open Go.RowKit Go.Proofs.YtilffhaghabdgaaW.PrintWords Go.Proofs.YtilffhaghabdgaaW.PrintLast Go.Proofs.YtilffhaghabdgaaW.PrintMore
attribute [local go_sem] max2_int min2_int max_two min_two max_three min_three max_four min_four
set_option linter.unusedVariables false
set_option linter.unusedSimpArgs false
set_option maxHeartbeats 8000000
set_option maxRecDepth 100000
end Go.Proofs.Ytilffhaghabdgaa.P
namespace Go.Proofs.Ytilffhaghabdgaa.Pure
set_option linter.unusedVariables false
set_option linter.unusedSimpArgs false
open Go.RowKit Go.Proofs.Ytilffhaghabdgaa.P Go.Proofs.YtilffhaghabdgaaW.PrintWords Go.Proofs.YtilffhaghabdgaaW.PrintLast
end Go.Proofs.Ytilffhaghabdgaa.Pure
namespace Go.Proofs.Ytilffhaghabdgaa.Pure
set_option linter.unusedVariables false
set_option linter.unusedSimpArgs false
open Go.RowKit Go.Proofs.Ytilffhaghabdgaa.P Go.Proofs.YtilffhaghabdgaaW.PrintWords Go.Proofs.YtilffhaghabdgaaW.PrintLast
def absZ (x : Int) : Int := if x < 0 then -x else x
def diffStep (u v : List Int) (i : Nat) (s : Int × Int) : Int × Int := if u.getD i 0 = -9999 then s else if v.getD i 0 = -9999 then s else (s.1 + absZ (u.getD i 0 - v.getD i 0), s.2 + 1)
def diffInv (i : Nat) (s : Int × Int) : Prop := 0 ≤ s.1 ∧ s.1 ≤ 20000 * i ∧ 0 ≤ s.2 ∧ s.2 ≤ i
theorem absZ_bd {x y : Int} (hx : -9999 ≤ x ∧ x ≤ 9000) (hy : -9999 ≤ y ∧ y ≤ 9000) : 0 ≤ absZ (x - y) ∧ absZ (x - y) ≤ 18999 := by
  unfold absZ
  split <;> omega
theorem absOf_at (x : Int) (h0 : -9223372036854775807 ≤ x) (h1 : x ≤ 9223372036854775807) : impl_absOf.f x = some (absZ x) := by
  unfold impl_absOf.f absZ
  rw [w64 (by omega) (by omega)]
  split <;> rfl
theorem cell_bd {l : List Int} (hl : ∀ x ∈ l, cellOk x = true) (i : Nat) : -9999 ≤ l.getD i 0 ∧ l.getD i 0 ≤ 9000 := by
  by_cases hi : i < l.length
  · rw [getD_eq_get 0 hi]
    exact cellOk_bd (hl _ (List.getElem_mem hi))
  · simp [List.getD, List.getElem?_eq_none (show l.length ≤ i by omega)]
theorem diffStep_inv {u v : List Int} (hu : ∀ x ∈ u, cellOk x = true) (hv : ∀ x ∈ v, cellOk x = true) (i : Nat) (s : Int × Int) (h : diffInv i s) : diffInv (i + 1) (diffStep u v i s) := by
  obtain ⟨h1, h2, h3, h4⟩ := h
  unfold diffStep
  split
  · exact ⟨h1, by omega, h3, by omega⟩
  · split
    · exact ⟨h1, by omega, h3, by omega⟩
    · have hb := absZ_bd (cell_bd hu i) (cell_bd hv i)
      refine ⟨?_, ?_, ?_, ?_⟩
      · show 0 ≤ s.1 + absZ (u.getD i 0 - v.getD i 0); omega
      · show s.1 + absZ (u.getD i 0 - v.getD i 0) ≤ 20000 * ((i + 1 : Nat) : Int); omega
      · show 0 ≤ s.2 + 1; omega
      · show s.2 + 1 ≤ ((i + 1 : Nat) : Int); omega
def diffs (u v : List Int) : Int × Int := iter (diffStep u v) 0 u.length (0, 0)
theorem differences_ev (a b : Int) (u : List Int) (a' b' : Int) (v : List Int) (hu : ∀ x ∈ u, cellOk x = true) (hv : ∀ x ∈ v, cellOk x = true) (hl : u.length = v.length) (h64 : u.length ≤ 64) :
    Ev (fun k => impl_differences.f k a b u a' b' v) (diffs u v) := by
  exact loop_ev (fun k s i => impl_differences.l0 k s.1 s.2 u (u.length : Int) (i : Int) a' b' v) u.length (diffStep u v) (fun s => s) diffInv
    (fun i s r hI hi h => ev_step (fun k => by
      obtain ⟨h1, h2, h3, h4⟩ := hI
      have b1 := cell_bd hu i
      have b2 := cell_bd hv i
      have hb := absZ_bd b1 b2
      simp only [impl_differences.l0, rd_nat]
      rw [w64 (show -9223372036854775808 ≤ u.getD i 0 - v.getD i 0 by omega) (by omega), absOf_at _ (by omega) (by omega), if_pos (by omega), if_pos (by omega), if_pos (by omega), if_pos (by omega), w64 (show -9223372036854775808 ≤ (i : Int) + 1 by omega) (by omega)]
      simp only [Option.bind_some]
      rw [w64 (show -9223372036854775808 ≤ s.1 + absZ (u.getD i 0 - v.getD i 0) by omega) (by omega), w64 (show -9223372036854775808 ≤ s.2 + 1 by omega) (by omega)]
      unfold diffStep
      split
      · rfl
      · split <;> rfl) h)
    (fun i s hI hi => diffStep_inv hu hv i s hI)
    (fun s hI => ev_step (f := fun _ => some (s.1, s.2)) (fun k => by
      simp only [impl_differences.l0]
      rw [if_neg (by omega)]) (ev_some _)) 0 (0, 0) (Nat.zero_le _) ⟨by omega, by omega, by omega, by omega⟩
theorem diffs_bd {u v : List Int} (hu : ∀ x ∈ u, cellOk x = true) (hv : ∀ x ∈ v, cellOk x = true) : diffInv u.length (diffs u v) :=
  iter_inv (diffStep u v) diffInv u.length (fun i s hI _ => diffStep_inv hu hv i s hI) u.length 0 (0, 0) (by omega) ⟨by omega, by omega, by omega, by omega⟩
def memOk (l : List FF) (f : FF) : Bool := fieldOk f.f0 f.f1 f.f2 && (decide (f.f0 = (l.getD 0 z29).f0) && decide (f.f1 = (l.getD 0 z29).f1))
def ensOk (l : List FF) : Bool := inb (l.length : Int) 1 8 && l.all (memOk l)
theorem l9Good_ev (l : List FF) (hl : l.length ≤ 9223372036854775806) (hs : ∀ x ∈ l, x.f2.length ≤ 9223372036854775806) : Ev (fun k => spec_l9Good.f k l) (ensOk l) := by
  unfold spec_l9Good.f ensOk
  rw [l1In_is]
  simp only [Option.bind_some]
  cases hb : inb (l.length : Int) 1 8 with
  | false => exact ev_ifn (by simp) (ev_some _)
  | true =>
    rw [Bool.true_and, ← rall_list l z29 (memOk l)]
    have hbd := inb_iff.1 hb
    refine ev_ifp rfl (allb_ev (fun k i => spec_l9Good.l0 k l (i : Int)) l.length (fun j => memOk l (l.getD j z29)) ?_ ?_ ?_)
    · intro i r hi hp h
      unfold memOk at hp
      rw [Bool.and_eq_true, Bool.and_eq_true, decide_eq_true_eq, decide_eq_true_eq] at hp
      refine ev_step (f := fun k => (spec_l2Good.f k (l.getD i z29).f0 (l.getD i z29).f1 (l.getD i z29).f2).bind fun t => if t = true then spec_l9Good.l0 k l ((i + 1 : Nat) : Int) else some false) (fun k => by
        simp only [spec_l9Good.l0, rdf, rdf0]
        rw [if_pos (by omega), if_pos (by omega), if_pos (show (0 : Int) < (l.length : Int) by omega), if_pos hp.2.1, if_pos hp.2.2, w64 (by omega) (by omega)]
        rfl) (ev_bind (l2Good_ev _ _ _ (short_of l hs i)) (by rw [hp.1]; exact ev_ifp rfl h))
    · intro i hi hp
      refine ev_step (f := fun k => (spec_l2Good.f k (l.getD i z29).f0 (l.getD i z29).f1 (l.getD i z29).f2).bind fun t => if t = true then (if (l.getD i z29).f0 = (l.getD 0 z29).f0 then (if (l.getD i z29).f1 = (l.getD 0 z29).f1 then spec_l9Good.l0 k l (wrap64 ((i : Int) + 1)) else some false) else some false) else some false) (fun k => by
        simp only [spec_l9Good.l0, rdf, rdf0]
        rw [if_pos (by omega), if_pos (by omega), if_pos (show (0 : Int) < (l.length : Int) by omega)]) (ev_bind (l2Good_ev _ _ _ (short_of l hs i)) ?_)
      unfold memOk at hp
      cases h1 : fieldOk (l.getD i z29).f0 (l.getD i z29).f1 (l.getD i z29).f2 with
      | false => exact ev_ifn (by simp) (ev_some _)
      | true =>
        refine ev_ifp rfl ?_
        rw [h1, Bool.true_and] at hp
        by_cases h2 : (l.getD i z29).f0 = (l.getD 0 z29).f0
        · refine ev_ifp h2 (ev_ifn ?_ (ev_some _))
          intro h3
          rw [decide_eq_true h2, decide_eq_true h3] at hp
          cases hp
        · exact ev_ifn h2 (ev_some _)
    · exact ev_step (f := fun _ => some true) (fun k => by
        simp only [spec_l9Good.l0]
        rw [if_neg (by omega)]) (ev_some _)
theorem sameShape_is (a b : Int) (l : List Int) (a' b' : Int) (l' : List Int) : impl_sameShape.f a b l a' b' l' = some (decide (a = a') && decide (b = b')) := by
  unfold impl_sameShape.f
  by_cases h : a = a'
  · rw [if_pos h, decide_eq_true h, Bool.true_and]
    congr 1
  · rw [if_neg h, decide_eq_false h, Bool.false_and]
theorem areAlike_ev (l : List FF) (hl : l.length ≤ 9223372036854775806) : Ev (fun k => impl_areAlike.f k l) (l.all (memOk l)) := by
  rw [← rall_list l z29 (memOk l)]
  refine allb_ev (fun k i => impl_areAlike.l0 k l l (l.length : Int) (i : Int)) l.length (fun j => memOk l (l.getD j z29)) ?_ ?_ ?_
  · intro i r hi hp h
    unfold memOk at hp
    rw [Bool.and_eq_true] at hp
    exact ev_step (fun k => by
      simp only [impl_areAlike.l0, rdf, rdf0, isValidField_is, sameShape_is, Option.bind_some]
      rw [if_pos (by omega), if_pos (by omega), if_pos (by omega), if_pos hp.1, if_pos (show (0 : Int) < (l.length : Int) by omega), if_pos hp.2, w64 (by omega) (by omega)]
      rfl) h
  · intro i hi hp
    unfold memOk at hp
    refine ev_step (f := fun _ => some false) (fun k => ?_) (ev_some _)
    simp only [impl_areAlike.l0, rdf, rdf0, isValidField_is, sameShape_is, Option.bind_some]
    rw [if_pos (by omega), if_pos (by omega), if_pos (by omega)]
    cases h1 : fieldOk (l.getD i z29).f0 (l.getD i z29).f1 (l.getD i z29).f2 with
    | false => rfl
    | true =>
      rw [h1, Bool.true_and] at hp
      rw [if_pos rfl, if_pos (show (0 : Int) < (l.length : Int) by omega), hp]
      rfl
  · exact ev_step (f := fun _ => some true) (fun k => by
      simp only [impl_areAlike.l0]
      rw [if_neg (by omega)]) (ev_some _)
theorem isValidEnsemble_ev (l : List FF) (hl : l.length ≤ 9223372036854775806) : Ev (fun k => impl_IsValidEnsemble.f k l) (ensOk l) := by
  unfold impl_IsValidEnsemble.f ensOk
  rw [within_is]
  simp only [Option.bind_some]
  cases hb : inb (l.length : Int) 1 8 with
  | false => exact ev_ifn (by simp) (ev_some _)
  | true =>
    rw [Bool.true_and]
    exact ev_ifp rfl (ev_bind (areAlike_ev l hl) (ev_some _))
theorem most_max (a b : Int) : spec_l1Most.f a b = some (max a b) := by unfold spec_l1Most.f; split <;> (congr 1; omega)
def dS (u v : List Int) (j : Nat) (s : Int) : Int := if u.getD j 0 = -9999 then s else if v.getD j 0 = -9999 then s else s + absZ (u.getD j 0 - v.getD j 0)
theorem dS_iter (u v : List Int) : ∀ d i (s : Int × Int), (iter (diffStep u v) i d s).1 = iter (dS u v) i d s.1 := by
  intro d
  induction d with
  | zero => intro i s; rfl
  | succ d ih =>
    intro i s
    show (iter (diffStep u v) (i + 1) d (diffStep u v i s)).1 = iter (dS u v) (i + 1) d (dS u v i s.1)
    rw [ih]
    congr 1
    unfold diffStep dS
    split
    · rfl
    · split <;> rfl
def nearStep (l : List FF) (c : List Int) (i : Nat) (s : Int × Int) : Int × Int :=
  if s.2 < 0 then ((i : Int), (diffs (l.getD i z29).f2 c).1) else if (diffs (l.getD i z29).f2 c).1 < s.2 then ((i : Int), (diffs (l.getD i z29).f2 c).1) else s
structure Members (l : List FF) (a b : Int) (c : List Int) : Prop where
  n8 : l.length ≤ 8
  c64 : c.length ≤ 64
  cOk : ∀ x ∈ c, cellOk x = true
  uOk : ∀ i, i < l.length → ∀ x ∈ (l.getD i z29).f2, cellOk x = true
  len : ∀ i, i < l.length → (l.getD i z29).f2.length = c.length
theorem near_impl {l : List FF} {a b : Int} {c : List Int} (m : Members l a b c) : Ev (fun k => impl_NearestMember.l0 k 0 (-1) l (l.length : Int) 0 a b c) ((iter (nearStep l c) 0 (l.length - 0) (0, -1)).1, (iter (nearStep l c) 0 (l.length - 0) (0, -1)).2, true) := by
  have hn := m.n8
  refine loop_ev (fun k (s : Int × Int) i => impl_NearestMember.l0 k s.1 s.2 l (l.length : Int) (i : Int) a b c) l.length (nearStep l c) (fun s => (s.1, s.2, true)) (fun _ _ => True)
    (fun i s r hI hi h => ?_) (fun _ _ _ _ => trivial)
    (fun s hI => ev_step (fun k => impl_NearestMember.l0.eq_2 _ _ _ _ _ _ _ _ k) (ev_ifn (by omega) (ev_some _))) 0 (0, -1) (Nat.zero_le _) trivial
  have hd := differences_ev (l.getD i z29).f0 (l.getD i z29).f1 (l.getD i z29).f2 a b c (m.uOk i hi) m.cOk (m.len i hi) (by rw [m.len i hi]; exact m.c64)
  refine ev_step (fun k => impl_NearestMember.l0.eq_2 _ _ _ _ _ _ _ _ k) (ev_ifp (by omega) (ev_ifp (by omega) (ev_ifp (by omega) ?_)))
  simp only [rdf]
  refine ev_bind hd ?_
  have e1 := Aside0.mk (show wrap64 ((i : Int) + 1) = ((i + 1 : Nat) : Int) by rw [w64 (by omega) (by omega)]; rfl)
  rw [e1.out]
  unfold nearStep at h
  by_cases h1 : s.2 < 0
  · simp only [if_pos h1] at h
    exact ev_ifp h1 h
  · simp only [if_neg h1] at h
    by_cases h2 : (diffs (l.getD i z29).f2 c).1 < s.2
    · simp only [if_pos h2] at h
      exact ev_ifn h1 (ev_ifp h2 h)
    · simp only [if_neg h2] at h
      exact ev_ifn h1 (ev_ifn h2 h)
theorem near_spec {l : List FF} {a b : Int} {c : List Int} (m : Members l a b c) : Ev (fun k => spec_NearestMember.l0 k l 0 (-1) 0 a b c) ((iter (nearStep l c) 0 (l.length - 0) (0, -1)).1, (iter (nearStep l c) 0 (l.length - 0) (0, -1)).2, true) := by
  have hn := m.n8
  have hc64 := m.c64
  refine loop_ev (fun k (s : Int × Int) i => spec_NearestMember.l0 k l s.1 s.2 (i : Int) a b c) l.length (nearStep l c) (fun s => (s.1, s.2, true)) (fun _ _ => True)
    (fun i s r hI hi h => ?_) (fun _ _ _ _ => trivial)
    (fun s hI => ev_step (fun k => spec_NearestMember.l0.eq_2 _ _ _ _ _ _ _ k) (ev_ifn (by omega) (ev_some _))) 0 (0, -1) (Nat.zero_le _) trivial
  refine ev_step (fun k => spec_NearestMember.l0.eq_2 _ _ _ _ _ _ _ k) (ev_ifp (by omega) ?_)
  have hlen := m.len i hi
  have hD : (diffs (l.getD i z29).f2 c).1 = iter (dS (l.getD i z29).f2 c) 0 c.length 0 := by
    unfold diffs
    rw [dS_iter, hlen]
  have e1 := Aside0.mk (show wrap64 ((i : Int) + 1) = ((i + 1 : Nat) : Int) by rw [w64 (by omega) (by omega)]; rfl)
  refine loop_ev (fun k (t : Int) j => spec_NearestMember.l1 k l s.1 s.2 (i : Int) t (j : Int) a b c) c.length (dS (l.getD i z29).f2 c) (fun _ => r)
    (fun j t => t = iter (dS (l.getD i z29).f2 c) 0 j 0 ∧ 0 ≤ t ∧ t ≤ 20000 * (j : Int))
    (fun j t q hJ hj hh => ?_) (fun j t hJ hj => ?_) (fun t hJ => ?_) 0 0 (Nat.zero_le _) ⟨rfl, by omega, by omega⟩
  · have b1 := cell_bd (m.uOk i hi) j
    have b2 := cell_bd m.cOk j
    have hb := absZ_bd b1 b2
    have e2 := Aside0.mk (show wrap64 ((j : Int) + 1) = ((j + 1 : Nat) : Int) by rw [w64 (by omega) (by omega)]; rfl)
    have e3 := Aside0.mk (show wrap64 (t + absZ ((l.getD i z29).f2.getD j 0 - c.getD j 0)) = t + absZ ((l.getD i z29).f2.getD j 0 - c.getD j 0) from w64 (by omega) (by omega))
    have e4 := Aside0.mk (show max (wrap64 (c.getD j 0 - (l.getD i z29).f2.getD j 0)) (wrap64 (-(wrap64 (c.getD j 0 - (l.getD i z29).f2.getD j 0)))) = absZ ((l.getD i z29).f2.getD j 0 - c.getD j 0) by
      rw [w64 (x := c.getD j 0 - (l.getD i z29).f2.getD j 0) (by omega) (by omega), w64 (by omega) (by omega)]
      unfold absZ
      omega)
    refine ev_step (fun k => spec_NearestMember.l1.eq_2 _ _ _ _ _ _ _ _ _ k) (ev_ifp (by omega) (ev_ifp (by omega) ?_))
    simp only [rdf, rd_nat]
    rw [e2.out]
    unfold dS at hh
    by_cases h1 : c.getD j 0 = -9999
    · refine ev_ifp h1 ?_
      by_cases h2 : (l.getD i z29).f2.getD j 0 = -9999
      · simp only [if_pos h2] at hh; exact hh
      · simp only [if_neg h2, if_pos h1] at hh; exact hh
    · refine ev_ifn h1 (ev_ifp (by omega) (ev_ifp (by omega) (ev_ifp (by omega) ?_)))
      by_cases h2 : (l.getD i z29).f2.getD j 0 = -9999
      · simp only [if_pos h2] at hh; exact ev_ifp h2 hh
      · simp only [if_neg h2, if_neg h1] at hh
        refine ev_ifn h2 (ev_bind (ev_const (most_max _ _)) ?_)
        rw [e4.out, e3.out]
        exact hh
  · have b1 := cell_bd (m.uOk i hi) j
    have b2 := cell_bd m.cOk j
    have hb := absZ_bd b1 b2
    obtain ⟨j1, j2, j3⟩ := hJ
    refine ⟨by rw [iter_add _ j 0 1, ← j1, Nat.zero_add]; rfl, ?_, ?_⟩
    · unfold dS; split
      · omega
      · split <;> omega
    · unfold dS; split
      · omega
      · split <;> omega
  · obtain ⟨j1, _, _⟩ := hJ
    rw [← hD] at j1
    subst j1
    refine ev_step (fun k => spec_NearestMember.l1.eq_2 _ _ _ _ _ _ _ _ _ k) (ev_ifn (by omega) ?_)
    rw [e1.out]
    unfold nearStep at h
    by_cases h1 : s.2 < 0
    · simp only [if_pos h1] at h
      exact ev_ifp h1 h
    · simp only [if_neg h1] at h
      by_cases h2 : (diffs (l.getD i z29).f2 c).1 < s.2
      · simp only [if_pos h2] at h
        exact ev_ifn h1 (ev_ifp h2 h)
      · simp only [if_neg h2] at h
        exact ev_ifn h1 (ev_ifn h2 h)
def NearOk (l : List FF) (a b : Int) (c : List Int) : Prop := ensOk l = true ∧ fieldOk a b c = true ∧ a = (l.getD 0 z29).f0 ∧ b = (l.getD 0 z29).f1
theorem nearest_cases (l : List FF) (a b : Int) (c : List Int) (hl : l.length ≤ 9223372036854775806) (hs : ∀ x ∈ l, x.f2.length ≤ 9223372036854775806) (hc : c.length ≤ 9223372036854775806) :
    ∃ r : Int × Int × Bool, Ev (fun k => spec_NearestMember.f k l a b c) r ∧ Ev (fun k => impl_NearestMember.f k l a b c) r ∧ ((r = (0, 0, false) ∧ ¬ NearOk l a b c) ∨
      (NearOk l a b c ∧ Members l a b c ∧ 1 ≤ l.length ∧ r = ((iter (nearStep l c) 0 l.length (0, -1)).1, (iter (nearStep l c) 0 l.length (0, -1)).2, true))) := by
  have no : Ev (fun k => spec_NearestMember.j0 k l true a b c) (0, 0, false) := ev_step (fun k => spec_NearestMember.j0.eq_2 _ _ _ _ _ k) (ev_ifp rfl (ev_some _))
  have no2 : Ev (fun k => impl_NearestMember.j0 k l true a b c) (0, 0, false) := ev_step (fun k => impl_NearestMember.j0.eq_2 _ _ _ _ _ k) (ev_ifp rfl (ev_some _))
  have g1 := l9Good_ev l hl hs
  have g2 := isValidEnsemble_ev l hl
  have g3 := l2Good_ev a b c hc
  have g4 := areAlike_ev [(⟨a, b, c⟩ : FF), (⟨(l.getD 0 z29).f0, (l.getD 0 z29).f1, (l.getD 0 z29).f2⟩ : FF)] (by simp)
  unfold spec_NearestMember.f impl_NearestMember.f
  simp only [rdf0]
  cases he : ensOk l with
  | false =>
    rw [he] at g1 g2
    exact ⟨_, ev_bind g1 (ev_ifn (by simp) no), ev_bind g2 (ev_ifn (by simp) no2), .inl ⟨rfl, fun h => by have h1 := h.1; rw [he] at h1; exact absurd h1 (by simp)⟩⟩
  | true =>
    rw [he] at g1 g2
    have he1 := he
    unfold ensOk at he
    rw [Bool.and_eq_true, inb_iff, List.all_eq_true] at he
    obtain ⟨⟨n1, n8⟩, hall⟩ := he
    have hmem : ∀ i, i < l.length → memOk l (l.getD i z29) = true := fun i hi => by rw [getD_eq_get _ hi]; exact hall _ (List.getElem_mem hi)
    have h0 := hmem 0 (by omega)
    have hv : ([(⟨a, b, c⟩ : FF), (⟨(l.getD 0 z29).f0, (l.getD 0 z29).f1, (l.getD 0 z29).f2⟩ : FF)].all (memOk [(⟨a, b, c⟩ : FF), (⟨(l.getD 0 z29).f0, (l.getD 0 z29).f1, (l.getD 0 z29).f2⟩ : FF)])) = (fieldOk a b c && (decide ((l.getD 0 z29).f0 = a) && decide ((l.getD 0 z29).f1 = b))) := by
      unfold memOk at h0 ⊢
      rw [Bool.and_eq_true] at h0
      have h00 := h0.1
      clear h0 hmem hall g1 g2 g3 g4
      generalize l.getD 0 z29 = y at h00 ⊢
      simp [h00]
    rw [hv] at g4
    have p0 : (0 : Int) < (l.length : Int) := by omega
    cases hf : fieldOk a b c with
    | false =>
      rw [hf] at g3 g4
      exact ⟨_, ev_bind g1 (ev_ifp rfl (ev_bind g3 (ev_ifn (by simp) no))), ev_bind g2 (ev_ifp rfl (ev_ifp p0 (ev_bind g4 no2))), .inl ⟨rfl, fun h => by have h1 := h.2.1; rw [hf] at h1; exact absurd h1 (by simp)⟩⟩
    | true =>
      rw [hf] at g3 g4
      by_cases ea : a = (l.getD 0 z29).f0
      · by_cases eb : b = (l.getD 0 z29).f1
        · have fi := fieldOk_iff.1 hf
          have m : Members l a b c := by
            refine ⟨by omega, fi.len64.2, fi.cells, fun i hi => ?_, fun i hi => ?_⟩
            · have := hmem i hi
              unfold memOk at this
              rw [Bool.and_eq_true] at this
              exact (fieldOk_iff.1 this.1).cells
            · have := hmem i hi
              unfold memOk at this
              rw [Bool.and_eq_true, Bool.and_eq_true, decide_eq_true_eq, decide_eq_true_eq] at this
              have f1 := (fieldOk_iff.1 this.1).len
              rw [this.2.1, this.2.2, ← ea, ← eb, ← fi.len] at f1
              exact_mod_cast f1
          have t4 : (decide ((l.getD 0 z29).f0 = a) && decide ((l.getD 0 z29).f1 = b)) = true := by rw [decide_eq_true ea.symm, decide_eq_true eb.symm]; rfl
          rw [t4] at g4
          have nb : (b != (l.getD 0 z29).f1) = false := by rw [← eb]; simp
          refine ⟨_, ev_bind g1 (ev_ifp rfl (ev_bind g3 (ev_ifp rfl (ev_ifp p0 (ev_ifp ea ?_))))), ev_bind g2 (ev_ifp rfl (ev_ifp p0 (ev_bind g4 (ev_step (fun k => impl_NearestMember.j0.eq_2 _ _ _ _ _ k) (ev_ifn (by simp) (near_impl m)))))), .inr ⟨⟨he1, hf, ea, eb⟩, m, by omega, rfl⟩⟩
          rw [nb]
          exact ev_step (fun k => spec_NearestMember.j0.eq_2 _ _ _ _ _ k) (ev_ifn (by simp) (near_spec m))
        · have t4 : (decide ((l.getD 0 z29).f0 = a) && decide ((l.getD 0 z29).f1 = b)) = false := by rw [decide_eq_true ea.symm, decide_eq_false (fun e => eb e.symm)]; rfl
          rw [t4] at g4
          have nb : (b != (l.getD 0 z29).f1) = true := bne_iff_ne.2 eb
          refine ⟨_, ev_bind g1 (ev_ifp rfl (ev_bind g3 (ev_ifp rfl (ev_ifp p0 (ev_ifp ea ?_))))), ev_bind g2 (ev_ifp rfl (ev_ifp p0 (ev_bind g4 no2))), .inl ⟨rfl, fun h => eb h.2.2.2⟩⟩
          rw [nb]
          exact no
      · have t4 : (decide ((l.getD 0 z29).f0 = a) && decide ((l.getD 0 z29).f1 = b)) = false := by rw [decide_eq_false (fun e => ea e.symm)]; rfl
        rw [t4] at g4
        exact ⟨_, ev_bind g1 (ev_ifp rfl (ev_bind g3 (ev_ifp rfl (ev_ifp p0 (ev_ifn ea no))))), ev_bind g2 (ev_ifp rfl (ev_ifp p0 (ev_bind g4 no2))), .inl ⟨rfl, fun h => ea h.2.2.1⟩⟩
end Go.Proofs.Ytilffhaghabdgaa.Pure
namespace Go.Proofs.Ytilffhaghabdgaa.Pure
set_option linter.unusedVariables false
set_option linter.unusedSimpArgs false
open Go.RowKit Go.Proofs.YtilffhaghabdgaaW.PrintWords Go.Proofs.YtilffhaghabdgaaW.PrintLast
def pos (s : List Int) (x : Int) : Nat → Nat
  | 0 => 0
  | j + 1 => if s.getD j 0 > x then pos s x j else j + 1
def ins (s : List Int) (x : Int) : List Int := s.take (pos s x s.length) ++ (x :: s.drop (pos s x s.length))
theorem ins_perm (s : List Int) (x : Int) : (ins s x).Perm (x :: s) := by
  unfold ins
  have h : (s.take (pos s x s.length) ++ x :: s.drop (pos s x s.length)).Perm (x :: (s.take (pos s x s.length) ++ s.drop (pos s x s.length))) := List.perm_middle
  rw [List.take_append_drop] at h
  exact h
end Go.Proofs.Ytilffhaghabdgaa.Pure
namespace Go.Proofs.Ytilffhaghabdgaa.Pure
set_option linter.unusedVariables false
set_option linter.unusedSimpArgs false
open Go.RowKit Go.Proofs.Ytilffhaghabdgaa.P Go.Proofs.YtilffhaghabdgaaW.PrintWords Go.Proofs.YtilffhaghabdgaaW.PrintLast
def cellOf (l : List FF) (c i : Nat) : Int := (l.getD i z29).f2.getD c 0
def memStep (l : List FF) (c i : Nat) (s : List Int) : List Int := if cellOf l c i = -9999 then s else s ++ [cellOf l c i]
def insStep (l : List FF) (c i : Nat) (s : List Int) : List Int := if cellOf l c i = -9999 then s else ins s (cellOf l c i)
def vals (l : List FF) (c : Nat) : List Int := iter (memStep l c) 0 l.length []
def svals (l : List FF) (c : Nat) : List Int := iter (insStep l c) 0 l.length []
theorem vals_perm (l : List FF) (c : Nat) : (svals l c).Perm (vals l c) := by
  have key : ∀ d i (s t : List Int), s.Perm t → (iter (insStep l c) i d s).Perm (iter (memStep l c) i d t) := by
    intro d
    induction d with
    | zero => intro i s t h; exact h
    | succ d ih =>
      intro i s t h
      refine ih (i + 1) _ _ ?_
      unfold insStep memStep
      split
      · exact h
      · exact (ins_perm _ _).trans ((List.Perm.cons _ h).trans (List.perm_append_singleton _ _).symm)
  exact key _ _ _ _ (List.Perm.refl _)
theorem vals_len (l : List FF) (c : Nat) : (vals l c).length ≤ l.length :=
  iter_inv (memStep l c) (fun i s => s.length ≤ i) l.length (fun i s h _ => by unfold memStep; split; omega; simp; omega) l.length 0 [] (by omega) (by simp)
theorem svals_len (l : List FF) (c : Nat) : (svals l c).length = (vals l c).length := (vals_perm l c).length_eq
theorem memberValues_ev (l : List FF) (c : Nat) (hl : l.length ≤ 17592186044415) (hc : ∀ i, i < l.length → c < (l.getD i z29).f2.length) (hc2 : c ≤ 9223372036854775806) : Ev (fun k => impl_memberValues.f k l (c : Int)) (vals l c) := by
  have h := loop_ev (fun k s i => impl_memberValues.l0 k (c : Int) s l (l.length : Int) (i : Int)) l.length (memStep l c) (fun s => s) (fun i s => s.length ≤ i)
    (fun i s r hI hi h => ev_step (fun k => by
      have := hc i hi
      simp only [impl_memberValues.l0, rdf, rd_nat]
      rw [if_pos (by omega), if_pos (by omega), if_pos (by omega), if_pos (by omega), if_pos (by omega), w64 (by omega) (by omega), if_pos (c := s.length < 17592186044416) (by omega)]
      show (if cellOf l c i = -9999 then _ else _) = impl_memberValues.l0 k (c : Int) (memStep l c i s) l (l.length : Int) ((i : Int) + 1)
      unfold memStep
      split <;> rfl) h)
    (fun i s hI _ => by unfold memStep; split; omega; simp; omega)
    (fun s hI => ev_step (f := fun _ => some s) (fun k => by
      simp only [impl_memberValues.l0]
      rw [if_neg (by omega)]) (ev_some _)) 0 [] (Nat.zero_le _) (by simp)
  exact h
theorem l9Values_ev (l : List FF) (c : Nat) (hl : l.length ≤ 17592186044000) (hc : ∀ i, i < l.length → c < (l.getD i z29).f2.length) (hc2 : c ≤ 9223372036854775806) : Ev (fun k => spec_l9Values.f k l (c : Int)) (svals l c) := by
  have inner : ∀ (s : List Int) (i : Nat) (x : Int) (r : List Int) (j : Nat), s.length ≤ 17592186044000 → j ≤ s.length → Ev (fun k => spec_l9Values.l0 k l (c : Int) (s.take (pos s x j) ++ (x :: s.drop (pos s x j))) (wrap64 ((i : Int) + 1))) r → Ev (fun k => spec_l9Values.l1 k l (c : Int) s (i : Int) x (j : Int)) r := by
    intro s i x r j hs
    induction j with
    | zero =>
      intro hj h
      refine ev_step (f := fun k => spec_l9Values.l0 k l (c : Int) (s.take 0 ++ (x :: s.drop 0)) (wrap64 ((i : Int) + 1))) (fun k => ?_) h
      simp only [spec_l9Values.l1, Option.bind_some]
      rw [if_neg (by omega), if_pos (by omega), if_pos (by omega), if_pos (by simp), if_pos (by simp), if_pos (by simp; omega)]
      simp
    | succ j ih =>
      intro hj h
      unfold pos at h
      have e1 : wrap64 (((j + 1 : Nat) : Int) - 1) = (j : Int) := by rw [w64 (by omega) (by omega)]; omega
      by_cases hg : s.getD j 0 > x
      · rw [if_pos hg] at h
        refine ev_step (fun k => ?_) (ih (by omega) h)
        simp only [spec_l9Values.l1]
        rw [if_pos (by omega), e1, if_pos (by omega), if_pos (by omega), rd_nat, if_pos hg]
      · rw [if_neg hg] at h
        refine ev_step (fun k => ?_) h
        simp only [spec_l9Values.l1, Option.bind_some]
        rw [if_pos (by omega), e1, if_pos (by omega), if_pos (by omega), rd_nat, if_neg hg, if_pos (by omega), if_pos (by omega), Int.toNat_natCast, if_pos (by simp; omega), if_pos (by simp; omega), if_pos (by simp; omega)]
        simp
  have h := loop_ev (fun k s i => spec_l9Values.l0 k l (c : Int) s (i : Int)) l.length (insStep l c) (fun s => s) (fun i s => s.length ≤ i)
    (fun i s r hI hi h => by
      have hci := hc i hi
      by_cases e : cellOf l c i = -9999
      · refine ev_step (fun k => ?_) h
        simp only [spec_l9Values.l0, rdf, rd_nat]
        rw [if_pos (by omega), if_pos (by omega), if_pos (by omega), if_pos (by omega), if_pos (c := (l.getD i z29).f2.getD c 0 = -9999) e, w64 (by omega) (by omega), insStep, if_pos e]
        rfl
      · have h2 := inner s i (cellOf l c i) r s.length (by omega) (Nat.le_refl _) (by
          rw [insStep, if_neg e, ins] at h
          rw [w64 (by omega) (by omega)]
          exact h)
        refine ev_step (fun k => ?_) h2
        simp only [spec_l9Values.l0, rdf, rd_nat]
        rw [if_pos (by omega), if_pos (by omega), if_pos (by omega), if_pos (by omega), if_neg (c := (l.getD i z29).f2.getD c 0 = -9999) e]
        rfl)
    (fun i s hI _ => by
      unfold insStep
      split
      · omega
      · rw [(ins_perm s _).length_eq, List.length_cons]; omega)
    (fun s hI => ev_step (f := fun _ => some s) (fun k => by
      simp only [spec_l9Values.l0]
      rw [if_neg (by omega)]) (ev_some _)) 0 [] (Nat.zero_le _) (by simp)
  exact h
def cntStep (l : List Int) (p : Int → Bool) (i : Nat) (n : Int) : Int := if p (l.getD i 0) = true then n + 1 else n
theorem cnt_iter (l : List Int) (p : Int → Bool) : ∀ d i (n : Int), i + d = l.length → iter (cntStep l p) i d n = n + ((l.drop i).countP p : Int) := by
  intro d
  induction d with
  | zero => intro i n h; rw [List.drop_of_length_le (by omega)]; simp [iter]
  | succ d ih =>
    intro i n h
    have hlt : i < l.length := by omega
    show iter (cntStep l p) (i + 1) d (cntStep l p i n) = _
    rw [ih (i + 1) _ (by omega), List.drop_eq_getElem_cons hlt, List.countP_cons, cntStep, getD_eq_get 0 hlt]
    split <;> simp_all <;> omega
theorem cnt_all (l : List Int) (p : Int → Bool) : iter (cntStep l p) 0 l.length 0 = (l.countP p : Int) := by
  rw [cnt_iter l p l.length 0 0 (by omega)]
  simp
theorem ens_is {l : List FF} (h : ensOk l = true) : (1 ≤ l.length ∧ l.length ≤ 8) ∧ ∀ i, i < l.length → FieldIs (l.getD i z29).f0 (l.getD i z29).f1 (l.getD i z29).f2 ∧ (l.getD i z29).f0 = (l.getD 0 z29).f0 ∧ (l.getD i z29).f1 = (l.getD 0 z29).f1 := by
  unfold ensOk at h
  rw [Bool.and_eq_true, inb_iff, List.all_eq_true] at h
  refine ⟨by omega, fun i hi => ?_⟩
  rw [getD_eq_get _ hi]
  have := h.2 _ (List.getElem_mem hi)
  unfold memOk at this
  rw [Bool.and_eq_true, Bool.and_eq_true] at this
  exact ⟨fieldOk_iff.1 this.1, of_decide_eq_true this.2.1, of_decide_eq_true this.2.2⟩
def wide0 (l : List FF) : Int := (l.getD 0 z29).f0
def high0 (l : List FF) : Int := (l.getD 0 z29).f1
theorem ens_shape {l : List FF} (h : ensOk l = true) : (1 ≤ wide0 l ∧ wide0 l ≤ 8) ∧ (1 ≤ high0 l ∧ high0 l ≤ 8) ∧ ∀ i, i < l.length → ((l.getD i z29).f2.length : Int) = wide0 l * high0 l := by
  obtain ⟨h1, h2⟩ := ens_is h
  have h0 := h2 0 (by omega)
  refine ⟨⟨h0.1.a1, h0.1.a8⟩, ⟨h0.1.b1, h0.1.b8⟩, fun i hi => ?_⟩
  have := (h2 i hi).1.len
  rw [(h2 i hi).2.1, (h2 i hi).2.2] at this
  exact this
theorem l13Threshold_is (x : Int) : spec_l13Threshold.f x = some (inb x (-9000) 9000) := by
  unfold spec_l13Threshold.f
  rw [l1In_is]
  rfl
def ensCell (l : List FF) (x y : Int) : Bool := ensOk l && (inb x 0 (wide0 l - 1) && inb y 0 (high0 l - 1))
theorem ensCell_iff {l : List FF} {x y : Int} (h : ensCell l x y = true) : ensOk l = true ∧ (0 ≤ x ∧ x ≤ wide0 l - 1) ∧ 0 ≤ y ∧ y ≤ high0 l - 1 := by
  unfold ensCell at h
  rw [Bool.and_eq_true, Bool.and_eq_true, inb_iff, inb_iff] at h
  exact h
theorem cell_at {l : List FF} {x y : Int} (h : ensCell l x y = true) : ∃ c : Nat, (c : Int) = y * wide0 l + x ∧ c < 64 ∧ ∀ i, i < l.length → c < (l.getD i z29).f2.length := by
  obtain ⟨ok, ⟨x0, x1⟩, y0, y1⟩ := ensCell_iff h
  obtain ⟨⟨w1, w8⟩, ⟨h1, h8⟩, hl⟩ := ens_shape ok
  have hb := mul_bd w1 w8 h1 h8
  have h0 : 0 ≤ y * wide0 l := Int.mul_nonneg y0 (by omega)
  have hup : y * wide0 l ≤ (high0 l - 1) * wide0 l := Int.mul_le_mul_of_nonneg_right (by omega) (by omega)
  have e : (high0 l - 1) * wide0 l = wide0 l * high0 l - wide0 l := by rw [Int.sub_mul, Int.one_mul, Int.mul_comm]
  obtain ⟨c, hc⟩ := Int.eq_ofNat_of_zero_le (show 0 ≤ y * wide0 l + x by omega)
  refine ⟨c, hc.symm, by omega, fun i hi => ?_⟩
  have := hl i hi
  omega
theorem isEnsembleCell_ev (l : List FF) (x y : Int) (hl : l.length ≤ 9223372036854775806) : Ev (fun k => impl_isEnsembleCell.f k l x y) (ensCell l x y) := by
  unfold impl_isEnsembleCell.f ensCell
  refine ev_bind (isValidEnsemble_ev l hl) ?_
  cases ok : ensOk l with
  | false => exact ev_ifn (by simp) (ev_some _)
  | true =>
    obtain ⟨⟨w1, w8⟩, ⟨h1, h8⟩, _⟩ := ens_shape ok
    obtain ⟨⟨n1, _⟩, _⟩ := ens_is ok
    rw [Bool.true_and]
    refine ev_ifp rfl (ev_ifp (by omega) (ev_bind (ev_const ?_) (ev_some _)))
    unfold impl_hasCell.f
    rw [rdf0]
    show (impl_within.f x 0 (wrap64 (wide0 l - 1))).bind _ = _
    rw [w64 (by omega) (by omega), within_is, Option.bind_some]
    show (if inb x 0 (wide0 l - 1) = true then (impl_within.f y 0 (wrap64 (high0 l - 1))).bind _ else _) = _
    rw [w64 (by omega) (by omega), within_is]
    cases inb x 0 (wide0 l - 1) <;> simp
theorem l9Cell_ev (l : List FF) (x y : Int) (hl : l.length ≤ 9223372036854775806) (hs : ∀ f ∈ l, f.f2.length ≤ 9223372036854775806) : Ev (fun k => spec_l9Cell.f k l x y) (if ensCell l x y = true then y * wide0 l + x else -1) := by
  unfold spec_l9Cell.f
  refine ev_bind (l9Good_ev l hl hs) ?_
  cases ok : ensOk l with
  | false =>
    rw [show ensCell l x y = false by unfold ensCell; rw [ok]; rfl]
    exact ev_ifn (by simp) (ev_some _)
  | true =>
    obtain ⟨⟨w1, w8⟩, ⟨h1, h8⟩, _⟩ := ens_shape ok
    obtain ⟨⟨n1, _⟩, _⟩ := ens_is ok
    refine ev_ifp rfl (ev_ifp (by omega) (ev_const ?_))
    rw [rdf0]
    show (spec_l1In.f x 0 (wrap64 (wide0 l - 1))).bind _ = _
    rw [w64 (by omega) (by omega), l1In_is, Option.bind_some]
    cases ex : inb x 0 (wide0 l - 1) with
    | false => rw [show ensCell l x y = false by unfold ensCell; rw [ok, ex]; rfl]; simp
    | true =>
      rw [if_pos rfl]
      show (spec_l1In.f y 0 (wrap64 (high0 l - 1))).bind _ = _
      rw [w64 (by omega) (by omega), l1In_is, Option.bind_some]
      cases ey : inb y 0 (high0 l - 1) with
      | false => rw [show ensCell l x y = false by unfold ensCell; rw [ok, ex, ey]; rfl]; simp
      | true =>
        have e : ensCell l x y = true := by unfold ensCell; rw [ok, ex, ey]; rfl
        obtain ⟨c, hc, hc64, _⟩ := cell_at e
        rw [if_pos rfl, if_pos e]
        show some (wrap64 (wrap64 (wide0 l * y) + x)) = _
        rw [inb_iff] at ex ey
        have h0 : 0 ≤ y * wide0 l := Int.mul_nonneg ey.1 (by omega)
        rw [Int.mul_comm (wide0 l) y, w64 (x := y * wide0 l) (by omega) (by omega), w64 (by omega) (by omega)]
theorem cell_index {l : List FF} {x y : Int} (h : ensCell l x y = true) (c : Nat) (hc : (c : Int) = y * wide0 l + x) (h64 : c < 64) : wrap64 (wrap64 (y * (rd_T29 l 0).f0) + x) = (c : Int) := by
  obtain ⟨ok, ⟨x0, x1⟩, y0, y1⟩ := ensCell_iff h
  obtain ⟨⟨w1, w8⟩, ⟨h1, h8⟩, hl⟩ := ens_shape ok
  rw [rdf0]
  show wrap64 (wrap64 (y * wide0 l) + x) = _
  have h0 : 0 ≤ y * wide0 l := Int.mul_nonneg y0 (by omega)
  rw [w64 (x := y * wide0 l) (by omega) (by omega), w64 (by omega) (by omega), hc]
theorem iter_pair {σ τ : Type} (g : Nat → σ → σ) (h : Nat → τ → τ) : ∀ d i (s : σ × τ), iter (fun i s => (g i s.1, h i s.2)) i d s = (iter g i d s.1, iter h i d s.2)
  | 0, i, s => rfl
  | d + 1, i, s => iter_pair g h d (i + 1) (g i s.1, h i s.2)
def rankStep (l : List Int) (v : Int) (i : Nat) (s : Int × Int) : Int × Int := (cntStep l (fun y => decide (y < v)) i s.1, cntStep l (fun y => decide (y = v)) i s.2)
def ranks (l : List Int) (v : Int) : Int × Int × Bool := ((l.countP (fun y => decide (y < v)) : Int), (l.countP (fun y => decide (y = v)) : Int), true)
theorem ranks_iter (l : List Int) (v : Int) : ((iter (rankStep l v) 0 l.length (0, 0)).1, (iter (rankStep l v) 0 l.length (0, 0)).2, true) = ranks l v := by
  have e : iter (rankStep l v) 0 l.length (0, 0) = _ := iter_pair (cntStep l (fun y => decide (y < v))) (cntStep l (fun y => decide (y = v))) l.length 0 (0, 0)
  rw [e, cnt_all, cnt_all]
  rfl
theorem rank_spec (l : List Int) (v : Int) (hl : l.length ≤ 9223372036854775806) : Ev (fun k => spec_RankOf.l0 k v 0 0 l 0) (ranks l v) := by
  rw [← ranks_iter]
  exact loop_ev (fun k s i => spec_RankOf.l0 k v s.1 s.2 l (i : Int)) l.length (rankStep l v) (fun s => (s.1, s.2, true)) (fun i s => (0 ≤ s.1 ∧ s.1 ≤ i) ∧ 0 ≤ s.2 ∧ s.2 ≤ i)
    (fun i s r hI hi h => ev_step (fun k => by
      simp only [spec_RankOf.l0, rd_nat]
      rw [if_pos (by omega), if_pos (by omega), w64 (x := (i : Int) + 1) (by omega) (by omega), w64 (x := s.1 + 1) (by omega) (by omega), w64 (x := s.2 + 1) (by omega) (by omega)]
      show _ = spec_RankOf.l0 k v (cntStep l (fun y => decide (y < v)) i s.1) (cntStep l (fun y => decide (y = v)) i s.2) l ((i : Int) + 1)
      unfold cntStep
      by_cases e : l.getD i 0 < v
      · rw [if_pos e, if_neg (c := l.getD i 0 = v) (by omega), if_pos (decide_eq_true e), if_neg (c := decide (l.getD i 0 = v) = true) (by rw [decide_eq_true_eq]; omega)]
      · rw [if_neg e, if_neg (c := decide (l.getD i 0 < v) = true) (by simpa using e)]
        by_cases e2 : l.getD i 0 = v
        · rw [if_pos e2, if_pos (decide_eq_true e2)]
        · rw [if_neg e2, if_neg (by simpa using e2)]) h)
    (fun i s hI _ => by unfold rankStep cntStep; constructor <;> (dsimp only; split <;> omega))
    (fun s hI => ev_step (f := fun _ => some (s.1, s.2, true)) (fun k => by
      simp only [spec_RankOf.l0]
      rw [if_neg (by omega)]) (ev_some _)) 0 (0, 0) (Nat.zero_le _) (by simp)
theorem rank_impl (l : List Int) (v : Int) (hl : l.length ≤ 9223372036854775806) : Ev (fun k => impl_RankOf.l0 k v 0 0 l (l.length : Int) 0) (ranks l v) := by
  rw [← ranks_iter]
  exact loop_ev (fun k s i => impl_RankOf.l0 k v s.1 s.2 l (l.length : Int) (i : Int)) l.length (rankStep l v) (fun s => (s.1, s.2, true)) (fun i s => (0 ≤ s.1 ∧ s.1 ≤ i) ∧ 0 ≤ s.2 ∧ s.2 ≤ i)
    (fun i s r hI hi h => ev_step (fun k => by
      simp only [impl_RankOf.l0, rd_nat]
      rw [if_pos (by omega), if_pos (by omega), if_pos (by omega), w64 (x := (i : Int) + 1) (by omega) (by omega), w64 (x := s.1 + 1) (by omega) (by omega), w64 (x := s.2 + 1) (by omega) (by omega)]
      show _ = impl_RankOf.l0 k v (cntStep l (fun y => decide (y < v)) i s.1) (cntStep l (fun y => decide (y = v)) i s.2) l (l.length : Int) ((i : Int) + 1)
      unfold cntStep
      by_cases e : l.getD i 0 < v
      · rw [if_pos e, if_pos (decide_eq_true e), if_neg (c := decide (l.getD i 0 = v) = true) (by rw [decide_eq_true_eq]; omega)]
      · rw [if_neg e, if_neg (c := decide (l.getD i 0 < v) = true) (by simpa using e)]
        by_cases e2 : l.getD i 0 = v
        · rw [if_pos e2, if_pos (decide_eq_true e2)]
        · rw [if_neg e2, if_neg (by simpa using e2)]) h)
    (fun i s hI _ => by unfold rankStep cntStep; constructor <;> (dsimp only; split <;> omega))
    (fun s hI => ev_step (f := fun _ => some (s.1, s.2, true)) (fun k => by
      simp only [impl_RankOf.l0]
      rw [if_neg (by omega)]) (ev_some _)) 0 (0, 0) (Nat.zero_le _) (by simp)
theorem ranks_perm {l l' : List Int} (v : Int) (h : l.Perm l') : ranks l v = ranks l' v := by
  unfold ranks
  rw [h.countP_eq, h.countP_eq]
theorem countAtLeast_ev (l : List Int) (x : Int) (hl : l.length ≤ 9223372036854775806) : Ev (fun k => impl_countAtLeast.f k l x) (l.countP (fun y => decide (y ≥ x)) : Int) := by
  rw [← cnt_all]
  exact loop_ev (fun k n i => impl_countAtLeast.l0 k x n l (l.length : Int) (i : Int)) l.length (cntStep l (fun y => decide (y ≥ x))) (fun n => n) (fun i n => 0 ≤ n ∧ n ≤ i)
    (fun i n r hI hi h => ev_step (fun k => by
      simp only [impl_countAtLeast.l0, rd_nat]
      rw [if_pos (by omega), if_pos (by omega), if_pos (by omega), w64 (x := (i : Int) + 1) (by omega) (by omega), w64 (x := n + 1) (by omega) (by omega)]
      show _ = impl_countAtLeast.l0 k x (cntStep l (fun y => decide (y ≥ x)) i n) l (l.length : Int) ((i : Int) + 1)
      unfold cntStep
      by_cases e : l.getD i 0 ≥ x
      · rw [if_pos e, if_pos (decide_eq_true e)]
      · rw [if_neg e, if_neg (by simpa using e)]) h)
    (fun i n hI _ => by unfold cntStep; split <;> omega)
    (fun n hI => ev_step (f := fun _ => some n) (fun k => by
      simp only [impl_countAtLeast.l0]
      rw [if_neg (by omega)]) (ev_some _)) 0 0 (Nat.zero_le _) (by omega)
theorem l9Least_ev (l : List Int) (x : Int) (hl : l.length ≤ 9223372036854775806) : Ev (fun k => spec_l9Least.f k l x) (l.countP (fun y => decide (y ≥ x)) : Int) := by
  rw [← cnt_all]
  exact loop_ev (fun k n i => spec_l9Least.l0 k l x n (i : Int)) l.length (cntStep l (fun y => decide (y ≥ x))) (fun n => n) (fun i n => 0 ≤ n ∧ n ≤ i)
    (fun i n r hI hi h => ev_step (fun k => by
      simp only [spec_l9Least.l0, rd_nat]
      rw [if_pos (by omega), if_pos (by omega), w64 (x := (i : Int) + 1) (by omega) (by omega), w64 (x := n + 1) (by omega) (by omega)]
      show _ = spec_l9Least.l0 k l x (cntStep l (fun y => decide (y ≥ x)) i n) ((i : Int) + 1)
      unfold cntStep
      by_cases e : l.getD i 0 ≥ x
      · rw [if_pos e, if_pos (decide_eq_true e)]
      · rw [if_neg e, if_neg (by simpa using e)]) h)
    (fun i n hI _ => by unfold cntStep; split <;> omega)
    (fun n hI => ev_step (f := fun _ => some n) (fun k => by
      simp only [spec_l9Least.l0]
      rw [if_neg (by omega)]) (ev_some _)) 0 0 (Nat.zero_le _) (by omega)
theorem chanceI_at (l : List FF) (x y t : Int) (c : Nat) (hc : (c : Int) = y * wide0 l + x) (hl : l.length ≤ 9223372036854775806) (h : ensCell l x y = true) (ht : inb t (-9000) 9000 = true) :
    Ev (fun k => impl_ChanceAt.f k l x y t) (((vals l c).countP (fun y => decide (y ≥ t)) : Int), ((vals l c).length : Int), true) := by
  have g2 := isEnsembleCell_ev l x y hl
  rw [h] at g2
  obtain ⟨c', hc', h64, hlen⟩ := cell_at h
  have e : c' = c := by omega
  subst e
  obtain ⟨⟨n1, n8⟩, _⟩ := ens_is (ensCell_iff h).1
  unfold impl_ChanceAt.f
  refine ev_bind g2 (ev_ifp rfl (ev_bind (ev_const (by rw [within_is, ht])) (ev_step (fun k => impl_ChanceAt.j0.eq_2 _ _ _ _ _ k) (ev_ifn (by simp) (ev_ifp (by omega) ?_)))))
  rw [cell_index h c' hc h64]
  refine ev_bind (memberValues_ev l c' (by omega) hlen (by omega)) ?_
  have hvl := vals_len l c'
  exact ev_bind (countAtLeast_ev (vals l c') t (by omega)) (ev_some _)
theorem rank_cases (l : List FF) (x y t : Int) (hl : l.length ≤ 9223372036854775806) (hs : ∀ f ∈ l, f.f2.length ≤ 9223372036854775806) :
    (Ev (fun k => spec_RankOf.f k l x y t) (0, 0, false) ∧ Ev (fun k => impl_RankOf.f k l x y t) (0, 0, false)) ∨
    ∃ c : Nat, l.length ≤ 8 ∧ Ev (fun k => spec_RankOf.f k l x y t) (ranks (vals l c) t) ∧ Ev (fun k => impl_RankOf.f k l x y t) (ranks (vals l c) t) ∧ Ev (fun k => impl_ChanceAt.f k l x y t) (((vals l c).countP (fun y => decide (y ≥ t)) : Int), ((vals l c).length : Int), true) := by
  have g1 := l9Cell_ev l x y hl hs
  have g2 := isEnsembleCell_ev l x y hl
  unfold spec_RankOf.f impl_RankOf.f
  cases h : ensCell l x y with
  | false =>
    rw [h] at g1 g2
    exact .inl ⟨ev_bind g1 (ev_ifp (by simp) (ev_step (fun k => spec_RankOf.j0.eq_2 _ _ _ _ k) (ev_ifp rfl (ev_some _)))),
      ev_bind g2 (ev_ifn (by simp) (ev_step (fun k => impl_RankOf.j0.eq_2 _ _ _ _ _ k) (ev_ifp rfl (ev_some _))))⟩
  | true =>
    rw [h, if_pos rfl] at g1
    rw [h] at g2
    obtain ⟨c, hc, h64, hlen⟩ := cell_at h
    obtain ⟨⟨n1, n8⟩, _⟩ := ens_is (ensCell_iff h).1
    rw [← hc] at g1
    cases ht : inb t (-9000) 9000 with
    | false =>
      exact .inl ⟨ev_bind g1 (ev_ifn (by omega) (ev_bind (ev_const (by rw [l13Threshold_is, ht])) (ev_step (fun k => spec_RankOf.j0.eq_2 _ _ _ _ k) (ev_ifp rfl (ev_some _))))),
        ev_bind g2 (ev_ifp rfl (ev_bind (ev_const (by rw [within_is, ht])) (ev_step (fun k => impl_RankOf.j0.eq_2 _ _ _ _ _ k) (ev_ifp rfl (ev_some _)))))⟩
    | true =>
      refine .inr ⟨c, by omega, ?_, ?_, chanceI_at l x y t c hc hl h ht⟩
      · refine ev_bind g1 (ev_ifn (by omega) (ev_bind (ev_const (by rw [l13Threshold_is, ht])) (ev_step (fun k => spec_RankOf.j0.eq_2 _ _ _ _ k) (ev_ifn (by simp) ?_))))
        refine ev_bind (l9Values_ev l c (by omega) hlen (by omega)) ?_
        have hsl := svals_len l c
        have hvl := vals_len l c
        have := rank_spec (svals l c) t (by omega)
        rw [ranks_perm t (vals_perm l c)] at this
        exact this
      · refine ev_bind g2 (ev_ifp rfl (ev_bind (ev_const (by rw [within_is, ht])) (ev_step (fun k => impl_RankOf.j0.eq_2 _ _ _ _ _ k) (ev_ifn (by simp) (ev_ifp (by omega) ?_)))))
        rw [cell_index h c hc h64]
        refine ev_bind (memberValues_ev l c (by omega) hlen (by omega)) ?_
        have hvl := vals_len l c
        exact rank_impl (vals l c) t (by omega)
theorem counts_add (l : List Int) (t : Int) : l.countP (fun y => decide (y < t)) + l.countP (fun y => decide (y ≥ t)) = l.length ∧ l.countP (fun y => decide (y = t)) ≤ l.countP (fun y => decide (y ≥ t)) := by
  induction l with
  | nil => simp
  | cons x r ih =>
    rw [List.countP_cons, List.countP_cons, List.countP_cons, List.length_cons]
    simp only [decide_eq_true_eq]
    obtain ⟨h1, h2⟩ := ih
    constructor
    · split <;> split <;> omega
    · split <;> split <;> omega
def outStep (l : List FF) (m : Int) (i : Nat) (s : List FF) : List FF := if (i : Int) = m then s else s ++ [l.getD i z29]
def without (l : List FF) (m : Int) : List FF := iter (outStep l m) 0 l.length []
theorem without_of (l : List FF) (m : Int) : (without l m).length ≤ l.length ∧ ∀ x ∈ without l m, x ∈ l := by
  have h := iter_inv (outStep l m) (fun i s => s.length ≤ i ∧ ∀ x ∈ s, x ∈ l) l.length (fun i s hI hi => by
    unfold outStep
    split
    · exact ⟨by have := hI.1; omega, hI.2⟩
    · refine ⟨by rw [List.length_append, List.length_singleton]; have := hI.1; omega, fun x hx => ?_⟩
      rcases List.mem_append.1 hx with h | h
      · exact hI.2 x h
      · rw [List.mem_singleton.1 h, getD_eq_get _ hi]
        exact List.getElem_mem hi) l.length 0 [] (by omega) ⟨by simp, by simp⟩
  exact h
theorem ens_small {l : List FF} (ok : ensOk l = true) : (1 ≤ l.length ∧ l.length ≤ 8) ∧ ∀ i, i < l.length → (l.getD i z29).f2.length ≤ 64 := by
  unfold ensOk at ok
  rw [Bool.and_eq_true, inb_iff, List.all_eq_true] at ok
  refine ⟨by omega, fun i hi => ?_⟩
  rw [getD_eq_get _ hi]
  have h := ok.2 _ (List.getElem_mem hi)
  unfold memOk at h
  rw [Bool.and_eq_true, fieldOk_iff] at h
  exact h.1.len64.2
theorem wm_own (a b : Int) (l : List Int) (hl : l.length < 17592186044416) : spec_l2Own.f a b l = some (a, b, l) ∧ impl_cloneField.f a b l = some (a, b, l) := by
  unfold spec_l2Own.f impl_cloneField.f spec_l1Own.f slices_Clone_int_int.f
  constructor
  · rw [Option.bind_some, if_pos (by simpa using hl)]
    rfl
  · rw [if_pos hl]
    rfl
theorem withoutMember_both (l : List FF) (m : Int) (hl : l.length ≤ 9223372036854775806) (hs : ∀ x ∈ l, x.f2.length ≤ 9223372036854775806) :
    ∃ r : List FF × Bool, Ev (fun k => spec_WithoutMember.f k l m) r ∧ Ev (fun k => impl_WithoutMember.f k l m) r ∧ (r = ([], false) ∨ (r = (without l m, true) ∧ ensOk l = true ∧ 0 ≤ m ∧ m < l.length ∧ 2 ≤ l.length)) := by
  have g1 := l9Good_ev l hl hs
  have g2 := isValidEnsemble_ev l hl
  have no1 : Ev (fun k => spec_WithoutMember.j0 k l m [] true) ([], false) := ev_step (fun k => spec_WithoutMember.j0.eq_2 _ _ _ _ k) (ev_ifp rfl (ev_some _))
  have no2 : Ev (fun k => impl_WithoutMember.j0 k l m true) ([], false) := ev_step (fun k => impl_WithoutMember.j0.eq_2 _ _ _ k) (ev_ifp rfl (ev_some _))
  unfold spec_WithoutMember.f impl_WithoutMember.f
  cases ok : ensOk l with
  | false =>
    rw [ok] at g1 g2
    exact ⟨([], false), ev_bind (ev_some _) (ev_bind g1 (ev_ifn (by simp) no1)), ev_bind g2 (ev_ifn (by simp) no2), .inl rfl⟩
  | true =>
    rw [ok] at g1 g2
    obtain ⟨hn, h64⟩ := ens_small ok
    have ew : wrap64 ((l.length : Int) - 1) = (l.length : Int) - 1 := w64 (by omega) (by omega)
    rw [ew]
    cases hb : inb m 0 ((l.length : Int) - 1) with
    | false => exact ⟨([], false), ev_bind (ev_some _) (ev_bind g1 (ev_ifp rfl (ev_bind (r := false) (ev_const (by rw [l1In_is, hb])) (ev_ifn (by simp) no1)))), ev_bind g2 (ev_ifp rfl (ev_bind (r := false) (ev_const (by rw [within_is, hb])) (ev_ifn (by simp) no2))), .inl rfl⟩
    | true =>
      have hbi := inb_iff.1 hb
      have c1 : spec_l1In.f m 0 ((l.length : Int) - 1) = some true := by rw [l1In_is, hb]
      have c2 : impl_within.f m 0 ((l.length : Int) - 1) = some true := by rw [within_is, hb]
      by_cases h1 : l.length = 1
      · have e1 : ((l.length : Int) == 1) = true := by rw [beq_iff_eq]; omega
        rw [e1]
        exact ⟨([], false), ev_bind (ev_some _) (ev_bind g1 (ev_ifp rfl (ev_bind (ev_const c1) (ev_ifp rfl no1)))), ev_bind g2 (ev_ifp rfl (ev_bind (ev_const c2) (ev_ifp rfl no2))), .inl rfl⟩
      · have e1 : ((l.length : Int) == 1) = false := by rw [beq_eq_false_iff_ne]; omega
        rw [e1]
        have l1 : Ev (fun k => spec_WithoutMember.l0 k l m [] 0) (without l m, true) := by
          have h := loop_ev (fun k (s : List FF) i => spec_WithoutMember.l0 k l m s (i : Int)) l.length (outStep l m) (fun s => (s, true)) (fun i s => s.length ≤ i)
            (fun i s r hI hi hr => by
              have en := Aside0.mk (show wrap64 ((i : Int) + 1) = ((i + 1 : Nat) : Int) by rw [w64 (by omega) (by omega)]; rfl)
              have hi64 := h64 i hi
              refine ev_step (fun k => spec_WithoutMember.l0.eq_2 _ _ _ _ k) (ev_ifp (by omega) ?_)
              rw [en.out]
              unfold outStep at hr
              by_cases he : (i : Int) = m
              · rw [if_pos he] at hr
                exact ev_ifp he hr
              · rw [if_neg he] at hr
                refine ev_ifn he (ev_ifp (by omega) ?_)
                rw [rdf]
                exact ev_bind (ev_const (wm_own _ _ _ (by omega)).1) (ev_ifp (by omega) hr))
            (fun i s hI hi => by unfold outStep; split; (· omega); rw [List.length_append, List.length_singleton]; omega)
            (fun s hI => ev_step (fun k => spec_WithoutMember.l0.eq_2 _ _ _ _ k) (ev_ifn (by omega) (ev_some _))) 0 [] (Nat.zero_le _) (by simp)
          rw [Nat.sub_zero] at h
          exact h
        have l2 : Ev (fun k => impl_WithoutMember.l0 k m [] l (l.length : Int) 0) (without l m, true) := by
          have h := loop_ev (fun k (s : List FF) i => impl_WithoutMember.l0 k m s l (l.length : Int) (i : Int)) l.length (outStep l m) (fun s => (s, true)) (fun i s => s.length ≤ i)
            (fun i s r hI hi hr => by
              have en := Aside0.mk (show wrap64 ((i : Int) + 1) = ((i + 1 : Nat) : Int) by rw [w64 (by omega) (by omega)]; rfl)
              have hi64 := h64 i hi
              refine ev_step (fun k => impl_WithoutMember.l0.eq_2 _ _ _ _ _ k) (ev_ifp (by omega) (ev_ifp (by omega) (ev_ifp (by omega) ?_)))
              rw [en.out]
              unfold outStep at hr
              by_cases he : (i : Int) = m
              · rw [if_pos he] at hr
                exact ev_ifp he hr
              · rw [if_neg he] at hr
                refine ev_ifn he ?_
                rw [rdf]
                exact ev_bind (ev_const (wm_own _ _ _ (by omega)).2) (ev_ifp (by omega) hr))
            (fun i s hI hi => by unfold outStep; split; (· omega); rw [List.length_append, List.length_singleton]; omega)
            (fun s hI => ev_step (fun k => impl_WithoutMember.l0.eq_2 _ _ _ _ _ k) (ev_ifn (by omega) (ev_some _))) 0 [] (Nat.zero_le _) (by simp)
          rw [Nat.sub_zero] at h
          exact h
        exact ⟨(without l m, true), ev_bind (ev_some _) (ev_bind g1 (ev_ifp rfl (ev_bind (ev_const c1) (ev_ifp rfl (ev_step (fun k => spec_WithoutMember.j0.eq_2 _ _ _ _ k) (ev_ifn (by simp) l1)))))), ev_bind g2 (ev_ifp rfl (ev_bind (ev_const c2) (ev_ifp rfl (ev_step (fun k => impl_WithoutMember.j0.eq_2 _ _ _ k) (ev_ifn (by simp) l2))))), .inr ⟨rfl, rfl, by omega, by omega, by omega⟩⟩
def agrees (l : List FF) (t : Int) (c : Nat) : Bool := decide ((vals l c).length = l.length) && (decide ((vals l c).countP (fun y => decide (y ≥ t)) = 0) || decide ((vals l c).countP (fun y => decide (y ≥ t)) = l.length))
def agStep (l : List FF) (t : Int) (i : Nat) (n : Int) : Int := if agrees l t i = true then n + 1 else n
theorem agStep_of (l : List FF) (t : Int) (i : Nat) (n : Int) {ρ : Type} (A : Int → Option ρ) (m p : Int) (hm : m = ((vals l i).countP (fun y => decide (y ≥ t)) : Int)) (hp : p = ((vals l i).length : Int)) :
    (if p = (l.length : Int) then (if m = 0 then A (n + 1) else (if m = (l.length : Int) then A (n + 1) else A n)) else A n) = A (agStep l t i n) := by
  subst hm hp
  unfold agStep agrees
  by_cases h1 : (vals l i).length = l.length
  · rw [if_pos (by omega), decide_eq_true h1, Bool.true_and]
    by_cases h2 : (vals l i).countP (fun y => decide (y ≥ t)) = 0
    · rw [if_pos (by omega), decide_eq_true h2, Bool.true_or, if_pos rfl]
    · rw [if_neg (by omega), decide_eq_false h2, Bool.false_or]
      by_cases h3 : (vals l i).countP (fun y => decide (y ≥ t)) = l.length
      · rw [if_pos (by omega), decide_eq_true h3, if_pos rfl]
      · rw [if_neg (by omega), decide_eq_false h3, if_neg (by simp)]
  · rw [if_neg (by omega), decide_eq_false h1, Bool.false_and, if_neg (by simp)]
theorem agreeing_cases (l : List FF) (t : Int) (hl : l.length ≤ 9223372036854775806) (hs : ∀ f ∈ l, f.f2.length ≤ 9223372036854775806) :
    ∃ r : Int × Bool, Ev (fun k => spec_AgreeingCells.f k l t) r ∧ Ev (fun k => impl_AgreeingCells.f k l t) r ∧ (r.2 = true → 0 < l.length ∧ r.1 ≤ ((l.getD 0 z29).f2.length : Int)) := by
  have g1 := l9Good_ev l hl hs
  have g2 := isValidEnsemble_ev l hl
  unfold spec_AgreeingCells.f impl_AgreeingCells.f
  cases ok : ensOk l with
  | false =>
    rw [ok] at g1 g2
    exact ⟨(0, false), ev_bind g1 (ev_ifn (by simp) (ev_step (fun k => spec_AgreeingCells.j0.eq_2 _ _ _ k) (ev_ifp rfl (ev_some _)))),
      ev_bind g2 (ev_ifn (by simp) (ev_step (fun k => impl_AgreeingCells.j0.eq_2 _ _ _ k) (ev_ifp rfl (ev_some _)))), fun h => absurd h (by simp)⟩
  | true =>
    rw [ok] at g1 g2
    obtain ⟨⟨n1, n8⟩, hf⟩ := ens_is ok
    obtain ⟨⟨w1, w8⟩, ⟨h1, h8⟩, hlen⟩ := ens_shape ok
    have hb := mul_bd w1 w8 h1 h8
    have h0 := hlen 0 (by omega)
    have hcell : ∀ c, c < (l.getD 0 z29).f2.length → ∀ i, i < l.length → c < (l.getD i z29).f2.length := fun c hc i hi => by
      have := hlen i hi
      omega
    cases ht : inb t (-9000) 9000 with
    | false =>
      exact ⟨(0, false), ev_bind g1 (ev_ifp rfl (ev_bind (ev_const (by rw [l13Threshold_is, ht])) (ev_step (fun k => spec_AgreeingCells.j0.eq_2 _ _ _ k) (ev_ifp rfl (ev_some _))))),
        ev_bind g2 (ev_ifp rfl (ev_bind (ev_const (by rw [within_is, ht])) (ev_step (fun k => impl_AgreeingCells.j0.eq_2 _ _ _ k) (ev_ifp rfl (ev_some _))))), fun h => absurd h (by simp)⟩
    | true =>
      refine ⟨(iter (agStep l t) 0 (l.getD 0 z29).f2.length 0, true), ?_, ?_, fun _ => ⟨by omega, (iter_inv (agStep l t) (fun i n => n ≤ (i : Int)) (l.getD 0 z29).f2.length (fun i n hI _ => by unfold agStep; split <;> omega) (l.getD 0 z29).f2.length 0 0 (by omega) (by simp))⟩⟩
      · refine ev_bind g1 (ev_ifp rfl (ev_bind (ev_const (by rw [l13Threshold_is, ht])) (ev_step (fun k => spec_AgreeingCells.j0.eq_2 _ _ _ k) (ev_ifn (by simp) ?_))))
        exact loop_ev (fun k n i => spec_AgreeingCells.l0 k l t n (i : Int)) (l.getD 0 z29).f2.length (agStep l t) (fun n => (n, true)) (fun i n => 0 ≤ n ∧ n ≤ i)
          (fun i n r hI hi h => by
            have e1 : wrap64 (n + 1) = n + 1 := w64 (by omega) (by omega)
            have e2 : wrap64 ((i : Int) + 1) = ((i + 1 : Nat) : Int) := by rw [w64 (by omega) (by omega)]; rfl
            have hvl := vals_len l i
            have hsl := svals_len l i
            refine ev_step (fun k => spec_AgreeingCells.l0.eq_2 _ _ _ _ k) (ev_ifp (by omega) (ev_ifp (by rw [rdf0]; omega) ?_))
            refine ev_bind (l9Values_ev l i (by omega) (hcell i hi) (by omega)) (ev_bind (l9Least_ev (svals l i) t (by omega)) ?_)
            rw [e1, e2]
            refine Ev.congr (fun k => agStep_of l t i n (fun m => spec_AgreeingCells.l0 k l t m ((i + 1 : Nat) : Int)) _ _ (by rw [(vals_perm l i).countP_eq]) (by rw [hsl])) h)
          (fun i n hI _ => by unfold agStep; split <;> omega)
          (fun n hI => ev_step (fun k => spec_AgreeingCells.l0.eq_2 _ _ _ _ k) (ev_ifp (by omega) (ev_ifn (by rw [rdf0]; omega) (ev_some _)))) 0 0 (Nat.zero_le _) (by simp)
      · refine ev_bind g2 (ev_ifp rfl (ev_bind (ev_const (by rw [within_is, ht])) (ev_step (fun k => impl_AgreeingCells.j0.eq_2 _ _ _ k) (ev_ifn (by simp) (ev_ifp (by omega) ?_)))))
        rw [rdf0]
        exact loop_ev (fun k n i => impl_AgreeingCells.l0 k l t n ((l.getD 0 z29).f2.length : Int) (i : Int)) (l.getD 0 z29).f2.length (agStep l t) (fun n => (n, true)) (fun i n => 0 ≤ n ∧ n ≤ i)
          (fun i n r hI hi h => by
            have e1 : wrap64 (n + 1) = n + 1 := w64 (by omega) (by omega)
            have e2 : wrap64 ((i : Int) + 1) = ((i + 1 : Nat) : Int) := by rw [w64 (by omega) (by omega)]; rfl
            have hvl := vals_len l i
            refine ev_step (fun k => impl_AgreeingCells.l0.eq_2 _ _ _ _ _ k) (ev_ifp (by omega) ?_)
            refine ev_bind (memberValues_ev l i (by omega) (hcell i hi) (by omega)) (ev_bind (countAtLeast_ev (vals l i) t (by omega)) ?_)
            rw [e1, e2]
            exact Ev.congr (fun k => agStep_of l t i n (fun m => impl_AgreeingCells.l0 k l t m ((l.getD 0 z29).f2.length : Int) ((i + 1 : Nat) : Int)) _ _ rfl rfl) h)
          (fun i n hI _ => by unfold agStep; split <;> omega)
          (fun n hI => ev_step (fun k => impl_AgreeingCells.l0.eq_2 _ _ _ _ _ k) (ev_ifn (by omega) (ev_some _))) 0 0 (Nat.zero_le _) (by simp)
end Go.Proofs.Ytilffhaghabdgaa.Pure
namespace Go.Proofs.Ytilffhaghabdgaa.Pure
set_option linter.unusedVariables false
set_option linter.unusedSimpArgs false
open Go Go.RowKit Go.Proofs.Ytilffhaghabdgaa.P Go.Proofs.YtilffhaghabdgaaW.PrintWords Go.Proofs.YtilffhaghabdgaaW.PrintLast
theorem drawNear_at {l : List Int} (hl : Code l) : ∃ r : List FF × Int × Int × List Int, Ev (fun k => spec_DrawNearestMember.f k l) r ∧ (r.1.length ≤ 9 ∧ ∀ x ∈ r.1, x.f2.length ≤ 64) ∧ r.2.2.2.length ≤ 64 := by
  obtain ⟨⟨e, i1, s1⟩, hr, ⟨h1, h2⟩, h3, h4⟩ := ens_at hl 0 0 (by omega) (by omega)
  simp only at h1 h2 h3 h4
  have yes : ∀ i2 s2, 0 ≤ i2 → i2 ≤ 60000000 → ∃ r : List FF × Int × Int × List Int, Ev (fun k => spec_DrawNearestMember.j0 k e true l i2 s2) r ∧ (r.1.length ≤ 9 ∧ ∀ x ∈ r.1, x.f2.length ≤ 64) ∧ r.2.2.2.length ≤ 64 := fun i2 s2 h5 h6 => by
    obtain ⟨⟨w, h, c, i3, s3⟩, hf, hc, _, _⟩ := anyField_at hl i2 s2 h5 (by omega)
    exact ⟨(e, w, h, c), ev_step (fun k => spec_DrawNearestMember.j0.eq_2 _ _ _ _ _ k) (ev_ifp rfl (ev_bind hf (ev_some _))), ⟨h1, h2⟩, hc⟩
  unfold spec_DrawNearestMember.f
  by_cases h0 : (e.length : Int) = 0
  · obtain ⟨r, h5, h6⟩ := yes i1 s1 (by omega) (by omega)
    exact ⟨r, ev_bind hr (ev_ifp h0 h5), h6⟩
  · obtain ⟨b, i2, s2, e2, b1, b2⟩ := one_at hl i1 s1 16 (by omega) (by omega)
    cases b with
    | true =>
      obtain ⟨r, h5, h6⟩ := yes i2 s2 (by omega) (by omega)
      exact ⟨r, ev_bind hr (ev_ifn h0 (ev_bind (ev_const e2) h5)), h6⟩
    | false =>
      obtain ⟨x, i3, s3, e3, p3, q3, b3, b4⟩ := pick_at hl i2 s2 (e.length : Int) (by omega) (by omega)
      have q3' := q3 (by omega)
      have hx : x.toNat < e.length := by omega
      have er : rd_T29 e x = e[x.toNat] := by
        unfold rd_T29
        rw [getD_eq_get _ hx]
      have hm := h2 _ (List.getElem_mem hx)
      have ho := l2Own_isE (e[x.toNat]).f0 (e[x.toNat]).f1 (e[x.toNat]).f2 (by omega)
      have no : ∀ i4 s4, Ev (fun k => spec_DrawNearestMember.j1 k e false l i4 s4 (e[x.toNat]).f0 (e[x.toNat]).f1 (e[x.toNat]).f2) (e, (e[x.toNat]).f0, (e[x.toNat]).f1, (e[x.toNat]).f2) := fun i4 s4 => ev_step (fun k => spec_DrawNearestMember.j1.eq_2 _ _ _ _ _ _ _ _ k) (ev_ifn (by simp) (ev_some _))
      have st : ∀ {r : List FF × Int × Int × List Int}, Ev (fun k => if ((e[x.toNat]).f2.length : Int) > 0 then ((spec_l1Cur_one.f l i3 s3 2).bind fun bt128 => (spec_DrawNearestMember.j1 k e bt128.1 l bt128.2.1 bt128.2.2 (e[x.toNat]).f0 (e[x.toNat]).f1 (e[x.toNat]).f2)) else (spec_DrawNearestMember.j1 k e false l i3 s3 (e[x.toNat]).f0 (e[x.toNat]).f1 (e[x.toNat]).f2)) r → Ev (fun k => spec_DrawNearestMember.j0 k e false l i2 s2) r := fun h => ev_step (fun k => by
        simp only [spec_DrawNearestMember.j0]
        rw [if_neg (by simp), e3]
        simp only [Option.bind_some]
        rw [if_pos p3, if_pos q3', er, ho]
        rfl) h
      by_cases hz : ((e[x.toNat]).f2.length : Int) > 0
      · obtain ⟨b2, i4, s4, e4, b5, b6⟩ := one_at hl i3 s3 2 (by omega) (by omega)
        cases b2 with
        | false => exact ⟨_, ev_bind hr (ev_ifn h0 (ev_bind (ev_const e2) (st (ev_ifp hz (ev_bind (ev_const e4) (no i4 s4)))))), ⟨h1, h2⟩, hm⟩
        | true =>
          obtain ⟨y, i5, s5, e5, p5, q5, b7, b8⟩ := pick_at hl i4 s4 ((e[x.toNat]).f2.length : Int) (by omega) (by omega)
          obtain ⟨z, i6, s6, e6, _⟩ := among_at hl i5 s5 [7, (-9999)] (by simp) (by omega) (by omega)
          exact ⟨(e, (e[x.toNat]).f0, (e[x.toNat]).f1, (e[x.toNat]).f2.set y.toNat z), ev_bind hr (ev_ifn h0 (ev_bind (ev_const e2) (st (ev_ifp hz (ev_bind (ev_const e4) (ev_step (fun k => spec_DrawNearestMember.j1.eq_2 _ _ _ _ _ _ _ _ k) (ev_ifp rfl (ev_bind (ev_const e5) (ev_bind (ev_const e6) (ev_ifp p5 (ev_ifp (q5 (by omega)) (ev_some _)))))))))))), ⟨h1, h2⟩, by simp; omega⟩
      · exact ⟨_, ev_bind hr (ev_ifn h0 (ev_bind (ev_const e2) (st (ev_ifn hz (no i3 s3))))), ⟨h1, h2⟩, hm⟩
theorem drawWithout_at {l : List Int} (hl : Code l) : ∃ r : List FF × Int, Ev (fun k => spec_DrawWithoutMember.f k l) r ∧ (r.1.length ≤ 9 ∧ ∀ x ∈ r.1, x.f2.length ≤ 64) := by
  obtain ⟨⟨e, i1, s1⟩, hr, ⟨h1, h2⟩, h3, h4⟩ := ens_at hl 0 0 (by omega) (by omega)
  simp only at h1 h2 h3 h4
  obtain ⟨x, i2, s2, e2, p2, q2, b1, b2⟩ := pick_at hl i1 s1 (wrap64 ((e.length : Int) + 1)) (by omega) (by omega)
  obtain ⟨y, i3, s3, e3, p3, q3, b3, b4⟩ := pick_at hl i2 s2 12 (by omega) (by omega)
  unfold spec_DrawWithoutMember.f
  exact ⟨(e, wrap64 (x - wrap64 (Int.tdiv y 11))), ev_bind hr (ev_bind (ev_const e2) (ev_bind (ev_const e3) (ev_some _))), h1, h2⟩
theorem diffs_zero (l : List Int) : (diffs l l).1 = 0 := by
  unfold diffs
  refine iter_inv (diffStep l l) (fun _ s => s.1 = 0) l.length (fun i s h _ => ?_) l.length 0 (0, 0) (by omega) rfl
  unfold diffStep absZ
  split
  · exact h
  · show s.1 + _ = 0
    rw [h, Int.sub_self]
    rfl
theorem near_first {l : List FF} {c : List Int} (n : Nat) (hn : 1 ≤ n) : 0 ≤ (iter (nearStep l c) 0 n (0, -1)).1 ∧ (iter (nearStep l c) 0 n (0, -1)).1 < n := by
  have h := iter_inv (nearStep l c) (fun i s => s.2 < 0 ∧ s.1 = 0 ∨ 0 ≤ s.1 ∧ s.1 < i) n (fun i s hI _ => by
    unfold nearStep
    split
    · exact .inr ⟨by show 0 ≤ (i : Int); omega, by show (i : Int) < ((i + 1 : Nat) : Int); omega⟩
    · split
      · exact .inr ⟨by show 0 ≤ (i : Int); omega, by show (i : Int) < ((i + 1 : Nat) : Int); omega⟩
      · rcases hI with ⟨a, _⟩ | ⟨a, b⟩
        · omega
        · exact .inr ⟨a, by omega⟩) n 0 (0, -1) (by omega) (.inl ⟨by decide, rfl⟩)
  rcases h with ⟨_, h⟩ | h <;> omega
theorem near_self {l : List FF} {a b : Int} {i : Nat} (hi : i < l.length) (m : Members l a b (l.getD i z29).f2) : (iter (nearStep l (l.getD i z29).f2) 0 l.length (0, -1)).2 = 0 := by
  have h := iter_inv (nearStep l (l.getD i z29).f2) (fun j s => (j = 0 ∧ s.2 = -1) ∨ (0 < j ∧ 0 ≤ s.2 ∧ (i < j → s.2 = 0))) l.length (fun j s hI hj => by
    have hd := (diffs_bd (m.uOk j hj) m.cOk).1
    refine .inr ⟨by omega, ?_⟩
    by_cases e : j = i
    · subst e
      have hz := diffs_zero (l.getD j z29).f2
      unfold nearStep
      rw [hz]
      split
      · exact ⟨Int.le_refl _, fun _ => rfl⟩
      · split
        · exact ⟨Int.le_refl _, fun _ => rfl⟩
        · have : s.2 = 0 := by omega
          exact ⟨by omega, fun _ => this⟩
    · unfold nearStep
      split
      · refine ⟨hd, fun hij => ?_⟩
        rcases hI with ⟨a, b⟩ | ⟨a, b, c⟩
        · omega
        · have := c (by omega); omega
      · split
        · refine ⟨hd, fun hij => ?_⟩
          rcases hI with ⟨a, b⟩ | ⟨a, b, c⟩
          · omega
          · have := c (by omega); omega
        · rcases hI with ⟨a, b⟩ | ⟨a, b, c⟩
          · omega
          · exact ⟨b, fun hij => c (by omega)⟩) l.length 0 (0, -1) (by omega) (.inl ⟨rfl, rfl⟩)
  rcases h with ⟨a, _⟩ | ⟨_, _, c⟩
  · omega
  · exact c hi
theorem members_l0 {l : List Int} (hl : Code l) (x29 : List FF) (hs : x29.length ≤ 9 ∧ ∀ x ∈ x29, x.f2.length ≤ 64) : Ev (fun k => laws_FnMembers.l0 k l x29 x29 0) true := by
  have hn := hs.1
  refine loop_ev (σ := Unit) (fun k _ i => laws_FnMembers.l0 k l x29 x29 (i : Int)) x29.length (fun _ _ => ()) (fun _ => true) (fun _ _ => True)
    (fun i s r _ hi h => ?_) (fun _ _ _ _ => trivial) (fun _ _ => ?_) 0 () (Nat.zero_le _) trivial
  · have hm := hs.2 _ (List.getElem_mem hi)
    have hv := rFields_self (x29[i]).f0 (x29[i]).f1 (x29[i]).f2 (by omega)
    refine ev_step (g := fun k => laws_FnMembers.l0 k l x29 x29 (i : Int)) (fun k => by
      simp only [laws_FnMembers.l0]
      rw [if_pos (by omega), if_pos (by omega), if_pos (by omega), rdf, getD_eq_get _ hi]) (ev_bind hv (ev_ifp rfl ?_))
    rw [w64 (x := (i : Int) + 1) (by omega) (by omega)]
    exact h
  · obtain ⟨⟨e, t⟩, hd, h1, h2⟩ := drawCount_at hl
    simp only at h1 h2
    obtain ⟨⟨n, ok⟩, hs, hi, hr⟩ := agreeing_cases e t (by omega) (fun f hf => by have := h2 f hf; omega)
    simp only at hr
    have hd2 : Ev (fun k => spec_DrawAgreeingCells.f k l) (e, t) := by
      unfold spec_DrawAgreeingCells.f
      exact ev_bind hd (ev_some _)
    refine ev_step (g := fun k => laws_FnMembers.l0 k l x29 x29 (x29.length : Int)) (fun k => by simp only [laws_FnMembers.l0]; rw [if_neg (by omega)]) (ev_bind hd2 (ev_bind hi (ev_bind hs (ev_ifp rfl (ev_ifp (show (ok == ok) = true by cases ok <;> rfl) ?_)))))
    cases ok with
    | false => exact ev_ifn (by simp) (ev_some _)
    | true =>
      obtain ⟨r1, r2⟩ := hr rfl
      refine ev_ifp rfl ?_
      refine ev_ifp (show (0 : Int) < (e.length : Int) by omega) ?_
      simp only [rdf0]
      rw [decide_eq_true r2]
      exact ev_some _
theorem without_len {l : List FF} {m : Int} (h0 : 0 ≤ m) (h1 : m < l.length) : ((without l m).length : Int) = (l.length : Int) - 1 := by
  have h := iter_inv (outStep l m) (fun i s => (s.length : Int) = if m < i then (i : Int) - 1 else i) l.length (fun i s hI _ => by
    unfold outStep
    by_cases e : (i : Int) = m
    · rw [if_pos e, hI, if_neg (by omega), if_pos (by omega)]
      omega
    · rw [if_neg e, List.length_append, List.length_singleton]
      by_cases e2 : m < (i : Int)
      · rw [if_pos e2] at hI
        rw [if_pos (by omega)]
        omega
      · rw [if_neg e2] at hI
        rw [if_neg (by omega)]
        omega) l.length 0 [] (by omega) (by rw [if_neg (by omega)]; rfl)
  rw [if_pos h1] at h
  exact h
theorem members_j3 {l : List Int} (hl : Code l) : Ev (fun k => laws_FnMembers.j3 k l) true := by
  obtain ⟨⟨e, m⟩, hd, h1, h2⟩ := drawWithout_at hl
  simp only at h1 h2
  obtain ⟨⟨r, ok⟩, hs, hi, hr⟩ := withoutMember_both e m (by omega) (fun f hf => by have := h2 f hf; omega)
  refine ev_step (fun k => laws_FnMembers.j3.eq_2 _ k) (ev_bind hd (ev_bind hi (ev_bind hs (ev_ifn (by simp) (ev_ifp rfl ?_)))))
  rcases hr with h | ⟨h, _, hm0, hm1, _⟩
  · simp only [Prod.mk.injEq] at h
    obtain ⟨rfl, rfl⟩ := h
    exact ev_ifn (by simp) (ev_step (fun k => laws_FnMembers.j4.eq_2 _ _ _ _ k) (ev_ifn (by simp) (members_l0 hl [] ⟨by simp, by simp⟩)))
  · simp only [Prod.mk.injEq] at h
    obtain ⟨rfl, rfl⟩ := h
    have hw := without_of e m
    have hlen := without_len hm0 hm1
    have hb : (((without e m).length : Int) != wrap64 ((e.length : Int) - 1)) = false := by
      rw [w64 (by omega) (by omega), hlen]
      simp
    refine ev_ifp rfl ?_
    simp only [hb]
    exact ev_step (fun k => laws_FnMembers.j4.eq_2 _ _ _ _ k) (ev_ifn (by simp) (members_l0 hl _ ⟨by omega, fun x hx => h2 x (hw.2 x hx)⟩))
theorem drawChance_at {l : List Int} (hl : Code l) : ∃ r : List FF × Int × Int × Int, Ev (fun k => spec_DrawChanceAt.f k l) r ∧ (r.1.length ≤ 9 ∧ ∀ x ∈ r.1, x.f2.length ≤ 64) := by
  obtain ⟨⟨e, i1, s1⟩, hr, ⟨h1, h2⟩, h3, h4⟩ := ens_at hl 0 0 (by omega) (by omega)
  simp only at h1 h2 h3 h4
  obtain ⟨x, i2, s2, e2, _, _, b1, b2⟩ := pick_at hl i1 s1 4 (by omega) (by omega)
  obtain ⟨y, i3, s3, e3, _, _, b3, b4⟩ := pick_at hl i2 s2 12 (by omega) (by omega)
  obtain ⟨z, i4, s4, e4, _, _, b5, b6⟩ := pick_at hl i3 s3 4 (by omega) (by omega)
  obtain ⟨t, i5, s5, e5⟩ := thr_at hl i4 s4 (by omega) (by omega)
  unfold spec_DrawChanceAt.f
  exact ⟨(e, wrap64 (x - wrap64 (Int.tdiv y 11)), z, t), ev_bind hr (ev_bind (ev_const e2) (ev_bind (ev_const e3) (ev_bind (ev_const e4) (ev_bind (ev_const e5) (ev_some _))))), h1, h2⟩
theorem members_j1 {l : List Int} (hl : Code l) : Ev (fun k => laws_FnMembers.j1 k l) true := by
  obtain ⟨⟨e, x, y, t⟩, hd, h1, h2⟩ := drawChance_at hl
  simp only at h1 h2
  have hd2 : Ev (fun k => spec_DrawRankOf.f k l) (e, x, y, t) := by
    unfold spec_DrawRankOf.f
    exact ev_bind hd (ev_some _)
  rcases rank_cases e x y t (by omega) (fun f hf => by have := h2 f hf; omega) with ⟨hs, hi⟩ | ⟨c, hn, hs, hi, hc⟩
  · exact ev_step (fun k => laws_FnMembers.j1.eq_2 _ k) (ev_bind hd2 (ev_bind hi (ev_bind hs (ev_ifp rfl (ev_ifp rfl (ev_step (fun k => laws_FnMembers.j2.eq_2 _ _ _ _ _ _ _ _ _ k) (ev_ifn (by simp) (ev_ifn (by simp) (members_j3 hl)))))))))
  · obtain ⟨c1, c2⟩ := counts_add (vals e c) t
    have hvl := vals_len e c
    unfold ranks at hs hi
    refine ev_step (fun k => laws_FnMembers.j1.eq_2 _ k) (ev_bind hd2 (ev_bind hi (ev_bind hs (ev_ifp rfl (ev_ifp rfl (ev_step (fun k => laws_FnMembers.j2.eq_2 _ _ _ _ _ _ _ _ _ k) (ev_ifn (by simp) (ev_ifp rfl (ev_bind hc (ev_ifp rfl (ev_ifp ?_ (ev_ifn (by simp only; omega) (ev_ifn (by simp only; omega) (members_j3 hl))))))))))))))
    simp only
    rw [w64 (by omega) (by omega)]
    omega
theorem FnMembers : laws_FnMembers.Pure := by
  intro l hl _
  refine Ev.rounds ?_
  unfold laws_FnMembers.f laws_rBig.f
  refine ev_bind (ev_some _) ?_
  by_cases hb : (l.length : Int) > 65536
  · exact ev_ifp (decide_eq_true hb) (ev_some _)
  refine ev_ifn (by simp only [decide_eq_true_eq]; exact hb) ?_
  have hc := codeE hl (by omega)
  obtain ⟨⟨e, a, b, c⟩, hd, ⟨h1, h2⟩, h3⟩ := drawNear_at hc
  simp only at h1 h2 h3
  have hE : ∀ f ∈ e, f.f2.length ≤ 9223372036854775806 := fun f hf => by have := h2 f hf; omega
  obtain ⟨⟨i, sum, ok⟩, hs, hi, hr⟩ := nearest_cases e a b c (by omega) hE (by omega)
  refine ev_bind hd (ev_bind hi (ev_bind hs (ev_ifp rfl (ev_ifp rfl (ev_step (fun k => laws_FnMembers.j0.eq_2 _ _ _ _ _ k) (ev_ifn (by simp) ?_))))))
  rcases hr with ⟨h, _⟩ | ⟨⟨ho, hf, ha, hb2⟩, m, hl1, h⟩
  · simp only [Prod.mk.injEq] at h
    obtain ⟨rfl, rfl, rfl⟩ := h
    exact ev_ifn (by simp) (members_j1 hc)
  · simp only [Prod.mk.injEq] at h
    obtain ⟨hi0, hs0, rfl⟩ := h
    have hn := near_first (l := e) (c := c) e.length hl1
    rw [← hi0] at hn
    obtain ⟨n, rfl⟩ := Int.eq_ofNat_of_zero_le hn.1
    have hne : n < e.length := by omega
    have ho2 := ho
    unfold ensOk at ho2
    rw [Bool.and_eq_true, List.all_eq_true] at ho2
    have hm := ho2.2 _ (List.getElem_mem hne)
    rw [← getD_eq_get z29 hne] at hm
    unfold memOk at hm
    rw [Bool.and_eq_true, Bool.and_eq_true, decide_eq_true_eq, decide_eq_true_eq] at hm
    have hsz := h2 _ (List.getElem_mem hne)
    rw [← getD_eq_get z29 hne] at hsz
    obtain ⟨q, _, hi2, hr2⟩ := nearest_cases e (e.getD n z29).f0 (e.getD n z29).f1 (e.getD n z29).f2 (by omega) hE (by omega)
    rcases hr2 with ⟨_, hno⟩ | ⟨_, m2, _, hq⟩
    · exact absurd ⟨ho, hm.1, hm.2.1, hm.2.2⟩ hno
    · rw [hq] at hi2
      refine ev_ifp rfl (ev_ifp (show (0 : Int) ≤ (n : Int) by omega) (ev_ifp (show (n : Int) < (e.length : Int) by omega) ?_))
      rw [rdf]
      exact ev_bind hi2 (ev_ifp rfl (ev_ifp (near_self hne m2) (members_j1 hc)))
end Go.Proofs.Ytilffhaghabdgaa.Pure
namespace Go.Proofs.Ytilffhaghabdgaa.fnMembers
open Go.ChangeShapes Go.WideShapes Go.ChangeAt Go.RowKit Go.Proofs.Ytilffhaghabdgaa.Open Go.Proofs.Ytilffhaghabdgaa.P Go.Proofs.YtilffhaghabdgaaW.PrintWords
open Go.ChangeMaps (open_string shut_string)
set_option linter.unusedVariables false
theorem own : ownKnob Try.prog.godebug = none := by kernel_rfl
theorem laidOut : laidOutB Try.prog = true := by kernel_rfl
set_option maxRecDepth 100000 in
theorem lifted (os : Os) (started : os.Started) (H : Type) (enc : TypeId × Value → H) :
    ReturnsInHanded {} Try.checked os 8 .any (Rows.fnMembersSpec.pre6 enc Try.prog Try.f8 Rows.fnMembersRow.domain false) (Rows.fnMembersSpec.post enc Try.prog Try.f8 false true false false) := by
  refine returnsInHanded_of_change_sized (C := Try.checked) own started (by kernel_rfl) Try.func8
    (ChangeSpec.witness6 (enc := enc) (C := Try.checked) false ⟨#[], #[.slice none 0 0], []⟩ 8 (by kernel_rfl) (by kernel_rfl) (by kernel_rfl) (by kernel_rfl)) ?_
  intro W base args ds gs before hval0 hW hcnd hsz0 _
  have hsz : (DataW.weightsEach Try.prog (Try.f8.params.toList ++ Rows.fnMembersSpec.plain.varTypes Try.prog) (ds ++ gs)).all (· ≤ reachBytes) = true := hsz0
  have hval : ∀ (j : Nat) t v, Try.f8.params[j]? = some t → args[j]? = some v → Value.okWide Try.prog W .any base t v := hval0
  have hW' := hW
  obtain ⟨p, q, hA0, hV, rfl, hfz, hnd⟩ := hW
  have hA : DataW.TrodAll enc Try.prog W 0 (fun _ => true) true Try.f8.params.toList args.toList ds p := hA0
  rw [Try.params8] at hA hval hsz
  obtain ⟨v0, vs0, d0, ds0, p0, q0, hargs, rfl, rfl, h0, r0⟩ := trodAll_cons hA
  obtain ⟨rfl, rfl, rfl⟩ := trodAll_nil r0
  obtain rfl : args = #[v0] := by cases args; simp_all
  obtain ⟨rfl, rfl⟩ := trodVars_none hV
  obtain ⟨A0, len0, c0, rfl⟩ := okWide_slice Try.underlying41 (hval 0 41 v0 rfl rfl)
  have k0 := h0
  have lt0 : ∀ x ∈ p0, x.block < W.heap.size := by obtain ⟨m, hm⟩ := k0; exact DataW.trod_lt m _ _ _ hm
  have y0 : len0 * 1 ≤ 140737488351232 := sized_any hsz (j := 0) (t := 41) rfl rfl Try.underlying41 (by kernel_rfl) h0
  obtain ⟨l0, rfl, hc0, hr0, w0⟩ := slice_at (opens_slice Try.underlying41 (by kernel_rfl) (opens_int Try.underlying5)) h0
  clear hA0 hval0 hsz0 hsz
  obtain ⟨k, hp⟩ := Pure.FnMembers l0 w0 y0
  refine (laws_FnMembers.calls k A0 c0 l0 true W hr0 hc0 hp).mono fun e W' ⟨he, bel0⟩ => ?_
  have bel : Below W.heap.size W W' := bel0
  subst he
  exact ⟨_, rfl, _, _, _, [], _, [], hW', trodAll_mk1 (shut_bool Try.underlying4 _), (trodAll_cons_mk (Below.trod laidOut (by kernel_rfl) (of_decide_eq_true (by kernel_rfl)) k0 bel lt0) trodAll_mk0), rfl, bel.frame _, fun h => by cases h⟩
set_option maxHeartbeats 4000000 in
set_option maxRecDepth 100000 in
theorem closed : joinedFacts Try.prog 8 Try.f8 Rows.fnMembersSpec Rows.fnMembersRow = true := by
  unfold joinedFacts
  repeat' (with_reducible refine Bool.and_eq_true_iff.2 ⟨?_, ?_⟩)
  all_goals (as_aux_lemma => kernel_rfl)
theorem over : Rows.fnMembersRow.holds Try.pinned (OpenSpec.ofChange Rows.fnMembersSpec) :=
  OpenClaim.holds_of_wide 8 Try.f8 rfl rfl rfl rfl rfl rfl rfl ⟨rfl, rfl, rfl, rfl, rfl⟩ rfl rfl rfl rfl rfl (by kernel_rfl) Try.func8 closed
    (of_decide_eq_true (by kernel_rfl)) (by unfold Func.isWrapper; first | (rw [if_pos (by decide +kernel)]; kernel_rfl) | (rw [if_neg (by decide +kernel)]; exact ⟨rfl, rfl⟩))
    (fun os started H enc _ => lifted os started H enc)
theorem proved : Rows.FnMembersSaid := over
#print axioms proved
end Go.Proofs.Ytilffhaghabdgaa.fnMembers
namespace Go.Proofs.Ytilffhaghabdgaa
theorem fnMembers_holds : Rows.FnMembersSaid := fnMembers.proved
end Go.Proofs.Ytilffhaghabdgaa
