/- Texts of the claim FnExactRankOf, merged: part 8 of 8: the program's and the reference's functions as Lean functions, the walks that show it, and plain lemmas; no conditions. -/
import Derived.Test.YtfiijdiccjapiaaKFnExactRankOf7
import Derived.Test.YtfiijdiccjapiaaKFnExactRankOf6
import Derived.Test.YtfiijdiccjapiaaRows
import Derived.WalkKit
import Derived.ProofKit
import Derived.OpenShut
import Derived.ShutString
import Derived.ChangeOld
import Derived.Below
import Derived.SizedLaws
/- The rank of a value at a cell: one answer in the program and in the reference. No conditions but that the list is no longer than a machine allows. -/
namespace Go.Proofs.Ytfiijdiccjapiaa.Pure
set_option linter.unusedVariables false
set_option linter.unusedSimpArgs false
open Go.RowKit Go.Proofs.Ytfiijdiccjapiaa.P Go.Proofs.YtfiijdiccjapiaaW.PrintWords Go.Proofs.YtfiijdiccjapiaaW.PrintLast
theorem iter_pair {σ τ : Type} (g : Nat → σ → σ) (h : Nat → τ → τ) : ∀ d i (s : σ × τ), iter (fun i s => (g i s.1, h i s.2)) i d s = (iter g i d s.1, iter h i d s.2)
  | 0, i, s => rfl
  | d + 1, i, s => iter_pair g h d (i + 1) (g i s.1, h i s.2)
def rankStep (l : List Int) (v : Int) (i : Nat) (s : Int × Int) : Int × Int := (cntStep l (fun y => decide (y < v)) i s.1, cntStep l (fun y => decide (y = v)) i s.2)
def ranks (l : List Int) (v : Int) : Int × Int × Bool := ((l.countP (fun y => decide (y < v)) : Int), (l.countP (fun y => decide (y = v)) : Int), true)
theorem ranks_iter (l : List Int) (v : Int) : ((iter (rankStep l v) 0 l.length (0, 0)).1, (iter (rankStep l v) 0 l.length (0, 0)).2, true) = ranks l v := by
  have e : iter (rankStep l v) 0 l.length (0, 0) = _ := iter_pair (cntStep l (fun y => decide (y < v))) (cntStep l (fun y => decide (y = v))) l.length 0 (0, 0)
  rw [e, cnt_all, cnt_all]
  rfl
theorem rank_spec (l : List Int) (v : Int) (hl : l.length ≤ 9223372036854775806) : Ev (fun k => spec_RankOf.l0 k v 0 0 l 0) (ranks l v) := by
  rw [← ranks_iter]
  exact loop_ev (fun k s i => spec_RankOf.l0 k v s.1 s.2 l (i : Int)) l.length (rankStep l v) (fun s => (s.1, s.2, true)) (fun i s => (0 ≤ s.1 ∧ s.1 ≤ i) ∧ 0 ≤ s.2 ∧ s.2 ≤ i)
    (fun i s r hI hi h => ev_step (fun k => by
      simp only [spec_RankOf.l0, rd_nat]
      rw [if_pos (by omega), if_pos (by omega), w64 (x := (i : Int) + 1) (by omega) (by omega), w64 (x := s.1 + 1) (by omega) (by omega), w64 (x := s.2 + 1) (by omega) (by omega)]
      show _ = spec_RankOf.l0 k v (cntStep l (fun y => decide (y < v)) i s.1) (cntStep l (fun y => decide (y = v)) i s.2) l ((i : Int) + 1)
      unfold cntStep
      by_cases e : l.getD i 0 < v
      · rw [if_pos e, if_neg (c := l.getD i 0 = v) (by omega), if_pos (decide_eq_true e), if_neg (c := decide (l.getD i 0 = v) = true) (by rw [decide_eq_true_eq]; omega)]
      · rw [if_neg e, if_neg (c := decide (l.getD i 0 < v) = true) (by simpa using e)]
        by_cases e2 : l.getD i 0 = v
        · rw [if_pos e2, if_pos (decide_eq_true e2)]
        · rw [if_neg e2, if_neg (by simpa using e2)]) h)
    (fun i s hI _ => by unfold rankStep cntStep; constructor <;> (dsimp only; split <;> omega))
    (fun s hI => ev_step (f := fun _ => some (s.1, s.2, true)) (fun k => by
      simp only [spec_RankOf.l0]
      rw [if_neg (by omega)]) (ev_some _)) 0 (0, 0) (Nat.zero_le _) (by simp)
theorem rank_impl (l : List Int) (v : Int) (hl : l.length ≤ 9223372036854775806) : Ev (fun k => impl_RankOf.l0 k v 0 0 l (l.length : Int) 0) (ranks l v) := by
  rw [← ranks_iter]
  exact loop_ev (fun k s i => impl_RankOf.l0 k v s.1 s.2 l (l.length : Int) (i : Int)) l.length (rankStep l v) (fun s => (s.1, s.2, true)) (fun i s => (0 ≤ s.1 ∧ s.1 ≤ i) ∧ 0 ≤ s.2 ∧ s.2 ≤ i)
    (fun i s r hI hi h => ev_step (fun k => by
      simp only [impl_RankOf.l0, rd_nat]
      rw [if_pos (by omega), if_pos (by omega), if_pos (by omega), w64 (x := (i : Int) + 1) (by omega) (by omega), w64 (x := s.1 + 1) (by omega) (by omega), w64 (x := s.2 + 1) (by omega) (by omega)]
      show _ = impl_RankOf.l0 k v (cntStep l (fun y => decide (y < v)) i s.1) (cntStep l (fun y => decide (y = v)) i s.2) l (l.length : Int) ((i : Int) + 1)
      unfold cntStep
      by_cases e : l.getD i 0 < v
      · rw [if_pos e, if_pos (decide_eq_true e), if_neg (c := decide (l.getD i 0 = v) = true) (by rw [decide_eq_true_eq]; omega)]
      · rw [if_neg e, if_neg (c := decide (l.getD i 0 < v) = true) (by simpa using e)]
        by_cases e2 : l.getD i 0 = v
        · rw [if_pos e2, if_pos (decide_eq_true e2)]
        · rw [if_neg e2, if_neg (by simpa using e2)]) h)
    (fun i s hI _ => by unfold rankStep cntStep; constructor <;> (dsimp only; split <;> omega))
    (fun s hI => ev_step (f := fun _ => some (s.1, s.2, true)) (fun k => by
      simp only [impl_RankOf.l0]
      rw [if_neg (by omega)]) (ev_some _)) 0 (0, 0) (Nat.zero_le _) (by simp)
theorem ranks_perm {l l' : List Int} (v : Int) (h : l.Perm l') : ranks l v = ranks l' v := by
  unfold ranks
  rw [h.countP_eq, h.countP_eq]
theorem rankOf_both (l : List FF) (x y t : Int) (hl : l.length ≤ 9223372036854775806) (hs : ∀ f ∈ l, f.f2.length ≤ 9223372036854775806) :
    ∃ r, Ev (fun k => spec_RankOf.f k l x y t) r ∧ Ev (fun k => impl_RankOf.f k l x y t) r := by
  have g1 := l9Cell_ev l x y hl hs
  have g2 := isEnsembleCell_ev l x y hl
  unfold spec_RankOf.f impl_RankOf.f
  cases h : ensCell l x y with
  | false =>
    rw [h] at g1 g2
    exact ⟨(0, 0, false), ev_bind g1 (ev_ifp (by simp) (ev_step (fun k => spec_RankOf.j0.eq_2 _ _ _ _ k) (ev_ifp rfl (ev_some _)))),
      ev_bind g2 (ev_ifn (by simp) (ev_step (fun k => impl_RankOf.j0.eq_2 _ _ _ _ _ k) (ev_ifp rfl (ev_some _))))⟩
  | true =>
    rw [h, if_pos rfl] at g1
    rw [h] at g2
    obtain ⟨c, hc, h64, hlen⟩ := cell_at h
    obtain ⟨⟨n1, n8⟩, _⟩ := ens_is (ensCell_iff h).1
    rw [← hc] at g1
    cases ht : inb t (-9000) 9000 with
    | false =>
      exact ⟨(0, 0, false), ev_bind g1 (ev_ifn (by omega) (ev_bind (ev_const (by rw [l13Threshold_is, ht])) (ev_step (fun k => spec_RankOf.j0.eq_2 _ _ _ _ k) (ev_ifp rfl (ev_some _))))),
        ev_bind g2 (ev_ifp rfl (ev_bind (ev_const (by rw [within_is, ht])) (ev_step (fun k => impl_RankOf.j0.eq_2 _ _ _ _ _ k) (ev_ifp rfl (ev_some _)))))⟩
    | true =>
      refine ⟨ranks (vals l c) t, ?_, ?_⟩
      · refine ev_bind g1 (ev_ifn (by omega) (ev_bind (ev_const (by rw [l13Threshold_is, ht])) (ev_step (fun k => spec_RankOf.j0.eq_2 _ _ _ _ k) (ev_ifn (by simp) ?_))))
        refine ev_bind (l9Values_ev l c (by omega) hlen (by omega)) ?_
        have hsl := svals_len l c
        have hvl := vals_len l c
        have := rank_spec (svals l c) t (by omega)
        rw [ranks_perm t (vals_perm l c)] at this
        exact this
      · refine ev_bind g2 (ev_ifp rfl (ev_bind (ev_const (by rw [within_is, ht])) (ev_step (fun k => impl_RankOf.j0.eq_2 _ _ _ _ _ k) (ev_ifn (by simp) (ev_ifp (by omega) ?_)))))
        rw [cell_index h c hc h64]
        refine ev_bind (memberValues_ev l c (by omega) hlen (by omega)) ?_
        have hvl := vals_len l c
        exact rank_impl (vals l c) t (by omega)
end Go.Proofs.Ytfiijdiccjapiaa.Pure
/- The program's RankOf returns what the reference's RankOf returns, for all arguments; no conditions. -/
namespace Go.Proofs.Ytfiijdiccjapiaa.Pure
set_option linter.unusedVariables false
set_option linter.unusedSimpArgs false
open Go.RowKit Go.Proofs.Ytfiijdiccjapiaa.P Go.Proofs.YtfiijdiccjapiaaW.PrintWords Go.Proofs.YtfiijdiccjapiaaW.PrintLast
theorem FnExactRankOf : laws_FnExactRankOf.Pure := by
  intro l x y t hl hy hx hyy ht
  refine Ev.rounds ?_
  unfold laws_FnExactRankOf.f
  rcases szFieldS_go l 1048576 (by first | omega | (dsimp only; omega) | (simp; omega)) (by first | omega | (dsimp only; omega) | (simp; omega)) (⟨hl.1, fun x hx => (hl.2 x hx).2.2.1⟩) with ⟨rz1, ez1, hz1⟩ | ⟨rz1, ez1, hz1, hza1, hzb1, hlz1⟩
  · exact ev_bind ez1 (ev_ifp hz1 (ev_some _))
  refine ev_bind ez1 ?_
  refine ev_ifn hz1 ?_
  have hm := map_short hlz1; obtain ⟨⟨r1, r2, g⟩, hs, hi⟩ := rankOf_both (l.map ofF) x y t hm.1 hm.2
  refine ev_bind (toFieldS_ev _ ‹_›) ?_
  refine ev_bind hs ?_
  refine ev_bind (toFieldS_ev _ ‹_›) ?_
  refine ev_bind hi ?_
  refine ev_ifp (by first | rfl | (simp; done)) ?_
  refine ev_ifp (by first | rfl | (simp; done)) ?_
  refine ev_step (fun k => laws_FnExactRankOf.j0.eq_2 _ _ _ k) ?_
  refine ev_ifn (by simp) ?_
  refine ev_bind (toFieldS_ev _ ‹_›) ?_
  refine ev_bind (eqFieldS_self _ ‹_›) ?_
  refine ev_ifp rfl ?_
  exact ev_some _
end Go.Proofs.Ytfiijdiccjapiaa.Pure
/- The law FnExactRankOf answers true whatever its arguments are; no conditions. (Written by mp.py out of the plain law and the walk.) -/
namespace Go.Proofs.Ytfiijdiccjapiaa.fnExactRankOf
open Go.ChangeShapes Go.WideShapes Go.ChangeAt Go.RowKit Go.Proofs.Ytfiijdiccjapiaa.Open Go.Proofs.Ytfiijdiccjapiaa.P Go.Proofs.YtfiijdiccjapiaaW.PrintWords
open Go.ChangeMaps (open_string shut_string)
set_option linter.unusedVariables false
theorem own : ownKnob Try.prog.godebug = none := by kernel_rfl
theorem laidOut : laidOutB Try.prog = true := by kernel_rfl
set_option maxRecDepth 100000 in
theorem lifted (os : Os) (started : os.Started) (H : Type) (enc : TypeId × Value → H) :
    ReturnsInHanded {} Try.checked os 13 .any (Rows.fnExactRankOfSpec.pre6 enc Try.prog Try.f13 Rows.fnExactRankOfRow.domain false) (Rows.fnExactRankOfSpec.post enc Try.prog Try.f13 false true false false) := by
  refine returnsInHanded_of_change_sized (C := Try.checked) own started (by kernel_rfl) Try.func13
    (ChangeSpec.witness6 (enc := enc) (C := Try.checked) false ⟨#[], #[.slice none 0 0, .int .i64 0, .int .i64 0, .int .i64 0], []⟩ 8 (by kernel_rfl) (by kernel_rfl) (by kernel_rfl) (by kernel_rfl)) ?_
  intro W base args ds gs before hval0 hW hcnd hsz0 _
  have hsz : (DataW.weightsEach Try.prog (Try.f13.params.toList ++ Rows.fnExactRankOfSpec.plain.varTypes Try.prog) (ds ++ gs)).all (· ≤ reachBytes) = true := hsz0
  have hval : ∀ (j : Nat) t v, Try.f13.params[j]? = some t → args[j]? = some v → Value.okWide Try.prog W .any base t v := hval0
  have hW' := hW
  obtain ⟨p, q, hA0, hV, rfl, hfz, hnd⟩ := hW
  have hA : DataW.TrodAll enc Try.prog W 0 (fun _ => true) true Try.f13.params.toList args.toList ds p := hA0
  rw [Try.params13] at hA hval hsz
  obtain ⟨v0, vs0, d0, ds0, p0, q0, hargs, rfl, rfl, h0, r0⟩ := trodAll_cons hA
  obtain ⟨v1, vs1, d1, ds1, p1, q1, rfl, rfl, rfl, h1, r1⟩ := trodAll_cons r0
  obtain ⟨v2, vs2, d2, ds2, p2, q2, rfl, rfl, rfl, h2, r2⟩ := trodAll_cons r1
  obtain ⟨v3, vs3, d3, ds3, p3, q3, rfl, rfl, rfl, h3, r3⟩ := trodAll_cons r2
  obtain ⟨rfl, rfl, rfl⟩ := trodAll_nil r3
  obtain rfl : args = #[v0, v1, v2, v3] := by cases args; simp_all
  obtain ⟨rfl, rfl⟩ := trodVars_none hV
  obtain ⟨A0, len0, c0, rfl⟩ := okWide_slice Try.underlying74 (hval 0 74 v0 rfl rfl)
  have k0 := h0
  have lt0 : ∀ x ∈ p0, x.block < W.heap.size := by obtain ⟨m, hm⟩ := k0; exact DataW.trod_lt m _ _ _ hm
  have y0 : len0 * 40 ≤ 140737488351232 := sized_any hsz (j := 0) (t := 74) rfl rfl Try.underlying74 (by kernel_rfl) h0
  obtain ⟨l0, rfl, hc0, hr0, w0⟩ := slice_at (opens_slice Try.underlying74 (by kernel_rfl) opens30) h0
  obtain ⟨a1, rfl, rfl, rfl, w1⟩ := open_int Try.underlying3 (hval 1 3 v1 rfl rfl) h1
  obtain ⟨a2, rfl, rfl, rfl, w2⟩ := open_int Try.underlying3 (hval 2 3 v2 rfl rfl) h2
  obtain ⟨a3, rfl, rfl, rfl, w3⟩ := open_int Try.underlying3 (hval 3 3 v3 rfl rfl) h3
  clear hA0 hval0 hsz0 hsz
  obtain ⟨k, hp⟩ := Pure.FnExactRankOf l0 a1 a2 a3 w0 y0 w1 w2 w3
  refine (laws_FnExactRankOf.calls k A0 c0 l0 a1 a2 a3 true W hr0 hc0 hp).mono fun e W' ⟨he, bel0⟩ => ?_
  have bel : Below W.heap.size W W' := bel0
  subst he
  exact ⟨_, rfl, _, _, _, [], _, [], hW', trodAll_mk1 (shut_bool Try.underlying4 _), (trodAll_cons_mk (Below.trod laidOut (by kernel_rfl) (of_decide_eq_true (by kernel_rfl)) k0 bel lt0) (trodAll_cons_mk (shut_int Try.underlying3 w1) (trodAll_cons_mk (shut_int Try.underlying3 w2) (trodAll_cons_mk (shut_int Try.underlying3 w3) trodAll_mk0)))), rfl, bel.frame _, fun h => by cases h⟩
theorem over : Rows.fnExactRankOfRow.holds Try.pinned (OpenSpec.ofChange Rows.fnExactRankOfSpec) :=
  OpenClaim.holds_of_wide 13 Try.f13 rfl rfl rfl rfl rfl rfl rfl ⟨rfl, rfl, rfl, rfl, rfl⟩ rfl rfl rfl rfl rfl (by kernel_rfl) Try.func13 (by kernel_rfl)
    (of_decide_eq_true (by kernel_rfl)) (by unfold Func.isWrapper; first | (rw [if_pos (by decide +kernel)]; kernel_rfl) | (rw [if_neg (by decide +kernel)]; exact ⟨rfl, rfl⟩))
    (fun os started H enc _ => lifted os started H enc)
theorem proved : Rows.FnExactRankOfSaid := over
#print axioms proved
end Go.Proofs.Ytfiijdiccjapiaa.fnExactRankOf
namespace Go.Proofs.Ytfiijdiccjapiaa
/-- The row, under a short name, for the claim. -/
theorem fnExactRankOf_holds : Rows.FnExactRankOfSaid := fnExactRankOf.proved
end Go.Proofs.Ytfiijdiccjapiaa
