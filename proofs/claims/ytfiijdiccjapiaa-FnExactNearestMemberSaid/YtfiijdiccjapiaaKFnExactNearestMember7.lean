/- Texts of the claim FnExactNearestMember, merged: part 7 of 7: the program's and the reference's functions as Lean functions, the walks that show it, and plain lemmas; no conditions. -/
import Derived.Test.YtfiijdiccjapiaaKFnExactNearestMember6
import Derived.Test.YtfiijdiccjapiaaKFnExactNearestMember5
import Derived.Test.YtfiijdiccjapiaaKFnExactNearestMember3
import Derived.Test.YtfiijdiccjapiaaRows
import Derived.WalkKit
import Derived.ProofKit
import Derived.OpenShut
import Derived.ShutString
import Derived.ChangeOld
import Derived.Below
import Derived.SizedLaws
/- The member that is nearest to a field: one answer in the program and in the reference. No conditions but that the lists are no longer than a machine allows. -/
namespace Go.Proofs.Ytfiijdiccjapiaa.Pure
set_option linter.unusedVariables false
set_option linter.unusedSimpArgs false
open Go.RowKit Go.Proofs.Ytfiijdiccjapiaa.P Go.Proofs.YtfiijdiccjapiaaW.PrintWords Go.Proofs.YtfiijdiccjapiaaW.PrintLast
theorem most_max (a b : Int) : spec_l1Most.f a b = some (max a b) := by unfold spec_l1Most.f; split <;> (congr 1; omega)
def dS (u v : List Int) (j : Nat) (s : Int) : Int := if u.getD j 0 = -9999 then s else if v.getD j 0 = -9999 then s else s + absZ (u.getD j 0 - v.getD j 0)
theorem dS_iter (u v : List Int) : ∀ d i (s : Int × Int), (iter (diffStep u v) i d s).1 = iter (dS u v) i d s.1 := by
  intro d
  induction d with
  | zero => intro i s; rfl
  | succ d ih =>
    intro i s
    show (iter (diffStep u v) (i + 1) d (diffStep u v i s)).1 = iter (dS u v) (i + 1) d (dS u v i s.1)
    rw [ih]
    congr 1
    unfold diffStep dS
    split
    · rfl
    · split <;> rfl
/-- The nearest so far: its number and its distance. -/
def nearStep (l : List FF) (c : List Int) (i : Nat) (s : Int × Int) : Int × Int :=
  if s.2 < 0 then ((i : Int), (diffs (l.getD i z34).f2 c).1) else if (diffs (l.getD i z34).f2 c).1 < s.2 then ((i : Int), (diffs (l.getD i z34).f2 c).1) else s
structure Members (l : List FF) (a b : Int) (c : List Int) : Prop where
  n8 : l.length ≤ 8
  c64 : c.length ≤ 64
  cOk : ∀ x ∈ c, cellOk x = true
  uOk : ∀ i, i < l.length → ∀ x ∈ (l.getD i z34).f2, cellOk x = true
  len : ∀ i, i < l.length → (l.getD i z34).f2.length = c.length
theorem near_impl {l : List FF} {a b : Int} {c : List Int} (m : Members l a b c) : Ev (fun k => impl_NearestMember.l0 k 0 (-1) l (l.length : Int) 0 a b c) ((iter (nearStep l c) 0 (l.length - 0) (0, -1)).1, (iter (nearStep l c) 0 (l.length - 0) (0, -1)).2, true) := by
  have hn := m.n8
  refine loop_ev (fun k (s : Int × Int) i => impl_NearestMember.l0 k s.1 s.2 l (l.length : Int) (i : Int) a b c) l.length (nearStep l c) (fun s => (s.1, s.2, true)) (fun _ _ => True)
    (fun i s r hI hi h => ?_) (fun _ _ _ _ => trivial)
    (fun s hI => ev_step (fun k => impl_NearestMember.l0.eq_2 _ _ _ _ _ _ _ _ k) (ev_ifn (by omega) (ev_some _))) 0 (0, -1) (Nat.zero_le _) trivial
  have hd := differences_ev (l.getD i z34).f0 (l.getD i z34).f1 (l.getD i z34).f2 a b c (m.uOk i hi) m.cOk (m.len i hi) (by rw [m.len i hi]; exact m.c64)
  refine ev_step (fun k => impl_NearestMember.l0.eq_2 _ _ _ _ _ _ _ _ k) (ev_ifp (by omega) (ev_ifp (by omega) (ev_ifp (by omega) ?_)))
  simp only [rdf]
  refine ev_bind hd ?_
  have e1 := Aside0.mk (show wrap64 ((i : Int) + 1) = ((i + 1 : Nat) : Int) by rw [w64 (by omega) (by omega)]; rfl)
  rw [e1.out]
  unfold nearStep at h
  by_cases h1 : s.2 < 0
  · simp only [if_pos h1] at h
    exact ev_ifp h1 h
  · simp only [if_neg h1] at h
    by_cases h2 : (diffs (l.getD i z34).f2 c).1 < s.2
    · simp only [if_pos h2] at h
      exact ev_ifn h1 (ev_ifp h2 h)
    · simp only [if_neg h2] at h
      exact ev_ifn h1 (ev_ifn h2 h)
theorem near_spec {l : List FF} {a b : Int} {c : List Int} (m : Members l a b c) : Ev (fun k => spec_NearestMember.l0 k l 0 (-1) 0 a b c) ((iter (nearStep l c) 0 (l.length - 0) (0, -1)).1, (iter (nearStep l c) 0 (l.length - 0) (0, -1)).2, true) := by
  have hn := m.n8
  have hc64 := m.c64
  refine loop_ev (fun k (s : Int × Int) i => spec_NearestMember.l0 k l s.1 s.2 (i : Int) a b c) l.length (nearStep l c) (fun s => (s.1, s.2, true)) (fun _ _ => True)
    (fun i s r hI hi h => ?_) (fun _ _ _ _ => trivial)
    (fun s hI => ev_step (fun k => spec_NearestMember.l0.eq_2 _ _ _ _ _ _ _ k) (ev_ifn (by omega) (ev_some _))) 0 (0, -1) (Nat.zero_le _) trivial
  refine ev_step (fun k => spec_NearestMember.l0.eq_2 _ _ _ _ _ _ _ k) (ev_ifp (by omega) ?_)
  have hlen := m.len i hi
  have hD : (diffs (l.getD i z34).f2 c).1 = iter (dS (l.getD i z34).f2 c) 0 c.length 0 := by
    unfold diffs
    rw [dS_iter, hlen]
  have e1 := Aside0.mk (show wrap64 ((i : Int) + 1) = ((i + 1 : Nat) : Int) by rw [w64 (by omega) (by omega)]; rfl)
  refine loop_ev (fun k (t : Int) j => spec_NearestMember.l1 k l s.1 s.2 (i : Int) t (j : Int) a b c) c.length (dS (l.getD i z34).f2 c) (fun _ => r)
    (fun j t => t = iter (dS (l.getD i z34).f2 c) 0 j 0 ∧ 0 ≤ t ∧ t ≤ 20000 * (j : Int))
    (fun j t q hJ hj hh => ?_) (fun j t hJ hj => ?_) (fun t hJ => ?_) 0 0 (Nat.zero_le _) ⟨rfl, by omega, by omega⟩
  · have b1 := cell_bd (m.uOk i hi) j
    have b2 := cell_bd m.cOk j
    have hb := absZ_bd b1 b2
    have e2 := Aside0.mk (show wrap64 ((j : Int) + 1) = ((j + 1 : Nat) : Int) by rw [w64 (by omega) (by omega)]; rfl)
    have e3 := Aside0.mk (show wrap64 (t + absZ ((l.getD i z34).f2.getD j 0 - c.getD j 0)) = t + absZ ((l.getD i z34).f2.getD j 0 - c.getD j 0) from w64 (by omega) (by omega))
    have e4 := Aside0.mk (show max (wrap64 (c.getD j 0 - (l.getD i z34).f2.getD j 0)) (wrap64 (-(wrap64 (c.getD j 0 - (l.getD i z34).f2.getD j 0)))) = absZ ((l.getD i z34).f2.getD j 0 - c.getD j 0) by
      rw [w64 (x := c.getD j 0 - (l.getD i z34).f2.getD j 0) (by omega) (by omega), w64 (by omega) (by omega)]
      unfold absZ
      omega)
    refine ev_step (fun k => spec_NearestMember.l1.eq_2 _ _ _ _ _ _ _ _ _ k) (ev_ifp (by omega) (ev_ifp (by omega) ?_))
    simp only [rdf, rd_nat]
    rw [e2.out]
    unfold dS at hh
    by_cases h1 : c.getD j 0 = -9999
    · refine ev_ifp h1 ?_
      by_cases h2 : (l.getD i z34).f2.getD j 0 = -9999
      · simp only [if_pos h2] at hh; exact hh
      · simp only [if_neg h2, if_pos h1] at hh; exact hh
    · refine ev_ifn h1 (ev_ifp (by omega) (ev_ifp (by omega) (ev_ifp (by omega) ?_)))
      by_cases h2 : (l.getD i z34).f2.getD j 0 = -9999
      · simp only [if_pos h2] at hh; exact ev_ifp h2 hh
      · simp only [if_neg h2, if_neg h1] at hh
        refine ev_ifn h2 (ev_bind (ev_const (most_max _ _)) ?_)
        rw [e4.out, e3.out]
        exact hh
  · have b1 := cell_bd (m.uOk i hi) j
    have b2 := cell_bd m.cOk j
    have hb := absZ_bd b1 b2
    obtain ⟨j1, j2, j3⟩ := hJ
    refine ⟨by rw [iter_add _ j 0 1, ← j1, Nat.zero_add]; rfl, ?_, ?_⟩
    · unfold dS; split
      · omega
      · split <;> omega
    · unfold dS; split
      · omega
      · split <;> omega
  · obtain ⟨j1, _, _⟩ := hJ
    rw [← hD] at j1
    subst j1
    refine ev_step (fun k => spec_NearestMember.l1.eq_2 _ _ _ _ _ _ _ _ _ k) (ev_ifn (by omega) ?_)
    rw [e1.out]
    unfold nearStep at h
    by_cases h1 : s.2 < 0
    · simp only [if_pos h1] at h
      exact ev_ifp h1 h
    · simp only [if_neg h1] at h
      by_cases h2 : (diffs (l.getD i z34).f2 c).1 < s.2
      · simp only [if_pos h2] at h
        exact ev_ifn h1 (ev_ifp h2 h)
      · simp only [if_neg h2] at h
        exact ev_ifn h1 (ev_ifn h2 h)
theorem nearestMember_both (l : List FF) (a b : Int) (c : List Int) (hl : l.length ≤ 9223372036854775806) (hs : ∀ x ∈ l, x.f2.length ≤ 9223372036854775806) (hc : c.length ≤ 9223372036854775806) :
    ∃ r, Ev (fun k => spec_NearestMember.f k l a b c) r ∧ Ev (fun k => impl_NearestMember.f k l a b c) r := by
  have no : Ev (fun k => spec_NearestMember.j0 k l true a b c) (0, 0, false) := ev_step (fun k => spec_NearestMember.j0.eq_2 _ _ _ _ _ k) (ev_ifp rfl (ev_some _))
  have no2 : Ev (fun k => impl_NearestMember.j0 k l true a b c) (0, 0, false) := ev_step (fun k => impl_NearestMember.j0.eq_2 _ _ _ _ _ k) (ev_ifp rfl (ev_some _))
  have g1 := l9Good_ev l hl hs
  have g2 := isValidEnsemble_ev l hl
  have g3 := l2Good_ev a b c hc
  have g4 := areAlike_ev [(⟨a, b, c⟩ : FF), (⟨(l.getD 0 z34).f0, (l.getD 0 z34).f1, (l.getD 0 z34).f2⟩ : FF)] (by simp)
  unfold spec_NearestMember.f impl_NearestMember.f
  simp only [rdf0]
  cases he : ensOk l with
  | false =>
    rw [he] at g1 g2
    exact ⟨_, ev_bind g1 (ev_ifn (by simp) no), ev_bind g2 (ev_ifn (by simp) no2)⟩
  | true =>
    rw [he] at g1 g2
    unfold ensOk at he
    rw [Bool.and_eq_true, inb_iff, List.all_eq_true] at he
    obtain ⟨⟨n1, n8⟩, hall⟩ := he
    have hmem : ∀ i, i < l.length → memOk l (l.getD i z34) = true := fun i hi => by rw [getD_eq_get _ hi]; exact hall _ (List.getElem_mem hi)
    have h0 := hmem 0 (by omega)
    have hv : ([(⟨a, b, c⟩ : FF), (⟨(l.getD 0 z34).f0, (l.getD 0 z34).f1, (l.getD 0 z34).f2⟩ : FF)].all (memOk [(⟨a, b, c⟩ : FF), (⟨(l.getD 0 z34).f0, (l.getD 0 z34).f1, (l.getD 0 z34).f2⟩ : FF)])) = (fieldOk a b c && (decide ((l.getD 0 z34).f0 = a) && decide ((l.getD 0 z34).f1 = b))) := by
      unfold memOk at h0 ⊢
      rw [Bool.and_eq_true] at h0
      have h00 := h0.1
      clear h0 hmem hall g1 g2 g3 g4
      generalize l.getD 0 z34 = y at h00 ⊢
      simp [h00]
    rw [hv] at g4
    have p0 : (0 : Int) < (l.length : Int) := by omega
    cases hf : fieldOk a b c with
    | false =>
      rw [hf] at g3 g4
      exact ⟨_, ev_bind g1 (ev_ifp rfl (ev_bind g3 (ev_ifn (by simp) no))), ev_bind g2 (ev_ifp rfl (ev_ifp p0 (ev_bind g4 no2)))⟩
    | true =>
      rw [hf] at g3 g4
      by_cases ea : a = (l.getD 0 z34).f0
      · by_cases eb : b = (l.getD 0 z34).f1
        · have fi := fieldOk_iff.1 hf
          have m : Members l a b c := by
            refine ⟨by omega, fi.len64.2, fi.cells, fun i hi => ?_, fun i hi => ?_⟩
            · have := hmem i hi
              unfold memOk at this
              rw [Bool.and_eq_true] at this
              exact (fieldOk_iff.1 this.1).cells
            · have := hmem i hi
              unfold memOk at this
              rw [Bool.and_eq_true, Bool.and_eq_true, decide_eq_true_eq, decide_eq_true_eq] at this
              have f1 := (fieldOk_iff.1 this.1).len
              rw [this.2.1, this.2.2, ← ea, ← eb, ← fi.len] at f1
              exact_mod_cast f1
          have t4 : (decide ((l.getD 0 z34).f0 = a) && decide ((l.getD 0 z34).f1 = b)) = true := by rw [decide_eq_true ea.symm, decide_eq_true eb.symm]; rfl
          rw [t4] at g4
          have nb : (b != (l.getD 0 z34).f1) = false := by rw [← eb]; simp
          refine ⟨_, ev_bind g1 (ev_ifp rfl (ev_bind g3 (ev_ifp rfl (ev_ifp p0 (ev_ifp ea ?_))))), ev_bind g2 (ev_ifp rfl (ev_ifp p0 (ev_bind g4 (ev_step (fun k => impl_NearestMember.j0.eq_2 _ _ _ _ _ k) (ev_ifn (by simp) (near_impl m))))))⟩
          rw [nb]
          exact ev_step (fun k => spec_NearestMember.j0.eq_2 _ _ _ _ _ k) (ev_ifn (by simp) (near_spec m))
        · have t4 : (decide ((l.getD 0 z34).f0 = a) && decide ((l.getD 0 z34).f1 = b)) = false := by rw [decide_eq_true ea.symm, decide_eq_false (fun e => eb e.symm)]; rfl
          rw [t4] at g4
          have nb : (b != (l.getD 0 z34).f1) = true := bne_iff_ne.2 eb
          refine ⟨_, ev_bind g1 (ev_ifp rfl (ev_bind g3 (ev_ifp rfl (ev_ifp p0 (ev_ifp ea ?_))))), ev_bind g2 (ev_ifp rfl (ev_ifp p0 (ev_bind g4 no2)))⟩
          rw [nb]
          exact no
      · have t4 : (decide ((l.getD 0 z34).f0 = a) && decide ((l.getD 0 z34).f1 = b)) = false := by rw [decide_eq_false (fun e => ea e.symm)]; rfl
        rw [t4] at g4
        exact ⟨_, ev_bind g1 (ev_ifp rfl (ev_bind g3 (ev_ifp rfl (ev_ifp p0 (ev_ifn ea no))))), ev_bind g2 (ev_ifp rfl (ev_ifp p0 (ev_bind g4 no2)))⟩
end Go.Proofs.Ytfiijdiccjapiaa.Pure
/- The program's NearestMember returns what the reference's NearestMember returns, for all arguments; no conditions. -/
namespace Go.Proofs.Ytfiijdiccjapiaa.Pure
set_option linter.unusedVariables false
set_option linter.unusedSimpArgs false
open Go.RowKit Go.Proofs.Ytfiijdiccjapiaa.P Go.Proofs.YtfiijdiccjapiaaW.PrintWords Go.Proofs.YtfiijdiccjapiaaW.PrintLast
theorem FnExactNearestMember : laws_FnExactNearestMember.Pure := by
  intro l a b c hl hsz ha hb hc
  refine Ev.rounds ?_
  unfold laws_FnExactNearestMember.f
  rcases szFieldS_go l 1048576 (by first | omega | (dsimp only; omega) | (simp; omega)) (by first | omega | (dsimp only; omega) | (simp; omega)) (⟨hl.1, fun x hx => (hl.2 x hx).2.2.1⟩) with ⟨rz1, ez1, hz1⟩ | ⟨rz1, ez1, hz1, hza1, hzb1, hlz1⟩
  · exact ev_bind ez1 (ev_ifp hz1 (ev_some _))
  refine ev_bind ez1 ?_
  refine ev_ifn hz1 ?_
  rcases szField_go a b c rz1 (by first | omega | (dsimp only; omega) | (simp; omega)) (by first | omega | (dsimp only; omega) | (simp; omega)) (hc.1) with ⟨rz2, ez2, hz2⟩ | ⟨rz2, ez2, hz2, hza2, hzb2, hlz2⟩
  · exact ev_bind (ev_const ez2) (ev_ifp hz2 (ev_some _))
  refine ev_bind (ev_const ez2) ?_
  refine ev_ifn hz2 ?_
  have hm := map_short hlz1; obtain ⟨⟨r1, r2, g⟩, hs, hi⟩ := nearestMember_both (l.map ofF) a b c hm.1 hm.2 (by omega)
  refine ev_bind (toFieldS_ev _ ‹_›) ?_
  refine ev_bind (toField_ev _ _ _ (by first | omega | (dsimp only; omega) | (simp; omega))) ?_
  refine ev_bind hs ?_
  refine ev_bind (toFieldS_ev _ ‹_›) ?_
  refine ev_bind (toField_ev _ _ _ (by first | omega | (dsimp only; omega) | (simp; omega))) ?_
  refine ev_bind hi ?_
  refine ev_ifp (by first | rfl | (simp; done)) ?_
  refine ev_ifp (by first | rfl | (simp; done)) ?_
  refine ev_step (fun k => laws_FnExactNearestMember.j0.eq_2 _ _ _ _ _ _ _ _ _ k) ?_
  refine ev_ifn (by simp) ?_
  refine ev_bind (toFieldS_ev _ ‹_›) ?_
  refine ev_bind (eqFieldS_self _ ‹_›) ?_
  refine ev_ifp rfl ?_
  refine ev_bind (toField_ev _ _ _ (by first | omega | (dsimp only; omega) | (simp; omega))) ?_
  refine ev_bind (eqField_self _ _ _ (by first | omega | (dsimp only; omega) | (simp; omega))) ?_
  refine ev_ifp rfl ?_
  exact ev_some _
end Go.Proofs.Ytfiijdiccjapiaa.Pure
/- The law FnExactNearestMember answers true whatever its arguments are; no conditions. (Written by mp.py out of the plain law and the walk.) -/
namespace Go.Proofs.Ytfiijdiccjapiaa.fnExactNearestMember
open Go.ChangeShapes Go.WideShapes Go.ChangeAt Go.RowKit Go.Proofs.Ytfiijdiccjapiaa.Open Go.Proofs.Ytfiijdiccjapiaa.P Go.Proofs.YtfiijdiccjapiaaW.PrintWords
open Go.ChangeMaps (open_string shut_string)
set_option linter.unusedVariables false
theorem own : ownKnob Try.prog.godebug = none := by kernel_rfl
theorem laidOut : laidOutB Try.prog = true := by kernel_rfl
set_option maxRecDepth 100000 in
theorem lifted (os : Os) (started : os.Started) (H : Type) (enc : TypeId × Value → H) :
    ReturnsInHanded {} Try.checked os 10 .any (Rows.fnExactNearestMemberSpec.pre6 enc Try.prog Try.f10 Rows.fnExactNearestMemberRow.domain false) (Rows.fnExactNearestMemberSpec.post enc Try.prog Try.f10 false true false false) := by
  refine returnsInHanded_of_change_sized (C := Try.checked) own started (by kernel_rfl) Try.func10
    (ChangeSpec.witness6 (enc := enc) (C := Try.checked) false ⟨#[], #[.slice none 0 0, .agg #[.int .i64 0, .int .i64 0, .slice none 0 0]], []⟩ 8 (by kernel_rfl) (by kernel_rfl) (by kernel_rfl) (by kernel_rfl)) ?_
  intro W base args ds gs before hval0 hW hcnd hsz0 _
  have hsz : (DataW.weightsEach Try.prog (Try.f10.params.toList ++ Rows.fnExactNearestMemberSpec.plain.varTypes Try.prog) (ds ++ gs)).all (· ≤ reachBytes) = true := hsz0
  have hval : ∀ (j : Nat) t v, Try.f10.params[j]? = some t → args[j]? = some v → Value.okWide Try.prog W .any base t v := hval0
  have hW' := hW
  obtain ⟨p, q, hA0, hV, rfl, hfz, hnd⟩ := hW
  have hA : DataW.TrodAll enc Try.prog W 0 (fun _ => true) true Try.f10.params.toList args.toList ds p := hA0
  rw [Try.params10] at hA hval hsz
  obtain ⟨v0, vs0, d0, ds0, p0, q0, hargs, rfl, rfl, h0, r0⟩ := trodAll_cons hA
  obtain ⟨v1, vs1, d1, ds1, p1, q1, rfl, rfl, rfl, h1, r1⟩ := trodAll_cons r0
  obtain ⟨rfl, rfl, rfl⟩ := trodAll_nil r1
  obtain rfl : args = #[v0, v1] := by cases args; simp_all
  obtain ⟨rfl, rfl⟩ := trodVars_none hV
  obtain ⟨A0, len0, c0, rfl⟩ := okWide_slice Try.underlying74 (hval 0 74 v0 rfl rfl)
  have k0 := h0
  have lt0 : ∀ x ∈ p0, x.block < W.heap.size := by obtain ⟨m, hm⟩ := k0; exact DataW.trod_lt m _ _ _ hm
  have y0 : len0 * 40 ≤ 140737488351232 := sized_any hsz (j := 0) (t := 74) rfl rfl Try.underlying74 (by kernel_rfl) h0
  obtain ⟨l0, rfl, hc0, hr0, w0⟩ := slice_at (opens_slice Try.underlying74 (by kernel_rfl) opens30) h0
  have k1 := h1
  have lt1 : ∀ x ∈ p1, x.block < W.heap.size := by obtain ⟨m, hm⟩ := k1; exact DataW.trod_lt m _ _ _ hm
  obtain ⟨u1_0, u1_1, u1_2, b1_0, b1_1, b1_2, rfl, K1_0, w1_0, K1_1, w1_1, K1_2, w1_2⟩ := agg3_at Try.underlying30 (by kernel_rfl) (by kernel_rfl) (opens_int Try.underlying3) (opens_int Try.underlying3) (opens_slice Try.underlying22 (by kernel_rfl) (opens_int Try.underlying3)) (hval 1 30 v1 rfl rfl) h1
  obtain rfl := int_cell K1_0
  obtain rfl := int_cell K1_1
  obtain ⟨A1_2, c1_2, rfl, hc1_2, hr1_2⟩ := slice_cell K1_2
  clear hA0 hval0 hsz0 hsz
  obtain ⟨k, hp⟩ := Pure.FnExactNearestMember l0 b1_0 b1_1 b1_2 w0 y0 w1_0 w1_1 w1_2
  refine (laws_FnExactNearestMember.calls k A0 c0 l0 b1_0 b1_1 A1_2 c1_2 b1_2 true W hr0 hc0 hr1_2 hc1_2 hp).mono fun e W' ⟨he, bel0⟩ => ?_
  have bel : Below W.heap.size W W' := bel0
  subst he
  exact ⟨_, rfl, _, _, _, [], _, [], hW', trodAll_mk1 (shut_bool Try.underlying4 _), (trodAll_cons_mk (Below.trod laidOut (by kernel_rfl) (of_decide_eq_true (by kernel_rfl)) k0 bel lt0) (trodAll_cons_mk (Below.trod laidOut (by kernel_rfl) (of_decide_eq_true (by kernel_rfl)) k1 bel lt1) trodAll_mk0)), rfl, bel.frame _, fun h => by cases h⟩
theorem over : Rows.fnExactNearestMemberRow.holds Try.pinned (OpenSpec.ofChange Rows.fnExactNearestMemberSpec) :=
  OpenClaim.holds_of_wide 10 Try.f10 rfl rfl rfl rfl rfl rfl rfl ⟨rfl, rfl, rfl, rfl, rfl⟩ rfl rfl rfl rfl rfl (by kernel_rfl) Try.func10 (by kernel_rfl)
    (of_decide_eq_true (by kernel_rfl)) (by unfold Func.isWrapper; first | (rw [if_pos (by decide +kernel)]; kernel_rfl) | (rw [if_neg (by decide +kernel)]; exact ⟨rfl, rfl⟩))
    (fun os started H enc _ => lifted os started H enc)
theorem proved : Rows.FnExactNearestMemberSaid := over
#print axioms proved
end Go.Proofs.Ytfiijdiccjapiaa.fnExactNearestMember
namespace Go.Proofs.Ytfiijdiccjapiaa
/-- The row, under a short name, for the claim. -/
theorem fnExactNearestMember_holds : Rows.FnExactNearestMemberSaid := fnExactNearestMember.proved
end Go.Proofs.Ytfiijdiccjapiaa
