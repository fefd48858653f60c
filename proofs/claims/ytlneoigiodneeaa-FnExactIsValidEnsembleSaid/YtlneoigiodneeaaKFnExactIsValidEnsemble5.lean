/- Texts of the claim FnExactIsValidEnsemble, merged: part 5 of 5: the program's and the reference's functions as Lean functions, the walks that show it, and plain lemmas; no conditions. -/
import Derived.Test.YtlneoigiodneeaaKFnExactIsValidEnsemble4
import Derived.Test.YtlneoigiodneeaaKFnExactIsValidEnsemble2
import Derived.Test.YtlneoigiodneeaaKFnExactIsValidEnsemble3
import Derived.Test.YtlneoigiodneeaaKFnExactIsValidEnsemble1
import Derived.Test.YtlneoigiodneeaaRows
import Derived.WalkKit
import Derived.ProofKit
import Derived.OpenShut
import Derived.ShutString
import Derived.ChangeOld
import Derived.Below
import Derived.SizedLaws
/- An ensemble is valid in the program just when it is valid in the reference; copies of lists of fields. No conditions. -/
namespace Go.Proofs.Ytlneoigiodneeaa.Pure
set_option linter.unusedVariables false
set_option linter.unusedSimpArgs false
open Go.RowKit Go.Proofs.Ytlneoigiodneeaa.P Go.Proofs.YtlneoigiodneeaaW.PrintWords Go.Proofs.YtlneoigiodneeaaW.PrintLast
abbrev FF := S87
abbrev LF := S83
theorem rdf (xs : List FF) (i : Nat) : rd_T87 xs (i : Int) = xs.getD i z87 := by simp [rd_T87]
theorem rdf0 (xs : List FF) : rd_T87 xs 0 = xs.getD 0 z87 := rdf xs 0
theorem rdlf (xs : List LF) (i : Nat) : rd_T83 xs (i : Int) = xs.getD i z83 := by simp [rd_T83]
def ofF (f : LF) : FF := ⟨f.f0, f.f1, f.f2⟩
def memOk (l : List FF) (f : FF) : Bool := fieldOk f.f0 f.f1 f.f2 && (decide (f.f0 = (l.getD 0 z87).f0) && decide (f.f1 = (l.getD 0 z87).f1))
def ensOk (l : List FF) : Bool := inb (l.length : Int) 1 8 && l.all (memOk l)
theorem short_of (l : List FF) (h : ∀ x ∈ l, x.f2.length ≤ 9223372036854775806) (i : Nat) : (l.getD i z87).f2.length ≤ 9223372036854775806 := by
  by_cases hi : i < l.length
  · rw [getD_eq_get _ hi]
    exact h _ (List.getElem_mem hi)
  · simp [List.getD, List.getElem?_eq_none (show l.length ≤ i by omega), z87]
theorem l9Good_ev (l : List FF) (hl : l.length ≤ 9223372036854775806) (hs : ∀ x ∈ l, x.f2.length ≤ 9223372036854775806) : Ev (fun k => spec_l9Good.f k l) (ensOk l) := by
  unfold spec_l9Good.f ensOk
  rw [l1In_is]
  simp only [Option.bind_some]
  cases hb : inb (l.length : Int) 1 8 with
  | false => exact ev_ifn (by simp) (ev_some _)
  | true =>
    rw [Bool.true_and, ← rall_list l z87 (memOk l)]
    have hbd := inb_iff.1 hb
    refine ev_ifp rfl (allb_ev (fun k i => spec_l9Good.l0 k l (i : Int)) l.length (fun j => memOk l (l.getD j z87)) ?_ ?_ ?_)
    · intro i r hi hp h
      unfold memOk at hp
      rw [Bool.and_eq_true, Bool.and_eq_true, decide_eq_true_eq, decide_eq_true_eq] at hp
      refine ev_step (f := fun k => (spec_l2Good.f k (l.getD i z87).f0 (l.getD i z87).f1 (l.getD i z87).f2).bind fun t => if t = true then spec_l9Good.l0 k l ((i + 1 : Nat) : Int) else some false) (fun k => by
        simp only [spec_l9Good.l0, rdf, rdf0]
        rw [if_pos (by omega), if_pos (by omega), if_pos (show (0 : Int) < (l.length : Int) by omega), if_pos hp.2.1, if_pos hp.2.2, w64 (by omega) (by omega)]
        rfl) (ev_bind (l2Good_ev _ _ _ (short_of l hs i)) (by rw [hp.1]; exact ev_ifp rfl h))
    · intro i hi hp
      refine ev_step (f := fun k => (spec_l2Good.f k (l.getD i z87).f0 (l.getD i z87).f1 (l.getD i z87).f2).bind fun t => if t = true then (if (l.getD i z87).f0 = (l.getD 0 z87).f0 then (if (l.getD i z87).f1 = (l.getD 0 z87).f1 then spec_l9Good.l0 k l (wrap64 ((i : Int) + 1)) else some false) else some false) else some false) (fun k => by
        simp only [spec_l9Good.l0, rdf, rdf0]
        rw [if_pos (by omega), if_pos (by omega), if_pos (show (0 : Int) < (l.length : Int) by omega)]) (ev_bind (l2Good_ev _ _ _ (short_of l hs i)) ?_)
      unfold memOk at hp
      cases h1 : fieldOk (l.getD i z87).f0 (l.getD i z87).f1 (l.getD i z87).f2 with
      | false => exact ev_ifn (by simp) (ev_some _)
      | true =>
        refine ev_ifp rfl ?_
        rw [h1, Bool.true_and] at hp
        by_cases h2 : (l.getD i z87).f0 = (l.getD 0 z87).f0
        · refine ev_ifp h2 (ev_ifn ?_ (ev_some _))
          intro h3
          rw [decide_eq_true h2, decide_eq_true h3] at hp
          cases hp
        · exact ev_ifn h2 (ev_some _)
    · exact ev_step (f := fun _ => some true) (fun k => by
        simp only [spec_l9Good.l0]
        rw [if_neg (by omega)]) (ev_some _)
theorem sameShape_is (a b : Int) (l : List Int) (a' b' : Int) (l' : List Int) : impl_sameShape.f a b l a' b' l' = some (decide (a = a') && decide (b = b')) := by
  unfold impl_sameShape.f
  by_cases h : a = a'
  · rw [if_pos h, decide_eq_true h, Bool.true_and]
    congr 1
  · rw [if_neg h, decide_eq_false h, Bool.false_and]
theorem areAlike_ev (l : List FF) (hl : l.length ≤ 9223372036854775806) : Ev (fun k => impl_areAlike.f k l) (l.all (memOk l)) := by
  rw [← rall_list l z87 (memOk l)]
  refine allb_ev (fun k i => impl_areAlike.l0 k l l (l.length : Int) (i : Int)) l.length (fun j => memOk l (l.getD j z87)) ?_ ?_ ?_
  · intro i r hi hp h
    unfold memOk at hp
    rw [Bool.and_eq_true] at hp
    exact ev_step (fun k => by
      simp only [impl_areAlike.l0, rdf, rdf0, isValidField_is, sameShape_is, Option.bind_some]
      rw [if_pos (by omega), if_pos (by omega), if_pos (by omega), if_pos hp.1, if_pos (show (0 : Int) < (l.length : Int) by omega), if_pos hp.2, w64 (by omega) (by omega)]
      rfl) h
  · intro i hi hp
    unfold memOk at hp
    refine ev_step (f := fun _ => some false) (fun k => ?_) (ev_some _)
    simp only [impl_areAlike.l0, rdf, rdf0, isValidField_is, sameShape_is, Option.bind_some]
    rw [if_pos (by omega), if_pos (by omega), if_pos (by omega)]
    cases h1 : fieldOk (l.getD i z87).f0 (l.getD i z87).f1 (l.getD i z87).f2 with
    | false => rfl
    | true =>
      rw [h1, Bool.true_and] at hp
      rw [if_pos rfl, if_pos (show (0 : Int) < (l.length : Int) by omega), hp]
      rfl
  · exact ev_step (f := fun _ => some true) (fun k => by
      simp only [impl_areAlike.l0]
      rw [if_neg (by omega)]) (ev_some _)
theorem isValidEnsemble_ev (l : List FF) (hl : l.length ≤ 9223372036854775806) : Ev (fun k => impl_IsValidEnsemble.f k l) (ensOk l) := by
  unfold impl_IsValidEnsemble.f ensOk
  rw [within_is]
  simp only [Option.bind_some]
  cases hb : inb (l.length : Int) 1 8 with
  | false => exact ev_ifn (by simp) (ev_some _)
  | true =>
    rw [Bool.true_and]
    exact ev_ifp rfl (ev_bind (areAlike_ev l hl) (ev_some _))
/-- The sizes that the law's guard lets in. -/
def smallF (l : List LF) : Prop := l.length ≤ 1048576 ∧ ∀ x ∈ l, x.f2.length ≤ 1048576
theorem toFieldS_ev (xs : List LF) (hm : smallF xs) : Ev (fun k => laws_toFieldS.f k xs) (xs.map ofF) := by
  have hx := hm.1
  have h := copy_ev (fun k ys i => laws_toFieldS.l0 k xs ys (i : Int)) xs ofF z83 z87
    (fun i ys r hl hi h => by
      have hs : (xs.getD i z83).f2.length ≤ 1048576 := by
        rw [getD_eq_get _ hi]
        exact hm.2 _ (List.getElem_mem hi)
      refine ev_step (f := fun k => (laws_toField.f k (xs.getD i z83).f0 (xs.getD i z83).f1 (xs.getD i z83).f2).bind fun bt => laws_toFieldS.l0 k xs (ys.set i ⟨bt.1, bt.2.1, bt.2.2⟩) ((i + 1 : Nat) : Int)) (fun k => by
        have c : (i : Int) < (ys.length : Int) := by omega
        have e2 : wrap64 ((i : Int) + 1) = ((i + 1 : Nat) : Int) := w64 (by omega) (by omega)
        simp only [laws_toFieldS.l0, rdlf, c, e2, if_true]
        rw [if_pos (by omega), if_pos (by omega)]
        rfl) (ev_bind (toField_ev _ _ _ (by omega)) h))
    (fun ys hl => ev_step (f := fun _ => some ys) (fun k => by
      simp only [laws_toFieldS.l0]
      rw [if_neg (by omega)]) (ev_some _)) (List.replicate xs.length z87) (by simp)
  refine Ev.congr (fun k => ?_) h
  unfold laws_toFieldS.f
  rw [if_pos (by omega), if_pos (by omega)]
  rfl
theorem eqFieldS_self (xs : List FF) (hm : xs.length ≤ 9223372036854775806 ∧ ∀ x ∈ xs, x.f2.length ≤ 9223372036854775806) : Ev (fun k => laws_eqFieldS.f k xs xs) true := by
  have hx := hm.1
  have h := allb_ev (fun k i => laws_eqFieldS.l0 k xs xs (i : Int)) xs.length (fun _ => true)
    (fun i r hi _ h => by
      refine ev_step (f := fun k => (laws_eqField.f k (xs.getD i z87).f0 (xs.getD i z87).f1 (xs.getD i z87).f2 (xs.getD i z87).f0 (xs.getD i z87).f1 (xs.getD i z87).f2).bind fun t => if t = true then laws_eqFieldS.l0 k xs xs ((i + 1 : Nat) : Int) else some false) (fun k => by
        simp only [laws_eqFieldS.l0, rdf]
        rw [if_pos (by omega), if_pos (by omega), if_pos (by omega), w64 (by omega) (by omega)]
        rfl) (ev_bind (eqField_self _ _ _ (short_of xs hm.2 i)) (ev_ifp rfl h)))
    (fun i hi hp => by cases hp)
    (ev_step (f := fun _ => some true) (fun k => by
      simp only [laws_eqFieldS.l0]
      rw [if_neg (by omega)]) (ev_some _))
  rw [(rall_iff (fun _ => true) xs.length 0).2 (fun _ _ _ => rfl)] at h
  refine Ev.congr (fun k => ?_) h
  unfold laws_eqFieldS.f
  rw [if_pos rfl]
  rfl
theorem map_short {l : List LF} (h : smallF l) : (l.map ofF).length ≤ 9223372036854775806 ∧ ∀ x ∈ l.map ofF, x.f2.length ≤ 9223372036854775806 := by
  refine ⟨by have := h.1; simp; omega, fun x hx => ?_⟩
  obtain ⟨y, hy, rfl⟩ := List.mem_map.1 hx
  have := h.2 y hy
  show y.f2.length ≤ 9223372036854775806
  omega
/-- The law's guard on a list of fields: too large, or all lists are short. -/
theorem szFieldS_go (l : List LF) (s : Int) (hs : 0 ≤ s) (hs2 : s ≤ 1048576) (hl : l.length ≤ 9223372036854775807 ∧ ∀ x ∈ l, x.f2.length ≤ 9223372036854775807) :
    (∃ r, Ev (fun k => laws_szFieldS.f k l s) r ∧ r < 0) ∨ ∃ r, Ev (fun k => laws_szFieldS.f k l s) r ∧ ¬ r < 0 ∧ 0 ≤ r ∧ r ≤ 1048576 ∧ smallF l := by
  have hl1 := hl.1
  unfold laws_szFieldS.f
  rw [w64 (by omega) (by omega)]
  by_cases h : s - (l.length : Int) < 0
  · exact .inl ⟨_, ev_ifp h (ev_some _), by omega⟩
  · have key : ∀ d i (t : Int), l.length - i = d → i ≤ l.length → 0 ≤ t → t ≤ 1048576 →
        (∃ r, Ev (fun k => laws_szFieldS.l0 k l t (i : Int)) r ∧ r < 0) ∨ ∃ r, Ev (fun k => laws_szFieldS.l0 k l t (i : Int)) r ∧ ¬ r < 0 ∧ 0 ≤ r ∧ r ≤ 1048576 ∧ ∀ j, i ≤ j → j < l.length → (l.getD j z83).f2.length ≤ 1048576 := by
      intro d
      induction d with
      | zero =>
        intro i t h0 h1 h2 h3
        exact .inr ⟨t, ev_step (f := fun _ => some t) (fun k => by
          simp only [laws_szFieldS.l0]
          rw [if_neg (by omega)]) (ev_some _), by omega, h2, h3, fun j h4 h5 => by omega⟩
      | succ d ih =>
        intro i t h0 h1 h2 h3
        have hi : i < l.length := by omega
        have hx : (l.getD i z83).f2.length ≤ 9223372036854775807 := by
          rw [getD_eq_get _ hi]
          exact hl.2 _ (List.getElem_mem hi)
        rcases szField_go (l.getD i z83).f0 (l.getD i z83).f1 (l.getD i z83).f2 t h2 h3 hx with ⟨r, e, hr⟩ | ⟨r, e, hr, hr1, hr2, hsh⟩
        · exact .inl ⟨-1, ev_step (f := fun _ => some (-1)) (fun k => by
            simp only [laws_szFieldS.l0, rdlf]
            rw [if_pos (by omega), if_pos (by omega), e, Option.bind_some, if_pos hr]) (ev_some _), by omega⟩
        · have st : ∀ q, Ev (fun k => laws_szFieldS.l0 k l r ((i + 1 : Nat) : Int)) q → Ev (fun k => laws_szFieldS.l0 k l t (i : Int)) q := fun q hq => ev_step (fun k => by
            simp only [laws_szFieldS.l0, rdlf]
            rw [if_pos (by omega), if_pos (by omega), e, Option.bind_some, if_neg hr, w64 (by omega) (by omega)]
            rfl) hq
          rcases ih (i + 1) r (by omega) (by omega) hr1 hr2 with ⟨q, hq, hq0⟩ | ⟨q, hq, hq0, hq1, hq2, hq3⟩
          · exact .inl ⟨q, st q hq, hq0⟩
          · refine .inr ⟨q, st q hq, hq0, hq1, hq2, fun j h4 h5 => ?_⟩
            by_cases e2 : j = i
            · rw [e2]; exact hsh
            · exact hq3 j (by omega) h5
    rcases key l.length 0 (s - l.length) (by omega) (Nat.zero_le _) (by omega) (by omega) with ⟨r, hr, h0⟩ | ⟨r, hr, h0, h1, h2, h3⟩
    · exact .inl ⟨r, ev_ifn h hr, h0⟩
    · refine .inr ⟨r, ev_ifn h hr, h0, h1, h2, by omega, fun x hx => ?_⟩
      obtain ⟨j, hj, rfl⟩ := List.getElem_of_mem hx
      rw [← getD_eq_get z83 hj]
      exact h3 j (Nat.zero_le _) hj
end Go.Proofs.Ytlneoigiodneeaa.Pure
/- The program's IsValidEnsemble returns what the reference's IsValidEnsemble returns, for all arguments; no conditions. -/
namespace Go.Proofs.Ytlneoigiodneeaa.Pure
set_option linter.unusedVariables false
set_option linter.unusedSimpArgs false
open Go.RowKit Go.Proofs.Ytlneoigiodneeaa.P Go.Proofs.YtlneoigiodneeaaW.PrintWords Go.Proofs.YtlneoigiodneeaaW.PrintLast
theorem FnExactIsValidEnsemble : laws_FnExactIsValidEnsemble.Pure := by
  intro l hl _
  refine Ev.rounds ?_
  unfold laws_FnExactIsValidEnsemble.f
  rcases szFieldS_go l 1048576 (by omega) (by omega) ⟨hl.1, fun x hx => (hl.2 x hx).2.2.1⟩ with ⟨r, e, hr⟩ | ⟨r, e, hr, _, _, hs⟩
  · exact ev_bind e (ev_ifp hr (ev_some _))
  · have ho := toFieldS_ev l hs
    have hm := map_short hs
    exact ev_bind e (ev_ifn hr (ev_bind ho (ev_bind (g := fun k => spec_IsValidEnsemble.f k (l.map ofF)) (ev_bind (l9Good_ev _ hm.1 hm.2) (ev_some _)) (ev_bind ho (ev_bind (isValidEnsemble_ev _ hm.1) (ev_ifn (by simp) (ev_bind ho (ev_bind (eqFieldS_self _ hm) (ev_ifp rfl (ev_some _))))))))))
end Go.Proofs.Ytlneoigiodneeaa.Pure
/- The law FnExactIsValidEnsemble answers true whatever its arguments are; no conditions. (Written by mp.py out of the plain law and the walk.) -/
namespace Go.Proofs.Ytlneoigiodneeaa.fnExactIsValidEnsemble
open Go.ChangeShapes Go.WideShapes Go.ChangeAt Go.RowKit Go.Proofs.Ytlneoigiodneeaa.Open Go.Proofs.Ytlneoigiodneeaa.P Go.Proofs.YtlneoigiodneeaaW.PrintWords
open Go.ChangeMaps (open_string shut_string)
set_option linter.unusedVariables false
theorem own : ownKnob Try.prog.godebug = none := by kernel_rfl
theorem laidOut : laidOutB Try.prog = true := by kernel_rfl
set_option maxRecDepth 100000 in
theorem lifted (os : Os) (started : os.Started) (H : Type) (enc : TypeId × Value → H) :
    ReturnsInHanded {} Try.checked os 14 .any (Rows.fnExactIsValidEnsembleSpec.pre6 enc Try.prog Try.f14 Rows.fnExactIsValidEnsembleRow.domain false) (Rows.fnExactIsValidEnsembleSpec.post enc Try.prog Try.f14 false true false false) := by
  refine returnsInHanded_of_change_sized (C := Try.checked) own started (by kernel_rfl) Try.func14
    (ChangeSpec.witness6 (enc := enc) (C := Try.checked) false ⟨#[], #[.slice none 0 0], []⟩ 8 (by kernel_rfl) (by kernel_rfl) (by kernel_rfl) (by kernel_rfl)) ?_
  intro W base args ds gs before hval0 hW hcnd hsz0 _
  have hsz : (DataW.weightsEach Try.prog (Try.f14.params.toList ++ Rows.fnExactIsValidEnsembleSpec.plain.varTypes Try.prog) (ds ++ gs)).all (· ≤ reachBytes) = true := hsz0
  have hval : ∀ (j : Nat) t v, Try.f14.params[j]? = some t → args[j]? = some v → Value.okWide Try.prog W .any base t v := hval0
  have hW' := hW
  obtain ⟨p, q, hA0, hV, rfl, hfz, hnd⟩ := hW
  have hA : DataW.TrodAll enc Try.prog W 0 (fun _ => true) true Try.f14.params.toList args.toList ds p := hA0
  rw [Try.params14] at hA hval hsz
  obtain ⟨v0, vs0, d0, ds0, p0, q0, hargs, rfl, rfl, h0, r0⟩ := trodAll_cons hA
  obtain ⟨rfl, rfl, rfl⟩ := trodAll_nil r0
  obtain rfl : args = #[v0] := by cases args; simp_all
  obtain ⟨rfl, rfl⟩ := trodVars_none hV
  obtain ⟨A0, len0, c0, rfl⟩ := okWide_slice Try.underlying93 (hval 0 93 v0 rfl rfl)
  have k0 := h0
  have lt0 : ∀ x ∈ p0, x.block < W.heap.size := by obtain ⟨m, hm⟩ := k0; exact DataW.trod_lt m _ _ _ hm
  have y0 : len0 * 40 ≤ 140737488351232 := sized_any hsz (j := 0) (t := 93) rfl rfl Try.underlying93 (by kernel_rfl) h0
  obtain ⟨l0, rfl, hc0, hr0, w0⟩ := slice_at (opens_slice Try.underlying93 (by kernel_rfl) opens83) h0
  clear hA0 hval0 hsz0 hsz
  obtain ⟨k, hp⟩ := Pure.FnExactIsValidEnsemble l0 w0 y0
  refine (laws_FnExactIsValidEnsemble.calls k A0 c0 l0 true W hr0 hc0 hp).mono fun e W' ⟨he, bel0⟩ => ?_
  have bel : Below W.heap.size W W' := bel0
  subst he
  exact ⟨_, rfl, _, _, _, [], _, [], hW', trodAll_mk1 (shut_bool Try.underlying4 _), (trodAll_cons_mk (Below.trod laidOut (by kernel_rfl) (of_decide_eq_true (by kernel_rfl)) k0 bel lt0) trodAll_mk0), rfl, bel.frame _, fun h => by cases h⟩
theorem over : Rows.fnExactIsValidEnsembleRow.holds Try.pinned (OpenSpec.ofChange Rows.fnExactIsValidEnsembleSpec) :=
  OpenClaim.holds_of_wide 14 Try.f14 rfl rfl rfl rfl rfl rfl rfl ⟨rfl, rfl, rfl, rfl, rfl⟩ rfl rfl rfl rfl rfl (by kernel_rfl) Try.func14 (by kernel_rfl)
    (of_decide_eq_true (by kernel_rfl)) (by unfold Func.isWrapper; first | (rw [if_pos (by decide +kernel)]; kernel_rfl) | (rw [if_neg (by decide +kernel)]; exact ⟨rfl, rfl⟩))
    (fun os started H enc _ => lifted os started H enc)
theorem proved : Rows.FnExactIsValidEnsembleSaid := over
#print axioms proved
end Go.Proofs.Ytlneoigiodneeaa.fnExactIsValidEnsemble
namespace Go.Proofs.Ytlneoigiodneeaa
/-- The row, under a short name, for the claim. -/
theorem fnExactIsValidEnsemble_holds : Rows.FnExactIsValidEnsembleSaid := fnExactIsValidEnsemble.proved
end Go.Proofs.Ytlneoigiodneeaa
