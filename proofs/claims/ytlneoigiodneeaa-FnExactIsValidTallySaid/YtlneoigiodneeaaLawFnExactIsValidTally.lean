/- The law FnExactIsValidTally answers true whatever its arguments are; no conditions. (Written by mp.py out of the plain law and the walk.) -/
import Derived.Test.YtlneoigiodneeaaRows
import Derived.Test.YtlneoigiodneeaaPf6
import Derived.Test.YtlneoigiodneeaaPtOpen
import Derived.Test.YtlneoigiodneeaaPureFnExactIsValidTally
import Derived.WalkKit
import Derived.ProofKit
import Derived.OpenShut
import Derived.ShutString
import Derived.ChangeOld
import Derived.Below
import Derived.SizedLaws
namespace Go.Proofs.Ytlneoigiodneeaa.fnExactIsValidTally
open Go.ChangeShapes Go.WideShapes Go.ChangeAt Go.RowKit Go.Proofs.Ytlneoigiodneeaa.Open Go.Proofs.Ytlneoigiodneeaa.P Go.Proofs.YtlneoigiodneeaaW.PrintWords
open Go.ChangeMaps (open_string shut_string)
set_option linter.unusedVariables false
theorem own : ownKnob Try.prog.godebug = none := by kernel_rfl
theorem laidOut : laidOutB Try.prog = true := by kernel_rfl
set_option maxRecDepth 100000 in
theorem lifted (os : Os) (started : os.Started) (H : Type) (enc : TypeId × Value → H) :
    ReturnsInHanded {} Try.checked os 6 .any (Rows.fnExactIsValidTallySpec.pre6 enc Try.prog Try.f6 Rows.fnExactIsValidTallyRow.domain false) (Rows.fnExactIsValidTallySpec.post enc Try.prog Try.f6 false true false false) := by
  refine returnsInHanded_of_change_sized (C := Try.checked) own started (by kernel_rfl) Try.func6
    (ChangeSpec.witness6 (enc := enc) (C := Try.checked) false ⟨#[], #[.agg #[.slice none 0 0, .slice none 0 0]], []⟩ 8 (by kernel_rfl) (by kernel_rfl) (by kernel_rfl) (by kernel_rfl)) ?_
  intro W base args ds gs before hval0 hW hcnd hsz0 _
  have hsz : (DataW.weightsEach Try.prog (Try.f6.params.toList ++ Rows.fnExactIsValidTallySpec.plain.varTypes Try.prog) (ds ++ gs)).all (· ≤ reachBytes) = true := hsz0
  have hval : ∀ (j : Nat) t v, Try.f6.params[j]? = some t → args[j]? = some v → Value.okWide Try.prog W .any base t v := hval0
  have hW' := hW
  obtain ⟨p, q, hA0, hV, rfl, hfz, hnd⟩ := hW
  have hA : DataW.TrodAll enc Try.prog W 0 (fun _ => true) true Try.f6.params.toList args.toList ds p := hA0
  rw [Try.params6] at hA hval hsz
  obtain ⟨v0, vs0, d0, ds0, p0, q0, hargs, rfl, rfl, h0, r0⟩ := trodAll_cons hA
  obtain ⟨rfl, rfl, rfl⟩ := trodAll_nil r0
  obtain rfl : args = #[v0] := by cases args; simp_all
  obtain ⟨rfl, rfl⟩ := trodVars_none hV
  have k0 := h0
  have lt0 : ∀ x ∈ p0, x.block < W.heap.size := by obtain ⟨m, hm⟩ := k0; exact DataW.trod_lt m _ _ _ hm
  obtain ⟨u0_0, u0_1, b0_0, b0_1, rfl, K0_0, w0_0, K0_1, w0_1⟩ := agg2_at Try.underlying41 (by kernel_rfl) (by kernel_rfl) (opens_slice Try.underlying39 (by kernel_rfl) (opens_int Try.underlying3)) (opens_slice Try.underlying39 (by kernel_rfl) (opens_int Try.underlying3)) (hval 0 41 v0 rfl rfl) h0
  obtain ⟨A0_0, c0_0, rfl, hc0_0, hr0_0⟩ := slice_cell K0_0
  obtain ⟨A0_1, c0_1, rfl, hc0_1, hr0_1⟩ := slice_cell K0_1
  clear hA0 hval0 hsz0 hsz
  obtain ⟨k, hp⟩ := Pure.FnExactIsValidTally b0_0 b0_1 w0_0 w0_1
  refine (laws_FnExactIsValidTally.calls k A0_0 c0_0 b0_0 A0_1 c0_1 b0_1 true W hr0_0 hc0_0 hr0_1 hc0_1 hp).mono fun e W' ⟨he, bel0⟩ => ?_
  have bel : Below W.heap.size W W' := bel0
  subst he
  exact ⟨_, rfl, _, _, _, [], _, [], hW', trodAll_mk1 (shut_bool Try.underlying4 _), (trodAll_cons_mk (Below.trod laidOut (by kernel_rfl) (of_decide_eq_true (by kernel_rfl)) k0 bel lt0) trodAll_mk0), rfl, bel.frame _, fun h => by cases h⟩
theorem over : Rows.fnExactIsValidTallyRow.holds Try.pinned (OpenSpec.ofChange Rows.fnExactIsValidTallySpec) :=
  OpenClaim.holds_of_wide 6 Try.f6 rfl rfl rfl rfl rfl rfl rfl ⟨rfl, rfl, rfl, rfl, rfl⟩ rfl rfl rfl rfl rfl (by kernel_rfl) Try.func6 (by kernel_rfl)
    (of_decide_eq_true (by kernel_rfl)) (by unfold Func.isWrapper; first | (rw [if_pos (by decide +kernel)]; kernel_rfl) | (rw [if_neg (by decide +kernel)]; exact ⟨rfl, rfl⟩))
    (fun os started H enc _ => lifted os started H enc)
theorem proved : Rows.FnExactIsValidTallySaid := over
#print axioms proved
end Go.Proofs.Ytlneoigiodneeaa.fnExactIsValidTally
namespace Go.Proofs.Ytlneoigiodneeaa
/-- The row, under a short name, for the claim. -/
theorem fnExactIsValidTally_holds : Rows.FnExactIsValidTallySaid := fnExactIsValidTally.proved
end Go.Proofs.Ytlneoigiodneeaa
