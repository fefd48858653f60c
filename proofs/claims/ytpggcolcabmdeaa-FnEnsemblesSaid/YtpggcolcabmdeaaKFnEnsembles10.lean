/- The law FnEnsembles out of its parts; no conditions. -/
import Derived.Test.YtpggcolcabmdeaaKFnEnsembles10s1
import Derived.Test.YtpggcolcabmdeaaKFnEnsembles10s2
import Derived.Test.YtpggcolcabmdeaaKFnEnsembles10s3
import Derived.Test.YtpggcolcabmdeaaKFnEnsembles10s4
namespace Go.Proofs.Ytpggcolcabmdeaa.P
open Go.RowKit Go.Proofs.YtpggcolcabmdeaaW.PrintWords Go.Proofs.YtpggcolcabmdeaaW.PrintLast Go.Proofs.YtpggcolcabmdeaaW.PrintMore
attribute [local go_sem] max2_int min2_int max_two min_two max_three min_three max_four min_four
set_option linter.unusedVariables false
set_option linter.unusedSimpArgs false
set_option maxHeartbeats 200000000
set_option maxRecDepth 100000
open laws_FnEnsembles
theorem laws_FnEnsembles.calls (k : Nat) (A0 : Option Addr) (c0 : Nat) (l0 : List Int) (r : Bool) (w : World) (hr0 : Kd.C (Kd.int .u8) w A0 l0.length l0) (hc0 : l0.length ≤ c0) (h : laws_FnEnsembles.f k l0 = some r) :
  Calls Try.prog 3 #[.slice A0 l0.length c0] w fun e w' => e = .returned (.bool r) ∧ Below w.heap.size w w' :=
  laws_FnEnsembles.A.2.2.2.2 ⟨laws_FnEnsembles.S1⟩ ⟨laws_FnEnsembles.S2⟩ ⟨laws_FnEnsembles.S3⟩ ⟨laws_FnEnsembles.S4⟩ k A0 c0 l0 r w hr0 hc0 h
def laws_FnEnsembles.Pure : Prop := ∀ (l0 : List Int), (l0.length ≤ 9223372036854775807 ∧ ∀ z0 ∈ l0, (Lit.int .u8 z0).wf = true) → l0.length * 1 ≤ 140737488351232 → ∃ k, laws_FnEnsembles.f k l0 = some true
end Go.Proofs.Ytpggcolcabmdeaa.P
