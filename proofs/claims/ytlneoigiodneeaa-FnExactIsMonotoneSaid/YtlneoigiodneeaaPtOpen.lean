-- written by mp.py (this session's), with the print's functions; Lean checks it
import Derived.Test.YtlneoigiodneeaaPt
import Derived.Test.YtlneoigiodneeaaOpen
namespace Go.Proofs.Ytlneoigiodneeaa.P
open Go.RowKit Go.Proofs.YtlneoigiodneeaaW.PrintWords Go.Proofs.YtlneoigiodneeaaW.PrintLast Go.Proofs.YtlneoigiodneeaaW.PrintMore
attribute [local go_sem] max2_int min2_int max_two min_two max_three min_three max_four min_four   -- for this text's walks alone
set_option linter.unusedVariables false
set_option linter.unusedSimpArgs false

open Go.Proofs.Ytlneoigiodneeaa.Open
theorem opens83 : Opens Try.prog 83 k83 (fun x : S83 => (Lit.int .i64 x.f0).wf = true ∧ (Lit.int .i64 x.f1).wf = true ∧ (x.f2.length ≤ 9223372036854775807 ∧ ∀ z0 ∈ x.f2, (Lit.int .i64 z0).wf = true)) :=
  opens_iso (opens3 Try.underlying83 (by kernel_rfl) (by kernel_rfl) (opens_int Try.underlying3) (opens_int Try.underlying3) (opens_slice Try.underlying39 (by kernel_rfl) (opens_int Try.underlying3))) (fun x : S83 => (x.f0, x.f1, x.f2)) (fun y => (⟨y.1, y.2.1, y.2.2⟩ : S83)) (fun _ => rfl)
theorem opens111 : Opens Try.prog 111 k111 (fun x : S111 => (Lit.int .i64 x.f0).wf = true ∧ (Lit.int .i64 x.f1).wf = true) :=
  opens_iso (opens2 Try.underlying111 (by kernel_rfl) (by kernel_rfl) (opens_int Try.underlying3) (opens_int Try.underlying3)) (fun x : S111 => (x.f0, x.f1)) (fun y => (⟨y.1, y.2⟩ : S111)) (fun _ => rfl)
theorem opens129 : Opens Try.prog 129 k129 (fun x : S129 => (Lit.int .i64 x.f0).wf = true ∧ (Lit.int .i64 x.f1).wf = true) :=
  opens_iso (opens2 Try.underlying129 (by kernel_rfl) (by kernel_rfl) (opens_int Try.underlying3) (opens_int Try.underlying3)) (fun x : S129 => (x.f0, x.f1)) (fun y => (⟨y.1, y.2⟩ : S129)) (fun _ => rfl)
end Go.Proofs.Ytlneoigiodneeaa.P
