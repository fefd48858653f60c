/-
  No cell of these rows narrows 'for every input' (looked for: loops, veiled, ifaces, maps, wideKeys, modest, calm, conditions, laid).
  DERIVED. THE GIVEN ROWS OF THIS SEAT. 2 by the template 'for every input the law returns true; each argument reads behind the call as it read before'; 0 by the template 'total and deterministic' (their statements: YtnbpcacnbfbjkaaTotals.lean).
  GIVEN WITH THE SEED: the statements are not yours to turn. If you find one false, say at which input.
  Laid BY PROGRAM, IN A SANDBOX (cutbox-rows.mjs): the forced cells as the released guide's own fill.sh prints them over the translation 3411464881d9ab07… (all of the seat's roots in one cut). By AI agents, Wed Nov 11 2026. No macro, syntax, notation, axiom, sorry.
-/
import Derived.Test.YtnbpcacnbfbjkaaChecked
import GoSem.Claim
import GoSem.ClaimJoined
import GoSem.ClaimMapViews
import Derived.JoinedTies
import Derived.KernelRfl
namespace Go.Proofs.Ytnbpcacnbfbjkaa
/- THE CELL 'sum', in the pinned program and in every row, IS THE sha256 OF THE DUMP (.gsa) THAT YtnbpcacnbfbjkaaProg.lean LOADS. Nothing in Lean hashes anything: it is a label: what it is worth is what the hold of that sum in a sandbox is worth. -/
noncomputable def Try.pinned : Pinned := { name := "ytnbpcacnbfbjkaa", sum := "3411464881d9ab077268f632399fdfcec103812cbf16e08813fe8522fef5094c", checked := Try.checked }
namespace Rows
def none {H : Type} : Left H := { results := [], args := [] }

/-- 'laws.FnExactHoleCount': WHATEVER THE INPUT: true; the input reads as it did. -/
def fnExactHoleCountSpec : ChangeSpec := { name := "fnExactHoleCount", fn := fun _ => fun
  | [d1, d2, d3] => { results := [.lit (.bool true)], args := [d1, d2, d3] }
  | _ => none }
def fnExactHoleCountRow : OpenClaim := { program := "ytnbpcacnbfbjkaa", sum := "3411464881d9ab077268f632399fdfcec103812cbf16e08813fe8522fef5094c", func := "loop.example/g00889/laws.FnExactHoleCount", spec := "fnExactHoleCount", unfollowed := true, recurses := true, apart := false }
def FnExactHoleCountSaid : Prop := fnExactHoleCountRow.holds Try.pinned (OpenSpec.ofChange fnExactHoleCountSpec)

/-- ITS FALSE NEIGHBOUR: 'it returns false'. Refute it at one input. -/
def fnExactHoleCountWrong : ChangeSpec := { name := "fnExactHoleCount", fn := fun _ => fun
  | [d1, d2, d3] => { results := [.lit (.bool false)], args := [d1, d2, d3] }
  | _ => none }
def FnExactHoleCountWrongFalsely : Prop := fnExactHoleCountRow.holds Try.pinned (OpenSpec.ofChange fnExactHoleCountWrong)

/-- 'laws.FnExactOutlines': WHATEVER THE INPUT: true; the input reads as it did. -/
def fnExactOutlinesSpec : ChangeSpec := { name := "fnExactOutlines", fn := fun _ => fun
  | [d1, d2, d3] => { results := [.lit (.bool true)], args := [d1, d2, d3] }
  | _ => none }
def fnExactOutlinesRow : OpenClaim := { program := "ytnbpcacnbfbjkaa", sum := "3411464881d9ab077268f632399fdfcec103812cbf16e08813fe8522fef5094c", func := "loop.example/g00889/laws.FnExactOutlines", spec := "fnExactOutlines", unfollowed := true, recurses := true, apart := false }
def FnExactOutlinesSaid : Prop := fnExactOutlinesRow.holds Try.pinned (OpenSpec.ofChange fnExactOutlinesSpec)

/-- ITS FALSE NEIGHBOUR: 'it returns false'. Refute it at one input. -/
def fnExactOutlinesWrong : ChangeSpec := { name := "fnExactOutlines", fn := fun _ => fun
  | [d1, d2, d3] => { results := [.lit (.bool false)], args := [d1, d2, d3] }
  | _ => none }
def FnExactOutlinesWrongFalsely : Prop := fnExactOutlinesRow.holds Try.pinned (OpenSpec.ofChange fnExactOutlinesWrong)

/- THE SECOND FORM. 'bulk': how many values and letters a reading holds, each counted each time it is reached (what is shared counts as often as it is met; a slice's spare places count too). A statement '..UptoSaid' is the law's where the arguments, and the package variables that the reading takes, are together of bulk at most 1048576: NARROWER than '..Said'. Prove '..Said' where nothing that the law and all that it calls make is longer than what came in: it says more and counts as full. Else prove '..UptoSaid'. A law counts once. -/
mutual
def uptoBulk {H : Type} : DataW H → Nat
  | .lit (.string bytes) => bytes.length + 1
  | .lit _ => 1
  | .nil => 1
  | .ptr d => uptoBulk d + 1
  | .slice elems spare => uptoBulkAll elems + uptoBulkAll spare + 1
  | .agg parts => uptoBulkAll parts + 1
  | .iface _ d => uptoBulk d + 1
  | .map entries => uptoBulkEntries entries + 1
  | .held _ => 1
def uptoBulkAll {H : Type} : List (DataW H) → Nat
  | [] => 0
  | d :: r => uptoBulk d + uptoBulkAll r
def uptoBulkEntries {H : Type} : List (Lit × DataW H) → Nat
  | [] => 0
  | x :: r => uptoBulkEntry x + uptoBulkEntries r
def uptoBulkEntry {H : Type} : Lit × DataW H → Nat
  | (.string bytes, d) => bytes.length + uptoBulk d + 1
  | (_, d) => uptoBulk d + 1
 end
def uptoSmall : (H : Type) → List (DataW H) → Bool := fun _ ds => decide (uptoBulkAll ds ≤ 1048576)
def OpenSpec.upto (s : _root_.Go.ChangeSpec) : _root_.Go.OpenSpec := { _root_.Go.OpenSpec.ofChange s with cond := some uptoSmall }

/-- 'laws.FnExactHoleCount', WHERE WHAT IT READS IS OF BULK AT MOST 1048576: true; the input reads as it did. -/
def fnExactHoleCountUptoRow : OpenClaim := { program := "ytnbpcacnbfbjkaa", sum := "3411464881d9ab077268f632399fdfcec103812cbf16e08813fe8522fef5094c", func := "loop.example/g00889/laws.FnExactHoleCount", spec := "fnExactHoleCount", unfollowed := true, recurses := true, apart := false, narrowed := true }
def FnExactHoleCountUptoSaid : Prop := fnExactHoleCountUptoRow.holds Try.pinned (OpenSpec.upto fnExactHoleCountSpec)

/-- 'laws.FnExactOutlines', WHERE WHAT IT READS IS OF BULK AT MOST 1048576: true; the input reads as it did. -/
def fnExactOutlinesUptoRow : OpenClaim := { program := "ytnbpcacnbfbjkaa", sum := "3411464881d9ab077268f632399fdfcec103812cbf16e08813fe8522fef5094c", func := "loop.example/g00889/laws.FnExactOutlines", spec := "fnExactOutlines", unfollowed := true, recurses := true, apart := false, narrowed := true }
def FnExactOutlinesUptoSaid : Prop := fnExactOutlinesUptoRow.holds Try.pinned (OpenSpec.upto fnExactOutlinesSpec)

end Rows
end Go.Proofs.Ytnbpcacnbfbjkaa
