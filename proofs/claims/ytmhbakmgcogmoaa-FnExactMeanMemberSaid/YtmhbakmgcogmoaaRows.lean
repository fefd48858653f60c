/-
  No cell of these rows narrows 'for every input' (looked for: loops, veiled, ifaces, maps, wideKeys, modest, calm, conditions, laid).
  DERIVED. THE GIVEN ROWS OF THIS SEAT. 12 by the template 'for every input the law returns true; each argument reads behind the call as it read before'; 0 by the template 'total and deterministic' (their statements: YtmhbakmgcogmoaaTotals.lean).
  GIVEN WITH THE SEED: the statements are not yours to turn. If you find one false, say at which input.
  Laid BY PROGRAM, IN A SANDBOX (cutbox-rows.mjs): the forced cells as the released guide's own fill.sh prints them over the translation 17b84233fa6016f1… (all of the seat's roots in one cut). By AI agents, Wed Nov 11 2026. No macro, syntax, notation, axiom, sorry.
-/
import Derived.Test.YtmhbakmgcogmoaaChecked
import GoSem.Claim
import GoSem.ClaimJoined
import GoSem.ClaimMapViews
import Derived.JoinedTies
import Derived.KernelRfl
namespace Go.Proofs.Ytmhbakmgcogmoaa
/- THE CELL 'sum', in the pinned program and in every row, IS THE sha256 OF THE DUMP (.gsa) THAT YtmhbakmgcogmoaaProg.lean LOADS. Nothing in Lean hashes anything: it is a label: what it is worth is what the hold of that sum in a sandbox is worth. -/
noncomputable def Try.pinned : Pinned := { name := "ytmhbakmgcogmoaa", sum := "17b84233fa6016f18be53d58799e95e1e831687f80cc8d2e716fc87ae7eed72e", checked := Try.checked }
namespace Rows
def none {H : Type} : Left H := { results := [], args := [] }

/-- 'laws.FnRegridded': WHATEVER THE INPUT: true; the input reads as it did. -/
def fnRegriddedSpec : ChangeSpec := { name := "fnRegridded", fn := fun _ => fun
  | [d1, d2, d3] => { results := [.lit (.bool true)], args := [d1, d2, d3] }
  | _ => none }
def fnRegriddedRow : OpenClaim := { program := "ytmhbakmgcogmoaa", sum := "17b84233fa6016f18be53d58799e95e1e831687f80cc8d2e716fc87ae7eed72e", func := "loop.example/g00889/laws.FnRegridded", spec := "fnRegridded", unfollowed := true, recurses := true, apart := false }
def FnRegriddedSaid : Prop := fnRegriddedRow.holds Try.pinned (OpenSpec.ofChange fnRegriddedSpec)

/-- ITS FALSE NEIGHBOUR: 'it returns false'. Refute it at one input. -/
def fnRegriddedWrong : ChangeSpec := { name := "fnRegridded", fn := fun _ => fun
  | [d1, d2, d3] => { results := [.lit (.bool false)], args := [d1, d2, d3] }
  | _ => none }
def FnRegriddedWrongFalsely : Prop := fnRegriddedRow.holds Try.pinned (OpenSpec.ofChange fnRegriddedWrong)

/-- 'laws.FnExactCountAtLeast': WHATEVER THE INPUT: true; the input reads as it did. -/
def fnExactCountAtLeastSpec : ChangeSpec := { name := "fnExactCountAtLeast", fn := fun _ => fun
  | [d1, d2] => { results := [.lit (.bool true)], args := [d1, d2] }
  | _ => none }
def fnExactCountAtLeastRow : OpenClaim := { program := "ytmhbakmgcogmoaa", sum := "17b84233fa6016f18be53d58799e95e1e831687f80cc8d2e716fc87ae7eed72e", func := "loop.example/g00889/laws.FnExactCountAtLeast", spec := "fnExactCountAtLeast", unfollowed := true, recurses := true, apart := false }
def FnExactCountAtLeastSaid : Prop := fnExactCountAtLeastRow.holds Try.pinned (OpenSpec.ofChange fnExactCountAtLeastSpec)

/-- ITS FALSE NEIGHBOUR: 'it returns false'. Refute it at one input. -/
def fnExactCountAtLeastWrong : ChangeSpec := { name := "fnExactCountAtLeast", fn := fun _ => fun
  | [d1, d2] => { results := [.lit (.bool false)], args := [d1, d2] }
  | _ => none }
def FnExactCountAtLeastWrongFalsely : Prop := fnExactCountAtLeastRow.holds Try.pinned (OpenSpec.ofChange fnExactCountAtLeastWrong)

/-- 'laws.FnExactSpreadField': WHATEVER THE INPUT: true; the input reads as it did. -/
def fnExactSpreadFieldSpec : ChangeSpec := { name := "fnExactSpreadField", fn := fun _ => fun
  | [d] => { results := [.lit (.bool true)], args := [d] }
  | _ => none }
def fnExactSpreadFieldRow : OpenClaim := { program := "ytmhbakmgcogmoaa", sum := "17b84233fa6016f18be53d58799e95e1e831687f80cc8d2e716fc87ae7eed72e", func := "loop.example/g00889/laws.FnExactSpreadField", spec := "fnExactSpreadField", unfollowed := true, recurses := true, apart := false }
def FnExactSpreadFieldSaid : Prop := fnExactSpreadFieldRow.holds Try.pinned (OpenSpec.ofChange fnExactSpreadFieldSpec)

/-- ITS FALSE NEIGHBOUR: 'it returns false'. Refute it at one input. -/
def fnExactSpreadFieldWrong : ChangeSpec := { name := "fnExactSpreadField", fn := fun _ => fun
  | [d] => { results := [.lit (.bool false)], args := [d] }
  | _ => none }
def FnExactSpreadFieldWrongFalsely : Prop := fnExactSpreadFieldRow.holds Try.pinned (OpenSpec.ofChange fnExactSpreadFieldWrong)

/-- 'laws.FnExactRepeatMaximum': WHATEVER THE INPUT: true; the input reads as it did. -/
def fnExactRepeatMaximumSpec : ChangeSpec := { name := "fnExactRepeatMaximum", fn := fun _ => fun
  | [d1, d2, d3] => { results := [.lit (.bool true)], args := [d1, d2, d3] }
  | _ => none }
def fnExactRepeatMaximumRow : OpenClaim := { program := "ytmhbakmgcogmoaa", sum := "17b84233fa6016f18be53d58799e95e1e831687f80cc8d2e716fc87ae7eed72e", func := "loop.example/g00889/laws.FnExactRepeatMaximum", spec := "fnExactRepeatMaximum", unfollowed := true, recurses := true, apart := false }
def FnExactRepeatMaximumSaid : Prop := fnExactRepeatMaximumRow.holds Try.pinned (OpenSpec.ofChange fnExactRepeatMaximumSpec)

/-- ITS FALSE NEIGHBOUR: 'it returns false'. Refute it at one input. -/
def fnExactRepeatMaximumWrong : ChangeSpec := { name := "fnExactRepeatMaximum", fn := fun _ => fun
  | [d1, d2, d3] => { results := [.lit (.bool false)], args := [d1, d2, d3] }
  | _ => none }
def FnExactRepeatMaximumWrongFalsely : Prop := fnExactRepeatMaximumRow.holds Try.pinned (OpenSpec.ofChange fnExactRepeatMaximumWrong)

/-- 'laws.FnExactMeanMember': WHATEVER THE INPUT: true; the input reads as it did. -/
def fnExactMeanMemberSpec : ChangeSpec := { name := "fnExactMeanMember", fn := fun _ => fun
  | [d] => { results := [.lit (.bool true)], args := [d] }
  | _ => none }
def fnExactMeanMemberRow : OpenClaim := { program := "ytmhbakmgcogmoaa", sum := "17b84233fa6016f18be53d58799e95e1e831687f80cc8d2e716fc87ae7eed72e", func := "loop.example/g00889/laws.FnExactMeanMember", spec := "fnExactMeanMember", unfollowed := true, recurses := true, apart := false }
def FnExactMeanMemberSaid : Prop := fnExactMeanMemberRow.holds Try.pinned (OpenSpec.ofChange fnExactMeanMemberSpec)

/-- ITS FALSE NEIGHBOUR: 'it returns false'. Refute it at one input. -/
def fnExactMeanMemberWrong : ChangeSpec := { name := "fnExactMeanMember", fn := fun _ => fun
  | [d] => { results := [.lit (.bool false)], args := [d] }
  | _ => none }
def FnExactMeanMemberWrongFalsely : Prop := fnExactMeanMemberRow.holds Try.pinned (OpenSpec.ofChange fnExactMeanMemberWrong)

/-- 'laws.FnExactRegridTotal': WHATEVER THE INPUT: true; the input reads as it did. -/
def fnExactRegridTotalSpec : ChangeSpec := { name := "fnExactRegridTotal", fn := fun _ => fun
  | [d1, d2, d3] => { results := [.lit (.bool true)], args := [d1, d2, d3] }
  | _ => none }
def fnExactRegridTotalRow : OpenClaim := { program := "ytmhbakmgcogmoaa", sum := "17b84233fa6016f18be53d58799e95e1e831687f80cc8d2e716fc87ae7eed72e", func := "loop.example/g00889/laws.FnExactRegridTotal", spec := "fnExactRegridTotal", unfollowed := true, recurses := true, apart := false }
def FnExactRegridTotalSaid : Prop := fnExactRegridTotalRow.holds Try.pinned (OpenSpec.ofChange fnExactRegridTotalSpec)

/-- ITS FALSE NEIGHBOUR: 'it returns false'. Refute it at one input. -/
def fnExactRegridTotalWrong : ChangeSpec := { name := "fnExactRegridTotal", fn := fun _ => fun
  | [d1, d2, d3] => { results := [.lit (.bool false)], args := [d1, d2, d3] }
  | _ => none }
def FnExactRegridTotalWrongFalsely : Prop := fnExactRegridTotalRow.holds Try.pinned (OpenSpec.ofChange fnExactRegridTotalWrong)

/-- 'laws.FnExactFillByMean': WHATEVER THE INPUT: true; the input reads as it did. -/
def fnExactFillByMeanSpec : ChangeSpec := { name := "fnExactFillByMean", fn := fun _ => fun
  | [d1, d2] => { results := [.lit (.bool true)], args := [d1, d2] }
  | _ => none }
def fnExactFillByMeanRow : OpenClaim := { program := "ytmhbakmgcogmoaa", sum := "17b84233fa6016f18be53d58799e95e1e831687f80cc8d2e716fc87ae7eed72e", func := "loop.example/g00889/laws.FnExactFillByMean", spec := "fnExactFillByMean", unfollowed := true, recurses := true, apart := false }
def FnExactFillByMeanSaid : Prop := fnExactFillByMeanRow.holds Try.pinned (OpenSpec.ofChange fnExactFillByMeanSpec)

/-- ITS FALSE NEIGHBOUR: 'it returns false'. Refute it at one input. -/
def fnExactFillByMeanWrong : ChangeSpec := { name := "fnExactFillByMean", fn := fun _ => fun
  | [d1, d2] => { results := [.lit (.bool false)], args := [d1, d2] }
  | _ => none }
def FnExactFillByMeanWrongFalsely : Prop := fnExactFillByMeanRow.holds Try.pinned (OpenSpec.ofChange fnExactFillByMeanWrong)

/-- 'laws.FnTallies': WHATEVER THE INPUT: true; the input reads as it did. -/
def fnTalliesSpec : ChangeSpec := { name := "fnTallies", fn := fun _ => fun
  | [d] => { results := [.lit (.bool true)], args := [d] }
  | _ => none }
def fnTalliesRow : OpenClaim := { program := "ytmhbakmgcogmoaa", sum := "17b84233fa6016f18be53d58799e95e1e831687f80cc8d2e716fc87ae7eed72e", func := "loop.example/g00889/laws.FnTallies", spec := "fnTallies", unfollowed := true, recurses := true, apart := false }
def FnTalliesSaid : Prop := fnTalliesRow.holds Try.pinned (OpenSpec.ofChange fnTalliesSpec)

/-- ITS FALSE NEIGHBOUR: 'it returns false'. Refute it at one input. -/
def fnTalliesWrong : ChangeSpec := { name := "fnTallies", fn := fun _ => fun
  | [d] => { results := [.lit (.bool false)], args := [d] }
  | _ => none }
def FnTalliesWrongFalsely : Prop := fnTalliesRow.holds Try.pinned (OpenSpec.ofChange fnTalliesWrong)

/-- 'laws.FnMembers': WHATEVER THE INPUT: true; the input reads as it did. -/
def fnMembersSpec : ChangeSpec := { name := "fnMembers", fn := fun _ => fun
  | [d] => { results := [.lit (.bool true)], args := [d] }
  | _ => none }
def fnMembersRow : OpenClaim := { program := "ytmhbakmgcogmoaa", sum := "17b84233fa6016f18be53d58799e95e1e831687f80cc8d2e716fc87ae7eed72e", func := "loop.example/g00889/laws.FnMembers", spec := "fnMembers", unfollowed := true, recurses := true, apart := false }
def FnMembersSaid : Prop := fnMembersRow.holds Try.pinned (OpenSpec.ofChange fnMembersSpec)

/-- ITS FALSE NEIGHBOUR: 'it returns false'. Refute it at one input. -/
def fnMembersWrong : ChangeSpec := { name := "fnMembers", fn := fun _ => fun
  | [d] => { results := [.lit (.bool false)], args := [d] }
  | _ => none }
def FnMembersWrongFalsely : Prop := fnMembersRow.holds Try.pinned (OpenSpec.ofChange fnMembersWrong)

/-- 'laws.FnExactHoleCount': WHATEVER THE INPUT: true; the input reads as it did. -/
def fnExactHoleCountSpec : ChangeSpec := { name := "fnExactHoleCount", fn := fun _ => fun
  | [d1, d2, d3] => { results := [.lit (.bool true)], args := [d1, d2, d3] }
  | _ => none }
def fnExactHoleCountRow : OpenClaim := { program := "ytmhbakmgcogmoaa", sum := "17b84233fa6016f18be53d58799e95e1e831687f80cc8d2e716fc87ae7eed72e", func := "loop.example/g00889/laws.FnExactHoleCount", spec := "fnExactHoleCount", unfollowed := true, recurses := true, apart := false }
def FnExactHoleCountSaid : Prop := fnExactHoleCountRow.holds Try.pinned (OpenSpec.ofChange fnExactHoleCountSpec)

/-- ITS FALSE NEIGHBOUR: 'it returns false'. Refute it at one input. -/
def fnExactHoleCountWrong : ChangeSpec := { name := "fnExactHoleCount", fn := fun _ => fun
  | [d1, d2, d3] => { results := [.lit (.bool false)], args := [d1, d2, d3] }
  | _ => none }
def FnExactHoleCountWrongFalsely : Prop := fnExactHoleCountRow.holds Try.pinned (OpenSpec.ofChange fnExactHoleCountWrong)

/-- 'laws.FnPeaks': WHATEVER THE INPUT: true; the input reads as it did. -/
def fnPeaksSpec : ChangeSpec := { name := "fnPeaks", fn := fun _ => fun
  | [d] => { results := [.lit (.bool true)], args := [d] }
  | _ => none }
def fnPeaksRow : OpenClaim := { program := "ytmhbakmgcogmoaa", sum := "17b84233fa6016f18be53d58799e95e1e831687f80cc8d2e716fc87ae7eed72e", func := "loop.example/g00889/laws.FnPeaks", spec := "fnPeaks", unfollowed := true, recurses := true, apart := false }
def FnPeaksSaid : Prop := fnPeaksRow.holds Try.pinned (OpenSpec.ofChange fnPeaksSpec)

/-- ITS FALSE NEIGHBOUR: 'it returns false'. Refute it at one input. -/
def fnPeaksWrong : ChangeSpec := { name := "fnPeaks", fn := fun _ => fun
  | [d] => { results := [.lit (.bool false)], args := [d] }
  | _ => none }
def FnPeaksWrongFalsely : Prop := fnPeaksRow.holds Try.pinned (OpenSpec.ofChange fnPeaksWrong)

/-- 'laws.FnRegrid': WHATEVER THE INPUT: true; the input reads as it did. -/
def fnRegridSpec : ChangeSpec := { name := "fnRegrid", fn := fun _ => fun
  | [d] => { results := [.lit (.bool true)], args := [d] }
  | _ => none }
def fnRegridRow : OpenClaim := { program := "ytmhbakmgcogmoaa", sum := "17b84233fa6016f18be53d58799e95e1e831687f80cc8d2e716fc87ae7eed72e", func := "loop.example/g00889/laws.FnRegrid", spec := "fnRegrid", unfollowed := true, recurses := true, apart := false }
def FnRegridSaid : Prop := fnRegridRow.holds Try.pinned (OpenSpec.ofChange fnRegridSpec)

/-- ITS FALSE NEIGHBOUR: 'it returns false'. Refute it at one input. -/
def fnRegridWrong : ChangeSpec := { name := "fnRegrid", fn := fun _ => fun
  | [d] => { results := [.lit (.bool false)], args := [d] }
  | _ => none }
def FnRegridWrongFalsely : Prop := fnRegridRow.holds Try.pinned (OpenSpec.ofChange fnRegridWrong)

/- THE SECOND FORM. 'bulk': how many values and letters a reading holds, each counted each time it is reached (what is shared counts as often as it is met; a slice's spare places count too). A statement '..UptoSaid' is the law's where the arguments, and the package variables that the reading takes, are together of bulk at most 1048576: NARROWER than '..Said'. Prove '..Said' where nothing that the law and all that it calls make is longer than what came in: it says more and counts as full. Else prove '..UptoSaid'. A law counts once. -/
mutual
def uptoBulk {H : Type} : DataW H → Nat
  | .lit (.string bytes) => bytes.length + 1
  | .lit _ => 1
  | .nil => 1
  | .ptr d => uptoBulk d + 1
  | .slice elems spare => uptoBulkAll elems + uptoBulkAll spare + 1
  | .agg parts => uptoBulkAll parts + 1
  | .iface _ d => uptoBulk d + 1
  | .map entries => uptoBulkEntries entries + 1
  | .held _ => 1
def uptoBulkAll {H : Type} : List (DataW H) → Nat
  | [] => 0
  | d :: r => uptoBulk d + uptoBulkAll r
def uptoBulkEntries {H : Type} : List (Lit × DataW H) → Nat
  | [] => 0
  | x :: r => uptoBulkEntry x + uptoBulkEntries r
def uptoBulkEntry {H : Type} : Lit × DataW H → Nat
  | (.string bytes, d) => bytes.length + uptoBulk d + 1
  | (_, d) => uptoBulk d + 1
 end
def uptoSmall : (H : Type) → List (DataW H) → Bool := fun _ ds => decide (uptoBulkAll ds ≤ 1048576)
def OpenSpec.upto (s : _root_.Go.ChangeSpec) : _root_.Go.OpenSpec := { _root_.Go.OpenSpec.ofChange s with cond := some uptoSmall }

/-- 'laws.FnRegridded', WHERE WHAT IT READS IS OF BULK AT MOST 1048576: true; the input reads as it did. -/
def fnRegriddedUptoRow : OpenClaim := { program := "ytmhbakmgcogmoaa", sum := "17b84233fa6016f18be53d58799e95e1e831687f80cc8d2e716fc87ae7eed72e", func := "loop.example/g00889/laws.FnRegridded", spec := "fnRegridded", unfollowed := true, recurses := true, apart := false, narrowed := true }
def FnRegriddedUptoSaid : Prop := fnRegriddedUptoRow.holds Try.pinned (OpenSpec.upto fnRegriddedSpec)

/-- 'laws.FnExactCountAtLeast', WHERE WHAT IT READS IS OF BULK AT MOST 1048576: true; the input reads as it did. -/
def fnExactCountAtLeastUptoRow : OpenClaim := { program := "ytmhbakmgcogmoaa", sum := "17b84233fa6016f18be53d58799e95e1e831687f80cc8d2e716fc87ae7eed72e", func := "loop.example/g00889/laws.FnExactCountAtLeast", spec := "fnExactCountAtLeast", unfollowed := true, recurses := true, apart := false, narrowed := true }
def FnExactCountAtLeastUptoSaid : Prop := fnExactCountAtLeastUptoRow.holds Try.pinned (OpenSpec.upto fnExactCountAtLeastSpec)

/-- 'laws.FnExactSpreadField', WHERE WHAT IT READS IS OF BULK AT MOST 1048576: true; the input reads as it did. -/
def fnExactSpreadFieldUptoRow : OpenClaim := { program := "ytmhbakmgcogmoaa", sum := "17b84233fa6016f18be53d58799e95e1e831687f80cc8d2e716fc87ae7eed72e", func := "loop.example/g00889/laws.FnExactSpreadField", spec := "fnExactSpreadField", unfollowed := true, recurses := true, apart := false, narrowed := true }
def FnExactSpreadFieldUptoSaid : Prop := fnExactSpreadFieldUptoRow.holds Try.pinned (OpenSpec.upto fnExactSpreadFieldSpec)

/-- 'laws.FnExactRepeatMaximum', WHERE WHAT IT READS IS OF BULK AT MOST 1048576: true; the input reads as it did. -/
def fnExactRepeatMaximumUptoRow : OpenClaim := { program := "ytmhbakmgcogmoaa", sum := "17b84233fa6016f18be53d58799e95e1e831687f80cc8d2e716fc87ae7eed72e", func := "loop.example/g00889/laws.FnExactRepeatMaximum", spec := "fnExactRepeatMaximum", unfollowed := true, recurses := true, apart := false, narrowed := true }
def FnExactRepeatMaximumUptoSaid : Prop := fnExactRepeatMaximumUptoRow.holds Try.pinned (OpenSpec.upto fnExactRepeatMaximumSpec)

/-- 'laws.FnExactMeanMember', WHERE WHAT IT READS IS OF BULK AT MOST 1048576: true; the input reads as it did. -/
def fnExactMeanMemberUptoRow : OpenClaim := { program := "ytmhbakmgcogmoaa", sum := "17b84233fa6016f18be53d58799e95e1e831687f80cc8d2e716fc87ae7eed72e", func := "loop.example/g00889/laws.FnExactMeanMember", spec := "fnExactMeanMember", unfollowed := true, recurses := true, apart := false, narrowed := true }
def FnExactMeanMemberUptoSaid : Prop := fnExactMeanMemberUptoRow.holds Try.pinned (OpenSpec.upto fnExactMeanMemberSpec)

/-- 'laws.FnExactRegridTotal', WHERE WHAT IT READS IS OF BULK AT MOST 1048576: true; the input reads as it did. -/
def fnExactRegridTotalUptoRow : OpenClaim := { program := "ytmhbakmgcogmoaa", sum := "17b84233fa6016f18be53d58799e95e1e831687f80cc8d2e716fc87ae7eed72e", func := "loop.example/g00889/laws.FnExactRegridTotal", spec := "fnExactRegridTotal", unfollowed := true, recurses := true, apart := false, narrowed := true }
def FnExactRegridTotalUptoSaid : Prop := fnExactRegridTotalUptoRow.holds Try.pinned (OpenSpec.upto fnExactRegridTotalSpec)

/-- 'laws.FnExactFillByMean', WHERE WHAT IT READS IS OF BULK AT MOST 1048576: true; the input reads as it did. -/
def fnExactFillByMeanUptoRow : OpenClaim := { program := "ytmhbakmgcogmoaa", sum := "17b84233fa6016f18be53d58799e95e1e831687f80cc8d2e716fc87ae7eed72e", func := "loop.example/g00889/laws.FnExactFillByMean", spec := "fnExactFillByMean", unfollowed := true, recurses := true, apart := false, narrowed := true }
def FnExactFillByMeanUptoSaid : Prop := fnExactFillByMeanUptoRow.holds Try.pinned (OpenSpec.upto fnExactFillByMeanSpec)

/-- 'laws.FnTallies', WHERE WHAT IT READS IS OF BULK AT MOST 1048576: true; the input reads as it did. -/
def fnTalliesUptoRow : OpenClaim := { program := "ytmhbakmgcogmoaa", sum := "17b84233fa6016f18be53d58799e95e1e831687f80cc8d2e716fc87ae7eed72e", func := "loop.example/g00889/laws.FnTallies", spec := "fnTallies", unfollowed := true, recurses := true, apart := false, narrowed := true }
def FnTalliesUptoSaid : Prop := fnTalliesUptoRow.holds Try.pinned (OpenSpec.upto fnTalliesSpec)

/-- 'laws.FnMembers', WHERE WHAT IT READS IS OF BULK AT MOST 1048576: true; the input reads as it did. -/
def fnMembersUptoRow : OpenClaim := { program := "ytmhbakmgcogmoaa", sum := "17b84233fa6016f18be53d58799e95e1e831687f80cc8d2e716fc87ae7eed72e", func := "loop.example/g00889/laws.FnMembers", spec := "fnMembers", unfollowed := true, recurses := true, apart := false, narrowed := true }
def FnMembersUptoSaid : Prop := fnMembersUptoRow.holds Try.pinned (OpenSpec.upto fnMembersSpec)

/-- 'laws.FnExactHoleCount', WHERE WHAT IT READS IS OF BULK AT MOST 1048576: true; the input reads as it did. -/
def fnExactHoleCountUptoRow : OpenClaim := { program := "ytmhbakmgcogmoaa", sum := "17b84233fa6016f18be53d58799e95e1e831687f80cc8d2e716fc87ae7eed72e", func := "loop.example/g00889/laws.FnExactHoleCount", spec := "fnExactHoleCount", unfollowed := true, recurses := true, apart := false, narrowed := true }
def FnExactHoleCountUptoSaid : Prop := fnExactHoleCountUptoRow.holds Try.pinned (OpenSpec.upto fnExactHoleCountSpec)

/-- 'laws.FnPeaks', WHERE WHAT IT READS IS OF BULK AT MOST 1048576: true; the input reads as it did. -/
def fnPeaksUptoRow : OpenClaim := { program := "ytmhbakmgcogmoaa", sum := "17b84233fa6016f18be53d58799e95e1e831687f80cc8d2e716fc87ae7eed72e", func := "loop.example/g00889/laws.FnPeaks", spec := "fnPeaks", unfollowed := true, recurses := true, apart := false, narrowed := true }
def FnPeaksUptoSaid : Prop := fnPeaksUptoRow.holds Try.pinned (OpenSpec.upto fnPeaksSpec)

/-- 'laws.FnRegrid', WHERE WHAT IT READS IS OF BULK AT MOST 1048576: true; the input reads as it did. -/
def fnRegridUptoRow : OpenClaim := { program := "ytmhbakmgcogmoaa", sum := "17b84233fa6016f18be53d58799e95e1e831687f80cc8d2e716fc87ae7eed72e", func := "loop.example/g00889/laws.FnRegrid", spec := "fnRegrid", unfollowed := true, recurses := true, apart := false, narrowed := true }
def FnRegridUptoSaid : Prop := fnRegridUptoRow.holds Try.pinned (OpenSpec.upto fnRegridSpec)

end Rows
end Go.Proofs.Ytmhbakmgcogmoaa
