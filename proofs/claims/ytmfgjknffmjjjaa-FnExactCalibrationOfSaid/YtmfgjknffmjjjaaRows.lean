/-
  No cell of these rows narrows 'for every input' (looked for: loops, veiled, ifaces, maps, wideKeys, modest, calm, conditions, laid).
  DERIVED. THE GIVEN ROWS OF THIS SEAT. 12 by the template 'for every input the law returns true; each argument reads behind the call as it read before'; 0 by the template 'total and deterministic' (their statements: YtmfgjknffmjjjaaTotals.lean).
  GIVEN WITH THE SEED: the statements are not yours to turn. If you find one false, say at which input.
  Laid BY PROGRAM, IN A SANDBOX (cutbox-rows.mjs): the forced cells as the released guide's own fill.sh prints them over the translation 8338acb0be8de1cc… (all of the seat's roots in one cut). By AI agents, Wed Nov 11 2026. No macro, syntax, notation, axiom, sorry.
-/
import Derived.Test.YtmfgjknffmjjjaaChecked
import GoSem.Claim
import GoSem.ClaimJoined
import GoSem.ClaimMapViews
import Derived.JoinedTies
import Derived.KernelRfl
namespace Go.Proofs.Ytmfgjknffmjjjaa
/- THE CELL 'sum', in the pinned program and in every row, IS THE sha256 OF THE DUMP (.gsa) THAT YtmfgjknffmjjjaaProg.lean LOADS. Nothing in Lean hashes anything: it is a label: what it is worth is what the hold of that sum in a sandbox is worth. -/
noncomputable def Try.pinned : Pinned := { name := "ytmfgjknffmjjjaa", sum := "8338acb0be8de1cc70a8213ee040bdb6f1db8c067ad7cb6014eb2651e132e238", checked := Try.checked }
namespace Rows
def none {H : Type} : Left H := { results := [], args := [] }

/-- 'laws.FnExactChanceAt': WHATEVER THE INPUT: true; the input reads as it did. -/
def fnExactChanceAtSpec : ChangeSpec := { name := "fnExactChanceAt", fn := fun _ => fun
  | [d1, d2, d3, d4] => { results := [.lit (.bool true)], args := [d1, d2, d3, d4] }
  | _ => none }
def fnExactChanceAtRow : OpenClaim := { program := "ytmfgjknffmjjjaa", sum := "8338acb0be8de1cc70a8213ee040bdb6f1db8c067ad7cb6014eb2651e132e238", func := "loop.example/g00889/laws.FnExactChanceAt", spec := "fnExactChanceAt", unfollowed := true, recurses := true, apart := false }
def FnExactChanceAtSaid : Prop := fnExactChanceAtRow.holds Try.pinned (OpenSpec.ofChange fnExactChanceAtSpec)

/-- ITS FALSE NEIGHBOUR: 'it returns false'. Refute it at one input. -/
def fnExactChanceAtWrong : ChangeSpec := { name := "fnExactChanceAt", fn := fun _ => fun
  | [d1, d2, d3, d4] => { results := [.lit (.bool false)], args := [d1, d2, d3, d4] }
  | _ => none }
def FnExactChanceAtWrongFalsely : Prop := fnExactChanceAtRow.holds Try.pinned (OpenSpec.ofChange fnExactChanceAtWrong)

/-- 'laws.FnExactAgreeingCells': WHATEVER THE INPUT: true; the input reads as it did. -/
def fnExactAgreeingCellsSpec : ChangeSpec := { name := "fnExactAgreeingCells", fn := fun _ => fun
  | [d1, d2] => { results := [.lit (.bool true)], args := [d1, d2] }
  | _ => none }
def fnExactAgreeingCellsRow : OpenClaim := { program := "ytmfgjknffmjjjaa", sum := "8338acb0be8de1cc70a8213ee040bdb6f1db8c067ad7cb6014eb2651e132e238", func := "loop.example/g00889/laws.FnExactAgreeingCells", spec := "fnExactAgreeingCells", unfollowed := true, recurses := true, apart := false }
def FnExactAgreeingCellsSaid : Prop := fnExactAgreeingCellsRow.holds Try.pinned (OpenSpec.ofChange fnExactAgreeingCellsSpec)

/-- ITS FALSE NEIGHBOUR: 'it returns false'. Refute it at one input. -/
def fnExactAgreeingCellsWrong : ChangeSpec := { name := "fnExactAgreeingCells", fn := fun _ => fun
  | [d1, d2] => { results := [.lit (.bool false)], args := [d1, d2] }
  | _ => none }
def FnExactAgreeingCellsWrongFalsely : Prop := fnExactAgreeingCellsRow.holds Try.pinned (OpenSpec.ofChange fnExactAgreeingCellsWrong)

/-- 'laws.FnExactWithoutMember': WHATEVER THE INPUT: true; the input reads as it did. -/
def fnExactWithoutMemberSpec : ChangeSpec := { name := "fnExactWithoutMember", fn := fun _ => fun
  | [d1, d2] => { results := [.lit (.bool true)], args := [d1, d2] }
  | _ => none }
def fnExactWithoutMemberRow : OpenClaim := { program := "ytmfgjknffmjjjaa", sum := "8338acb0be8de1cc70a8213ee040bdb6f1db8c067ad7cb6014eb2651e132e238", func := "loop.example/g00889/laws.FnExactWithoutMember", spec := "fnExactWithoutMember", unfollowed := true, recurses := true, apart := false }
def FnExactWithoutMemberSaid : Prop := fnExactWithoutMemberRow.holds Try.pinned (OpenSpec.ofChange fnExactWithoutMemberSpec)

/-- ITS FALSE NEIGHBOUR: 'it returns false'. Refute it at one input. -/
def fnExactWithoutMemberWrong : ChangeSpec := { name := "fnExactWithoutMember", fn := fun _ => fun
  | [d1, d2] => { results := [.lit (.bool false)], args := [d1, d2] }
  | _ => none }
def FnExactWithoutMemberWrongFalsely : Prop := fnExactWithoutMemberRow.holds Try.pinned (OpenSpec.ofChange fnExactWithoutMemberWrong)

/-- 'laws.FnExactMoveField': WHATEVER THE INPUT: true; the input reads as it did. -/
def fnExactMoveFieldSpec : ChangeSpec := { name := "fnExactMoveField", fn := fun _ => fun
  | [d1, d2] => { results := [.lit (.bool true)], args := [d1, d2] }
  | _ => none }
def fnExactMoveFieldRow : OpenClaim := { program := "ytmfgjknffmjjjaa", sum := "8338acb0be8de1cc70a8213ee040bdb6f1db8c067ad7cb6014eb2651e132e238", func := "loop.example/g00889/laws.FnExactMoveField", spec := "fnExactMoveField", unfollowed := true, recurses := true, apart := false }
def FnExactMoveFieldSaid : Prop := fnExactMoveFieldRow.holds Try.pinned (OpenSpec.ofChange fnExactMoveFieldSpec)

/-- ITS FALSE NEIGHBOUR: 'it returns false'. Refute it at one input. -/
def fnExactMoveFieldWrong : ChangeSpec := { name := "fnExactMoveField", fn := fun _ => fun
  | [d1, d2] => { results := [.lit (.bool false)], args := [d1, d2] }
  | _ => none }
def FnExactMoveFieldWrongFalsely : Prop := fnExactMoveFieldRow.holds Try.pinned (OpenSpec.ofChange fnExactMoveFieldWrong)

/-- 'laws.FnExactGroupsOf': WHATEVER THE INPUT: true; the input reads as it did. -/
def fnExactGroupsOfSpec : ChangeSpec := { name := "fnExactGroupsOf", fn := fun _ => fun
  | [d] => { results := [.lit (.bool true)], args := [d] }
  | _ => none }
def fnExactGroupsOfRow : OpenClaim := { program := "ytmfgjknffmjjjaa", sum := "8338acb0be8de1cc70a8213ee040bdb6f1db8c067ad7cb6014eb2651e132e238", func := "loop.example/g00889/laws.FnExactGroupsOf", spec := "fnExactGroupsOf", apart := false }
def FnExactGroupsOfSaid : Prop := fnExactGroupsOfRow.holds Try.pinned (OpenSpec.ofChange fnExactGroupsOfSpec)

/-- ITS FALSE NEIGHBOUR: 'it returns false'. Refute it at one input. -/
def fnExactGroupsOfWrong : ChangeSpec := { name := "fnExactGroupsOf", fn := fun _ => fun
  | [d] => { results := [.lit (.bool false)], args := [d] }
  | _ => none }
def FnExactGroupsOfWrongFalsely : Prop := fnExactGroupsOfRow.holds Try.pinned (OpenSpec.ofChange fnExactGroupsOfWrong)

/-- 'laws.FnExactMatchOf': WHATEVER THE INPUT: true; the input reads as it did. -/
def fnExactMatchOfSpec : ChangeSpec := { name := "fnExactMatchOf", fn := fun _ => fun
  | [d1, d2, d3] => { results := [.lit (.bool true)], args := [d1, d2, d3] }
  | _ => none }
def fnExactMatchOfRow : OpenClaim := { program := "ytmfgjknffmjjjaa", sum := "8338acb0be8de1cc70a8213ee040bdb6f1db8c067ad7cb6014eb2651e132e238", func := "loop.example/g00889/laws.FnExactMatchOf", spec := "fnExactMatchOf", unfollowed := true, recurses := true, apart := false }
def FnExactMatchOfSaid : Prop := fnExactMatchOfRow.holds Try.pinned (OpenSpec.ofChange fnExactMatchOfSpec)

/-- ITS FALSE NEIGHBOUR: 'it returns false'. Refute it at one input. -/
def fnExactMatchOfWrong : ChangeSpec := { name := "fnExactMatchOf", fn := fun _ => fun
  | [d1, d2, d3] => { results := [.lit (.bool false)], args := [d1, d2, d3] }
  | _ => none }
def FnExactMatchOfWrongFalsely : Prop := fnExactMatchOfRow.holds Try.pinned (OpenSpec.ofChange fnExactMatchOfWrong)

/-- 'laws.FnExactCalibrationOf': WHATEVER THE INPUT: true; the input reads as it did. -/
def fnExactCalibrationOfSpec : ChangeSpec := { name := "fnExactCalibrationOf", fn := fun _ => fun
  | [d] => { results := [.lit (.bool true)], args := [d] }
  | _ => none }
def fnExactCalibrationOfRow : OpenClaim := { program := "ytmfgjknffmjjjaa", sum := "8338acb0be8de1cc70a8213ee040bdb6f1db8c067ad7cb6014eb2651e132e238", func := "loop.example/g00889/laws.FnExactCalibrationOf", spec := "fnExactCalibrationOf", apart := false }
def FnExactCalibrationOfSaid : Prop := fnExactCalibrationOfRow.holds Try.pinned (OpenSpec.ofChange fnExactCalibrationOfSpec)

/-- ITS FALSE NEIGHBOUR: 'it returns false'. Refute it at one input. -/
def fnExactCalibrationOfWrong : ChangeSpec := { name := "fnExactCalibrationOf", fn := fun _ => fun
  | [d] => { results := [.lit (.bool false)], args := [d] }
  | _ => none }
def FnExactCalibrationOfWrongFalsely : Prop := fnExactCalibrationOfRow.holds Try.pinned (OpenSpec.ofChange fnExactCalibrationOfWrong)

/-- 'laws.FnExactGrowthOf': WHATEVER THE INPUT: true; the input reads as it did. -/
def fnExactGrowthOfSpec : ChangeSpec := { name := "fnExactGrowthOf", fn := fun _ => fun
  | [d1, d2, d3] => { results := [.lit (.bool true)], args := [d1, d2, d3] }
  | _ => none }
def fnExactGrowthOfRow : OpenClaim := { program := "ytmfgjknffmjjjaa", sum := "8338acb0be8de1cc70a8213ee040bdb6f1db8c067ad7cb6014eb2651e132e238", func := "loop.example/g00889/laws.FnExactGrowthOf", spec := "fnExactGrowthOf", unfollowed := true, recurses := true, apart := false }
def FnExactGrowthOfSaid : Prop := fnExactGrowthOfRow.holds Try.pinned (OpenSpec.ofChange fnExactGrowthOfSpec)

/-- ITS FALSE NEIGHBOUR: 'it returns false'. Refute it at one input. -/
def fnExactGrowthOfWrong : ChangeSpec := { name := "fnExactGrowthOf", fn := fun _ => fun
  | [d1, d2, d3] => { results := [.lit (.bool false)], args := [d1, d2, d3] }
  | _ => none }
def FnExactGrowthOfWrongFalsely : Prop := fnExactGrowthOfRow.holds Try.pinned (OpenSpec.ofChange fnExactGrowthOfWrong)

/-- 'laws.FnExactClassFor': WHATEVER THE INPUT: true; the input reads as it did. -/
def fnExactClassForSpec : ChangeSpec := { name := "fnExactClassFor", fn := fun _ => fun
  | [d1, d2] => { results := [.lit (.bool true)], args := [d1, d2] }
  | _ => none }
def fnExactClassForRow : OpenClaim := { program := "ytmfgjknffmjjjaa", sum := "8338acb0be8de1cc70a8213ee040bdb6f1db8c067ad7cb6014eb2651e132e238", func := "loop.example/g00889/laws.FnExactClassFor", spec := "fnExactClassFor", unfollowed := true, recurses := true, apart := false }
def FnExactClassForSaid : Prop := fnExactClassForRow.holds Try.pinned (OpenSpec.ofChange fnExactClassForSpec)

/-- ITS FALSE NEIGHBOUR: 'it returns false'. Refute it at one input. -/
def fnExactClassForWrong : ChangeSpec := { name := "fnExactClassFor", fn := fun _ => fun
  | [d1, d2] => { results := [.lit (.bool false)], args := [d1, d2] }
  | _ => none }
def FnExactClassForWrongFalsely : Prop := fnExactClassForRow.holds Try.pinned (OpenSpec.ofChange fnExactClassForWrong)

/-- 'laws.FnNearest': WHATEVER THE INPUT: true; the input reads as it did. -/
def fnNearestSpec : ChangeSpec := { name := "fnNearest", fn := fun _ => fun
  | [d] => { results := [.lit (.bool true)], args := [d] }
  | _ => none }
def fnNearestRow : OpenClaim := { program := "ytmfgjknffmjjjaa", sum := "8338acb0be8de1cc70a8213ee040bdb6f1db8c067ad7cb6014eb2651e132e238", func := "loop.example/g00889/laws.FnNearest", spec := "fnNearest", unfollowed := true, recurses := true, apart := false }
def FnNearestSaid : Prop := fnNearestRow.holds Try.pinned (OpenSpec.ofChange fnNearestSpec)

/-- ITS FALSE NEIGHBOUR: 'it returns false'. Refute it at one input. -/
def fnNearestWrong : ChangeSpec := { name := "fnNearest", fn := fun _ => fun
  | [d] => { results := [.lit (.bool false)], args := [d] }
  | _ => none }
def FnNearestWrongFalsely : Prop := fnNearestRow.holds Try.pinned (OpenSpec.ofChange fnNearestWrong)

/-- 'laws.FnExactCoarsenSum': WHATEVER THE INPUT: true; the input reads as it did. -/
def fnExactCoarsenSumSpec : ChangeSpec := { name := "fnExactCoarsenSum", fn := fun _ => fun
  | [d1, d2, d3] => { results := [.lit (.bool true)], args := [d1, d2, d3] }
  | _ => none }
def fnExactCoarsenSumRow : OpenClaim := { program := "ytmfgjknffmjjjaa", sum := "8338acb0be8de1cc70a8213ee040bdb6f1db8c067ad7cb6014eb2651e132e238", func := "loop.example/g00889/laws.FnExactCoarsenSum", spec := "fnExactCoarsenSum", unfollowed := true, recurses := true, apart := false }
def FnExactCoarsenSumSaid : Prop := fnExactCoarsenSumRow.holds Try.pinned (OpenSpec.ofChange fnExactCoarsenSumSpec)

/-- ITS FALSE NEIGHBOUR: 'it returns false'. Refute it at one input. -/
def fnExactCoarsenSumWrong : ChangeSpec := { name := "fnExactCoarsenSum", fn := fun _ => fun
  | [d1, d2, d3] => { results := [.lit (.bool false)], args := [d1, d2, d3] }
  | _ => none }
def FnExactCoarsenSumWrongFalsely : Prop := fnExactCoarsenSumRow.holds Try.pinned (OpenSpec.ofChange fnExactCoarsenSumWrong)

/-- 'laws.FnExactCoarsenMean': WHATEVER THE INPUT: true; the input reads as it did. -/
def fnExactCoarsenMeanSpec : ChangeSpec := { name := "fnExactCoarsenMean", fn := fun _ => fun
  | [d1, d2, d3] => { results := [.lit (.bool true)], args := [d1, d2, d3] }
  | _ => none }
def fnExactCoarsenMeanRow : OpenClaim := { program := "ytmfgjknffmjjjaa", sum := "8338acb0be8de1cc70a8213ee040bdb6f1db8c067ad7cb6014eb2651e132e238", func := "loop.example/g00889/laws.FnExactCoarsenMean", spec := "fnExactCoarsenMean", unfollowed := true, recurses := true, apart := false }
def FnExactCoarsenMeanSaid : Prop := fnExactCoarsenMeanRow.holds Try.pinned (OpenSpec.ofChange fnExactCoarsenMeanSpec)

/-- ITS FALSE NEIGHBOUR: 'it returns false'. Refute it at one input. -/
def fnExactCoarsenMeanWrong : ChangeSpec := { name := "fnExactCoarsenMean", fn := fun _ => fun
  | [d1, d2, d3] => { results := [.lit (.bool false)], args := [d1, d2, d3] }
  | _ => none }
def FnExactCoarsenMeanWrongFalsely : Prop := fnExactCoarsenMeanRow.holds Try.pinned (OpenSpec.ofChange fnExactCoarsenMeanWrong)

/- THE SECOND FORM. 'bulk': how many values and letters a reading holds, each counted each time it is reached (what is shared counts as often as it is met; a slice's spare places count too). A statement '..UptoSaid' is the law's where the arguments, and the package variables that the reading takes, are together of bulk at most 1048576: NARROWER than '..Said'. Prove '..Said' where nothing that the law and all that it calls make is longer than what came in: it says more and counts as full. Else prove '..UptoSaid'. A law counts once. -/
mutual
def uptoBulk {H : Type} : DataW H → Nat
  | .lit (.string bytes) => bytes.length + 1
  | .lit _ => 1
  | .nil => 1
  | .ptr d => uptoBulk d + 1
  | .slice elems spare => uptoBulkAll elems + uptoBulkAll spare + 1
  | .agg parts => uptoBulkAll parts + 1
  | .iface _ d => uptoBulk d + 1
  | .map entries => uptoBulkEntries entries + 1
  | .held _ => 1
def uptoBulkAll {H : Type} : List (DataW H) → Nat
  | [] => 0
  | d :: r => uptoBulk d + uptoBulkAll r
def uptoBulkEntries {H : Type} : List (Lit × DataW H) → Nat
  | [] => 0
  | x :: r => uptoBulkEntry x + uptoBulkEntries r
def uptoBulkEntry {H : Type} : Lit × DataW H → Nat
  | (.string bytes, d) => bytes.length + uptoBulk d + 1
  | (_, d) => uptoBulk d + 1
 end
def uptoSmall : (H : Type) → List (DataW H) → Bool := fun _ ds => decide (uptoBulkAll ds ≤ 1048576)
def OpenSpec.upto (s : _root_.Go.ChangeSpec) : _root_.Go.OpenSpec := { _root_.Go.OpenSpec.ofChange s with cond := some uptoSmall }

/-- 'laws.FnExactChanceAt', WHERE WHAT IT READS IS OF BULK AT MOST 1048576: true; the input reads as it did. -/
def fnExactChanceAtUptoRow : OpenClaim := { program := "ytmfgjknffmjjjaa", sum := "8338acb0be8de1cc70a8213ee040bdb6f1db8c067ad7cb6014eb2651e132e238", func := "loop.example/g00889/laws.FnExactChanceAt", spec := "fnExactChanceAt", unfollowed := true, recurses := true, apart := false, narrowed := true }
def FnExactChanceAtUptoSaid : Prop := fnExactChanceAtUptoRow.holds Try.pinned (OpenSpec.upto fnExactChanceAtSpec)

/-- 'laws.FnExactAgreeingCells', WHERE WHAT IT READS IS OF BULK AT MOST 1048576: true; the input reads as it did. -/
def fnExactAgreeingCellsUptoRow : OpenClaim := { program := "ytmfgjknffmjjjaa", sum := "8338acb0be8de1cc70a8213ee040bdb6f1db8c067ad7cb6014eb2651e132e238", func := "loop.example/g00889/laws.FnExactAgreeingCells", spec := "fnExactAgreeingCells", unfollowed := true, recurses := true, apart := false, narrowed := true }
def FnExactAgreeingCellsUptoSaid : Prop := fnExactAgreeingCellsUptoRow.holds Try.pinned (OpenSpec.upto fnExactAgreeingCellsSpec)

/-- 'laws.FnExactWithoutMember', WHERE WHAT IT READS IS OF BULK AT MOST 1048576: true; the input reads as it did. -/
def fnExactWithoutMemberUptoRow : OpenClaim := { program := "ytmfgjknffmjjjaa", sum := "8338acb0be8de1cc70a8213ee040bdb6f1db8c067ad7cb6014eb2651e132e238", func := "loop.example/g00889/laws.FnExactWithoutMember", spec := "fnExactWithoutMember", unfollowed := true, recurses := true, apart := false, narrowed := true }
def FnExactWithoutMemberUptoSaid : Prop := fnExactWithoutMemberUptoRow.holds Try.pinned (OpenSpec.upto fnExactWithoutMemberSpec)

/-- 'laws.FnExactMoveField', WHERE WHAT IT READS IS OF BULK AT MOST 1048576: true; the input reads as it did. -/
def fnExactMoveFieldUptoRow : OpenClaim := { program := "ytmfgjknffmjjjaa", sum := "8338acb0be8de1cc70a8213ee040bdb6f1db8c067ad7cb6014eb2651e132e238", func := "loop.example/g00889/laws.FnExactMoveField", spec := "fnExactMoveField", unfollowed := true, recurses := true, apart := false, narrowed := true }
def FnExactMoveFieldUptoSaid : Prop := fnExactMoveFieldUptoRow.holds Try.pinned (OpenSpec.upto fnExactMoveFieldSpec)

/-- 'laws.FnExactGroupsOf', WHERE WHAT IT READS IS OF BULK AT MOST 1048576: true; the input reads as it did. -/
def fnExactGroupsOfUptoRow : OpenClaim := { program := "ytmfgjknffmjjjaa", sum := "8338acb0be8de1cc70a8213ee040bdb6f1db8c067ad7cb6014eb2651e132e238", func := "loop.example/g00889/laws.FnExactGroupsOf", spec := "fnExactGroupsOf", apart := false, narrowed := true }
def FnExactGroupsOfUptoSaid : Prop := fnExactGroupsOfUptoRow.holds Try.pinned (OpenSpec.upto fnExactGroupsOfSpec)

/-- 'laws.FnExactMatchOf', WHERE WHAT IT READS IS OF BULK AT MOST 1048576: true; the input reads as it did. -/
def fnExactMatchOfUptoRow : OpenClaim := { program := "ytmfgjknffmjjjaa", sum := "8338acb0be8de1cc70a8213ee040bdb6f1db8c067ad7cb6014eb2651e132e238", func := "loop.example/g00889/laws.FnExactMatchOf", spec := "fnExactMatchOf", unfollowed := true, recurses := true, apart := false, narrowed := true }
def FnExactMatchOfUptoSaid : Prop := fnExactMatchOfUptoRow.holds Try.pinned (OpenSpec.upto fnExactMatchOfSpec)

/-- 'laws.FnExactCalibrationOf', WHERE WHAT IT READS IS OF BULK AT MOST 1048576: true; the input reads as it did. -/
def fnExactCalibrationOfUptoRow : OpenClaim := { program := "ytmfgjknffmjjjaa", sum := "8338acb0be8de1cc70a8213ee040bdb6f1db8c067ad7cb6014eb2651e132e238", func := "loop.example/g00889/laws.FnExactCalibrationOf", spec := "fnExactCalibrationOf", apart := false, narrowed := true }
def FnExactCalibrationOfUptoSaid : Prop := fnExactCalibrationOfUptoRow.holds Try.pinned (OpenSpec.upto fnExactCalibrationOfSpec)

/-- 'laws.FnExactGrowthOf', WHERE WHAT IT READS IS OF BULK AT MOST 1048576: true; the input reads as it did. -/
def fnExactGrowthOfUptoRow : OpenClaim := { program := "ytmfgjknffmjjjaa", sum := "8338acb0be8de1cc70a8213ee040bdb6f1db8c067ad7cb6014eb2651e132e238", func := "loop.example/g00889/laws.FnExactGrowthOf", spec := "fnExactGrowthOf", unfollowed := true, recurses := true, apart := false, narrowed := true }
def FnExactGrowthOfUptoSaid : Prop := fnExactGrowthOfUptoRow.holds Try.pinned (OpenSpec.upto fnExactGrowthOfSpec)

/-- 'laws.FnExactClassFor', WHERE WHAT IT READS IS OF BULK AT MOST 1048576: true; the input reads as it did. -/
def fnExactClassForUptoRow : OpenClaim := { program := "ytmfgjknffmjjjaa", sum := "8338acb0be8de1cc70a8213ee040bdb6f1db8c067ad7cb6014eb2651e132e238", func := "loop.example/g00889/laws.FnExactClassFor", spec := "fnExactClassFor", unfollowed := true, recurses := true, apart := false, narrowed := true }
def FnExactClassForUptoSaid : Prop := fnExactClassForUptoRow.holds Try.pinned (OpenSpec.upto fnExactClassForSpec)

/-- 'laws.FnNearest', WHERE WHAT IT READS IS OF BULK AT MOST 1048576: true; the input reads as it did. -/
def fnNearestUptoRow : OpenClaim := { program := "ytmfgjknffmjjjaa", sum := "8338acb0be8de1cc70a8213ee040bdb6f1db8c067ad7cb6014eb2651e132e238", func := "loop.example/g00889/laws.FnNearest", spec := "fnNearest", unfollowed := true, recurses := true, apart := false, narrowed := true }
def FnNearestUptoSaid : Prop := fnNearestUptoRow.holds Try.pinned (OpenSpec.upto fnNearestSpec)

/-- 'laws.FnExactCoarsenSum', WHERE WHAT IT READS IS OF BULK AT MOST 1048576: true; the input reads as it did. -/
def fnExactCoarsenSumUptoRow : OpenClaim := { program := "ytmfgjknffmjjjaa", sum := "8338acb0be8de1cc70a8213ee040bdb6f1db8c067ad7cb6014eb2651e132e238", func := "loop.example/g00889/laws.FnExactCoarsenSum", spec := "fnExactCoarsenSum", unfollowed := true, recurses := true, apart := false, narrowed := true }
def FnExactCoarsenSumUptoSaid : Prop := fnExactCoarsenSumUptoRow.holds Try.pinned (OpenSpec.upto fnExactCoarsenSumSpec)

/-- 'laws.FnExactCoarsenMean', WHERE WHAT IT READS IS OF BULK AT MOST 1048576: true; the input reads as it did. -/
def fnExactCoarsenMeanUptoRow : OpenClaim := { program := "ytmfgjknffmjjjaa", sum := "8338acb0be8de1cc70a8213ee040bdb6f1db8c067ad7cb6014eb2651e132e238", func := "loop.example/g00889/laws.FnExactCoarsenMean", spec := "fnExactCoarsenMean", unfollowed := true, recurses := true, apart := false, narrowed := true }
def FnExactCoarsenMeanUptoSaid : Prop := fnExactCoarsenMeanUptoRow.holds Try.pinned (OpenSpec.upto fnExactCoarsenMeanSpec)

end Rows
end Go.Proofs.Ytmfgjknffmjjjaa
