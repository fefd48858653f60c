/-
  No cell of these rows narrows 'for every input' (looked for: loops, veiled, ifaces, maps, wideKeys, modest, calm, conditions, laid).
  DERIVED. THE GIVEN ROWS OF THIS SEAT. 12 by the template 'for every input the law returns true; each argument reads behind the call as it read before'; 0 by the template 'total and deterministic' (their statements: YtfiijdiccjapiaaTotals.lean).
  GIVEN WITH THE SEED: the statements are not yours to turn. If you find one false, say at which input.
  Laid BY PROGRAM, IN A SANDBOX (cutbox-rows.mjs): the forced cells as the released guide's own fill.sh prints them over the translation 245c752870c6eb82… (all of the seat's roots in one cut). By AI agents, Wed Nov 11 2026. No macro, syntax, notation, axiom, sorry.
-/
import Derived.Test.YtfiijdiccjapiaaChecked
import GoSem.Claim
import GoSem.ClaimJoined
import GoSem.ClaimMapViews
import Derived.JoinedTies
import Derived.KernelRfl
namespace Go.Proofs.Ytfiijdiccjapiaa
/- THE CELL 'sum', in the pinned program and in every row, IS THE sha256 OF THE DUMP (.gsa) THAT YtfiijdiccjapiaaProg.lean LOADS. Nothing in Lean hashes anything: it is a label: what it is worth is what the hold of that sum in a sandbox is worth. -/
noncomputable def Try.pinned : Pinned := { name := "ytfiijdiccjapiaa", sum := "245c752870c6eb82b6ded02f7e8e9c3dac50c99e92a9e7757002ac82d5f209dc", checked := Try.checked }
namespace Rows
def none {H : Type} : Left H := { results := [], args := [] }

/-- 'laws.FnExactSplitValue': WHATEVER THE INPUT: true; the input reads as it did. -/
def fnExactSplitValueSpec : ChangeSpec := { name := "fnExactSplitValue", fn := fun _ => fun
  | [d1, d2] => { results := [.lit (.bool true)], args := [d1, d2] }
  | _ => none }
def fnExactSplitValueRow : OpenClaim := { program := "ytfiijdiccjapiaa", sum := "245c752870c6eb82b6ded02f7e8e9c3dac50c99e92a9e7757002ac82d5f209dc", func := "loop.example/g00889/laws.FnExactSplitValue", spec := "fnExactSplitValue", apart := false }
def FnExactSplitValueSaid : Prop := fnExactSplitValueRow.holds Try.pinned (OpenSpec.ofChange fnExactSplitValueSpec)

/-- ITS FALSE NEIGHBOUR: 'it returns false'. Refute it at one input. -/
def fnExactSplitValueWrong : ChangeSpec := { name := "fnExactSplitValue", fn := fun _ => fun
  | [d1, d2] => { results := [.lit (.bool false)], args := [d1, d2] }
  | _ => none }
def FnExactSplitValueWrongFalsely : Prop := fnExactSplitValueRow.holds Try.pinned (OpenSpec.ofChange fnExactSplitValueWrong)

/-- 'laws.FnExactSameTotal': WHATEVER THE INPUT: true; the input reads as it did. -/
def fnExactSameTotalSpec : ChangeSpec := { name := "fnExactSameTotal", fn := fun _ => fun
  | [d1, d2] => { results := [.lit (.bool true)], args := [d1, d2] }
  | _ => none }
def fnExactSameTotalRow : OpenClaim := { program := "ytfiijdiccjapiaa", sum := "245c752870c6eb82b6ded02f7e8e9c3dac50c99e92a9e7757002ac82d5f209dc", func := "loop.example/g00889/laws.FnExactSameTotal", spec := "fnExactSameTotal", unfollowed := true, recurses := true, apart := false }
def FnExactSameTotalSaid : Prop := fnExactSameTotalRow.holds Try.pinned (OpenSpec.ofChange fnExactSameTotalSpec)

/-- ITS FALSE NEIGHBOUR: 'it returns false'. Refute it at one input. -/
def fnExactSameTotalWrong : ChangeSpec := { name := "fnExactSameTotal", fn := fun _ => fun
  | [d1, d2] => { results := [.lit (.bool false)], args := [d1, d2] }
  | _ => none }
def FnExactSameTotalWrongFalsely : Prop := fnExactSameTotalRow.holds Try.pinned (OpenSpec.ofChange fnExactSameTotalWrong)

/-- 'laws.FnExactMotionError': WHATEVER THE INPUT: true; the input reads as it did. -/
def fnExactMotionErrorSpec : ChangeSpec := { name := "fnExactMotionError", fn := fun _ => fun
  | [d1, d2] => { results := [.lit (.bool true)], args := [d1, d2] }
  | _ => none }
def fnExactMotionErrorRow : OpenClaim := { program := "ytfiijdiccjapiaa", sum := "245c752870c6eb82b6ded02f7e8e9c3dac50c99e92a9e7757002ac82d5f209dc", func := "loop.example/g00889/laws.FnExactMotionError", spec := "fnExactMotionError", unfollowed := true, recurses := true, apart := false }
def FnExactMotionErrorSaid : Prop := fnExactMotionErrorRow.holds Try.pinned (OpenSpec.ofChange fnExactMotionErrorSpec)

/-- ITS FALSE NEIGHBOUR: 'it returns false'. Refute it at one input. -/
def fnExactMotionErrorWrong : ChangeSpec := { name := "fnExactMotionError", fn := fun _ => fun
  | [d1, d2] => { results := [.lit (.bool false)], args := [d1, d2] }
  | _ => none }
def FnExactMotionErrorWrongFalsely : Prop := fnExactMotionErrorRow.holds Try.pinned (OpenSpec.ofChange fnExactMotionErrorWrong)

/-- 'laws.FnOutlines': WHATEVER THE INPUT: true; the input reads as it did. -/
def fnOutlinesSpec : ChangeSpec := { name := "fnOutlines", fn := fun _ => fun
  | [d] => { results := [.lit (.bool true)], args := [d] }
  | _ => none }
def fnOutlinesRow : OpenClaim := { program := "ytfiijdiccjapiaa", sum := "245c752870c6eb82b6ded02f7e8e9c3dac50c99e92a9e7757002ac82d5f209dc", func := "loop.example/g00889/laws.FnOutlines", spec := "fnOutlines", unfollowed := true, recurses := true, apart := false }
def FnOutlinesSaid : Prop := fnOutlinesRow.holds Try.pinned (OpenSpec.ofChange fnOutlinesSpec)

/-- ITS FALSE NEIGHBOUR: 'it returns false'. Refute it at one input. -/
def fnOutlinesWrong : ChangeSpec := { name := "fnOutlines", fn := fun _ => fun
  | [d] => { results := [.lit (.bool false)], args := [d] }
  | _ => none }
def FnOutlinesWrongFalsely : Prop := fnOutlinesRow.holds Try.pinned (OpenSpec.ofChange fnOutlinesWrong)

/-- 'laws.FnExactAddTallies': WHATEVER THE INPUT: true; the input reads as it did. -/
def fnExactAddTalliesSpec : ChangeSpec := { name := "fnExactAddTallies", fn := fun _ => fun
  | [d1, d2] => { results := [.lit (.bool true)], args := [d1, d2] }
  | _ => none }
def fnExactAddTalliesRow : OpenClaim := { program := "ytfiijdiccjapiaa", sum := "245c752870c6eb82b6ded02f7e8e9c3dac50c99e92a9e7757002ac82d5f209dc", func := "loop.example/g00889/laws.FnExactAddTallies", spec := "fnExactAddTallies", apart := false }
def FnExactAddTalliesSaid : Prop := fnExactAddTalliesRow.holds Try.pinned (OpenSpec.ofChange fnExactAddTalliesSpec)

/-- ITS FALSE NEIGHBOUR: 'it returns false'. Refute it at one input. -/
def fnExactAddTalliesWrong : ChangeSpec := { name := "fnExactAddTallies", fn := fun _ => fun
  | [d1, d2] => { results := [.lit (.bool false)], args := [d1, d2] }
  | _ => none }
def FnExactAddTalliesWrongFalsely : Prop := fnExactAddTalliesRow.holds Try.pinned (OpenSpec.ofChange fnExactAddTalliesWrong)

/-- 'laws.FnExactAddCase': WHATEVER THE INPUT: true; the input reads as it did. -/
def fnExactAddCaseSpec : ChangeSpec := { name := "fnExactAddCase", fn := fun _ => fun
  | [d1, d2, d3] => { results := [.lit (.bool true)], args := [d1, d2, d3] }
  | _ => none }
def fnExactAddCaseRow : OpenClaim := { program := "ytfiijdiccjapiaa", sum := "245c752870c6eb82b6ded02f7e8e9c3dac50c99e92a9e7757002ac82d5f209dc", func := "loop.example/g00889/laws.FnExactAddCase", spec := "fnExactAddCase", apart := false }
def FnExactAddCaseSaid : Prop := fnExactAddCaseRow.holds Try.pinned (OpenSpec.ofChange fnExactAddCaseSpec)

/-- ITS FALSE NEIGHBOUR: 'it returns false'. Refute it at one input. -/
def fnExactAddCaseWrong : ChangeSpec := { name := "fnExactAddCase", fn := fun _ => fun
  | [d1, d2, d3] => { results := [.lit (.bool false)], args := [d1, d2, d3] }
  | _ => none }
def FnExactAddCaseWrongFalsely : Prop := fnExactAddCaseRow.holds Try.pinned (OpenSpec.ofChange fnExactAddCaseWrong)

/-- 'laws.FnExactRegionField': WHATEVER THE INPUT: true; the input reads as it did. -/
def fnExactRegionFieldSpec : ChangeSpec := { name := "fnExactRegionField", fn := fun _ => fun
  | [d1, d2, d3] => { results := [.lit (.bool true)], args := [d1, d2, d3] }
  | _ => none }
def fnExactRegionFieldRow : OpenClaim := { program := "ytfiijdiccjapiaa", sum := "245c752870c6eb82b6ded02f7e8e9c3dac50c99e92a9e7757002ac82d5f209dc", func := "loop.example/g00889/laws.FnExactRegionField", spec := "fnExactRegionField", apart := false }
def FnExactRegionFieldSaid : Prop := fnExactRegionFieldRow.holds Try.pinned (OpenSpec.ofChange fnExactRegionFieldSpec)

/-- ITS FALSE NEIGHBOUR: 'it returns false'. Refute it at one input. -/
def fnExactRegionFieldWrong : ChangeSpec := { name := "fnExactRegionField", fn := fun _ => fun
  | [d1, d2, d3] => { results := [.lit (.bool false)], args := [d1, d2, d3] }
  | _ => none }
def FnExactRegionFieldWrongFalsely : Prop := fnExactRegionFieldRow.holds Try.pinned (OpenSpec.ofChange fnExactRegionFieldWrong)

/-- 'laws.FnExactNearestMember': WHATEVER THE INPUT: true; the input reads as it did. -/
def fnExactNearestMemberSpec : ChangeSpec := { name := "fnExactNearestMember", fn := fun _ => fun
  | [d1, d2] => { results := [.lit (.bool true)], args := [d1, d2] }
  | _ => none }
def fnExactNearestMemberRow : OpenClaim := { program := "ytfiijdiccjapiaa", sum := "245c752870c6eb82b6ded02f7e8e9c3dac50c99e92a9e7757002ac82d5f209dc", func := "loop.example/g00889/laws.FnExactNearestMember", spec := "fnExactNearestMember", unfollowed := true, recurses := true, apart := false }
def FnExactNearestMemberSaid : Prop := fnExactNearestMemberRow.holds Try.pinned (OpenSpec.ofChange fnExactNearestMemberSpec)

/-- ITS FALSE NEIGHBOUR: 'it returns false'. Refute it at one input. -/
def fnExactNearestMemberWrong : ChangeSpec := { name := "fnExactNearestMember", fn := fun _ => fun
  | [d1, d2] => { results := [.lit (.bool false)], args := [d1, d2] }
  | _ => none }
def FnExactNearestMemberWrongFalsely : Prop := fnExactNearestMemberRow.holds Try.pinned (OpenSpec.ofChange fnExactNearestMemberWrong)

/-- 'laws.FnExactTrackingCost': WHATEVER THE INPUT: true; the input reads as it did. -/
def fnExactTrackingCostSpec : ChangeSpec := { name := "fnExactTrackingCost", fn := fun _ => fun
  | [d1, d2, d3, d4] => { results := [.lit (.bool true)], args := [d1, d2, d3, d4] }
  | _ => none }
def fnExactTrackingCostRow : OpenClaim := { program := "ytfiijdiccjapiaa", sum := "245c752870c6eb82b6ded02f7e8e9c3dac50c99e92a9e7757002ac82d5f209dc", func := "loop.example/g00889/laws.FnExactTrackingCost", spec := "fnExactTrackingCost", unfollowed := true, recurses := true, apart := false }
def FnExactTrackingCostSaid : Prop := fnExactTrackingCostRow.holds Try.pinned (OpenSpec.ofChange fnExactTrackingCostSpec)

/-- ITS FALSE NEIGHBOUR: 'it returns false'. Refute it at one input. -/
def fnExactTrackingCostWrong : ChangeSpec := { name := "fnExactTrackingCost", fn := fun _ => fun
  | [d1, d2, d3, d4] => { results := [.lit (.bool false)], args := [d1, d2, d3, d4] }
  | _ => none }
def FnExactTrackingCostWrongFalsely : Prop := fnExactTrackingCostRow.holds Try.pinned (OpenSpec.ofChange fnExactTrackingCostWrong)

/-- 'laws.FnExactNewStorms': WHATEVER THE INPUT: true; the input reads as it did. -/
def fnExactNewStormsSpec : ChangeSpec := { name := "fnExactNewStorms", fn := fun _ => fun
  | [d1, d2, d3] => { results := [.lit (.bool true)], args := [d1, d2, d3] }
  | _ => none }
def fnExactNewStormsRow : OpenClaim := { program := "ytfiijdiccjapiaa", sum := "245c752870c6eb82b6ded02f7e8e9c3dac50c99e92a9e7757002ac82d5f209dc", func := "loop.example/g00889/laws.FnExactNewStorms", spec := "fnExactNewStorms", unfollowed := true, recurses := true, apart := false }
def FnExactNewStormsSaid : Prop := fnExactNewStormsRow.holds Try.pinned (OpenSpec.ofChange fnExactNewStormsSpec)

/-- ITS FALSE NEIGHBOUR: 'it returns false'. Refute it at one input. -/
def fnExactNewStormsWrong : ChangeSpec := { name := "fnExactNewStorms", fn := fun _ => fun
  | [d1, d2, d3] => { results := [.lit (.bool false)], args := [d1, d2, d3] }
  | _ => none }
def FnExactNewStormsWrongFalsely : Prop := fnExactNewStormsRow.holds Try.pinned (OpenSpec.ofChange fnExactNewStormsWrong)

/-- 'laws.FnExactRankOf': WHATEVER THE INPUT: true; the input reads as it did. -/
def fnExactRankOfSpec : ChangeSpec := { name := "fnExactRankOf", fn := fun _ => fun
  | [d1, d2, d3, d4] => { results := [.lit (.bool true)], args := [d1, d2, d3, d4] }
  | _ => none }
def fnExactRankOfRow : OpenClaim := { program := "ytfiijdiccjapiaa", sum := "245c752870c6eb82b6ded02f7e8e9c3dac50c99e92a9e7757002ac82d5f209dc", func := "loop.example/g00889/laws.FnExactRankOf", spec := "fnExactRankOf", unfollowed := true, recurses := true, apart := false }
def FnExactRankOfSaid : Prop := fnExactRankOfRow.holds Try.pinned (OpenSpec.ofChange fnExactRankOfSpec)

/-- ITS FALSE NEIGHBOUR: 'it returns false'. Refute it at one input. -/
def fnExactRankOfWrong : ChangeSpec := { name := "fnExactRankOf", fn := fun _ => fun
  | [d1, d2, d3, d4] => { results := [.lit (.bool false)], args := [d1, d2, d3, d4] }
  | _ => none }
def FnExactRankOfWrongFalsely : Prop := fnExactRankOfRow.holds Try.pinned (OpenSpec.ofChange fnExactRankOfWrong)

/-- 'laws.FnExactRegridNearest': WHATEVER THE INPUT: true; the input reads as it did. -/
def fnExactRegridNearestSpec : ChangeSpec := { name := "fnExactRegridNearest", fn := fun _ => fun
  | [d1, d2, d3] => { results := [.lit (.bool true)], args := [d1, d2, d3] }
  | _ => none }
def fnExactRegridNearestRow : OpenClaim := { program := "ytfiijdiccjapiaa", sum := "245c752870c6eb82b6ded02f7e8e9c3dac50c99e92a9e7757002ac82d5f209dc", func := "loop.example/g00889/laws.FnExactRegridNearest", spec := "fnExactRegridNearest", unfollowed := true, recurses := true, apart := false }
def FnExactRegridNearestSaid : Prop := fnExactRegridNearestRow.holds Try.pinned (OpenSpec.ofChange fnExactRegridNearestSpec)

/-- ITS FALSE NEIGHBOUR: 'it returns false'. Refute it at one input. -/
def fnExactRegridNearestWrong : ChangeSpec := { name := "fnExactRegridNearest", fn := fun _ => fun
  | [d1, d2, d3] => { results := [.lit (.bool false)], args := [d1, d2, d3] }
  | _ => none }
def FnExactRegridNearestWrongFalsely : Prop := fnExactRegridNearestRow.holds Try.pinned (OpenSpec.ofChange fnExactRegridNearestWrong)

/- THE SECOND FORM. 'bulk': how many values and letters a reading holds, each counted each time it is reached (what is shared counts as often as it is met; a slice's spare places count too). A statement '..UptoSaid' is the law's where the arguments, and the package variables that the reading takes, are together of bulk at most 1048576: NARROWER than '..Said'. Prove '..Said' where nothing that the law and all that it calls make is longer than what came in: it says more and counts as full. Else prove '..UptoSaid'. A law counts once. -/
mutual
def uptoBulk {H : Type} : DataW H → Nat
  | .lit (.string bytes) => bytes.length + 1
  | .lit _ => 1
  | .nil => 1
  | .ptr d => uptoBulk d + 1
  | .slice elems spare => uptoBulkAll elems + uptoBulkAll spare + 1
  | .agg parts => uptoBulkAll parts + 1
  | .iface _ d => uptoBulk d + 1
  | .map entries => uptoBulkEntries entries + 1
  | .held _ => 1
def uptoBulkAll {H : Type} : List (DataW H) → Nat
  | [] => 0
  | d :: r => uptoBulk d + uptoBulkAll r
def uptoBulkEntries {H : Type} : List (Lit × DataW H) → Nat
  | [] => 0
  | x :: r => uptoBulkEntry x + uptoBulkEntries r
def uptoBulkEntry {H : Type} : Lit × DataW H → Nat
  | (.string bytes, d) => bytes.length + uptoBulk d + 1
  | (_, d) => uptoBulk d + 1
 end
def uptoSmall : (H : Type) → List (DataW H) → Bool := fun _ ds => decide (uptoBulkAll ds ≤ 1048576)
def OpenSpec.upto (s : _root_.Go.ChangeSpec) : _root_.Go.OpenSpec := { _root_.Go.OpenSpec.ofChange s with cond := some uptoSmall }

/-- 'laws.FnExactSplitValue', WHERE WHAT IT READS IS OF BULK AT MOST 1048576: true; the input reads as it did. -/
def fnExactSplitValueUptoRow : OpenClaim := { program := "ytfiijdiccjapiaa", sum := "245c752870c6eb82b6ded02f7e8e9c3dac50c99e92a9e7757002ac82d5f209dc", func := "loop.example/g00889/laws.FnExactSplitValue", spec := "fnExactSplitValue", apart := false, narrowed := true }
def FnExactSplitValueUptoSaid : Prop := fnExactSplitValueUptoRow.holds Try.pinned (OpenSpec.upto fnExactSplitValueSpec)

/-- 'laws.FnExactSameTotal', WHERE WHAT IT READS IS OF BULK AT MOST 1048576: true; the input reads as it did. -/
def fnExactSameTotalUptoRow : OpenClaim := { program := "ytfiijdiccjapiaa", sum := "245c752870c6eb82b6ded02f7e8e9c3dac50c99e92a9e7757002ac82d5f209dc", func := "loop.example/g00889/laws.FnExactSameTotal", spec := "fnExactSameTotal", unfollowed := true, recurses := true, apart := false, narrowed := true }
def FnExactSameTotalUptoSaid : Prop := fnExactSameTotalUptoRow.holds Try.pinned (OpenSpec.upto fnExactSameTotalSpec)

/-- 'laws.FnExactMotionError', WHERE WHAT IT READS IS OF BULK AT MOST 1048576: true; the input reads as it did. -/
def fnExactMotionErrorUptoRow : OpenClaim := { program := "ytfiijdiccjapiaa", sum := "245c752870c6eb82b6ded02f7e8e9c3dac50c99e92a9e7757002ac82d5f209dc", func := "loop.example/g00889/laws.FnExactMotionError", spec := "fnExactMotionError", unfollowed := true, recurses := true, apart := false, narrowed := true }
def FnExactMotionErrorUptoSaid : Prop := fnExactMotionErrorUptoRow.holds Try.pinned (OpenSpec.upto fnExactMotionErrorSpec)

/-- 'laws.FnOutlines', WHERE WHAT IT READS IS OF BULK AT MOST 1048576: true; the input reads as it did. -/
def fnOutlinesUptoRow : OpenClaim := { program := "ytfiijdiccjapiaa", sum := "245c752870c6eb82b6ded02f7e8e9c3dac50c99e92a9e7757002ac82d5f209dc", func := "loop.example/g00889/laws.FnOutlines", spec := "fnOutlines", unfollowed := true, recurses := true, apart := false, narrowed := true }
def FnOutlinesUptoSaid : Prop := fnOutlinesUptoRow.holds Try.pinned (OpenSpec.upto fnOutlinesSpec)

/-- 'laws.FnExactAddTallies', WHERE WHAT IT READS IS OF BULK AT MOST 1048576: true; the input reads as it did. -/
def fnExactAddTalliesUptoRow : OpenClaim := { program := "ytfiijdiccjapiaa", sum := "245c752870c6eb82b6ded02f7e8e9c3dac50c99e92a9e7757002ac82d5f209dc", func := "loop.example/g00889/laws.FnExactAddTallies", spec := "fnExactAddTallies", apart := false, narrowed := true }
def FnExactAddTalliesUptoSaid : Prop := fnExactAddTalliesUptoRow.holds Try.pinned (OpenSpec.upto fnExactAddTalliesSpec)

/-- 'laws.FnExactAddCase', WHERE WHAT IT READS IS OF BULK AT MOST 1048576: true; the input reads as it did. -/
def fnExactAddCaseUptoRow : OpenClaim := { program := "ytfiijdiccjapiaa", sum := "245c752870c6eb82b6ded02f7e8e9c3dac50c99e92a9e7757002ac82d5f209dc", func := "loop.example/g00889/laws.FnExactAddCase", spec := "fnExactAddCase", apart := false, narrowed := true }
def FnExactAddCaseUptoSaid : Prop := fnExactAddCaseUptoRow.holds Try.pinned (OpenSpec.upto fnExactAddCaseSpec)

/-- 'laws.FnExactRegionField', WHERE WHAT IT READS IS OF BULK AT MOST 1048576: true; the input reads as it did. -/
def fnExactRegionFieldUptoRow : OpenClaim := { program := "ytfiijdiccjapiaa", sum := "245c752870c6eb82b6ded02f7e8e9c3dac50c99e92a9e7757002ac82d5f209dc", func := "loop.example/g00889/laws.FnExactRegionField", spec := "fnExactRegionField", apart := false, narrowed := true }
def FnExactRegionFieldUptoSaid : Prop := fnExactRegionFieldUptoRow.holds Try.pinned (OpenSpec.upto fnExactRegionFieldSpec)

/-- 'laws.FnExactNearestMember', WHERE WHAT IT READS IS OF BULK AT MOST 1048576: true; the input reads as it did. -/
def fnExactNearestMemberUptoRow : OpenClaim := { program := "ytfiijdiccjapiaa", sum := "245c752870c6eb82b6ded02f7e8e9c3dac50c99e92a9e7757002ac82d5f209dc", func := "loop.example/g00889/laws.FnExactNearestMember", spec := "fnExactNearestMember", unfollowed := true, recurses := true, apart := false, narrowed := true }
def FnExactNearestMemberUptoSaid : Prop := fnExactNearestMemberUptoRow.holds Try.pinned (OpenSpec.upto fnExactNearestMemberSpec)

/-- 'laws.FnExactTrackingCost', WHERE WHAT IT READS IS OF BULK AT MOST 1048576: true; the input reads as it did. -/
def fnExactTrackingCostUptoRow : OpenClaim := { program := "ytfiijdiccjapiaa", sum := "245c752870c6eb82b6ded02f7e8e9c3dac50c99e92a9e7757002ac82d5f209dc", func := "loop.example/g00889/laws.FnExactTrackingCost", spec := "fnExactTrackingCost", unfollowed := true, recurses := true, apart := false, narrowed := true }
def FnExactTrackingCostUptoSaid : Prop := fnExactTrackingCostUptoRow.holds Try.pinned (OpenSpec.upto fnExactTrackingCostSpec)

/-- 'laws.FnExactNewStorms', WHERE WHAT IT READS IS OF BULK AT MOST 1048576: true; the input reads as it did. -/
def fnExactNewStormsUptoRow : OpenClaim := { program := "ytfiijdiccjapiaa", sum := "245c752870c6eb82b6ded02f7e8e9c3dac50c99e92a9e7757002ac82d5f209dc", func := "loop.example/g00889/laws.FnExactNewStorms", spec := "fnExactNewStorms", unfollowed := true, recurses := true, apart := false, narrowed := true }
def FnExactNewStormsUptoSaid : Prop := fnExactNewStormsUptoRow.holds Try.pinned (OpenSpec.upto fnExactNewStormsSpec)

/-- 'laws.FnExactRankOf', WHERE WHAT IT READS IS OF BULK AT MOST 1048576: true; the input reads as it did. -/
def fnExactRankOfUptoRow : OpenClaim := { program := "ytfiijdiccjapiaa", sum := "245c752870c6eb82b6ded02f7e8e9c3dac50c99e92a9e7757002ac82d5f209dc", func := "loop.example/g00889/laws.FnExactRankOf", spec := "fnExactRankOf", unfollowed := true, recurses := true, apart := false, narrowed := true }
def FnExactRankOfUptoSaid : Prop := fnExactRankOfUptoRow.holds Try.pinned (OpenSpec.upto fnExactRankOfSpec)

/-- 'laws.FnExactRegridNearest', WHERE WHAT IT READS IS OF BULK AT MOST 1048576: true; the input reads as it did. -/
def fnExactRegridNearestUptoRow : OpenClaim := { program := "ytfiijdiccjapiaa", sum := "245c752870c6eb82b6ded02f7e8e9c3dac50c99e92a9e7757002ac82d5f209dc", func := "loop.example/g00889/laws.FnExactRegridNearest", spec := "fnExactRegridNearest", unfollowed := true, recurses := true, apart := false, narrowed := true }
def FnExactRegridNearestUptoSaid : Prop := fnExactRegridNearestUptoRow.holds Try.pinned (OpenSpec.upto fnExactRegridNearestSpec)

end Rows
end Go.Proofs.Ytfiijdiccjapiaa
