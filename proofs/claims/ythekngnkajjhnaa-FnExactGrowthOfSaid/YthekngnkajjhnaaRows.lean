/-
  No cell of these rows narrows 'for every input' (looked for: loops, veiled, ifaces, maps, wideKeys, modest, calm, conditions, laid).
  DERIVED. THE GIVEN ROWS OF THIS SEAT. 12 by the template 'for every input the law returns true; each argument reads behind the call as it read before'; 0 by the template 'total and deterministic' (their statements: YthekngnkajjhnaaTotals.lean).
  GIVEN WITH THE SEED: the statements are not yours to turn. If you find one false, say at which input.
  Laid BY PROGRAM, IN A SANDBOX (cutbox-rows.mjs): the forced cells as the released guide's own fill.sh prints them over the translation 71f275cd9718b30b… (all of the seat's roots in one cut). By AI agents, Wed Nov 11 2026. No macro, syntax, notation, axiom, sorry.
-/
import Derived.Test.YthekngnkajjhnaaChecked
import GoSem.Claim
import GoSem.ClaimJoined
import GoSem.ClaimMapViews
import Derived.JoinedTies
import Derived.KernelRfl
namespace Go.Proofs.Ythekngnkajjhnaa
/- THE CELL 'sum', in the pinned program and in every row, IS THE sha256 OF THE DUMP (.gsa) THAT YthekngnkajjhnaaProg.lean LOADS. Nothing in Lean hashes anything: it is a label: what it is worth is what the hold of that sum in a sandbox is worth. -/
noncomputable def Try.pinned : Pinned := { name := "ythekngnkajjhnaa", sum := "71f275cd9718b30bd4f6c83a7da9375474c3c99257095baa91b722b4a69fbd0c", checked := Try.checked }
namespace Rows
def none {H : Type} : Left H := { results := [], args := [] }

/-- 'laws.FnFilters': WHATEVER THE INPUT: true; the input reads as it did. -/
def fnFiltersSpec : ChangeSpec := { name := "fnFilters", fn := fun _ => fun
  | [d] => { results := [.lit (.bool true)], args := [d] }
  | _ => none }
def fnFiltersRow : OpenClaim := { program := "ythekngnkajjhnaa", sum := "71f275cd9718b30bd4f6c83a7da9375474c3c99257095baa91b722b4a69fbd0c", func := "loop.example/g00889/laws.FnFilters", spec := "fnFilters", unfollowed := true, recurses := true, apart := false }
def FnFiltersSaid : Prop := fnFiltersRow.holds Try.pinned (OpenSpec.ofChange fnFiltersSpec)

/-- ITS FALSE NEIGHBOUR: 'it returns false'. Refute it at one input. -/
def fnFiltersWrong : ChangeSpec := { name := "fnFilters", fn := fun _ => fun
  | [d] => { results := [.lit (.bool false)], args := [d] }
  | _ => none }
def FnFiltersWrongFalsely : Prop := fnFiltersRow.holds Try.pinned (OpenSpec.ofChange fnFiltersWrong)

/-- 'laws.FnPeaks': WHATEVER THE INPUT: true; the input reads as it did. -/
def fnPeaksSpec : ChangeSpec := { name := "fnPeaks", fn := fun _ => fun
  | [d] => { results := [.lit (.bool true)], args := [d] }
  | _ => none }
def fnPeaksRow : OpenClaim := { program := "ythekngnkajjhnaa", sum := "71f275cd9718b30bd4f6c83a7da9375474c3c99257095baa91b722b4a69fbd0c", func := "loop.example/g00889/laws.FnPeaks", spec := "fnPeaks", unfollowed := true, recurses := true, apart := false }
def FnPeaksSaid : Prop := fnPeaksRow.holds Try.pinned (OpenSpec.ofChange fnPeaksSpec)

/-- ITS FALSE NEIGHBOUR: 'it returns false'. Refute it at one input. -/
def fnPeaksWrong : ChangeSpec := { name := "fnPeaks", fn := fun _ => fun
  | [d] => { results := [.lit (.bool false)], args := [d] }
  | _ => none }
def FnPeaksWrongFalsely : Prop := fnPeaksRow.holds Try.pinned (OpenSpec.ofChange fnPeaksWrong)

/-- 'laws.FnExactAddTallies': WHATEVER THE INPUT: true; the input reads as it did. -/
def fnExactAddTalliesSpec : ChangeSpec := { name := "fnExactAddTallies", fn := fun _ => fun
  | [d1, d2] => { results := [.lit (.bool true)], args := [d1, d2] }
  | _ => none }
def fnExactAddTalliesRow : OpenClaim := { program := "ythekngnkajjhnaa", sum := "71f275cd9718b30bd4f6c83a7da9375474c3c99257095baa91b722b4a69fbd0c", func := "loop.example/g00889/laws.FnExactAddTallies", spec := "fnExactAddTallies", apart := false }
def FnExactAddTalliesSaid : Prop := fnExactAddTalliesRow.holds Try.pinned (OpenSpec.ofChange fnExactAddTalliesSpec)

/-- ITS FALSE NEIGHBOUR: 'it returns false'. Refute it at one input. -/
def fnExactAddTalliesWrong : ChangeSpec := { name := "fnExactAddTallies", fn := fun _ => fun
  | [d1, d2] => { results := [.lit (.bool false)], args := [d1, d2] }
  | _ => none }
def FnExactAddTalliesWrongFalsely : Prop := fnExactAddTalliesRow.holds Try.pinned (OpenSpec.ofChange fnExactAddTalliesWrong)

/-- 'laws.FnCalibrated': WHATEVER THE INPUT: true; the input reads as it did. -/
def fnCalibratedSpec : ChangeSpec := { name := "fnCalibrated", fn := fun _ => fun
  | [d] => { results := [.lit (.bool true)], args := [d] }
  | _ => none }
def fnCalibratedRow : OpenClaim := { program := "ythekngnkajjhnaa", sum := "71f275cd9718b30bd4f6c83a7da9375474c3c99257095baa91b722b4a69fbd0c", func := "loop.example/g00889/laws.FnCalibrated", spec := "fnCalibrated", apart := false }
def FnCalibratedSaid : Prop := fnCalibratedRow.holds Try.pinned (OpenSpec.ofChange fnCalibratedSpec)

/-- ITS FALSE NEIGHBOUR: 'it returns false'. Refute it at one input. -/
def fnCalibratedWrong : ChangeSpec := { name := "fnCalibrated", fn := fun _ => fun
  | [d] => { results := [.lit (.bool false)], args := [d] }
  | _ => none }
def FnCalibratedWrongFalsely : Prop := fnCalibratedRow.holds Try.pinned (OpenSpec.ofChange fnCalibratedWrong)

/-- 'laws.FnCalibration': WHATEVER THE INPUT: true; the input reads as it did. -/
def fnCalibrationSpec : ChangeSpec := { name := "fnCalibration", fn := fun _ => fun
  | [d] => { results := [.lit (.bool true)], args := [d] }
  | _ => none }
def fnCalibrationRow : OpenClaim := { program := "ythekngnkajjhnaa", sum := "71f275cd9718b30bd4f6c83a7da9375474c3c99257095baa91b722b4a69fbd0c", func := "loop.example/g00889/laws.FnCalibration", spec := "fnCalibration", unfollowed := true, recurses := true, apart := false }
def FnCalibrationSaid : Prop := fnCalibrationRow.holds Try.pinned (OpenSpec.ofChange fnCalibrationSpec)

/-- ITS FALSE NEIGHBOUR: 'it returns false'. Refute it at one input. -/
def fnCalibrationWrong : ChangeSpec := { name := "fnCalibration", fn := fun _ => fun
  | [d] => { results := [.lit (.bool false)], args := [d] }
  | _ => none }
def FnCalibrationWrongFalsely : Prop := fnCalibrationRow.holds Try.pinned (OpenSpec.ofChange fnCalibrationWrong)

/-- 'laws.FnTallies': WHATEVER THE INPUT: true; the input reads as it did. -/
def fnTalliesSpec : ChangeSpec := { name := "fnTallies", fn := fun _ => fun
  | [d] => { results := [.lit (.bool true)], args := [d] }
  | _ => none }
def fnTalliesRow : OpenClaim := { program := "ythekngnkajjhnaa", sum := "71f275cd9718b30bd4f6c83a7da9375474c3c99257095baa91b722b4a69fbd0c", func := "loop.example/g00889/laws.FnTallies", spec := "fnTallies", unfollowed := true, recurses := true, apart := false }
def FnTalliesSaid : Prop := fnTalliesRow.holds Try.pinned (OpenSpec.ofChange fnTalliesSpec)

/-- ITS FALSE NEIGHBOUR: 'it returns false'. Refute it at one input. -/
def fnTalliesWrong : ChangeSpec := { name := "fnTallies", fn := fun _ => fun
  | [d] => { results := [.lit (.bool false)], args := [d] }
  | _ => none }
def FnTalliesWrongFalsely : Prop := fnTalliesRow.holds Try.pinned (OpenSpec.ofChange fnTalliesWrong)

/-- 'laws.FnRegrid': WHATEVER THE INPUT: true; the input reads as it did. -/
def fnRegridSpec : ChangeSpec := { name := "fnRegrid", fn := fun _ => fun
  | [d] => { results := [.lit (.bool true)], args := [d] }
  | _ => none }
def fnRegridRow : OpenClaim := { program := "ythekngnkajjhnaa", sum := "71f275cd9718b30bd4f6c83a7da9375474c3c99257095baa91b722b4a69fbd0c", func := "loop.example/g00889/laws.FnRegrid", spec := "fnRegrid", unfollowed := true, recurses := true, apart := false }
def FnRegridSaid : Prop := fnRegridRow.holds Try.pinned (OpenSpec.ofChange fnRegridSpec)

/-- ITS FALSE NEIGHBOUR: 'it returns false'. Refute it at one input. -/
def fnRegridWrong : ChangeSpec := { name := "fnRegrid", fn := fun _ => fun
  | [d] => { results := [.lit (.bool false)], args := [d] }
  | _ => none }
def FnRegridWrongFalsely : Prop := fnRegridRow.holds Try.pinned (OpenSpec.ofChange fnRegridWrong)

/-- 'laws.FnExactCoarsenMean': WHATEVER THE INPUT: true; the input reads as it did. -/
def fnExactCoarsenMeanSpec : ChangeSpec := { name := "fnExactCoarsenMean", fn := fun _ => fun
  | [d1, d2, d3] => { results := [.lit (.bool true)], args := [d1, d2, d3] }
  | _ => none }
def fnExactCoarsenMeanRow : OpenClaim := { program := "ythekngnkajjhnaa", sum := "71f275cd9718b30bd4f6c83a7da9375474c3c99257095baa91b722b4a69fbd0c", func := "loop.example/g00889/laws.FnExactCoarsenMean", spec := "fnExactCoarsenMean", unfollowed := true, recurses := true, apart := false }
def FnExactCoarsenMeanSaid : Prop := fnExactCoarsenMeanRow.holds Try.pinned (OpenSpec.ofChange fnExactCoarsenMeanSpec)

/-- ITS FALSE NEIGHBOUR: 'it returns false'. Refute it at one input. -/
def fnExactCoarsenMeanWrong : ChangeSpec := { name := "fnExactCoarsenMean", fn := fun _ => fun
  | [d1, d2, d3] => { results := [.lit (.bool false)], args := [d1, d2, d3] }
  | _ => none }
def FnExactCoarsenMeanWrongFalsely : Prop := fnExactCoarsenMeanRow.holds Try.pinned (OpenSpec.ofChange fnExactCoarsenMeanWrong)

/-- 'laws.FnExactSameTotal': WHATEVER THE INPUT: true; the input reads as it did. -/
def fnExactSameTotalSpec : ChangeSpec := { name := "fnExactSameTotal", fn := fun _ => fun
  | [d1, d2] => { results := [.lit (.bool true)], args := [d1, d2] }
  | _ => none }
def fnExactSameTotalRow : OpenClaim := { program := "ythekngnkajjhnaa", sum := "71f275cd9718b30bd4f6c83a7da9375474c3c99257095baa91b722b4a69fbd0c", func := "loop.example/g00889/laws.FnExactSameTotal", spec := "fnExactSameTotal", unfollowed := true, recurses := true, apart := false }
def FnExactSameTotalSaid : Prop := fnExactSameTotalRow.holds Try.pinned (OpenSpec.ofChange fnExactSameTotalSpec)

/-- ITS FALSE NEIGHBOUR: 'it returns false'. Refute it at one input. -/
def fnExactSameTotalWrong : ChangeSpec := { name := "fnExactSameTotal", fn := fun _ => fun
  | [d1, d2] => { results := [.lit (.bool false)], args := [d1, d2] }
  | _ => none }
def FnExactSameTotalWrongFalsely : Prop := fnExactSameTotalRow.holds Try.pinned (OpenSpec.ofChange fnExactSameTotalWrong)

/-- 'laws.FnExactWithoutMember': WHATEVER THE INPUT: true; the input reads as it did. -/
def fnExactWithoutMemberSpec : ChangeSpec := { name := "fnExactWithoutMember", fn := fun _ => fun
  | [d1, d2] => { results := [.lit (.bool true)], args := [d1, d2] }
  | _ => none }
def fnExactWithoutMemberRow : OpenClaim := { program := "ythekngnkajjhnaa", sum := "71f275cd9718b30bd4f6c83a7da9375474c3c99257095baa91b722b4a69fbd0c", func := "loop.example/g00889/laws.FnExactWithoutMember", spec := "fnExactWithoutMember", unfollowed := true, recurses := true, apart := false }
def FnExactWithoutMemberSaid : Prop := fnExactWithoutMemberRow.holds Try.pinned (OpenSpec.ofChange fnExactWithoutMemberSpec)

/-- ITS FALSE NEIGHBOUR: 'it returns false'. Refute it at one input. -/
def fnExactWithoutMemberWrong : ChangeSpec := { name := "fnExactWithoutMember", fn := fun _ => fun
  | [d1, d2] => { results := [.lit (.bool false)], args := [d1, d2] }
  | _ => none }
def FnExactWithoutMemberWrongFalsely : Prop := fnExactWithoutMemberRow.holds Try.pinned (OpenSpec.ofChange fnExactWithoutMemberWrong)

/-- 'laws.FnExactGroupsOf': WHATEVER THE INPUT: true; the input reads as it did. -/
def fnExactGroupsOfSpec : ChangeSpec := { name := "fnExactGroupsOf", fn := fun _ => fun
  | [d] => { results := [.lit (.bool true)], args := [d] }
  | _ => none }
def fnExactGroupsOfRow : OpenClaim := { program := "ythekngnkajjhnaa", sum := "71f275cd9718b30bd4f6c83a7da9375474c3c99257095baa91b722b4a69fbd0c", func := "loop.example/g00889/laws.FnExactGroupsOf", spec := "fnExactGroupsOf", apart := false }
def FnExactGroupsOfSaid : Prop := fnExactGroupsOfRow.holds Try.pinned (OpenSpec.ofChange fnExactGroupsOfSpec)

/-- ITS FALSE NEIGHBOUR: 'it returns false'. Refute it at one input. -/
def fnExactGroupsOfWrong : ChangeSpec := { name := "fnExactGroupsOf", fn := fun _ => fun
  | [d] => { results := [.lit (.bool false)], args := [d] }
  | _ => none }
def FnExactGroupsOfWrongFalsely : Prop := fnExactGroupsOfRow.holds Try.pinned (OpenSpec.ofChange fnExactGroupsOfWrong)

/-- 'laws.FnExactGrowthOf': WHATEVER THE INPUT: true; the input reads as it did. -/
def fnExactGrowthOfSpec : ChangeSpec := { name := "fnExactGrowthOf", fn := fun _ => fun
  | [d1, d2, d3] => { results := [.lit (.bool true)], args := [d1, d2, d3] }
  | _ => none }
def fnExactGrowthOfRow : OpenClaim := { program := "ythekngnkajjhnaa", sum := "71f275cd9718b30bd4f6c83a7da9375474c3c99257095baa91b722b4a69fbd0c", func := "loop.example/g00889/laws.FnExactGrowthOf", spec := "fnExactGrowthOf", unfollowed := true, recurses := true, apart := false }
def FnExactGrowthOfSaid : Prop := fnExactGrowthOfRow.holds Try.pinned (OpenSpec.ofChange fnExactGrowthOfSpec)

/-- ITS FALSE NEIGHBOUR: 'it returns false'. Refute it at one input. -/
def fnExactGrowthOfWrong : ChangeSpec := { name := "fnExactGrowthOf", fn := fun _ => fun
  | [d1, d2, d3] => { results := [.lit (.bool false)], args := [d1, d2, d3] }
  | _ => none }
def FnExactGrowthOfWrongFalsely : Prop := fnExactGrowthOfRow.holds Try.pinned (OpenSpec.ofChange fnExactGrowthOfWrong)

/- THE SECOND FORM. 'bulk': how many values and letters a reading holds, each counted each time it is reached (what is shared counts as often as it is met; a slice's spare places count too). A statement '..UptoSaid' is the law's where the arguments, and the package variables that the reading takes, are together of bulk at most 1048576: NARROWER than '..Said'. Prove '..Said' where nothing that the law and all that it calls make is longer than what came in: it says more and counts as full. Else prove '..UptoSaid'. A law counts once. -/
mutual
def uptoBulk {H : Type} : DataW H → Nat
  | .lit (.string bytes) => bytes.length + 1
  | .lit _ => 1
  | .nil => 1
  | .ptr d => uptoBulk d + 1
  | .slice elems spare => uptoBulkAll elems + uptoBulkAll spare + 1
  | .agg parts => uptoBulkAll parts + 1
  | .iface _ d => uptoBulk d + 1
  | .map entries => uptoBulkEntries entries + 1
  | .held _ => 1
def uptoBulkAll {H : Type} : List (DataW H) → Nat
  | [] => 0
  | d :: r => uptoBulk d + uptoBulkAll r
def uptoBulkEntries {H : Type} : List (Lit × DataW H) → Nat
  | [] => 0
  | x :: r => uptoBulkEntry x + uptoBulkEntries r
def uptoBulkEntry {H : Type} : Lit × DataW H → Nat
  | (.string bytes, d) => bytes.length + uptoBulk d + 1
  | (_, d) => uptoBulk d + 1
 end
def uptoSmall : (H : Type) → List (DataW H) → Bool := fun _ ds => decide (uptoBulkAll ds ≤ 1048576)
def OpenSpec.upto (s : _root_.Go.ChangeSpec) : _root_.Go.OpenSpec := { _root_.Go.OpenSpec.ofChange s with cond := some uptoSmall }

/-- 'laws.FnFilters', WHERE WHAT IT READS IS OF BULK AT MOST 1048576: true; the input reads as it did. -/
def fnFiltersUptoRow : OpenClaim := { program := "ythekngnkajjhnaa", sum := "71f275cd9718b30bd4f6c83a7da9375474c3c99257095baa91b722b4a69fbd0c", func := "loop.example/g00889/laws.FnFilters", spec := "fnFilters", unfollowed := true, recurses := true, apart := false, narrowed := true }
def FnFiltersUptoSaid : Prop := fnFiltersUptoRow.holds Try.pinned (OpenSpec.upto fnFiltersSpec)

/-- 'laws.FnPeaks', WHERE WHAT IT READS IS OF BULK AT MOST 1048576: true; the input reads as it did. -/
def fnPeaksUptoRow : OpenClaim := { program := "ythekngnkajjhnaa", sum := "71f275cd9718b30bd4f6c83a7da9375474c3c99257095baa91b722b4a69fbd0c", func := "loop.example/g00889/laws.FnPeaks", spec := "fnPeaks", unfollowed := true, recurses := true, apart := false, narrowed := true }
def FnPeaksUptoSaid : Prop := fnPeaksUptoRow.holds Try.pinned (OpenSpec.upto fnPeaksSpec)

/-- 'laws.FnExactAddTallies', WHERE WHAT IT READS IS OF BULK AT MOST 1048576: true; the input reads as it did. -/
def fnExactAddTalliesUptoRow : OpenClaim := { program := "ythekngnkajjhnaa", sum := "71f275cd9718b30bd4f6c83a7da9375474c3c99257095baa91b722b4a69fbd0c", func := "loop.example/g00889/laws.FnExactAddTallies", spec := "fnExactAddTallies", apart := false, narrowed := true }
def FnExactAddTalliesUptoSaid : Prop := fnExactAddTalliesUptoRow.holds Try.pinned (OpenSpec.upto fnExactAddTalliesSpec)

/-- 'laws.FnCalibrated', WHERE WHAT IT READS IS OF BULK AT MOST 1048576: true; the input reads as it did. -/
def fnCalibratedUptoRow : OpenClaim := { program := "ythekngnkajjhnaa", sum := "71f275cd9718b30bd4f6c83a7da9375474c3c99257095baa91b722b4a69fbd0c", func := "loop.example/g00889/laws.FnCalibrated", spec := "fnCalibrated", apart := false, narrowed := true }
def FnCalibratedUptoSaid : Prop := fnCalibratedUptoRow.holds Try.pinned (OpenSpec.upto fnCalibratedSpec)

/-- 'laws.FnCalibration', WHERE WHAT IT READS IS OF BULK AT MOST 1048576: true; the input reads as it did. -/
def fnCalibrationUptoRow : OpenClaim := { program := "ythekngnkajjhnaa", sum := "71f275cd9718b30bd4f6c83a7da9375474c3c99257095baa91b722b4a69fbd0c", func := "loop.example/g00889/laws.FnCalibration", spec := "fnCalibration", unfollowed := true, recurses := true, apart := false, narrowed := true }
def FnCalibrationUptoSaid : Prop := fnCalibrationUptoRow.holds Try.pinned (OpenSpec.upto fnCalibrationSpec)

/-- 'laws.FnTallies', WHERE WHAT IT READS IS OF BULK AT MOST 1048576: true; the input reads as it did. -/
def fnTalliesUptoRow : OpenClaim := { program := "ythekngnkajjhnaa", sum := "71f275cd9718b30bd4f6c83a7da9375474c3c99257095baa91b722b4a69fbd0c", func := "loop.example/g00889/laws.FnTallies", spec := "fnTallies", unfollowed := true, recurses := true, apart := false, narrowed := true }
def FnTalliesUptoSaid : Prop := fnTalliesUptoRow.holds Try.pinned (OpenSpec.upto fnTalliesSpec)

/-- 'laws.FnRegrid', WHERE WHAT IT READS IS OF BULK AT MOST 1048576: true; the input reads as it did. -/
def fnRegridUptoRow : OpenClaim := { program := "ythekngnkajjhnaa", sum := "71f275cd9718b30bd4f6c83a7da9375474c3c99257095baa91b722b4a69fbd0c", func := "loop.example/g00889/laws.FnRegrid", spec := "fnRegrid", unfollowed := true, recurses := true, apart := false, narrowed := true }
def FnRegridUptoSaid : Prop := fnRegridUptoRow.holds Try.pinned (OpenSpec.upto fnRegridSpec)

/-- 'laws.FnExactCoarsenMean', WHERE WHAT IT READS IS OF BULK AT MOST 1048576: true; the input reads as it did. -/
def fnExactCoarsenMeanUptoRow : OpenClaim := { program := "ythekngnkajjhnaa", sum := "71f275cd9718b30bd4f6c83a7da9375474c3c99257095baa91b722b4a69fbd0c", func := "loop.example/g00889/laws.FnExactCoarsenMean", spec := "fnExactCoarsenMean", unfollowed := true, recurses := true, apart := false, narrowed := true }
def FnExactCoarsenMeanUptoSaid : Prop := fnExactCoarsenMeanUptoRow.holds Try.pinned (OpenSpec.upto fnExactCoarsenMeanSpec)

/-- 'laws.FnExactSameTotal', WHERE WHAT IT READS IS OF BULK AT MOST 1048576: true; the input reads as it did. -/
def fnExactSameTotalUptoRow : OpenClaim := { program := "ythekngnkajjhnaa", sum := "71f275cd9718b30bd4f6c83a7da9375474c3c99257095baa91b722b4a69fbd0c", func := "loop.example/g00889/laws.FnExactSameTotal", spec := "fnExactSameTotal", unfollowed := true, recurses := true, apart := false, narrowed := true }
def FnExactSameTotalUptoSaid : Prop := fnExactSameTotalUptoRow.holds Try.pinned (OpenSpec.upto fnExactSameTotalSpec)

/-- 'laws.FnExactWithoutMember', WHERE WHAT IT READS IS OF BULK AT MOST 1048576: true; the input reads as it did. -/
def fnExactWithoutMemberUptoRow : OpenClaim := { program := "ythekngnkajjhnaa", sum := "71f275cd9718b30bd4f6c83a7da9375474c3c99257095baa91b722b4a69fbd0c", func := "loop.example/g00889/laws.FnExactWithoutMember", spec := "fnExactWithoutMember", unfollowed := true, recurses := true, apart := false, narrowed := true }
def FnExactWithoutMemberUptoSaid : Prop := fnExactWithoutMemberUptoRow.holds Try.pinned (OpenSpec.upto fnExactWithoutMemberSpec)

/-- 'laws.FnExactGroupsOf', WHERE WHAT IT READS IS OF BULK AT MOST 1048576: true; the input reads as it did. -/
def fnExactGroupsOfUptoRow : OpenClaim := { program := "ythekngnkajjhnaa", sum := "71f275cd9718b30bd4f6c83a7da9375474c3c99257095baa91b722b4a69fbd0c", func := "loop.example/g00889/laws.FnExactGroupsOf", spec := "fnExactGroupsOf", apart := false, narrowed := true }
def FnExactGroupsOfUptoSaid : Prop := fnExactGroupsOfUptoRow.holds Try.pinned (OpenSpec.upto fnExactGroupsOfSpec)

/-- 'laws.FnExactGrowthOf', WHERE WHAT IT READS IS OF BULK AT MOST 1048576: true; the input reads as it did. -/
def fnExactGrowthOfUptoRow : OpenClaim := { program := "ythekngnkajjhnaa", sum := "71f275cd9718b30bd4f6c83a7da9375474c3c99257095baa91b722b4a69fbd0c", func := "loop.example/g00889/laws.FnExactGrowthOf", spec := "fnExactGrowthOf", unfollowed := true, recurses := true, apart := false, narrowed := true }
def FnExactGrowthOfUptoSaid : Prop := fnExactGrowthOfUptoRow.holds Try.pinned (OpenSpec.upto fnExactGrowthOfSpec)

end Rows
end Go.Proofs.Ythekngnkajjhnaa
