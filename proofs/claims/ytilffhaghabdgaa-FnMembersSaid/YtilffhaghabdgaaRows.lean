/-
  No cell of these rows narrows 'for every input' (looked for: loops, veiled, ifaces, maps, wideKeys, modest, calm, conditions, laid).
  DERIVED. THE GIVEN ROWS OF THIS SEAT. 10 by the template 'for every input the law returns true; each argument reads behind the call as it read before'; 0 by the template 'total and deterministic' (their statements: YtilffhaghabdgaaTotals.lean).
  GIVEN WITH THE SEED: the statements are not yours to turn. If you find one false, say at which input.
  Laid BY PROGRAM, IN A SANDBOX (cutbox-rows.mjs): the forced cells as the released guide's own fill.sh prints them over the translation c95feda9b95d8fb7… (all of the seat's roots in one cut). By AI agents, Wed Nov 11 2026. No macro, syntax, notation, axiom, sorry.
-/
import Derived.Test.YtilffhaghabdgaaChecked
import GoSem.Claim
import GoSem.ClaimJoined
import GoSem.ClaimMapViews
import Derived.JoinedTies
import Derived.KernelRfl
namespace Go.Proofs.Ytilffhaghabdgaa
/- THE CELL 'sum', in the pinned program and in every row, IS THE sha256 OF THE DUMP (.gsa) THAT YtilffhaghabdgaaProg.lean LOADS. Nothing in Lean hashes anything: it is a label: what it is worth is what the hold of that sum in a sandbox is worth. -/
noncomputable def Try.pinned : Pinned := { name := "ytilffhaghabdgaa", sum := "c95feda9b95d8fb701ab382efa7d1f1c8b6910378f955c077b2556291f633721", checked := Try.checked }
namespace Rows
def none {H : Type} : Left H := { results := [], args := [] }

/-- 'laws.FnExactRankMotions': WHATEVER THE INPUT: true; the input reads as it did. -/
def fnExactRankMotionsSpec : ChangeSpec := { name := "fnExactRankMotions", fn := fun _ => fun
  | [d1, d2] => { results := [.lit (.bool true)], args := [d1, d2] }
  | _ => none }
def fnExactRankMotionsRow : OpenClaim := { program := "ytilffhaghabdgaa", sum := "c95feda9b95d8fb701ab382efa7d1f1c8b6910378f955c077b2556291f633721", func := "loop.example/g00889/laws.FnExactRankMotions", spec := "fnExactRankMotions", unfollowed := true, recurses := true, apart := false }
def FnExactRankMotionsSaid : Prop := fnExactRankMotionsRow.holds Try.pinned (OpenSpec.ofChange fnExactRankMotionsSpec)

/-- ITS FALSE NEIGHBOUR: 'it returns false'. Refute it at one input. -/
def fnExactRankMotionsWrong : ChangeSpec := { name := "fnExactRankMotions", fn := fun _ => fun
  | [d1, d2] => { results := [.lit (.bool false)], args := [d1, d2] }
  | _ => none }
def FnExactRankMotionsWrongFalsely : Prop := fnExactRankMotionsRow.holds Try.pinned (OpenSpec.ofChange fnExactRankMotionsWrong)

/-- 'laws.FnExactBestMotion': WHATEVER THE INPUT: true; the input reads as it did. -/
def fnExactBestMotionSpec : ChangeSpec := { name := "fnExactBestMotion", fn := fun _ => fun
  | [d1, d2] => { results := [.lit (.bool true)], args := [d1, d2] }
  | _ => none }
def fnExactBestMotionRow : OpenClaim := { program := "ytilffhaghabdgaa", sum := "c95feda9b95d8fb701ab382efa7d1f1c8b6910378f955c077b2556291f633721", func := "loop.example/g00889/laws.FnExactBestMotion", spec := "fnExactBestMotion", unfollowed := true, recurses := true, apart := false }
def FnExactBestMotionSaid : Prop := fnExactBestMotionRow.holds Try.pinned (OpenSpec.ofChange fnExactBestMotionSpec)

/-- ITS FALSE NEIGHBOUR: 'it returns false'. Refute it at one input. -/
def fnExactBestMotionWrong : ChangeSpec := { name := "fnExactBestMotion", fn := fun _ => fun
  | [d1, d2] => { results := [.lit (.bool false)], args := [d1, d2] }
  | _ => none }
def FnExactBestMotionWrongFalsely : Prop := fnExactBestMotionRow.holds Try.pinned (OpenSpec.ofChange fnExactBestMotionWrong)

/-- 'laws.FnMotion': WHATEVER THE INPUT: true; the input reads as it did. -/
def fnMotionSpec : ChangeSpec := { name := "fnMotion", fn := fun _ => fun
  | [d] => { results := [.lit (.bool true)], args := [d] }
  | _ => none }
def fnMotionRow : OpenClaim := { program := "ytilffhaghabdgaa", sum := "c95feda9b95d8fb701ab382efa7d1f1c8b6910378f955c077b2556291f633721", func := "loop.example/g00889/laws.FnMotion", spec := "fnMotion", unfollowed := true, recurses := true, apart := false }
def FnMotionSaid : Prop := fnMotionRow.holds Try.pinned (OpenSpec.ofChange fnMotionSpec)

/-- ITS FALSE NEIGHBOUR: 'it returns false'. Refute it at one input. -/
def fnMotionWrong : ChangeSpec := { name := "fnMotion", fn := fun _ => fun
  | [d] => { results := [.lit (.bool false)], args := [d] }
  | _ => none }
def FnMotionWrongFalsely : Prop := fnMotionRow.holds Try.pinned (OpenSpec.ofChange fnMotionWrong)

/-- 'laws.FnExactNowcast': WHATEVER THE INPUT: true; the input reads as it did. -/
def fnExactNowcastSpec : ChangeSpec := { name := "fnExactNowcast", fn := fun _ => fun
  | [d1, d2, d3] => { results := [.lit (.bool true)], args := [d1, d2, d3] }
  | _ => none }
def fnExactNowcastRow : OpenClaim := { program := "ytilffhaghabdgaa", sum := "c95feda9b95d8fb701ab382efa7d1f1c8b6910378f955c077b2556291f633721", func := "loop.example/g00889/laws.FnExactNowcast", spec := "fnExactNowcast", unfollowed := true, recurses := true, apart := false }
def FnExactNowcastSaid : Prop := fnExactNowcastRow.holds Try.pinned (OpenSpec.ofChange fnExactNowcastSpec)

/-- ITS FALSE NEIGHBOUR: 'it returns false'. Refute it at one input. -/
def fnExactNowcastWrong : ChangeSpec := { name := "fnExactNowcast", fn := fun _ => fun
  | [d1, d2, d3] => { results := [.lit (.bool false)], args := [d1, d2, d3] }
  | _ => none }
def FnExactNowcastWrongFalsely : Prop := fnExactNowcastRow.holds Try.pinned (OpenSpec.ofChange fnExactNowcastWrong)

/-- 'laws.FnNowcast': WHATEVER THE INPUT: true; the input reads as it did. -/
def fnNowcastSpec : ChangeSpec := { name := "fnNowcast", fn := fun _ => fun
  | [d] => { results := [.lit (.bool true)], args := [d] }
  | _ => none }
def fnNowcastRow : OpenClaim := { program := "ytilffhaghabdgaa", sum := "c95feda9b95d8fb701ab382efa7d1f1c8b6910378f955c077b2556291f633721", func := "loop.example/g00889/laws.FnNowcast", spec := "fnNowcast", unfollowed := true, recurses := true, apart := false }
def FnNowcastSaid : Prop := fnNowcastRow.holds Try.pinned (OpenSpec.ofChange fnNowcastSpec)

/-- ITS FALSE NEIGHBOUR: 'it returns false'. Refute it at one input. -/
def fnNowcastWrong : ChangeSpec := { name := "fnNowcast", fn := fun _ => fun
  | [d] => { results := [.lit (.bool false)], args := [d] }
  | _ => none }
def FnNowcastWrongFalsely : Prop := fnNowcastRow.holds Try.pinned (OpenSpec.ofChange fnNowcastWrong)

/-- 'laws.FnMembers': WHATEVER THE INPUT: true; the input reads as it did. -/
def fnMembersSpec : ChangeSpec := { name := "fnMembers", fn := fun _ => fun
  | [d] => { results := [.lit (.bool true)], args := [d] }
  | _ => none }
def fnMembersRow : OpenClaim := { program := "ytilffhaghabdgaa", sum := "c95feda9b95d8fb701ab382efa7d1f1c8b6910378f955c077b2556291f633721", func := "loop.example/g00889/laws.FnMembers", spec := "fnMembers", unfollowed := true, recurses := true, apart := false }
def FnMembersSaid : Prop := fnMembersRow.holds Try.pinned (OpenSpec.ofChange fnMembersSpec)

/-- ITS FALSE NEIGHBOUR: 'it returns false'. Refute it at one input. -/
def fnMembersWrong : ChangeSpec := { name := "fnMembers", fn := fun _ => fun
  | [d] => { results := [.lit (.bool false)], args := [d] }
  | _ => none }
def FnMembersWrongFalsely : Prop := fnMembersRow.holds Try.pinned (OpenSpec.ofChange fnMembersWrong)

/-- 'laws.FnEnsembles': WHATEVER THE INPUT: true; the input reads as it did. -/
def fnEnsemblesSpec : ChangeSpec := { name := "fnEnsembles", fn := fun _ => fun
  | [d] => { results := [.lit (.bool true)], args := [d] }
  | _ => none }
def fnEnsemblesRow : OpenClaim := { program := "ytilffhaghabdgaa", sum := "c95feda9b95d8fb701ab382efa7d1f1c8b6910378f955c077b2556291f633721", func := "loop.example/g00889/laws.FnEnsembles", spec := "fnEnsembles", unfollowed := true, recurses := true, apart := false }
def FnEnsemblesSaid : Prop := fnEnsemblesRow.holds Try.pinned (OpenSpec.ofChange fnEnsemblesSpec)

/-- ITS FALSE NEIGHBOUR: 'it returns false'. Refute it at one input. -/
def fnEnsemblesWrong : ChangeSpec := { name := "fnEnsembles", fn := fun _ => fun
  | [d] => { results := [.lit (.bool false)], args := [d] }
  | _ => none }
def FnEnsemblesWrongFalsely : Prop := fnEnsemblesRow.holds Try.pinned (OpenSpec.ofChange fnEnsemblesWrong)

/-- 'laws.FnExactRegionBorder': WHATEVER THE INPUT: true; the input reads as it did. -/
def fnExactRegionBorderSpec : ChangeSpec := { name := "fnExactRegionBorder", fn := fun _ => fun
  | [d1, d2, d3] => { results := [.lit (.bool true)], args := [d1, d2, d3] }
  | _ => none }
def fnExactRegionBorderRow : OpenClaim := { program := "ytilffhaghabdgaa", sum := "c95feda9b95d8fb701ab382efa7d1f1c8b6910378f955c077b2556291f633721", func := "loop.example/g00889/laws.FnExactRegionBorder", spec := "fnExactRegionBorder", unfollowed := true, recurses := true, apart := false }
def FnExactRegionBorderSaid : Prop := fnExactRegionBorderRow.holds Try.pinned (OpenSpec.ofChange fnExactRegionBorderSpec)

/-- ITS FALSE NEIGHBOUR: 'it returns false'. Refute it at one input. -/
def fnExactRegionBorderWrong : ChangeSpec := { name := "fnExactRegionBorder", fn := fun _ => fun
  | [d1, d2, d3] => { results := [.lit (.bool false)], args := [d1, d2, d3] }
  | _ => none }
def FnExactRegionBorderWrongFalsely : Prop := fnExactRegionBorderRow.holds Try.pinned (OpenSpec.ofChange fnExactRegionBorderWrong)

/-- 'laws.FnExactRegionParts': WHATEVER THE INPUT: true; the input reads as it did. -/
def fnExactRegionPartsSpec : ChangeSpec := { name := "fnExactRegionParts", fn := fun _ => fun
  | [d1, d2, d3] => { results := [.lit (.bool true)], args := [d1, d2, d3] }
  | _ => none }
def fnExactRegionPartsRow : OpenClaim := { program := "ytilffhaghabdgaa", sum := "c95feda9b95d8fb701ab382efa7d1f1c8b6910378f955c077b2556291f633721", func := "loop.example/g00889/laws.FnExactRegionParts", spec := "fnExactRegionParts", unfollowed := true, recurses := true, apart := false }
def FnExactRegionPartsSaid : Prop := fnExactRegionPartsRow.holds Try.pinned (OpenSpec.ofChange fnExactRegionPartsSpec)

/-- ITS FALSE NEIGHBOUR: 'it returns false'. Refute it at one input. -/
def fnExactRegionPartsWrong : ChangeSpec := { name := "fnExactRegionParts", fn := fun _ => fun
  | [d1, d2, d3] => { results := [.lit (.bool false)], args := [d1, d2, d3] }
  | _ => none }
def FnExactRegionPartsWrongFalsely : Prop := fnExactRegionPartsRow.holds Try.pinned (OpenSpec.ofChange fnExactRegionPartsWrong)

/-- 'laws.FnRegions': WHATEVER THE INPUT: true; the input reads as it did. -/
def fnRegionsSpec : ChangeSpec := { name := "fnRegions", fn := fun _ => fun
  | [d] => { results := [.lit (.bool true)], args := [d] }
  | _ => none }
def fnRegionsRow : OpenClaim := { program := "ytilffhaghabdgaa", sum := "c95feda9b95d8fb701ab382efa7d1f1c8b6910378f955c077b2556291f633721", func := "loop.example/g00889/laws.FnRegions", spec := "fnRegions", unfollowed := true, recurses := true, apart := false }
def FnRegionsSaid : Prop := fnRegionsRow.holds Try.pinned (OpenSpec.ofChange fnRegionsSpec)

/-- ITS FALSE NEIGHBOUR: 'it returns false'. Refute it at one input. -/
def fnRegionsWrong : ChangeSpec := { name := "fnRegions", fn := fun _ => fun
  | [d] => { results := [.lit (.bool false)], args := [d] }
  | _ => none }
def FnRegionsWrongFalsely : Prop := fnRegionsRow.holds Try.pinned (OpenSpec.ofChange fnRegionsWrong)

/- THE SECOND FORM. 'bulk': how many values and letters a reading holds, each counted each time it is reached (what is shared counts as often as it is met; a slice's spare places count too). A statement '..UptoSaid' is the law's where the arguments, and the package variables that the reading takes, are together of bulk at most 1048576: NARROWER than '..Said'. Prove '..Said' where nothing that the law and all that it calls make is longer than what came in: it says more and counts as full. Else prove '..UptoSaid'. A law counts once. -/
mutual
def uptoBulk {H : Type} : DataW H → Nat
  | .lit (.string bytes) => bytes.length + 1
  | .lit _ => 1
  | .nil => 1
  | .ptr d => uptoBulk d + 1
  | .slice elems spare => uptoBulkAll elems + uptoBulkAll spare + 1
  | .agg parts => uptoBulkAll parts + 1
  | .iface _ d => uptoBulk d + 1
  | .map entries => uptoBulkEntries entries + 1
  | .held _ => 1
def uptoBulkAll {H : Type} : List (DataW H) → Nat
  | [] => 0
  | d :: r => uptoBulk d + uptoBulkAll r
def uptoBulkEntries {H : Type} : List (Lit × DataW H) → Nat
  | [] => 0
  | x :: r => uptoBulkEntry x + uptoBulkEntries r
def uptoBulkEntry {H : Type} : Lit × DataW H → Nat
  | (.string bytes, d) => bytes.length + uptoBulk d + 1
  | (_, d) => uptoBulk d + 1
 end
def uptoSmall : (H : Type) → List (DataW H) → Bool := fun _ ds => decide (uptoBulkAll ds ≤ 1048576)
def OpenSpec.upto (s : _root_.Go.ChangeSpec) : _root_.Go.OpenSpec := { _root_.Go.OpenSpec.ofChange s with cond := some uptoSmall }

/-- 'laws.FnExactRankMotions', WHERE WHAT IT READS IS OF BULK AT MOST 1048576: true; the input reads as it did. -/
def fnExactRankMotionsUptoRow : OpenClaim := { program := "ytilffhaghabdgaa", sum := "c95feda9b95d8fb701ab382efa7d1f1c8b6910378f955c077b2556291f633721", func := "loop.example/g00889/laws.FnExactRankMotions", spec := "fnExactRankMotions", unfollowed := true, recurses := true, apart := false, narrowed := true }
def FnExactRankMotionsUptoSaid : Prop := fnExactRankMotionsUptoRow.holds Try.pinned (OpenSpec.upto fnExactRankMotionsSpec)

/-- 'laws.FnExactBestMotion', WHERE WHAT IT READS IS OF BULK AT MOST 1048576: true; the input reads as it did. -/
def fnExactBestMotionUptoRow : OpenClaim := { program := "ytilffhaghabdgaa", sum := "c95feda9b95d8fb701ab382efa7d1f1c8b6910378f955c077b2556291f633721", func := "loop.example/g00889/laws.FnExactBestMotion", spec := "fnExactBestMotion", unfollowed := true, recurses := true, apart := false, narrowed := true }
def FnExactBestMotionUptoSaid : Prop := fnExactBestMotionUptoRow.holds Try.pinned (OpenSpec.upto fnExactBestMotionSpec)

/-- 'laws.FnMotion', WHERE WHAT IT READS IS OF BULK AT MOST 1048576: true; the input reads as it did. -/
def fnMotionUptoRow : OpenClaim := { program := "ytilffhaghabdgaa", sum := "c95feda9b95d8fb701ab382efa7d1f1c8b6910378f955c077b2556291f633721", func := "loop.example/g00889/laws.FnMotion", spec := "fnMotion", unfollowed := true, recurses := true, apart := false, narrowed := true }
def FnMotionUptoSaid : Prop := fnMotionUptoRow.holds Try.pinned (OpenSpec.upto fnMotionSpec)

/-- 'laws.FnExactNowcast', WHERE WHAT IT READS IS OF BULK AT MOST 1048576: true; the input reads as it did. -/
def fnExactNowcastUptoRow : OpenClaim := { program := "ytilffhaghabdgaa", sum := "c95feda9b95d8fb701ab382efa7d1f1c8b6910378f955c077b2556291f633721", func := "loop.example/g00889/laws.FnExactNowcast", spec := "fnExactNowcast", unfollowed := true, recurses := true, apart := false, narrowed := true }
def FnExactNowcastUptoSaid : Prop := fnExactNowcastUptoRow.holds Try.pinned (OpenSpec.upto fnExactNowcastSpec)

/-- 'laws.FnNowcast', WHERE WHAT IT READS IS OF BULK AT MOST 1048576: true; the input reads as it did. -/
def fnNowcastUptoRow : OpenClaim := { program := "ytilffhaghabdgaa", sum := "c95feda9b95d8fb701ab382efa7d1f1c8b6910378f955c077b2556291f633721", func := "loop.example/g00889/laws.FnNowcast", spec := "fnNowcast", unfollowed := true, recurses := true, apart := false, narrowed := true }
def FnNowcastUptoSaid : Prop := fnNowcastUptoRow.holds Try.pinned (OpenSpec.upto fnNowcastSpec)

/-- 'laws.FnMembers', WHERE WHAT IT READS IS OF BULK AT MOST 1048576: true; the input reads as it did. -/
def fnMembersUptoRow : OpenClaim := { program := "ytilffhaghabdgaa", sum := "c95feda9b95d8fb701ab382efa7d1f1c8b6910378f955c077b2556291f633721", func := "loop.example/g00889/laws.FnMembers", spec := "fnMembers", unfollowed := true, recurses := true, apart := false, narrowed := true }
def FnMembersUptoSaid : Prop := fnMembersUptoRow.holds Try.pinned (OpenSpec.upto fnMembersSpec)

/-- 'laws.FnEnsembles', WHERE WHAT IT READS IS OF BULK AT MOST 1048576: true; the input reads as it did. -/
def fnEnsemblesUptoRow : OpenClaim := { program := "ytilffhaghabdgaa", sum := "c95feda9b95d8fb701ab382efa7d1f1c8b6910378f955c077b2556291f633721", func := "loop.example/g00889/laws.FnEnsembles", spec := "fnEnsembles", unfollowed := true, recurses := true, apart := false, narrowed := true }
def FnEnsemblesUptoSaid : Prop := fnEnsemblesUptoRow.holds Try.pinned (OpenSpec.upto fnEnsemblesSpec)

/-- 'laws.FnExactRegionBorder', WHERE WHAT IT READS IS OF BULK AT MOST 1048576: true; the input reads as it did. -/
def fnExactRegionBorderUptoRow : OpenClaim := { program := "ytilffhaghabdgaa", sum := "c95feda9b95d8fb701ab382efa7d1f1c8b6910378f955c077b2556291f633721", func := "loop.example/g00889/laws.FnExactRegionBorder", spec := "fnExactRegionBorder", unfollowed := true, recurses := true, apart := false, narrowed := true }
def FnExactRegionBorderUptoSaid : Prop := fnExactRegionBorderUptoRow.holds Try.pinned (OpenSpec.upto fnExactRegionBorderSpec)

/-- 'laws.FnExactRegionParts', WHERE WHAT IT READS IS OF BULK AT MOST 1048576: true; the input reads as it did. -/
def fnExactRegionPartsUptoRow : OpenClaim := { program := "ytilffhaghabdgaa", sum := "c95feda9b95d8fb701ab382efa7d1f1c8b6910378f955c077b2556291f633721", func := "loop.example/g00889/laws.FnExactRegionParts", spec := "fnExactRegionParts", unfollowed := true, recurses := true, apart := false, narrowed := true }
def FnExactRegionPartsUptoSaid : Prop := fnExactRegionPartsUptoRow.holds Try.pinned (OpenSpec.upto fnExactRegionPartsSpec)

/-- 'laws.FnRegions', WHERE WHAT IT READS IS OF BULK AT MOST 1048576: true; the input reads as it did. -/
def fnRegionsUptoRow : OpenClaim := { program := "ytilffhaghabdgaa", sum := "c95feda9b95d8fb701ab382efa7d1f1c8b6910378f955c077b2556291f633721", func := "loop.example/g00889/laws.FnRegions", spec := "fnRegions", unfollowed := true, recurses := true, apart := false, narrowed := true }
def FnRegionsUptoSaid : Prop := fnRegionsUptoRow.holds Try.pinned (OpenSpec.upto fnRegionsSpec)

end Rows
end Go.Proofs.Ytilffhaghabdgaa
