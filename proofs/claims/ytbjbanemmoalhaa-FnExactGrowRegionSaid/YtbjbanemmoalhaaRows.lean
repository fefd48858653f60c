/-
  No cell of these rows narrows 'for every input' (looked for: loops, veiled, ifaces, maps, wideKeys, modest, calm, conditions, laid).
  DERIVED. THE GIVEN ROWS OF THIS SEAT. 12 by the template 'for every input the law returns true; each argument reads behind the call as it read before'; 0 by the template 'total and deterministic' (their statements: YtbjbanemmoalhaaTotals.lean).
  GIVEN WITH THE SEED: the statements are not yours to turn. If you find one false, say at which input.
  Laid BY PROGRAM, IN A SANDBOX (cutbox-rows.mjs): the forced cells as the released guide's own fill.sh prints them over the translation 517766196a391ac1… (all of the seat's roots in one cut). By AI agents, Wed Nov 11 2026. No macro, syntax, notation, axiom, sorry.
-/
import Derived.Test.YtbjbanemmoalhaaChecked
import GoSem.Claim
import GoSem.ClaimJoined
import GoSem.ClaimMapViews
import Derived.JoinedTies
import Derived.KernelRfl
namespace Go.Proofs.Ytbjbanemmoalhaa
/- THE CELL 'sum', in the pinned program and in every row, IS THE sha256 OF THE DUMP (.gsa) THAT YtbjbanemmoalhaaProg.lean LOADS. Nothing in Lean hashes anything: it is a label: what it is worth is what the hold of that sum in a sandbox is worth. -/
noncomputable def Try.pinned : Pinned := { name := "ytbjbanemmoalhaa", sum := "517766196a391ac121613afa69f5e86d074d0223c5a531260d82b404e8bce6cd", checked := Try.checked }
namespace Rows
def none {H : Type} : Left H := { results := [], args := [] }

/-- 'laws.FnExactGrowRegion': WHATEVER THE INPUT: true; the input reads as it did. -/
def fnExactGrowRegionSpec : ChangeSpec := { name := "fnExactGrowRegion", fn := fun _ => fun
  | [d1, d2, d3] => { results := [.lit (.bool true)], args := [d1, d2, d3] }
  | _ => none }
def fnExactGrowRegionRow : OpenClaim := { program := "ytbjbanemmoalhaa", sum := "517766196a391ac121613afa69f5e86d074d0223c5a531260d82b404e8bce6cd", func := "loop.example/g00889/laws.FnExactGrowRegion", spec := "fnExactGrowRegion", unfollowed := true, recurses := true, apart := false }
def FnExactGrowRegionSaid : Prop := fnExactGrowRegionRow.holds Try.pinned (OpenSpec.ofChange fnExactGrowRegionSpec)

/-- ITS FALSE NEIGHBOUR: 'it returns false'. Refute it at one input. -/
def fnExactGrowRegionWrong : ChangeSpec := { name := "fnExactGrowRegion", fn := fun _ => fun
  | [d1, d2, d3] => { results := [.lit (.bool false)], args := [d1, d2, d3] }
  | _ => none }
def FnExactGrowRegionWrongFalsely : Prop := fnExactGrowRegionRow.holds Try.pinned (OpenSpec.ofChange fnExactGrowRegionWrong)

/-- 'laws.FnExactOutlines': WHATEVER THE INPUT: true; the input reads as it did. -/
def fnExactOutlinesSpec : ChangeSpec := { name := "fnExactOutlines", fn := fun _ => fun
  | [d1, d2, d3] => { results := [.lit (.bool true)], args := [d1, d2, d3] }
  | _ => none }
def fnExactOutlinesRow : OpenClaim := { program := "ytbjbanemmoalhaa", sum := "517766196a391ac121613afa69f5e86d074d0223c5a531260d82b404e8bce6cd", func := "loop.example/g00889/laws.FnExactOutlines", spec := "fnExactOutlines", unfollowed := true, recurses := true, apart := false }
def FnExactOutlinesSaid : Prop := fnExactOutlinesRow.holds Try.pinned (OpenSpec.ofChange fnExactOutlinesSpec)

/-- ITS FALSE NEIGHBOUR: 'it returns false'. Refute it at one input. -/
def fnExactOutlinesWrong : ChangeSpec := { name := "fnExactOutlines", fn := fun _ => fun
  | [d1, d2, d3] => { results := [.lit (.bool false)], args := [d1, d2, d3] }
  | _ => none }
def FnExactOutlinesWrongFalsely : Prop := fnExactOutlinesRow.holds Try.pinned (OpenSpec.ofChange fnExactOutlinesWrong)

/-- 'laws.FnExactRegionParts': WHATEVER THE INPUT: true; the input reads as it did. -/
def fnExactRegionPartsSpec : ChangeSpec := { name := "fnExactRegionParts", fn := fun _ => fun
  | [d1, d2, d3] => { results := [.lit (.bool true)], args := [d1, d2, d3] }
  | _ => none }
def fnExactRegionPartsRow : OpenClaim := { program := "ytbjbanemmoalhaa", sum := "517766196a391ac121613afa69f5e86d074d0223c5a531260d82b404e8bce6cd", func := "loop.example/g00889/laws.FnExactRegionParts", spec := "fnExactRegionParts", unfollowed := true, recurses := true, apart := false }
def FnExactRegionPartsSaid : Prop := fnExactRegionPartsRow.holds Try.pinned (OpenSpec.ofChange fnExactRegionPartsSpec)

/-- ITS FALSE NEIGHBOUR: 'it returns false'. Refute it at one input. -/
def fnExactRegionPartsWrong : ChangeSpec := { name := "fnExactRegionParts", fn := fun _ => fun
  | [d1, d2, d3] => { results := [.lit (.bool false)], args := [d1, d2, d3] }
  | _ => none }
def FnExactRegionPartsWrongFalsely : Prop := fnExactRegionPartsRow.holds Try.pinned (OpenSpec.ofChange fnExactRegionPartsWrong)

/-- 'laws.FnExactMedianFilter': WHATEVER THE INPUT: true; the input reads as it did. -/
def fnExactMedianFilterSpec : ChangeSpec := { name := "fnExactMedianFilter", fn := fun _ => fun
  | [d1, d2] => { results := [.lit (.bool true)], args := [d1, d2] }
  | _ => none }
def fnExactMedianFilterRow : OpenClaim := { program := "ytbjbanemmoalhaa", sum := "517766196a391ac121613afa69f5e86d074d0223c5a531260d82b404e8bce6cd", func := "loop.example/g00889/laws.FnExactMedianFilter", spec := "fnExactMedianFilter", unfollowed := true, recurses := true, apart := false }
def FnExactMedianFilterSaid : Prop := fnExactMedianFilterRow.holds Try.pinned (OpenSpec.ofChange fnExactMedianFilterSpec)

/-- ITS FALSE NEIGHBOUR: 'it returns false'. Refute it at one input. -/
def fnExactMedianFilterWrong : ChangeSpec := { name := "fnExactMedianFilter", fn := fun _ => fun
  | [d1, d2] => { results := [.lit (.bool false)], args := [d1, d2] }
  | _ => none }
def FnExactMedianFilterWrongFalsely : Prop := fnExactMedianFilterRow.holds Try.pinned (OpenSpec.ofChange fnExactMedianFilterWrong)

/-- 'laws.FnExactQuantileField': WHATEVER THE INPUT: true; the input reads as it did. -/
def fnExactQuantileFieldSpec : ChangeSpec := { name := "fnExactQuantileField", fn := fun _ => fun
  | [d1, d2, d3] => { results := [.lit (.bool true)], args := [d1, d2, d3] }
  | _ => none }
def fnExactQuantileFieldRow : OpenClaim := { program := "ytbjbanemmoalhaa", sum := "517766196a391ac121613afa69f5e86d074d0223c5a531260d82b404e8bce6cd", func := "loop.example/g00889/laws.FnExactQuantileField", spec := "fnExactQuantileField", unfollowed := true, recurses := true, apart := false }
def FnExactQuantileFieldSaid : Prop := fnExactQuantileFieldRow.holds Try.pinned (OpenSpec.ofChange fnExactQuantileFieldSpec)

/-- ITS FALSE NEIGHBOUR: 'it returns false'. Refute it at one input. -/
def fnExactQuantileFieldWrong : ChangeSpec := { name := "fnExactQuantileField", fn := fun _ => fun
  | [d1, d2, d3] => { results := [.lit (.bool false)], args := [d1, d2, d3] }
  | _ => none }
def FnExactQuantileFieldWrongFalsely : Prop := fnExactQuantileFieldRow.holds Try.pinned (OpenSpec.ofChange fnExactQuantileFieldWrong)

/-- 'laws.FnExactBestMotion': WHATEVER THE INPUT: true; the input reads as it did. -/
def fnExactBestMotionSpec : ChangeSpec := { name := "fnExactBestMotion", fn := fun _ => fun
  | [d1, d2] => { results := [.lit (.bool true)], args := [d1, d2] }
  | _ => none }
def fnExactBestMotionRow : OpenClaim := { program := "ytbjbanemmoalhaa", sum := "517766196a391ac121613afa69f5e86d074d0223c5a531260d82b404e8bce6cd", func := "loop.example/g00889/laws.FnExactBestMotion", spec := "fnExactBestMotion", unfollowed := true, recurses := true, apart := false }
def FnExactBestMotionSaid : Prop := fnExactBestMotionRow.holds Try.pinned (OpenSpec.ofChange fnExactBestMotionSpec)

/-- ITS FALSE NEIGHBOUR: 'it returns false'. Refute it at one input. -/
def fnExactBestMotionWrong : ChangeSpec := { name := "fnExactBestMotion", fn := fun _ => fun
  | [d1, d2] => { results := [.lit (.bool false)], args := [d1, d2] }
  | _ => none }
def FnExactBestMotionWrongFalsely : Prop := fnExactBestMotionRow.holds Try.pinned (OpenSpec.ofChange fnExactBestMotionWrong)

/-- 'laws.FnExactRankMotions': WHATEVER THE INPUT: true; the input reads as it did. -/
def fnExactRankMotionsSpec : ChangeSpec := { name := "fnExactRankMotions", fn := fun _ => fun
  | [d1, d2] => { results := [.lit (.bool true)], args := [d1, d2] }
  | _ => none }
def fnExactRankMotionsRow : OpenClaim := { program := "ytbjbanemmoalhaa", sum := "517766196a391ac121613afa69f5e86d074d0223c5a531260d82b404e8bce6cd", func := "loop.example/g00889/laws.FnExactRankMotions", spec := "fnExactRankMotions", unfollowed := true, recurses := true, apart := false }
def FnExactRankMotionsSaid : Prop := fnExactRankMotionsRow.holds Try.pinned (OpenSpec.ofChange fnExactRankMotionsSpec)

/-- ITS FALSE NEIGHBOUR: 'it returns false'. Refute it at one input. -/
def fnExactRankMotionsWrong : ChangeSpec := { name := "fnExactRankMotions", fn := fun _ => fun
  | [d1, d2] => { results := [.lit (.bool false)], args := [d1, d2] }
  | _ => none }
def FnExactRankMotionsWrongFalsely : Prop := fnExactRankMotionsRow.holds Try.pinned (OpenSpec.ofChange fnExactRankMotionsWrong)

/-- 'laws.FnFilters': WHATEVER THE INPUT: true; the input reads as it did. -/
def fnFiltersSpec : ChangeSpec := { name := "fnFilters", fn := fun _ => fun
  | [d] => { results := [.lit (.bool true)], args := [d] }
  | _ => none }
def fnFiltersRow : OpenClaim := { program := "ytbjbanemmoalhaa", sum := "517766196a391ac121613afa69f5e86d074d0223c5a531260d82b404e8bce6cd", func := "loop.example/g00889/laws.FnFilters", spec := "fnFilters", unfollowed := true, recurses := true, apart := false }
def FnFiltersSaid : Prop := fnFiltersRow.holds Try.pinned (OpenSpec.ofChange fnFiltersSpec)

/-- ITS FALSE NEIGHBOUR: 'it returns false'. Refute it at one input. -/
def fnFiltersWrong : ChangeSpec := { name := "fnFilters", fn := fun _ => fun
  | [d] => { results := [.lit (.bool false)], args := [d] }
  | _ => none }
def FnFiltersWrongFalsely : Prop := fnFiltersRow.holds Try.pinned (OpenSpec.ofChange fnFiltersWrong)

/-- 'laws.FnRegions': WHATEVER THE INPUT: true; the input reads as it did. -/
def fnRegionsSpec : ChangeSpec := { name := "fnRegions", fn := fun _ => fun
  | [d] => { results := [.lit (.bool true)], args := [d] }
  | _ => none }
def fnRegionsRow : OpenClaim := { program := "ytbjbanemmoalhaa", sum := "517766196a391ac121613afa69f5e86d074d0223c5a531260d82b404e8bce6cd", func := "loop.example/g00889/laws.FnRegions", spec := "fnRegions", unfollowed := true, recurses := true, apart := false }
def FnRegionsSaid : Prop := fnRegionsRow.holds Try.pinned (OpenSpec.ofChange fnRegionsSpec)

/-- ITS FALSE NEIGHBOUR: 'it returns false'. Refute it at one input. -/
def fnRegionsWrong : ChangeSpec := { name := "fnRegions", fn := fun _ => fun
  | [d] => { results := [.lit (.bool false)], args := [d] }
  | _ => none }
def FnRegionsWrongFalsely : Prop := fnRegionsRow.holds Try.pinned (OpenSpec.ofChange fnRegionsWrong)

/-- 'laws.FnExactNowcast': WHATEVER THE INPUT: true; the input reads as it did. -/
def fnExactNowcastSpec : ChangeSpec := { name := "fnExactNowcast", fn := fun _ => fun
  | [d1, d2, d3] => { results := [.lit (.bool true)], args := [d1, d2, d3] }
  | _ => none }
def fnExactNowcastRow : OpenClaim := { program := "ytbjbanemmoalhaa", sum := "517766196a391ac121613afa69f5e86d074d0223c5a531260d82b404e8bce6cd", func := "loop.example/g00889/laws.FnExactNowcast", spec := "fnExactNowcast", unfollowed := true, recurses := true, apart := false }
def FnExactNowcastSaid : Prop := fnExactNowcastRow.holds Try.pinned (OpenSpec.ofChange fnExactNowcastSpec)

/-- ITS FALSE NEIGHBOUR: 'it returns false'. Refute it at one input. -/
def fnExactNowcastWrong : ChangeSpec := { name := "fnExactNowcast", fn := fun _ => fun
  | [d1, d2, d3] => { results := [.lit (.bool false)], args := [d1, d2, d3] }
  | _ => none }
def FnExactNowcastWrongFalsely : Prop := fnExactNowcastRow.holds Try.pinned (OpenSpec.ofChange fnExactNowcastWrong)

/-- 'laws.FnMotion': WHATEVER THE INPUT: true; the input reads as it did. -/
def fnMotionSpec : ChangeSpec := { name := "fnMotion", fn := fun _ => fun
  | [d] => { results := [.lit (.bool true)], args := [d] }
  | _ => none }
def fnMotionRow : OpenClaim := { program := "ytbjbanemmoalhaa", sum := "517766196a391ac121613afa69f5e86d074d0223c5a531260d82b404e8bce6cd", func := "loop.example/g00889/laws.FnMotion", spec := "fnMotion", unfollowed := true, recurses := true, apart := false }
def FnMotionSaid : Prop := fnMotionRow.holds Try.pinned (OpenSpec.ofChange fnMotionSpec)

/-- ITS FALSE NEIGHBOUR: 'it returns false'. Refute it at one input. -/
def fnMotionWrong : ChangeSpec := { name := "fnMotion", fn := fun _ => fun
  | [d] => { results := [.lit (.bool false)], args := [d] }
  | _ => none }
def FnMotionWrongFalsely : Prop := fnMotionRow.holds Try.pinned (OpenSpec.ofChange fnMotionWrong)

/-- 'laws.FnEnsembles': WHATEVER THE INPUT: true; the input reads as it did. -/
def fnEnsemblesSpec : ChangeSpec := { name := "fnEnsembles", fn := fun _ => fun
  | [d] => { results := [.lit (.bool true)], args := [d] }
  | _ => none }
def fnEnsemblesRow : OpenClaim := { program := "ytbjbanemmoalhaa", sum := "517766196a391ac121613afa69f5e86d074d0223c5a531260d82b404e8bce6cd", func := "loop.example/g00889/laws.FnEnsembles", spec := "fnEnsembles", unfollowed := true, recurses := true, apart := false }
def FnEnsemblesSaid : Prop := fnEnsemblesRow.holds Try.pinned (OpenSpec.ofChange fnEnsemblesSpec)

/-- ITS FALSE NEIGHBOUR: 'it returns false'. Refute it at one input. -/
def fnEnsemblesWrong : ChangeSpec := { name := "fnEnsembles", fn := fun _ => fun
  | [d] => { results := [.lit (.bool false)], args := [d] }
  | _ => none }
def FnEnsemblesWrongFalsely : Prop := fnEnsemblesRow.holds Try.pinned (OpenSpec.ofChange fnEnsemblesWrong)

/- THE SECOND FORM. 'bulk': how many values and letters a reading holds, each counted each time it is reached (what is shared counts as often as it is met; a slice's spare places count too). A statement '..UptoSaid' is the law's where the arguments, and the package variables that the reading takes, are together of bulk at most 1048576: NARROWER than '..Said'. Prove '..Said' where nothing that the law and all that it calls make is longer than what came in: it says more and counts as full. Else prove '..UptoSaid'. A law counts once. -/
mutual
def uptoBulk {H : Type} : DataW H → Nat
  | .lit (.string bytes) => bytes.length + 1
  | .lit _ => 1
  | .nil => 1
  | .ptr d => uptoBulk d + 1
  | .slice elems spare => uptoBulkAll elems + uptoBulkAll spare + 1
  | .agg parts => uptoBulkAll parts + 1
  | .iface _ d => uptoBulk d + 1
  | .map entries => uptoBulkEntries entries + 1
  | .held _ => 1
def uptoBulkAll {H : Type} : List (DataW H) → Nat
  | [] => 0
  | d :: r => uptoBulk d + uptoBulkAll r
def uptoBulkEntries {H : Type} : List (Lit × DataW H) → Nat
  | [] => 0
  | x :: r => uptoBulkEntry x + uptoBulkEntries r
def uptoBulkEntry {H : Type} : Lit × DataW H → Nat
  | (.string bytes, d) => bytes.length + uptoBulk d + 1
  | (_, d) => uptoBulk d + 1
 end
def uptoSmall : (H : Type) → List (DataW H) → Bool := fun _ ds => decide (uptoBulkAll ds ≤ 1048576)
def OpenSpec.upto (s : _root_.Go.ChangeSpec) : _root_.Go.OpenSpec := { _root_.Go.OpenSpec.ofChange s with cond := some uptoSmall }

/-- 'laws.FnExactGrowRegion', WHERE WHAT IT READS IS OF BULK AT MOST 1048576: true; the input reads as it did. -/
def fnExactGrowRegionUptoRow : OpenClaim := { program := "ytbjbanemmoalhaa", sum := "517766196a391ac121613afa69f5e86d074d0223c5a531260d82b404e8bce6cd", func := "loop.example/g00889/laws.FnExactGrowRegion", spec := "fnExactGrowRegion", unfollowed := true, recurses := true, apart := false, narrowed := true }
def FnExactGrowRegionUptoSaid : Prop := fnExactGrowRegionUptoRow.holds Try.pinned (OpenSpec.upto fnExactGrowRegionSpec)

/-- 'laws.FnExactOutlines', WHERE WHAT IT READS IS OF BULK AT MOST 1048576: true; the input reads as it did. -/
def fnExactOutlinesUptoRow : OpenClaim := { program := "ytbjbanemmoalhaa", sum := "517766196a391ac121613afa69f5e86d074d0223c5a531260d82b404e8bce6cd", func := "loop.example/g00889/laws.FnExactOutlines", spec := "fnExactOutlines", unfollowed := true, recurses := true, apart := false, narrowed := true }
def FnExactOutlinesUptoSaid : Prop := fnExactOutlinesUptoRow.holds Try.pinned (OpenSpec.upto fnExactOutlinesSpec)

/-- 'laws.FnExactRegionParts', WHERE WHAT IT READS IS OF BULK AT MOST 1048576: true; the input reads as it did. -/
def fnExactRegionPartsUptoRow : OpenClaim := { program := "ytbjbanemmoalhaa", sum := "517766196a391ac121613afa69f5e86d074d0223c5a531260d82b404e8bce6cd", func := "loop.example/g00889/laws.FnExactRegionParts", spec := "fnExactRegionParts", unfollowed := true, recurses := true, apart := false, narrowed := true }
def FnExactRegionPartsUptoSaid : Prop := fnExactRegionPartsUptoRow.holds Try.pinned (OpenSpec.upto fnExactRegionPartsSpec)

/-- 'laws.FnExactMedianFilter', WHERE WHAT IT READS IS OF BULK AT MOST 1048576: true; the input reads as it did. -/
def fnExactMedianFilterUptoRow : OpenClaim := { program := "ytbjbanemmoalhaa", sum := "517766196a391ac121613afa69f5e86d074d0223c5a531260d82b404e8bce6cd", func := "loop.example/g00889/laws.FnExactMedianFilter", spec := "fnExactMedianFilter", unfollowed := true, recurses := true, apart := false, narrowed := true }
def FnExactMedianFilterUptoSaid : Prop := fnExactMedianFilterUptoRow.holds Try.pinned (OpenSpec.upto fnExactMedianFilterSpec)

/-- 'laws.FnExactQuantileField', WHERE WHAT IT READS IS OF BULK AT MOST 1048576: true; the input reads as it did. -/
def fnExactQuantileFieldUptoRow : OpenClaim := { program := "ytbjbanemmoalhaa", sum := "517766196a391ac121613afa69f5e86d074d0223c5a531260d82b404e8bce6cd", func := "loop.example/g00889/laws.FnExactQuantileField", spec := "fnExactQuantileField", unfollowed := true, recurses := true, apart := false, narrowed := true }
def FnExactQuantileFieldUptoSaid : Prop := fnExactQuantileFieldUptoRow.holds Try.pinned (OpenSpec.upto fnExactQuantileFieldSpec)

/-- 'laws.FnExactBestMotion', WHERE WHAT IT READS IS OF BULK AT MOST 1048576: true; the input reads as it did. -/
def fnExactBestMotionUptoRow : OpenClaim := { program := "ytbjbanemmoalhaa", sum := "517766196a391ac121613afa69f5e86d074d0223c5a531260d82b404e8bce6cd", func := "loop.example/g00889/laws.FnExactBestMotion", spec := "fnExactBestMotion", unfollowed := true, recurses := true, apart := false, narrowed := true }
def FnExactBestMotionUptoSaid : Prop := fnExactBestMotionUptoRow.holds Try.pinned (OpenSpec.upto fnExactBestMotionSpec)

/-- 'laws.FnExactRankMotions', WHERE WHAT IT READS IS OF BULK AT MOST 1048576: true; the input reads as it did. -/
def fnExactRankMotionsUptoRow : OpenClaim := { program := "ytbjbanemmoalhaa", sum := "517766196a391ac121613afa69f5e86d074d0223c5a531260d82b404e8bce6cd", func := "loop.example/g00889/laws.FnExactRankMotions", spec := "fnExactRankMotions", unfollowed := true, recurses := true, apart := false, narrowed := true }
def FnExactRankMotionsUptoSaid : Prop := fnExactRankMotionsUptoRow.holds Try.pinned (OpenSpec.upto fnExactRankMotionsSpec)

/-- 'laws.FnFilters', WHERE WHAT IT READS IS OF BULK AT MOST 1048576: true; the input reads as it did. -/
def fnFiltersUptoRow : OpenClaim := { program := "ytbjbanemmoalhaa", sum := "517766196a391ac121613afa69f5e86d074d0223c5a531260d82b404e8bce6cd", func := "loop.example/g00889/laws.FnFilters", spec := "fnFilters", unfollowed := true, recurses := true, apart := false, narrowed := true }
def FnFiltersUptoSaid : Prop := fnFiltersUptoRow.holds Try.pinned (OpenSpec.upto fnFiltersSpec)

/-- 'laws.FnRegions', WHERE WHAT IT READS IS OF BULK AT MOST 1048576: true; the input reads as it did. -/
def fnRegionsUptoRow : OpenClaim := { program := "ytbjbanemmoalhaa", sum := "517766196a391ac121613afa69f5e86d074d0223c5a531260d82b404e8bce6cd", func := "loop.example/g00889/laws.FnRegions", spec := "fnRegions", unfollowed := true, recurses := true, apart := false, narrowed := true }
def FnRegionsUptoSaid : Prop := fnRegionsUptoRow.holds Try.pinned (OpenSpec.upto fnRegionsSpec)

/-- 'laws.FnExactNowcast', WHERE WHAT IT READS IS OF BULK AT MOST 1048576: true; the input reads as it did. -/
def fnExactNowcastUptoRow : OpenClaim := { program := "ytbjbanemmoalhaa", sum := "517766196a391ac121613afa69f5e86d074d0223c5a531260d82b404e8bce6cd", func := "loop.example/g00889/laws.FnExactNowcast", spec := "fnExactNowcast", unfollowed := true, recurses := true, apart := false, narrowed := true }
def FnExactNowcastUptoSaid : Prop := fnExactNowcastUptoRow.holds Try.pinned (OpenSpec.upto fnExactNowcastSpec)

/-- 'laws.FnMotion', WHERE WHAT IT READS IS OF BULK AT MOST 1048576: true; the input reads as it did. -/
def fnMotionUptoRow : OpenClaim := { program := "ytbjbanemmoalhaa", sum := "517766196a391ac121613afa69f5e86d074d0223c5a531260d82b404e8bce6cd", func := "loop.example/g00889/laws.FnMotion", spec := "fnMotion", unfollowed := true, recurses := true, apart := false, narrowed := true }
def FnMotionUptoSaid : Prop := fnMotionUptoRow.holds Try.pinned (OpenSpec.upto fnMotionSpec)

/-- 'laws.FnEnsembles', WHERE WHAT IT READS IS OF BULK AT MOST 1048576: true; the input reads as it did. -/
def fnEnsemblesUptoRow : OpenClaim := { program := "ytbjbanemmoalhaa", sum := "517766196a391ac121613afa69f5e86d074d0223c5a531260d82b404e8bce6cd", func := "loop.example/g00889/laws.FnEnsembles", spec := "fnEnsembles", unfollowed := true, recurses := true, apart := false, narrowed := true }
def FnEnsemblesUptoSaid : Prop := fnEnsemblesUptoRow.holds Try.pinned (OpenSpec.upto fnEnsemblesSpec)

end Rows
end Go.Proofs.Ytbjbanemmoalhaa
