/-
  No cell of these rows narrows 'for every input' (looked for: loops, veiled, ifaces, maps, wideKeys, modest, calm, conditions, laid).
  DERIVED. THE GIVEN ROWS OF THIS SEAT. 12 by the template 'for every input the law returns true; each argument reads behind the call as it read before'; 0 by the template 'total and deterministic' (their statements: YtlneoigiodneeaaTotals.lean).
  GIVEN WITH THE SEED: the statements are not yours to turn. If you find one false, say at which input.
  Laid BY PROGRAM, IN A SANDBOX (cutbox-rows.mjs): the forced cells as the released guide's own fill.sh prints them over the translation 182b13ff75970562… (all of the seat's roots in one cut). By AI agents, Wed Nov 11 2026. No macro, syntax, notation, axiom, sorry.
-/
import Derived.Test.YtlneoigiodneeaaChecked
import GoSem.Claim
import GoSem.ClaimJoined
import GoSem.ClaimMapViews
import Derived.JoinedTies
import Derived.KernelRfl
namespace Go.Proofs.Ytlneoigiodneeaa
/- THE CELL 'sum', in the pinned program and in every row, IS THE sha256 OF THE DUMP (.gsa) THAT YtlneoigiodneeaaProg.lean LOADS. Nothing in Lean hashes anything: it is a label: what it is worth is what the hold of that sum in a sandbox is worth. -/
noncomputable def Try.pinned : Pinned := { name := "ytlneoigiodneeaa", sum := "182b13ff759705629270440ce92eda2356840354684652e975fa937e0bd8f8eb", checked := Try.checked }
namespace Rows
def none {H : Type} : Left H := { results := [], args := [] }

/-- 'laws.FnExactOverlapUnits': WHATEVER THE INPUT: true; the input reads as it did. -/
def fnExactOverlapUnitsSpec : ChangeSpec := { name := "fnExactOverlapUnits", fn := fun _ => fun
  | [d1, d2, d3, d4] => { results := [.lit (.bool true)], args := [d1, d2, d3, d4] }
  | _ => none }
def fnExactOverlapUnitsRow : OpenClaim := { program := "ytlneoigiodneeaa", sum := "182b13ff759705629270440ce92eda2356840354684652e975fa937e0bd8f8eb", func := "loop.example/g00889/laws.FnExactOverlapUnits", spec := "fnExactOverlapUnits", apart := false }
def FnExactOverlapUnitsSaid : Prop := fnExactOverlapUnitsRow.holds Try.pinned (OpenSpec.ofChange fnExactOverlapUnitsSpec)

/-- ITS FALSE NEIGHBOUR: 'it returns false'. Refute it at one input. -/
def fnExactOverlapUnitsWrong : ChangeSpec := { name := "fnExactOverlapUnits", fn := fun _ => fun
  | [d1, d2, d3, d4] => { results := [.lit (.bool false)], args := [d1, d2, d3, d4] }
  | _ => none }
def FnExactOverlapUnitsWrongFalsely : Prop := fnExactOverlapUnitsRow.holds Try.pinned (OpenSpec.ofChange fnExactOverlapUnitsWrong)

/-- 'laws.FnExactReverseMotion': WHATEVER THE INPUT: true; the input reads as it did. -/
def fnExactReverseMotionSpec : ChangeSpec := { name := "fnExactReverseMotion", fn := fun _ => fun
  | [d] => { results := [.lit (.bool true)], args := [d] }
  | _ => none }
def fnExactReverseMotionRow : OpenClaim := { program := "ytlneoigiodneeaa", sum := "182b13ff759705629270440ce92eda2356840354684652e975fa937e0bd8f8eb", func := "loop.example/g00889/laws.FnExactReverseMotion", spec := "fnExactReverseMotion", apart := false }
def FnExactReverseMotionSaid : Prop := fnExactReverseMotionRow.holds Try.pinned (OpenSpec.ofChange fnExactReverseMotionSpec)

/-- ITS FALSE NEIGHBOUR: 'it returns false'. Refute it at one input. -/
def fnExactReverseMotionWrong : ChangeSpec := { name := "fnExactReverseMotion", fn := fun _ => fun
  | [d] => { results := [.lit (.bool false)], args := [d] }
  | _ => none }
def FnExactReverseMotionWrongFalsely : Prop := fnExactReverseMotionRow.holds Try.pinned (OpenSpec.ofChange fnExactReverseMotionWrong)

/-- 'laws.FnExactStormDistance': WHATEVER THE INPUT: true; the input reads as it did. -/
def fnExactStormDistanceSpec : ChangeSpec := { name := "fnExactStormDistance", fn := fun _ => fun
  | [d1, d2] => { results := [.lit (.bool true)], args := [d1, d2] }
  | _ => none }
def fnExactStormDistanceRow : OpenClaim := { program := "ytlneoigiodneeaa", sum := "182b13ff759705629270440ce92eda2356840354684652e975fa937e0bd8f8eb", func := "loop.example/g00889/laws.FnExactStormDistance", spec := "fnExactStormDistance", unfollowed := true, recurses := true, apart := false }
def FnExactStormDistanceSaid : Prop := fnExactStormDistanceRow.holds Try.pinned (OpenSpec.ofChange fnExactStormDistanceSpec)

/-- ITS FALSE NEIGHBOUR: 'it returns false'. Refute it at one input. -/
def fnExactStormDistanceWrong : ChangeSpec := { name := "fnExactStormDistance", fn := fun _ => fun
  | [d1, d2] => { results := [.lit (.bool false)], args := [d1, d2] }
  | _ => none }
def FnExactStormDistanceWrongFalsely : Prop := fnExactStormDistanceRow.holds Try.pinned (OpenSpec.ofChange fnExactStormDistanceWrong)

/-- 'laws.FnExactIsValidTally': WHATEVER THE INPUT: true; the input reads as it did. -/
def fnExactIsValidTallySpec : ChangeSpec := { name := "fnExactIsValidTally", fn := fun _ => fun
  | [d] => { results := [.lit (.bool true)], args := [d] }
  | _ => none }
def fnExactIsValidTallyRow : OpenClaim := { program := "ytlneoigiodneeaa", sum := "182b13ff759705629270440ce92eda2356840354684652e975fa937e0bd8f8eb", func := "loop.example/g00889/laws.FnExactIsValidTally", spec := "fnExactIsValidTally", apart := false }
def FnExactIsValidTallySaid : Prop := fnExactIsValidTallyRow.holds Try.pinned (OpenSpec.ofChange fnExactIsValidTallySpec)

/-- ITS FALSE NEIGHBOUR: 'it returns false'. Refute it at one input. -/
def fnExactIsValidTallyWrong : ChangeSpec := { name := "fnExactIsValidTally", fn := fun _ => fun
  | [d] => { results := [.lit (.bool false)], args := [d] }
  | _ => none }
def FnExactIsValidTallyWrongFalsely : Prop := fnExactIsValidTallyRow.holds Try.pinned (OpenSpec.ofChange fnExactIsValidTallyWrong)

/-- 'laws.FnExactLoopArea': WHATEVER THE INPUT: true; the input reads as it did. -/
def fnExactLoopAreaSpec : ChangeSpec := { name := "fnExactLoopArea", fn := fun _ => fun
  | [d] => { results := [.lit (.bool true)], args := [d] }
  | _ => none }
def fnExactLoopAreaRow : OpenClaim := { program := "ytlneoigiodneeaa", sum := "182b13ff759705629270440ce92eda2356840354684652e975fa937e0bd8f8eb", func := "loop.example/g00889/laws.FnExactLoopArea", spec := "fnExactLoopArea", apart := false }
def FnExactLoopAreaSaid : Prop := fnExactLoopAreaRow.holds Try.pinned (OpenSpec.ofChange fnExactLoopAreaSpec)

/-- ITS FALSE NEIGHBOUR: 'it returns false'. Refute it at one input. -/
def fnExactLoopAreaWrong : ChangeSpec := { name := "fnExactLoopArea", fn := fun _ => fun
  | [d] => { results := [.lit (.bool false)], args := [d] }
  | _ => none }
def FnExactLoopAreaWrongFalsely : Prop := fnExactLoopAreaRow.holds Try.pinned (OpenSpec.ofChange fnExactLoopAreaWrong)

/-- 'laws.FnExactFrequencyOf': WHATEVER THE INPUT: true; the input reads as it did. -/
def fnExactFrequencyOfSpec : ChangeSpec := { name := "fnExactFrequencyOf", fn := fun _ => fun
  | [d1, d2] => { results := [.lit (.bool true)], args := [d1, d2] }
  | _ => none }
def fnExactFrequencyOfRow : OpenClaim := { program := "ytlneoigiodneeaa", sum := "182b13ff759705629270440ce92eda2356840354684652e975fa937e0bd8f8eb", func := "loop.example/g00889/laws.FnExactFrequencyOf", spec := "fnExactFrequencyOf", apart := false }
def FnExactFrequencyOfSaid : Prop := fnExactFrequencyOfRow.holds Try.pinned (OpenSpec.ofChange fnExactFrequencyOfSpec)

/-- ITS FALSE NEIGHBOUR: 'it returns false'. Refute it at one input. -/
def fnExactFrequencyOfWrong : ChangeSpec := { name := "fnExactFrequencyOf", fn := fun _ => fun
  | [d1, d2] => { results := [.lit (.bool false)], args := [d1, d2] }
  | _ => none }
def FnExactFrequencyOfWrongFalsely : Prop := fnExactFrequencyOfRow.holds Try.pinned (OpenSpec.ofChange fnExactFrequencyOfWrong)

/-- 'laws.FnExactRegionBorder': WHATEVER THE INPUT: true; the input reads as it did. -/
def fnExactRegionBorderSpec : ChangeSpec := { name := "fnExactRegionBorder", fn := fun _ => fun
  | [d1, d2, d3] => { results := [.lit (.bool true)], args := [d1, d2, d3] }
  | _ => none }
def fnExactRegionBorderRow : OpenClaim := { program := "ytlneoigiodneeaa", sum := "182b13ff759705629270440ce92eda2356840354684652e975fa937e0bd8f8eb", func := "loop.example/g00889/laws.FnExactRegionBorder", spec := "fnExactRegionBorder", unfollowed := true, recurses := true, apart := false }
def FnExactRegionBorderSaid : Prop := fnExactRegionBorderRow.holds Try.pinned (OpenSpec.ofChange fnExactRegionBorderSpec)

/-- ITS FALSE NEIGHBOUR: 'it returns false'. Refute it at one input. -/
def fnExactRegionBorderWrong : ChangeSpec := { name := "fnExactRegionBorder", fn := fun _ => fun
  | [d1, d2, d3] => { results := [.lit (.bool false)], args := [d1, d2, d3] }
  | _ => none }
def FnExactRegionBorderWrongFalsely : Prop := fnExactRegionBorderRow.holds Try.pinned (OpenSpec.ofChange fnExactRegionBorderWrong)

/-- 'laws.FnCalibration': WHATEVER THE INPUT: true; the input reads as it did. -/
def fnCalibrationSpec : ChangeSpec := { name := "fnCalibration", fn := fun _ => fun
  | [d] => { results := [.lit (.bool true)], args := [d] }
  | _ => none }
def fnCalibrationRow : OpenClaim := { program := "ytlneoigiodneeaa", sum := "182b13ff759705629270440ce92eda2356840354684652e975fa937e0bd8f8eb", func := "loop.example/g00889/laws.FnCalibration", spec := "fnCalibration", unfollowed := true, recurses := true, apart := false }
def FnCalibrationSaid : Prop := fnCalibrationRow.holds Try.pinned (OpenSpec.ofChange fnCalibrationSpec)

/-- ITS FALSE NEIGHBOUR: 'it returns false'. Refute it at one input. -/
def fnCalibrationWrong : ChangeSpec := { name := "fnCalibration", fn := fun _ => fun
  | [d] => { results := [.lit (.bool false)], args := [d] }
  | _ => none }
def FnCalibrationWrongFalsely : Prop := fnCalibrationRow.holds Try.pinned (OpenSpec.ofChange fnCalibrationWrong)

/-- 'laws.FnCalibrated': WHATEVER THE INPUT: true; the input reads as it did. -/
def fnCalibratedSpec : ChangeSpec := { name := "fnCalibrated", fn := fun _ => fun
  | [d] => { results := [.lit (.bool true)], args := [d] }
  | _ => none }
def fnCalibratedRow : OpenClaim := { program := "ytlneoigiodneeaa", sum := "182b13ff759705629270440ce92eda2356840354684652e975fa937e0bd8f8eb", func := "loop.example/g00889/laws.FnCalibrated", spec := "fnCalibrated", apart := false }
def FnCalibratedSaid : Prop := fnCalibratedRow.holds Try.pinned (OpenSpec.ofChange fnCalibratedSpec)

/-- ITS FALSE NEIGHBOUR: 'it returns false'. Refute it at one input. -/
def fnCalibratedWrong : ChangeSpec := { name := "fnCalibrated", fn := fun _ => fun
  | [d] => { results := [.lit (.bool false)], args := [d] }
  | _ => none }
def FnCalibratedWrongFalsely : Prop := fnCalibratedRow.holds Try.pinned (OpenSpec.ofChange fnCalibratedWrong)

/-- 'laws.FnExactIsMonotone': WHATEVER THE INPUT: true; the input reads as it did. -/
def fnExactIsMonotoneSpec : ChangeSpec := { name := "fnExactIsMonotone", fn := fun _ => fun
  | [d] => { results := [.lit (.bool true)], args := [d] }
  | _ => none }
def fnExactIsMonotoneRow : OpenClaim := { program := "ytlneoigiodneeaa", sum := "182b13ff759705629270440ce92eda2356840354684652e975fa937e0bd8f8eb", func := "loop.example/g00889/laws.FnExactIsMonotone", spec := "fnExactIsMonotone", unfollowed := true, recurses := true, apart := false }
def FnExactIsMonotoneSaid : Prop := fnExactIsMonotoneRow.holds Try.pinned (OpenSpec.ofChange fnExactIsMonotoneSpec)

/-- ITS FALSE NEIGHBOUR: 'it returns false'. Refute it at one input. -/
def fnExactIsMonotoneWrong : ChangeSpec := { name := "fnExactIsMonotone", fn := fun _ => fun
  | [d] => { results := [.lit (.bool false)], args := [d] }
  | _ => none }
def FnExactIsMonotoneWrongFalsely : Prop := fnExactIsMonotoneRow.holds Try.pinned (OpenSpec.ofChange fnExactIsMonotoneWrong)

/-- 'laws.FnExactRegionAbove': WHATEVER THE INPUT: true; the input reads as it did. -/
def fnExactRegionAboveSpec : ChangeSpec := { name := "fnExactRegionAbove", fn := fun _ => fun
  | [d1, d2] => { results := [.lit (.bool true)], args := [d1, d2] }
  | _ => none }
def fnExactRegionAboveRow : OpenClaim := { program := "ytlneoigiodneeaa", sum := "182b13ff759705629270440ce92eda2356840354684652e975fa937e0bd8f8eb", func := "loop.example/g00889/laws.FnExactRegionAbove", spec := "fnExactRegionAbove", unfollowed := true, recurses := true, apart := false }
def FnExactRegionAboveSaid : Prop := fnExactRegionAboveRow.holds Try.pinned (OpenSpec.ofChange fnExactRegionAboveSpec)

/-- ITS FALSE NEIGHBOUR: 'it returns false'. Refute it at one input. -/
def fnExactRegionAboveWrong : ChangeSpec := { name := "fnExactRegionAbove", fn := fun _ => fun
  | [d1, d2] => { results := [.lit (.bool false)], args := [d1, d2] }
  | _ => none }
def FnExactRegionAboveWrongFalsely : Prop := fnExactRegionAboveRow.holds Try.pinned (OpenSpec.ofChange fnExactRegionAboveWrong)

/-- 'laws.FnExactIsValidEnsemble': WHATEVER THE INPUT: true; the input reads as it did. -/
def fnExactIsValidEnsembleSpec : ChangeSpec := { name := "fnExactIsValidEnsemble", fn := fun _ => fun
  | [d] => { results := [.lit (.bool true)], args := [d] }
  | _ => none }
def fnExactIsValidEnsembleRow : OpenClaim := { program := "ytlneoigiodneeaa", sum := "182b13ff759705629270440ce92eda2356840354684652e975fa937e0bd8f8eb", func := "loop.example/g00889/laws.FnExactIsValidEnsemble", spec := "fnExactIsValidEnsemble", unfollowed := true, recurses := true, apart := false }
def FnExactIsValidEnsembleSaid : Prop := fnExactIsValidEnsembleRow.holds Try.pinned (OpenSpec.ofChange fnExactIsValidEnsembleSpec)

/-- ITS FALSE NEIGHBOUR: 'it returns false'. Refute it at one input. -/
def fnExactIsValidEnsembleWrong : ChangeSpec := { name := "fnExactIsValidEnsemble", fn := fun _ => fun
  | [d] => { results := [.lit (.bool false)], args := [d] }
  | _ => none }
def FnExactIsValidEnsembleWrongFalsely : Prop := fnExactIsValidEnsembleRow.holds Try.pinned (OpenSpec.ofChange fnExactIsValidEnsembleWrong)

/- THE SECOND FORM. 'bulk': how many values and letters a reading holds, each counted each time it is reached (what is shared counts as often as it is met; a slice's spare places count too). A statement '..UptoSaid' is the law's where the arguments, and the package variables that the reading takes, are together of bulk at most 1048576: NARROWER than '..Said'. Prove '..Said' where nothing that the law and all that it calls make is longer than what came in: it says more and counts as full. Else prove '..UptoSaid'. A law counts once. -/
mutual
def uptoBulk {H : Type} : DataW H → Nat
  | .lit (.string bytes) => bytes.length + 1
  | .lit _ => 1
  | .nil => 1
  | .ptr d => uptoBulk d + 1
  | .slice elems spare => uptoBulkAll elems + uptoBulkAll spare + 1
  | .agg parts => uptoBulkAll parts + 1
  | .iface _ d => uptoBulk d + 1
  | .map entries => uptoBulkEntries entries + 1
  | .held _ => 1
def uptoBulkAll {H : Type} : List (DataW H) → Nat
  | [] => 0
  | d :: r => uptoBulk d + uptoBulkAll r
def uptoBulkEntries {H : Type} : List (Lit × DataW H) → Nat
  | [] => 0
  | x :: r => uptoBulkEntry x + uptoBulkEntries r
def uptoBulkEntry {H : Type} : Lit × DataW H → Nat
  | (.string bytes, d) => bytes.length + uptoBulk d + 1
  | (_, d) => uptoBulk d + 1
 end
def uptoSmall : (H : Type) → List (DataW H) → Bool := fun _ ds => decide (uptoBulkAll ds ≤ 1048576)
def OpenSpec.upto (s : _root_.Go.ChangeSpec) : _root_.Go.OpenSpec := { _root_.Go.OpenSpec.ofChange s with cond := some uptoSmall }

/-- 'laws.FnExactOverlapUnits', WHERE WHAT IT READS IS OF BULK AT MOST 1048576: true; the input reads as it did. -/
def fnExactOverlapUnitsUptoRow : OpenClaim := { program := "ytlneoigiodneeaa", sum := "182b13ff759705629270440ce92eda2356840354684652e975fa937e0bd8f8eb", func := "loop.example/g00889/laws.FnExactOverlapUnits", spec := "fnExactOverlapUnits", apart := false, narrowed := true }
def FnExactOverlapUnitsUptoSaid : Prop := fnExactOverlapUnitsUptoRow.holds Try.pinned (OpenSpec.upto fnExactOverlapUnitsSpec)

/-- 'laws.FnExactReverseMotion', WHERE WHAT IT READS IS OF BULK AT MOST 1048576: true; the input reads as it did. -/
def fnExactReverseMotionUptoRow : OpenClaim := { program := "ytlneoigiodneeaa", sum := "182b13ff759705629270440ce92eda2356840354684652e975fa937e0bd8f8eb", func := "loop.example/g00889/laws.FnExactReverseMotion", spec := "fnExactReverseMotion", apart := false, narrowed := true }
def FnExactReverseMotionUptoSaid : Prop := fnExactReverseMotionUptoRow.holds Try.pinned (OpenSpec.upto fnExactReverseMotionSpec)

/-- 'laws.FnExactStormDistance', WHERE WHAT IT READS IS OF BULK AT MOST 1048576: true; the input reads as it did. -/
def fnExactStormDistanceUptoRow : OpenClaim := { program := "ytlneoigiodneeaa", sum := "182b13ff759705629270440ce92eda2356840354684652e975fa937e0bd8f8eb", func := "loop.example/g00889/laws.FnExactStormDistance", spec := "fnExactStormDistance", unfollowed := true, recurses := true, apart := false, narrowed := true }
def FnExactStormDistanceUptoSaid : Prop := fnExactStormDistanceUptoRow.holds Try.pinned (OpenSpec.upto fnExactStormDistanceSpec)

/-- 'laws.FnExactIsValidTally', WHERE WHAT IT READS IS OF BULK AT MOST 1048576: true; the input reads as it did. -/
def fnExactIsValidTallyUptoRow : OpenClaim := { program := "ytlneoigiodneeaa", sum := "182b13ff759705629270440ce92eda2356840354684652e975fa937e0bd8f8eb", func := "loop.example/g00889/laws.FnExactIsValidTally", spec := "fnExactIsValidTally", apart := false, narrowed := true }
def FnExactIsValidTallyUptoSaid : Prop := fnExactIsValidTallyUptoRow.holds Try.pinned (OpenSpec.upto fnExactIsValidTallySpec)

/-- 'laws.FnExactLoopArea', WHERE WHAT IT READS IS OF BULK AT MOST 1048576: true; the input reads as it did. -/
def fnExactLoopAreaUptoRow : OpenClaim := { program := "ytlneoigiodneeaa", sum := "182b13ff759705629270440ce92eda2356840354684652e975fa937e0bd8f8eb", func := "loop.example/g00889/laws.FnExactLoopArea", spec := "fnExactLoopArea", apart := false, narrowed := true }
def FnExactLoopAreaUptoSaid : Prop := fnExactLoopAreaUptoRow.holds Try.pinned (OpenSpec.upto fnExactLoopAreaSpec)

/-- 'laws.FnExactFrequencyOf', WHERE WHAT IT READS IS OF BULK AT MOST 1048576: true; the input reads as it did. -/
def fnExactFrequencyOfUptoRow : OpenClaim := { program := "ytlneoigiodneeaa", sum := "182b13ff759705629270440ce92eda2356840354684652e975fa937e0bd8f8eb", func := "loop.example/g00889/laws.FnExactFrequencyOf", spec := "fnExactFrequencyOf", apart := false, narrowed := true }
def FnExactFrequencyOfUptoSaid : Prop := fnExactFrequencyOfUptoRow.holds Try.pinned (OpenSpec.upto fnExactFrequencyOfSpec)

/-- 'laws.FnExactRegionBorder', WHERE WHAT IT READS IS OF BULK AT MOST 1048576: true; the input reads as it did. -/
def fnExactRegionBorderUptoRow : OpenClaim := { program := "ytlneoigiodneeaa", sum := "182b13ff759705629270440ce92eda2356840354684652e975fa937e0bd8f8eb", func := "loop.example/g00889/laws.FnExactRegionBorder", spec := "fnExactRegionBorder", unfollowed := true, recurses := true, apart := false, narrowed := true }
def FnExactRegionBorderUptoSaid : Prop := fnExactRegionBorderUptoRow.holds Try.pinned (OpenSpec.upto fnExactRegionBorderSpec)

/-- 'laws.FnCalibration', WHERE WHAT IT READS IS OF BULK AT MOST 1048576: true; the input reads as it did. -/
def fnCalibrationUptoRow : OpenClaim := { program := "ytlneoigiodneeaa", sum := "182b13ff759705629270440ce92eda2356840354684652e975fa937e0bd8f8eb", func := "loop.example/g00889/laws.FnCalibration", spec := "fnCalibration", unfollowed := true, recurses := true, apart := false, narrowed := true }
def FnCalibrationUptoSaid : Prop := fnCalibrationUptoRow.holds Try.pinned (OpenSpec.upto fnCalibrationSpec)

/-- 'laws.FnCalibrated', WHERE WHAT IT READS IS OF BULK AT MOST 1048576: true; the input reads as it did. -/
def fnCalibratedUptoRow : OpenClaim := { program := "ytlneoigiodneeaa", sum := "182b13ff759705629270440ce92eda2356840354684652e975fa937e0bd8f8eb", func := "loop.example/g00889/laws.FnCalibrated", spec := "fnCalibrated", apart := false, narrowed := true }
def FnCalibratedUptoSaid : Prop := fnCalibratedUptoRow.holds Try.pinned (OpenSpec.upto fnCalibratedSpec)

/-- 'laws.FnExactIsMonotone', WHERE WHAT IT READS IS OF BULK AT MOST 1048576: true; the input reads as it did. -/
def fnExactIsMonotoneUptoRow : OpenClaim := { program := "ytlneoigiodneeaa", sum := "182b13ff759705629270440ce92eda2356840354684652e975fa937e0bd8f8eb", func := "loop.example/g00889/laws.FnExactIsMonotone", spec := "fnExactIsMonotone", unfollowed := true, recurses := true, apart := false, narrowed := true }
def FnExactIsMonotoneUptoSaid : Prop := fnExactIsMonotoneUptoRow.holds Try.pinned (OpenSpec.upto fnExactIsMonotoneSpec)

/-- 'laws.FnExactRegionAbove', WHERE WHAT IT READS IS OF BULK AT MOST 1048576: true; the input reads as it did. -/
def fnExactRegionAboveUptoRow : OpenClaim := { program := "ytlneoigiodneeaa", sum := "182b13ff759705629270440ce92eda2356840354684652e975fa937e0bd8f8eb", func := "loop.example/g00889/laws.FnExactRegionAbove", spec := "fnExactRegionAbove", unfollowed := true, recurses := true, apart := false, narrowed := true }
def FnExactRegionAboveUptoSaid : Prop := fnExactRegionAboveUptoRow.holds Try.pinned (OpenSpec.upto fnExactRegionAboveSpec)

/-- 'laws.FnExactIsValidEnsemble', WHERE WHAT IT READS IS OF BULK AT MOST 1048576: true; the input reads as it did. -/
def fnExactIsValidEnsembleUptoRow : OpenClaim := { program := "ytlneoigiodneeaa", sum := "182b13ff759705629270440ce92eda2356840354684652e975fa937e0bd8f8eb", func := "loop.example/g00889/laws.FnExactIsValidEnsemble", spec := "fnExactIsValidEnsemble", unfollowed := true, recurses := true, apart := false, narrowed := true }
def FnExactIsValidEnsembleUptoSaid : Prop := fnExactIsValidEnsembleUptoRow.holds Try.pinned (OpenSpec.upto fnExactIsValidEnsembleSpec)

end Rows
end Go.Proofs.Ytlneoigiodneeaa
