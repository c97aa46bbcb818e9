/-
  No cell of these rows narrows 'for every input' (looked for: loops, veiled, ifaces, maps, wideKeys, modest, calm, conditions, laid).
  DERIVED. THE GIVEN ROWS OF THIS SEAT. 12 by the template 'for every input the law returns true; each argument reads behind the call as it read before'; 0 by the template 'total and deterministic' (their statements: YtldeeijfipiafaaTotals.lean).
  GIVEN WITH THE SEED: the statements are not yours to turn. If you find one false, say at which input.
  Laid BY PROGRAM, IN A SANDBOX (cutbox-rows.mjs): the forced cells as the released guide's own fill.sh prints them over the translation 4f4b574d9c6d4cec… (all of the seat's roots in one cut). By AI agents, Wed Nov 11 2026. No macro, syntax, notation, axiom, sorry.
-/
import Derived.Test.YtldeeijfipiafaaChecked
import GoSem.Claim
import GoSem.ClaimJoined
import GoSem.ClaimMapViews
import Derived.JoinedTies
import Derived.KernelRfl
namespace Go.Proofs.Ytldeeijfipiafaa
/- THE CELL 'sum', in the pinned program and in every row, IS THE sha256 OF THE DUMP (.gsa) THAT YtldeeijfipiafaaProg.lean LOADS. Nothing in Lean hashes anything: it is a label: what it is worth is what the hold of that sum in a sandbox is worth. -/
noncomputable def Try.pinned : Pinned := { name := "ytldeeijfipiafaa", sum := "4f4b574d9c6d4cec72e3b3710396cba1ea6f9772b449f79d3bb4fbc94ff5bcfa", checked := Try.checked }
namespace Rows
def none {H : Type} : Left H := { results := [], args := [] }

/-- 'laws.FnExactWinnersNear': WHATEVER THE INPUT: true; the input reads as it did. -/
def fnExactWinnersNearSpec : ChangeSpec := { name := "fnExactWinnersNear", fn := fun _ => fun
  | [d1, d2, d3] => { results := [.lit (.bool true)], args := [d1, d2, d3] }
  | _ => none }
def fnExactWinnersNearRow : OpenClaim := { program := "ytldeeijfipiafaa", sum := "4f4b574d9c6d4cec72e3b3710396cba1ea6f9772b449f79d3bb4fbc94ff5bcfa", func := "loop.example/g01223/laws.FnExactWinnersNear", spec := "fnExactWinnersNear", inPlace := ["math.RoundToEven"], unfollowed := true, recurses := true, apart := false }
def FnExactWinnersNearSaid : Prop := fnExactWinnersNearRow.holds Try.pinned (OpenSpec.ofChange fnExactWinnersNearSpec)

/-- ITS FALSE NEIGHBOUR: 'it returns false'. Refute it at one input. -/
def fnExactWinnersNearWrong : ChangeSpec := { name := "fnExactWinnersNear", fn := fun _ => fun
  | [d1, d2, d3] => { results := [.lit (.bool false)], args := [d1, d2, d3] }
  | _ => none }
def FnExactWinnersNearWrongFalsely : Prop := fnExactWinnersNearRow.holds Try.pinned (OpenSpec.ofChange fnExactWinnersNearWrong)

/-- 'laws.FnExactTrustOf': WHATEVER THE INPUT: true; the input reads as it did. -/
def fnExactTrustOfSpec : ChangeSpec := { name := "fnExactTrustOf", fn := fun _ => fun
  | [d] => { results := [.lit (.bool true)], args := [d] }
  | _ => none }
def fnExactTrustOfRow : OpenClaim := { program := "ytldeeijfipiafaa", sum := "4f4b574d9c6d4cec72e3b3710396cba1ea6f9772b449f79d3bb4fbc94ff5bcfa", func := "loop.example/g01223/laws.FnExactTrustOf", spec := "fnExactTrustOf", inPlace := ["math.Float64frombits"], unfollowed := true, recurses := true, apart := false }
def FnExactTrustOfSaid : Prop := fnExactTrustOfRow.holds Try.pinned (OpenSpec.ofChange fnExactTrustOfSpec)

/-- ITS FALSE NEIGHBOUR: 'it returns false'. Refute it at one input. -/
def fnExactTrustOfWrong : ChangeSpec := { name := "fnExactTrustOf", fn := fun _ => fun
  | [d] => { results := [.lit (.bool false)], args := [d] }
  | _ => none }
def FnExactTrustOfWrongFalsely : Prop := fnExactTrustOfRow.holds Try.pinned (OpenSpec.ofChange fnExactTrustOfWrong)

/-- 'laws.FnExactChecksOf': WHATEVER THE INPUT: true; the input reads as it did. -/
def fnExactChecksOfSpec : ChangeSpec := { name := "fnExactChecksOf", fn := fun _ => fun
  | [d1, d2] => { results := [.lit (.bool true)], args := [d1, d2] }
  | _ => none }
def fnExactChecksOfRow : OpenClaim := { program := "ytldeeijfipiafaa", sum := "4f4b574d9c6d4cec72e3b3710396cba1ea6f9772b449f79d3bb4fbc94ff5bcfa", func := "loop.example/g01223/laws.FnExactChecksOf", spec := "fnExactChecksOf", inPlace := ["math.RoundToEven", "math.Float32bits", "math.Float32frombits"], unfollowed := true, recurses := true, apart := false }
def FnExactChecksOfSaid : Prop := fnExactChecksOfRow.holds Try.pinned (OpenSpec.ofChange fnExactChecksOfSpec)

/-- ITS FALSE NEIGHBOUR: 'it returns false'. Refute it at one input. -/
def fnExactChecksOfWrong : ChangeSpec := { name := "fnExactChecksOf", fn := fun _ => fun
  | [d1, d2] => { results := [.lit (.bool false)], args := [d1, d2] }
  | _ => none }
def FnExactChecksOfWrongFalsely : Prop := fnExactChecksOfRow.holds Try.pinned (OpenSpec.ofChange fnExactChecksOfWrong)

/-- 'laws.FnExactCoarseToFine': WHATEVER THE INPUT: true; the input reads as it did. -/
def fnExactCoarseToFineSpec : ChangeSpec := { name := "fnExactCoarseToFine", fn := fun _ => fun
  | [d1, d2, d3, d4] => { results := [.lit (.bool true)], args := [d1, d2, d3, d4] }
  | _ => none }
def fnExactCoarseToFineRow : OpenClaim := { program := "ytldeeijfipiafaa", sum := "4f4b574d9c6d4cec72e3b3710396cba1ea6f9772b449f79d3bb4fbc94ff5bcfa", func := "loop.example/g01223/laws.FnExactCoarseToFine", spec := "fnExactCoarseToFine", inPlace := ["math.RoundToEven"], unfollowed := true, recurses := true, apart := false }
def FnExactCoarseToFineSaid : Prop := fnExactCoarseToFineRow.holds Try.pinned (OpenSpec.ofChange fnExactCoarseToFineSpec)

/-- ITS FALSE NEIGHBOUR: 'it returns false'. Refute it at one input. -/
def fnExactCoarseToFineWrong : ChangeSpec := { name := "fnExactCoarseToFine", fn := fun _ => fun
  | [d1, d2, d3, d4] => { results := [.lit (.bool false)], args := [d1, d2, d3, d4] }
  | _ => none }
def FnExactCoarseToFineWrongFalsely : Prop := fnExactCoarseToFineRow.holds Try.pinned (OpenSpec.ofChange fnExactCoarseToFineWrong)

/-- 'laws.FnExactPatchesOf': WHATEVER THE INPUT: true; the input reads as it did. -/
def fnExactPatchesOfSpec : ChangeSpec := { name := "fnExactPatchesOf", fn := fun _ => fun
  | [d1, d2] => { results := [.lit (.bool true)], args := [d1, d2] }
  | _ => none }
def fnExactPatchesOfRow : OpenClaim := { program := "ytldeeijfipiafaa", sum := "4f4b574d9c6d4cec72e3b3710396cba1ea6f9772b449f79d3bb4fbc94ff5bcfa", func := "loop.example/g01223/laws.FnExactPatchesOf", spec := "fnExactPatchesOf", inPlace := ["math.Float32bits", "math.Float32frombits"], apart := false }
def FnExactPatchesOfSaid : Prop := fnExactPatchesOfRow.holds Try.pinned (OpenSpec.ofChange fnExactPatchesOfSpec)

/-- ITS FALSE NEIGHBOUR: 'it returns false'. Refute it at one input. -/
def fnExactPatchesOfWrong : ChangeSpec := { name := "fnExactPatchesOf", fn := fun _ => fun
  | [d1, d2] => { results := [.lit (.bool false)], args := [d1, d2] }
  | _ => none }
def FnExactPatchesOfWrongFalsely : Prop := fnExactPatchesOfRow.holds Try.pinned (OpenSpec.ofChange fnExactPatchesOfWrong)

/-- 'laws.FnExactDropPatches': WHATEVER THE INPUT: true; the input reads as it did. -/
def fnExactDropPatchesSpec : ChangeSpec := { name := "fnExactDropPatches", fn := fun _ => fun
  | [d1, d2, d3] => { results := [.lit (.bool true)], args := [d1, d2, d3] }
  | _ => none }
def fnExactDropPatchesRow : OpenClaim := { program := "ytldeeijfipiafaa", sum := "4f4b574d9c6d4cec72e3b3710396cba1ea6f9772b449f79d3bb4fbc94ff5bcfa", func := "loop.example/g01223/laws.FnExactDropPatches", spec := "fnExactDropPatches", inPlace := ["math.Float32bits", "math.Float32frombits"], unfollowed := true, recurses := true, apart := false }
def FnExactDropPatchesSaid : Prop := fnExactDropPatchesRow.holds Try.pinned (OpenSpec.ofChange fnExactDropPatchesSpec)

/-- ITS FALSE NEIGHBOUR: 'it returns false'. Refute it at one input. -/
def fnExactDropPatchesWrong : ChangeSpec := { name := "fnExactDropPatches", fn := fun _ => fun
  | [d1, d2, d3] => { results := [.lit (.bool false)], args := [d1, d2, d3] }
  | _ => none }
def FnExactDropPatchesWrongFalsely : Prop := fnExactDropPatchesRow.holds Try.pinned (OpenSpec.ofChange fnExactDropPatchesWrong)

/-- 'laws.FnExactBordersOf': WHATEVER THE INPUT: true; the input reads as it did. -/
def fnExactBordersOfSpec : ChangeSpec := { name := "fnExactBordersOf", fn := fun _ => fun
  | [d1, d2] => { results := [.lit (.bool true)], args := [d1, d2] }
  | _ => none }
def fnExactBordersOfRow : OpenClaim := { program := "ytldeeijfipiafaa", sum := "4f4b574d9c6d4cec72e3b3710396cba1ea6f9772b449f79d3bb4fbc94ff5bcfa", func := "loop.example/g01223/laws.FnExactBordersOf", spec := "fnExactBordersOf", inPlace := ["math.Float32bits", "math.Float32frombits"], apart := false }
def FnExactBordersOfSaid : Prop := fnExactBordersOfRow.holds Try.pinned (OpenSpec.ofChange fnExactBordersOfSpec)

/-- ITS FALSE NEIGHBOUR: 'it returns false'. Refute it at one input. -/
def fnExactBordersOfWrong : ChangeSpec := { name := "fnExactBordersOf", fn := fun _ => fun
  | [d1, d2] => { results := [.lit (.bool false)], args := [d1, d2] }
  | _ => none }
def FnExactBordersOfWrongFalsely : Prop := fnExactBordersOfRow.holds Try.pinned (OpenSpec.ofChange fnExactBordersOfWrong)

/-- 'laws.FnExactCountValues': WHATEVER THE INPUT: true; the input reads as it did. -/
def fnExactCountValuesSpec : ChangeSpec := { name := "fnExactCountValues", fn := fun _ => fun
  | [d1, d2] => { results := [.lit (.bool true)], args := [d1, d2] }
  | _ => none }
def fnExactCountValuesRow : OpenClaim := { program := "ytldeeijfipiafaa", sum := "4f4b574d9c6d4cec72e3b3710396cba1ea6f9772b449f79d3bb4fbc94ff5bcfa", func := "loop.example/g01223/laws.FnExactCountValues", spec := "fnExactCountValues", unfollowed := true, recurses := true, apart := false }
def FnExactCountValuesSaid : Prop := fnExactCountValuesRow.holds Try.pinned (OpenSpec.ofChange fnExactCountValuesSpec)

/-- ITS FALSE NEIGHBOUR: 'it returns false'. Refute it at one input. -/
def fnExactCountValuesWrong : ChangeSpec := { name := "fnExactCountValues", fn := fun _ => fun
  | [d1, d2] => { results := [.lit (.bool false)], args := [d1, d2] }
  | _ => none }
def FnExactCountValuesWrongFalsely : Prop := fnExactCountValuesRow.holds Try.pinned (OpenSpec.ofChange fnExactCountValuesWrong)

/-- 'laws.FnExactNearPlane': WHATEVER THE INPUT: true; the input reads as it did. -/
def fnExactNearPlaneSpec : ChangeSpec := { name := "fnExactNearPlane", fn := fun _ => fun
  | [d1, d2, d3] => { results := [.lit (.bool true)], args := [d1, d2, d3] }
  | _ => none }
def fnExactNearPlaneRow : OpenClaim := { program := "ytldeeijfipiafaa", sum := "4f4b574d9c6d4cec72e3b3710396cba1ea6f9772b449f79d3bb4fbc94ff5bcfa", func := "loop.example/g01223/laws.FnExactNearPlane", spec := "fnExactNearPlane", inPlace := ["math.Float32bits", "math.Float32frombits"], apart := false }
def FnExactNearPlaneSaid : Prop := fnExactNearPlaneRow.holds Try.pinned (OpenSpec.ofChange fnExactNearPlaneSpec)

/-- ITS FALSE NEIGHBOUR: 'it returns false'. Refute it at one input. -/
def fnExactNearPlaneWrong : ChangeSpec := { name := "fnExactNearPlane", fn := fun _ => fun
  | [d1, d2, d3] => { results := [.lit (.bool false)], args := [d1, d2, d3] }
  | _ => none }
def FnExactNearPlaneWrongFalsely : Prop := fnExactNearPlaneRow.holds Try.pinned (OpenSpec.ofChange fnExactNearPlaneWrong)

/-- 'laws.FnExactOffPlane': WHATEVER THE INPUT: true; the input reads as it did. -/
def fnExactOffPlaneSpec : ChangeSpec := { name := "fnExactOffPlane", fn := fun _ => fun
  | [d1, d2] => { results := [.lit (.bool true)], args := [d1, d2] }
  | _ => none }
def fnExactOffPlaneRow : OpenClaim := { program := "ytldeeijfipiafaa", sum := "4f4b574d9c6d4cec72e3b3710396cba1ea6f9772b449f79d3bb4fbc94ff5bcfa", func := "loop.example/g01223/laws.FnExactOffPlane", spec := "fnExactOffPlane", inPlace := ["math.Float32bits", "math.Float32frombits"], apart := false }
def FnExactOffPlaneSaid : Prop := fnExactOffPlaneRow.holds Try.pinned (OpenSpec.ofChange fnExactOffPlaneSpec)

/-- ITS FALSE NEIGHBOUR: 'it returns false'. Refute it at one input. -/
def fnExactOffPlaneWrong : ChangeSpec := { name := "fnExactOffPlane", fn := fun _ => fun
  | [d1, d2] => { results := [.lit (.bool false)], args := [d1, d2] }
  | _ => none }
def FnExactOffPlaneWrongFalsely : Prop := fnExactOffPlaneRow.holds Try.pinned (OpenSpec.ofChange fnExactOffPlaneWrong)

/-- 'laws.FnExactPointsOf': WHATEVER THE INPUT: true; the input reads as it did. -/
def fnExactPointsOfSpec : ChangeSpec := { name := "fnExactPointsOf", fn := fun _ => fun
  | [d1, d2] => { results := [.lit (.bool true)], args := [d1, d2] }
  | _ => none }
def fnExactPointsOfRow : OpenClaim := { program := "ytldeeijfipiafaa", sum := "4f4b574d9c6d4cec72e3b3710396cba1ea6f9772b449f79d3bb4fbc94ff5bcfa", func := "loop.example/g01223/laws.FnExactPointsOf", spec := "fnExactPointsOf", unfollowed := true, recurses := true, apart := false }
def FnExactPointsOfSaid : Prop := fnExactPointsOfRow.holds Try.pinned (OpenSpec.ofChange fnExactPointsOfSpec)

/-- ITS FALSE NEIGHBOUR: 'it returns false'. Refute it at one input. -/
def fnExactPointsOfWrong : ChangeSpec := { name := "fnExactPointsOf", fn := fun _ => fun
  | [d1, d2] => { results := [.lit (.bool false)], args := [d1, d2] }
  | _ => none }
def FnExactPointsOfWrongFalsely : Prop := fnExactPointsOfRow.holds Try.pinned (OpenSpec.ofChange fnExactPointsOfWrong)

/-- 'laws.FnExactGuidedMap': WHATEVER THE INPUT: true; the input reads as it did. -/
def fnExactGuidedMapSpec : ChangeSpec := { name := "fnExactGuidedMap", fn := fun _ => fun
  | [d1, d2, d3, d4] => { results := [.lit (.bool true)], args := [d1, d2, d3, d4] }
  | _ => none }
def fnExactGuidedMapRow : OpenClaim := { program := "ytldeeijfipiafaa", sum := "4f4b574d9c6d4cec72e3b3710396cba1ea6f9772b449f79d3bb4fbc94ff5bcfa", func := "loop.example/g01223/laws.FnExactGuidedMap", spec := "fnExactGuidedMap", inPlace := ["math.Float32bits", "math.Float32frombits"], unfollowed := true, recurses := true, apart := false }
def FnExactGuidedMapSaid : Prop := fnExactGuidedMapRow.holds Try.pinned (OpenSpec.ofChange fnExactGuidedMapSpec)

/-- ITS FALSE NEIGHBOUR: 'it returns false'. Refute it at one input. -/
def fnExactGuidedMapWrong : ChangeSpec := { name := "fnExactGuidedMap", fn := fun _ => fun
  | [d1, d2, d3, d4] => { results := [.lit (.bool false)], args := [d1, d2, d3, d4] }
  | _ => none }
def FnExactGuidedMapWrongFalsely : Prop := fnExactGuidedMapRow.holds Try.pinned (OpenSpec.ofChange fnExactGuidedMapWrong)

/- THE SECOND FORM. 'bulk': how many values and letters a reading holds, each counted each time it is reached (what is shared counts as often as it is met; a slice's spare places count too). A statement '..UptoSaid' is the law's where the arguments, and the package variables that the reading takes, are together of bulk at most 1048576: NARROWER than '..Said'. Prove '..Said' where nothing that the law and all that it calls make is longer than what came in: it says more and counts as full. Else prove '..UptoSaid'. A law counts once. -/
mutual
def uptoBulk {H : Type} : DataW H → Nat
  | .lit (.string bytes) => bytes.length + 1
  | .lit _ => 1
  | .nil => 1
  | .ptr d => uptoBulk d + 1
  | .slice elems spare => uptoBulkAll elems + uptoBulkAll spare + 1
  | .agg parts => uptoBulkAll parts + 1
  | .iface _ d => uptoBulk d + 1
  | .map entries => uptoBulkEntries entries + 1
  | .held _ => 1
def uptoBulkAll {H : Type} : List (DataW H) → Nat
  | [] => 0
  | d :: r => uptoBulk d + uptoBulkAll r
def uptoBulkEntries {H : Type} : List (Lit × DataW H) → Nat
  | [] => 0
  | x :: r => uptoBulkEntry x + uptoBulkEntries r
def uptoBulkEntry {H : Type} : Lit × DataW H → Nat
  | (.string bytes, d) => bytes.length + uptoBulk d + 1
  | (_, d) => uptoBulk d + 1
 end
def uptoSmall : (H : Type) → List (DataW H) → Bool := fun _ ds => decide (uptoBulkAll ds ≤ 1048576)
def OpenSpec.upto (s : _root_.Go.ChangeSpec) : _root_.Go.OpenSpec := { _root_.Go.OpenSpec.ofChange s with cond := some uptoSmall }

/-- 'laws.FnExactWinnersNear', WHERE WHAT IT READS IS OF BULK AT MOST 1048576: true; the input reads as it did. -/
def fnExactWinnersNearUptoRow : OpenClaim := { program := "ytldeeijfipiafaa", sum := "4f4b574d9c6d4cec72e3b3710396cba1ea6f9772b449f79d3bb4fbc94ff5bcfa", func := "loop.example/g01223/laws.FnExactWinnersNear", spec := "fnExactWinnersNear", inPlace := ["math.RoundToEven"], unfollowed := true, recurses := true, apart := false, narrowed := true }
def FnExactWinnersNearUptoSaid : Prop := fnExactWinnersNearUptoRow.holds Try.pinned (OpenSpec.upto fnExactWinnersNearSpec)

/-- 'laws.FnExactTrustOf', WHERE WHAT IT READS IS OF BULK AT MOST 1048576: true; the input reads as it did. -/
def fnExactTrustOfUptoRow : OpenClaim := { program := "ytldeeijfipiafaa", sum := "4f4b574d9c6d4cec72e3b3710396cba1ea6f9772b449f79d3bb4fbc94ff5bcfa", func := "loop.example/g01223/laws.FnExactTrustOf", spec := "fnExactTrustOf", inPlace := ["math.Float64frombits"], unfollowed := true, recurses := true, apart := false, narrowed := true }
def FnExactTrustOfUptoSaid : Prop := fnExactTrustOfUptoRow.holds Try.pinned (OpenSpec.upto fnExactTrustOfSpec)

/-- 'laws.FnExactChecksOf', WHERE WHAT IT READS IS OF BULK AT MOST 1048576: true; the input reads as it did. -/
def fnExactChecksOfUptoRow : OpenClaim := { program := "ytldeeijfipiafaa", sum := "4f4b574d9c6d4cec72e3b3710396cba1ea6f9772b449f79d3bb4fbc94ff5bcfa", func := "loop.example/g01223/laws.FnExactChecksOf", spec := "fnExactChecksOf", inPlace := ["math.RoundToEven", "math.Float32bits", "math.Float32frombits"], unfollowed := true, recurses := true, apart := false, narrowed := true }
def FnExactChecksOfUptoSaid : Prop := fnExactChecksOfUptoRow.holds Try.pinned (OpenSpec.upto fnExactChecksOfSpec)

/-- 'laws.FnExactCoarseToFine', WHERE WHAT IT READS IS OF BULK AT MOST 1048576: true; the input reads as it did. -/
def fnExactCoarseToFineUptoRow : OpenClaim := { program := "ytldeeijfipiafaa", sum := "4f4b574d9c6d4cec72e3b3710396cba1ea6f9772b449f79d3bb4fbc94ff5bcfa", func := "loop.example/g01223/laws.FnExactCoarseToFine", spec := "fnExactCoarseToFine", inPlace := ["math.RoundToEven"], unfollowed := true, recurses := true, apart := false, narrowed := true }
def FnExactCoarseToFineUptoSaid : Prop := fnExactCoarseToFineUptoRow.holds Try.pinned (OpenSpec.upto fnExactCoarseToFineSpec)

/-- 'laws.FnExactPatchesOf', WHERE WHAT IT READS IS OF BULK AT MOST 1048576: true; the input reads as it did. -/
def fnExactPatchesOfUptoRow : OpenClaim := { program := "ytldeeijfipiafaa", sum := "4f4b574d9c6d4cec72e3b3710396cba1ea6f9772b449f79d3bb4fbc94ff5bcfa", func := "loop.example/g01223/laws.FnExactPatchesOf", spec := "fnExactPatchesOf", inPlace := ["math.Float32bits", "math.Float32frombits"], apart := false, narrowed := true }
def FnExactPatchesOfUptoSaid : Prop := fnExactPatchesOfUptoRow.holds Try.pinned (OpenSpec.upto fnExactPatchesOfSpec)

/-- 'laws.FnExactDropPatches', WHERE WHAT IT READS IS OF BULK AT MOST 1048576: true; the input reads as it did. -/
def fnExactDropPatchesUptoRow : OpenClaim := { program := "ytldeeijfipiafaa", sum := "4f4b574d9c6d4cec72e3b3710396cba1ea6f9772b449f79d3bb4fbc94ff5bcfa", func := "loop.example/g01223/laws.FnExactDropPatches", spec := "fnExactDropPatches", inPlace := ["math.Float32bits", "math.Float32frombits"], unfollowed := true, recurses := true, apart := false, narrowed := true }
def FnExactDropPatchesUptoSaid : Prop := fnExactDropPatchesUptoRow.holds Try.pinned (OpenSpec.upto fnExactDropPatchesSpec)

/-- 'laws.FnExactBordersOf', WHERE WHAT IT READS IS OF BULK AT MOST 1048576: true; the input reads as it did. -/
def fnExactBordersOfUptoRow : OpenClaim := { program := "ytldeeijfipiafaa", sum := "4f4b574d9c6d4cec72e3b3710396cba1ea6f9772b449f79d3bb4fbc94ff5bcfa", func := "loop.example/g01223/laws.FnExactBordersOf", spec := "fnExactBordersOf", inPlace := ["math.Float32bits", "math.Float32frombits"], apart := false, narrowed := true }
def FnExactBordersOfUptoSaid : Prop := fnExactBordersOfUptoRow.holds Try.pinned (OpenSpec.upto fnExactBordersOfSpec)

/-- 'laws.FnExactCountValues', WHERE WHAT IT READS IS OF BULK AT MOST 1048576: true; the input reads as it did. -/
def fnExactCountValuesUptoRow : OpenClaim := { program := "ytldeeijfipiafaa", sum := "4f4b574d9c6d4cec72e3b3710396cba1ea6f9772b449f79d3bb4fbc94ff5bcfa", func := "loop.example/g01223/laws.FnExactCountValues", spec := "fnExactCountValues", unfollowed := true, recurses := true, apart := false, narrowed := true }
def FnExactCountValuesUptoSaid : Prop := fnExactCountValuesUptoRow.holds Try.pinned (OpenSpec.upto fnExactCountValuesSpec)

/-- 'laws.FnExactNearPlane', WHERE WHAT IT READS IS OF BULK AT MOST 1048576: true; the input reads as it did. -/
def fnExactNearPlaneUptoRow : OpenClaim := { program := "ytldeeijfipiafaa", sum := "4f4b574d9c6d4cec72e3b3710396cba1ea6f9772b449f79d3bb4fbc94ff5bcfa", func := "loop.example/g01223/laws.FnExactNearPlane", spec := "fnExactNearPlane", inPlace := ["math.Float32bits", "math.Float32frombits"], apart := false, narrowed := true }
def FnExactNearPlaneUptoSaid : Prop := fnExactNearPlaneUptoRow.holds Try.pinned (OpenSpec.upto fnExactNearPlaneSpec)

/-- 'laws.FnExactOffPlane', WHERE WHAT IT READS IS OF BULK AT MOST 1048576: true; the input reads as it did. -/
def fnExactOffPlaneUptoRow : OpenClaim := { program := "ytldeeijfipiafaa", sum := "4f4b574d9c6d4cec72e3b3710396cba1ea6f9772b449f79d3bb4fbc94ff5bcfa", func := "loop.example/g01223/laws.FnExactOffPlane", spec := "fnExactOffPlane", inPlace := ["math.Float32bits", "math.Float32frombits"], apart := false, narrowed := true }
def FnExactOffPlaneUptoSaid : Prop := fnExactOffPlaneUptoRow.holds Try.pinned (OpenSpec.upto fnExactOffPlaneSpec)

/-- 'laws.FnExactPointsOf', WHERE WHAT IT READS IS OF BULK AT MOST 1048576: true; the input reads as it did. -/
def fnExactPointsOfUptoRow : OpenClaim := { program := "ytldeeijfipiafaa", sum := "4f4b574d9c6d4cec72e3b3710396cba1ea6f9772b449f79d3bb4fbc94ff5bcfa", func := "loop.example/g01223/laws.FnExactPointsOf", spec := "fnExactPointsOf", unfollowed := true, recurses := true, apart := false, narrowed := true }
def FnExactPointsOfUptoSaid : Prop := fnExactPointsOfUptoRow.holds Try.pinned (OpenSpec.upto fnExactPointsOfSpec)

/-- 'laws.FnExactGuidedMap', WHERE WHAT IT READS IS OF BULK AT MOST 1048576: true; the input reads as it did. -/
def fnExactGuidedMapUptoRow : OpenClaim := { program := "ytldeeijfipiafaa", sum := "4f4b574d9c6d4cec72e3b3710396cba1ea6f9772b449f79d3bb4fbc94ff5bcfa", func := "loop.example/g01223/laws.FnExactGuidedMap", spec := "fnExactGuidedMap", inPlace := ["math.Float32bits", "math.Float32frombits"], unfollowed := true, recurses := true, apart := false, narrowed := true }
def FnExactGuidedMapUptoSaid : Prop := fnExactGuidedMapUptoRow.holds Try.pinned (OpenSpec.upto fnExactGuidedMapSpec)

end Rows
end Go.Proofs.Ytldeeijfipiafaa
