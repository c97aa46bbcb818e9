/-
  No cell of these rows narrows 'for every input' (looked for: loops, veiled, ifaces, maps, wideKeys, modest, calm, conditions, laid).
  DERIVED. THE GIVEN ROWS OF THIS SEAT. 12 by the template 'for every input the law returns true; each argument reads behind the call as it read before'; 0 by the template 'total and deterministic' (their statements: YthbcadppbkglnabTotals.lean).
  GIVEN WITH THE SEED: the statements are not yours to turn. If you find one false, say at which input.
  Laid BY PROGRAM, IN A SANDBOX (cutbox-rows.mjs): the forced cells as the released guide's own fill.sh prints them over the translation 143d9726b61057c4… (all of the seat's roots in one cut). By AI agents, Wed Nov 11 2026. No macro, syntax, notation, axiom, sorry.
-/
import Derived.Test.YthbcadppbkglnabChecked
import GoSem.Claim
import GoSem.ClaimJoined
import GoSem.ClaimMapViews
import Derived.JoinedTies
import Derived.KernelRfl
namespace Go.Proofs.Ythbcadppbkglnab
/- THE CELL 'sum', in the pinned program and in every row, IS THE sha256 OF THE DUMP (.gsa) THAT YthbcadppbkglnabProg.lean LOADS. Nothing in Lean hashes anything: it is a label: what it is worth is what the hold of that sum in a sandbox is worth. -/
noncomputable def Try.pinned : Pinned := { name := "ythbcadppbkglnab", sum := "143d9726b61057c4033bbead89a1375d825409740f3b47e84e3d7c21a031ef72", checked := Try.checked }
namespace Rows
def none {H : Type} : Left H := { results := [], args := [] }

/-- 'laws.FnExactKeepMap': WHATEVER THE INPUT: true; the input reads as it did. -/
def fnExactKeepMapSpec : ChangeSpec := { name := "fnExactKeepMap", fn := fun _ => fun
  | [d1, d2, d3] => { results := [.lit (.bool true)], args := [d1, d2, d3] }
  | _ => none }
def fnExactKeepMapRow : OpenClaim := { program := "ythbcadppbkglnab", sum := "143d9726b61057c4033bbead89a1375d825409740f3b47e84e3d7c21a031ef72", func := "loop.example/g01223/laws.FnExactKeepMap", spec := "fnExactKeepMap", unfollowed := true, recurses := true, apart := false }
def FnExactKeepMapSaid : Prop := fnExactKeepMapRow.holds Try.pinned (OpenSpec.ofChange fnExactKeepMapSpec)

/-- ITS FALSE NEIGHBOUR: 'it returns false'. Refute it at one input. -/
def fnExactKeepMapWrong : ChangeSpec := { name := "fnExactKeepMap", fn := fun _ => fun
  | [d1, d2, d3] => { results := [.lit (.bool false)], args := [d1, d2, d3] }
  | _ => none }
def FnExactKeepMapWrongFalsely : Prop := fnExactKeepMapRow.holds Try.pinned (OpenSpec.ofChange fnExactKeepMapWrong)

/-- 'laws.FnExactDoubleMap': WHATEVER THE INPUT: true; the input reads as it did. -/
def fnExactDoubleMapSpec : ChangeSpec := { name := "fnExactDoubleMap", fn := fun _ => fun
  | [d1, d2, d3] => { results := [.lit (.bool true)], args := [d1, d2, d3] }
  | _ => none }
def fnExactDoubleMapRow : OpenClaim := { program := "ythbcadppbkglnab", sum := "143d9726b61057c4033bbead89a1375d825409740f3b47e84e3d7c21a031ef72", func := "loop.example/g01223/laws.FnExactDoubleMap", spec := "fnExactDoubleMap", unfollowed := true, recurses := true, apart := false }
def FnExactDoubleMapSaid : Prop := fnExactDoubleMapRow.holds Try.pinned (OpenSpec.ofChange fnExactDoubleMapSpec)

/-- ITS FALSE NEIGHBOUR: 'it returns false'. Refute it at one input. -/
def fnExactDoubleMapWrong : ChangeSpec := { name := "fnExactDoubleMap", fn := fun _ => fun
  | [d1, d2, d3] => { results := [.lit (.bool false)], args := [d1, d2, d3] }
  | _ => none }
def FnExactDoubleMapWrongFalsely : Prop := fnExactDoubleMapRow.holds Try.pinned (OpenSpec.ofChange fnExactDoubleMapWrong)

/-- 'laws.FnExactLessMaps': WHATEVER THE INPUT: true; the input reads as it did. -/
def fnExactLessMapsSpec : ChangeSpec := { name := "fnExactLessMaps", fn := fun _ => fun
  | [d1, d2] => { results := [.lit (.bool true)], args := [d1, d2] }
  | _ => none }
def fnExactLessMapsRow : OpenClaim := { program := "ythbcadppbkglnab", sum := "143d9726b61057c4033bbead89a1375d825409740f3b47e84e3d7c21a031ef72", func := "loop.example/g01223/laws.FnExactLessMaps", spec := "fnExactLessMaps", unfollowed := true, recurses := true, apart := false }
def FnExactLessMapsSaid : Prop := fnExactLessMapsRow.holds Try.pinned (OpenSpec.ofChange fnExactLessMapsSpec)

/-- ITS FALSE NEIGHBOUR: 'it returns false'. Refute it at one input. -/
def fnExactLessMapsWrong : ChangeSpec := { name := "fnExactLessMaps", fn := fun _ => fun
  | [d1, d2] => { results := [.lit (.bool false)], args := [d1, d2] }
  | _ => none }
def FnExactLessMapsWrongFalsely : Prop := fnExactLessMapsRow.holds Try.pinned (OpenSpec.ofChange fnExactLessMapsWrong)

/-- 'laws.FnExactRowOffset': WHATEVER THE INPUT: true; the input reads as it did. -/
def fnExactRowOffsetSpec : ChangeSpec := { name := "fnExactRowOffset", fn := fun _ => fun
  | [d1, d2, d3] => { results := [.lit (.bool true)], args := [d1, d2, d3] }
  | _ => none }
def fnExactRowOffsetRow : OpenClaim := { program := "ythbcadppbkglnab", sum := "143d9726b61057c4033bbead89a1375d825409740f3b47e84e3d7c21a031ef72", func := "loop.example/g01223/laws.FnExactRowOffset", spec := "fnExactRowOffset", inPlace := ["math.Float32bits", "math.Float32frombits"], apart := false }
def FnExactRowOffsetSaid : Prop := fnExactRowOffsetRow.holds Try.pinned (OpenSpec.ofChange fnExactRowOffsetSpec)

/-- ITS FALSE NEIGHBOUR: 'it returns false'. Refute it at one input. -/
def fnExactRowOffsetWrong : ChangeSpec := { name := "fnExactRowOffset", fn := fun _ => fun
  | [d1, d2, d3] => { results := [.lit (.bool false)], args := [d1, d2, d3] }
  | _ => none }
def FnExactRowOffsetWrongFalsely : Prop := fnExactRowOffsetRow.holds Try.pinned (OpenSpec.ofChange fnExactRowOffsetWrong)

/-- 'laws.FnExactFitPlane': WHATEVER THE INPUT: true; the input reads as it did. -/
def fnExactFitPlaneSpec : ChangeSpec := { name := "fnExactFitPlane", fn := fun _ => fun
  | [d] => { results := [.lit (.bool true)], args := [d] }
  | _ => none }
def fnExactFitPlaneRow : OpenClaim := { program := "ythbcadppbkglnab", sum := "143d9726b61057c4033bbead89a1375d825409740f3b47e84e3d7c21a031ef72", func := "loop.example/g01223/laws.FnExactFitPlane", spec := "fnExactFitPlane", unfollowed := true, recurses := true, apart := false }
def FnExactFitPlaneSaid : Prop := fnExactFitPlaneRow.holds Try.pinned (OpenSpec.ofChange fnExactFitPlaneSpec)

/-- ITS FALSE NEIGHBOUR: 'it returns false'. Refute it at one input. -/
def fnExactFitPlaneWrong : ChangeSpec := { name := "fnExactFitPlane", fn := fun _ => fun
  | [d] => { results := [.lit (.bool false)], args := [d] }
  | _ => none }
def FnExactFitPlaneWrongFalsely : Prop := fnExactFitPlaneRow.holds Try.pinned (OpenSpec.ofChange fnExactFitPlaneWrong)

/-- 'laws.FnExactFillRows': WHATEVER THE INPUT: true; the input reads as it did. -/
def fnExactFillRowsSpec : ChangeSpec := { name := "fnExactFillRows", fn := fun _ => fun
  | [d] => { results := [.lit (.bool true)], args := [d] }
  | _ => none }
def fnExactFillRowsRow : OpenClaim := { program := "ythbcadppbkglnab", sum := "143d9726b61057c4033bbead89a1375d825409740f3b47e84e3d7c21a031ef72", func := "loop.example/g01223/laws.FnExactFillRows", spec := "fnExactFillRows", unfollowed := true, recurses := true, apart := false }
def FnExactFillRowsSaid : Prop := fnExactFillRowsRow.holds Try.pinned (OpenSpec.ofChange fnExactFillRowsSpec)

/-- ITS FALSE NEIGHBOUR: 'it returns false'. Refute it at one input. -/
def fnExactFillRowsWrong : ChangeSpec := { name := "fnExactFillRows", fn := fun _ => fun
  | [d] => { results := [.lit (.bool false)], args := [d] }
  | _ => none }
def FnExactFillRowsWrongFalsely : Prop := fnExactFillRowsRow.holds Try.pinned (OpenSpec.ofChange fnExactFillRowsWrong)

/-- 'laws.FnExactCountValues': WHATEVER THE INPUT: true; the input reads as it did. -/
def fnExactCountValuesSpec : ChangeSpec := { name := "fnExactCountValues", fn := fun _ => fun
  | [d1, d2] => { results := [.lit (.bool true)], args := [d1, d2] }
  | _ => none }
def fnExactCountValuesRow : OpenClaim := { program := "ythbcadppbkglnab", sum := "143d9726b61057c4033bbead89a1375d825409740f3b47e84e3d7c21a031ef72", func := "loop.example/g01223/laws.FnExactCountValues", spec := "fnExactCountValues", unfollowed := true, recurses := true, apart := false }
def FnExactCountValuesSaid : Prop := fnExactCountValuesRow.holds Try.pinned (OpenSpec.ofChange fnExactCountValuesSpec)

/-- ITS FALSE NEIGHBOUR: 'it returns false'. Refute it at one input. -/
def fnExactCountValuesWrong : ChangeSpec := { name := "fnExactCountValues", fn := fun _ => fun
  | [d1, d2] => { results := [.lit (.bool false)], args := [d1, d2] }
  | _ => none }
def FnExactCountValuesWrongFalsely : Prop := fnExactCountValuesRow.holds Try.pinned (OpenSpec.ofChange fnExactCountValuesWrong)

/-- 'laws.FnExactGreyBytes': WHATEVER THE INPUT: true; the input reads as it did. -/
def fnExactGreyBytesSpec : ChangeSpec := { name := "fnExactGreyBytes", fn := fun _ => fun
  | [d] => { results := [.lit (.bool true)], args := [d] }
  | _ => none }
def fnExactGreyBytesRow : OpenClaim := { program := "ythbcadppbkglnab", sum := "143d9726b61057c4033bbead89a1375d825409740f3b47e84e3d7c21a031ef72", func := "loop.example/g01223/laws.FnExactGreyBytes", spec := "fnExactGreyBytes", inPlace := ["math.archFloor", "math.Float64bits", "math.Float64frombits", "math.archTrunc"], apart := false }
def FnExactGreyBytesSaid : Prop := fnExactGreyBytesRow.holds Try.pinned (OpenSpec.ofChange fnExactGreyBytesSpec)

/-- ITS FALSE NEIGHBOUR: 'it returns false'. Refute it at one input. -/
def fnExactGreyBytesWrong : ChangeSpec := { name := "fnExactGreyBytes", fn := fun _ => fun
  | [d] => { results := [.lit (.bool false)], args := [d] }
  | _ => none }
def FnExactGreyBytesWrongFalsely : Prop := fnExactGreyBytesRow.holds Try.pinned (OpenSpec.ofChange fnExactGreyBytesWrong)

/-- 'laws.FnExactRoundMap': WHATEVER THE INPUT: true; the input reads as it did. -/
def fnExactRoundMapSpec : ChangeSpec := { name := "fnExactRoundMap", fn := fun _ => fun
  | [d] => { results := [.lit (.bool true)], args := [d] }
  | _ => none }
def fnExactRoundMapRow : OpenClaim := { program := "ythbcadppbkglnab", sum := "143d9726b61057c4033bbead89a1375d825409740f3b47e84e3d7c21a031ef72", func := "loop.example/g01223/laws.FnExactRoundMap", spec := "fnExactRoundMap", inPlace := ["math.RoundToEven"], unfollowed := true, recurses := true, apart := false }
def FnExactRoundMapSaid : Prop := fnExactRoundMapRow.holds Try.pinned (OpenSpec.ofChange fnExactRoundMapSpec)

/-- ITS FALSE NEIGHBOUR: 'it returns false'. Refute it at one input. -/
def fnExactRoundMapWrong : ChangeSpec := { name := "fnExactRoundMap", fn := fun _ => fun
  | [d] => { results := [.lit (.bool false)], args := [d] }
  | _ => none }
def FnExactRoundMapWrongFalsely : Prop := fnExactRoundMapRow.holds Try.pinned (OpenSpec.ofChange fnExactRoundMapWrong)

/-- 'laws.FnExactBordersOf': WHATEVER THE INPUT: true; the input reads as it did. -/
def fnExactBordersOfSpec : ChangeSpec := { name := "fnExactBordersOf", fn := fun _ => fun
  | [d1, d2] => { results := [.lit (.bool true)], args := [d1, d2] }
  | _ => none }
def fnExactBordersOfRow : OpenClaim := { program := "ythbcadppbkglnab", sum := "143d9726b61057c4033bbead89a1375d825409740f3b47e84e3d7c21a031ef72", func := "loop.example/g01223/laws.FnExactBordersOf", spec := "fnExactBordersOf", inPlace := ["math.Float32bits", "math.Float32frombits"], apart := false }
def FnExactBordersOfSaid : Prop := fnExactBordersOfRow.holds Try.pinned (OpenSpec.ofChange fnExactBordersOfSpec)

/-- ITS FALSE NEIGHBOUR: 'it returns false'. Refute it at one input. -/
def fnExactBordersOfWrong : ChangeSpec := { name := "fnExactBordersOf", fn := fun _ => fun
  | [d1, d2] => { results := [.lit (.bool false)], args := [d1, d2] }
  | _ => none }
def FnExactBordersOfWrongFalsely : Prop := fnExactBordersOfRow.holds Try.pinned (OpenSpec.ofChange fnExactBordersOfWrong)

/-- 'laws.FnExactDepthMap': WHATEVER THE INPUT: true; the input reads as it did. -/
def fnExactDepthMapSpec : ChangeSpec := { name := "fnExactDepthMap", fn := fun _ => fun
  | [d1, d2] => { results := [.lit (.bool true)], args := [d1, d2] }
  | _ => none }
def fnExactDepthMapRow : OpenClaim := { program := "ythbcadppbkglnab", sum := "143d9726b61057c4033bbead89a1375d825409740f3b47e84e3d7c21a031ef72", func := "loop.example/g01223/laws.FnExactDepthMap", spec := "fnExactDepthMap", unfollowed := true, recurses := true, apart := false }
def FnExactDepthMapSaid : Prop := fnExactDepthMapRow.holds Try.pinned (OpenSpec.ofChange fnExactDepthMapSpec)

/-- ITS FALSE NEIGHBOUR: 'it returns false'. Refute it at one input. -/
def fnExactDepthMapWrong : ChangeSpec := { name := "fnExactDepthMap", fn := fun _ => fun
  | [d1, d2] => { results := [.lit (.bool false)], args := [d1, d2] }
  | _ => none }
def FnExactDepthMapWrongFalsely : Prop := fnExactDepthMapRow.holds Try.pinned (OpenSpec.ofChange fnExactDepthMapWrong)

/-- 'laws.FnExactPackMap': WHATEVER THE INPUT: true; the input reads as it did. -/
def fnExactPackMapSpec : ChangeSpec := { name := "fnExactPackMap", fn := fun _ => fun
  | [d] => { results := [.lit (.bool true)], args := [d] }
  | _ => none }
def fnExactPackMapRow : OpenClaim := { program := "ythbcadppbkglnab", sum := "143d9726b61057c4033bbead89a1375d825409740f3b47e84e3d7c21a031ef72", func := "loop.example/g01223/laws.FnExactPackMap", spec := "fnExactPackMap", inPlace := ["math.archFloor", "math.Float64bits", "math.Float64frombits", "math.archTrunc"], unfollowed := true, recurses := true, apart := false }
def FnExactPackMapSaid : Prop := fnExactPackMapRow.holds Try.pinned (OpenSpec.ofChange fnExactPackMapSpec)

/-- ITS FALSE NEIGHBOUR: 'it returns false'. Refute it at one input. -/
def fnExactPackMapWrong : ChangeSpec := { name := "fnExactPackMap", fn := fun _ => fun
  | [d] => { results := [.lit (.bool false)], args := [d] }
  | _ => none }
def FnExactPackMapWrongFalsely : Prop := fnExactPackMapRow.holds Try.pinned (OpenSpec.ofChange fnExactPackMapWrong)

/- THE SECOND FORM. 'bulk': how many values and letters a reading holds, each counted each time it is reached (what is shared counts as often as it is met; a slice's spare places count too). A statement '..UptoSaid' is the law's where the arguments, and the package variables that the reading takes, are together of bulk at most 1048576: NARROWER than '..Said'. Prove '..Said' where nothing that the law and all that it calls make is longer than what came in: it says more and counts as full. Else prove '..UptoSaid'. A law counts once. -/
mutual
def uptoBulk {H : Type} : DataW H → Nat
  | .lit (.string bytes) => bytes.length + 1
  | .lit _ => 1
  | .nil => 1
  | .ptr d => uptoBulk d + 1
  | .slice elems spare => uptoBulkAll elems + uptoBulkAll spare + 1
  | .agg parts => uptoBulkAll parts + 1
  | .iface _ d => uptoBulk d + 1
  | .map entries => uptoBulkEntries entries + 1
  | .held _ => 1
def uptoBulkAll {H : Type} : List (DataW H) → Nat
  | [] => 0
  | d :: r => uptoBulk d + uptoBulkAll r
def uptoBulkEntries {H : Type} : List (Lit × DataW H) → Nat
  | [] => 0
  | x :: r => uptoBulkEntry x + uptoBulkEntries r
def uptoBulkEntry {H : Type} : Lit × DataW H → Nat
  | (.string bytes, d) => bytes.length + uptoBulk d + 1
  | (_, d) => uptoBulk d + 1
 end
def uptoSmall : (H : Type) → List (DataW H) → Bool := fun _ ds => decide (uptoBulkAll ds ≤ 1048576)
def OpenSpec.upto (s : _root_.Go.ChangeSpec) : _root_.Go.OpenSpec := { _root_.Go.OpenSpec.ofChange s with cond := some uptoSmall }

/-- 'laws.FnExactKeepMap', WHERE WHAT IT READS IS OF BULK AT MOST 1048576: true; the input reads as it did. -/
def fnExactKeepMapUptoRow : OpenClaim := { program := "ythbcadppbkglnab", sum := "143d9726b61057c4033bbead89a1375d825409740f3b47e84e3d7c21a031ef72", func := "loop.example/g01223/laws.FnExactKeepMap", spec := "fnExactKeepMap", unfollowed := true, recurses := true, apart := false, narrowed := true }
def FnExactKeepMapUptoSaid : Prop := fnExactKeepMapUptoRow.holds Try.pinned (OpenSpec.upto fnExactKeepMapSpec)

/-- 'laws.FnExactDoubleMap', WHERE WHAT IT READS IS OF BULK AT MOST 1048576: true; the input reads as it did. -/
def fnExactDoubleMapUptoRow : OpenClaim := { program := "ythbcadppbkglnab", sum := "143d9726b61057c4033bbead89a1375d825409740f3b47e84e3d7c21a031ef72", func := "loop.example/g01223/laws.FnExactDoubleMap", spec := "fnExactDoubleMap", unfollowed := true, recurses := true, apart := false, narrowed := true }
def FnExactDoubleMapUptoSaid : Prop := fnExactDoubleMapUptoRow.holds Try.pinned (OpenSpec.upto fnExactDoubleMapSpec)

/-- 'laws.FnExactLessMaps', WHERE WHAT IT READS IS OF BULK AT MOST 1048576: true; the input reads as it did. -/
def fnExactLessMapsUptoRow : OpenClaim := { program := "ythbcadppbkglnab", sum := "143d9726b61057c4033bbead89a1375d825409740f3b47e84e3d7c21a031ef72", func := "loop.example/g01223/laws.FnExactLessMaps", spec := "fnExactLessMaps", unfollowed := true, recurses := true, apart := false, narrowed := true }
def FnExactLessMapsUptoSaid : Prop := fnExactLessMapsUptoRow.holds Try.pinned (OpenSpec.upto fnExactLessMapsSpec)

/-- 'laws.FnExactRowOffset', WHERE WHAT IT READS IS OF BULK AT MOST 1048576: true; the input reads as it did. -/
def fnExactRowOffsetUptoRow : OpenClaim := { program := "ythbcadppbkglnab", sum := "143d9726b61057c4033bbead89a1375d825409740f3b47e84e3d7c21a031ef72", func := "loop.example/g01223/laws.FnExactRowOffset", spec := "fnExactRowOffset", inPlace := ["math.Float32bits", "math.Float32frombits"], apart := false, narrowed := true }
def FnExactRowOffsetUptoSaid : Prop := fnExactRowOffsetUptoRow.holds Try.pinned (OpenSpec.upto fnExactRowOffsetSpec)

/-- 'laws.FnExactFitPlane', WHERE WHAT IT READS IS OF BULK AT MOST 1048576: true; the input reads as it did. -/
def fnExactFitPlaneUptoRow : OpenClaim := { program := "ythbcadppbkglnab", sum := "143d9726b61057c4033bbead89a1375d825409740f3b47e84e3d7c21a031ef72", func := "loop.example/g01223/laws.FnExactFitPlane", spec := "fnExactFitPlane", unfollowed := true, recurses := true, apart := false, narrowed := true }
def FnExactFitPlaneUptoSaid : Prop := fnExactFitPlaneUptoRow.holds Try.pinned (OpenSpec.upto fnExactFitPlaneSpec)

/-- 'laws.FnExactFillRows', WHERE WHAT IT READS IS OF BULK AT MOST 1048576: true; the input reads as it did. -/
def fnExactFillRowsUptoRow : OpenClaim := { program := "ythbcadppbkglnab", sum := "143d9726b61057c4033bbead89a1375d825409740f3b47e84e3d7c21a031ef72", func := "loop.example/g01223/laws.FnExactFillRows", spec := "fnExactFillRows", unfollowed := true, recurses := true, apart := false, narrowed := true }
def FnExactFillRowsUptoSaid : Prop := fnExactFillRowsUptoRow.holds Try.pinned (OpenSpec.upto fnExactFillRowsSpec)

/-- 'laws.FnExactCountValues', WHERE WHAT IT READS IS OF BULK AT MOST 1048576: true; the input reads as it did. -/
def fnExactCountValuesUptoRow : OpenClaim := { program := "ythbcadppbkglnab", sum := "143d9726b61057c4033bbead89a1375d825409740f3b47e84e3d7c21a031ef72", func := "loop.example/g01223/laws.FnExactCountValues", spec := "fnExactCountValues", unfollowed := true, recurses := true, apart := false, narrowed := true }
def FnExactCountValuesUptoSaid : Prop := fnExactCountValuesUptoRow.holds Try.pinned (OpenSpec.upto fnExactCountValuesSpec)

/-- 'laws.FnExactGreyBytes', WHERE WHAT IT READS IS OF BULK AT MOST 1048576: true; the input reads as it did. -/
def fnExactGreyBytesUptoRow : OpenClaim := { program := "ythbcadppbkglnab", sum := "143d9726b61057c4033bbead89a1375d825409740f3b47e84e3d7c21a031ef72", func := "loop.example/g01223/laws.FnExactGreyBytes", spec := "fnExactGreyBytes", inPlace := ["math.archFloor", "math.Float64bits", "math.Float64frombits", "math.archTrunc"], apart := false, narrowed := true }
def FnExactGreyBytesUptoSaid : Prop := fnExactGreyBytesUptoRow.holds Try.pinned (OpenSpec.upto fnExactGreyBytesSpec)

/-- 'laws.FnExactRoundMap', WHERE WHAT IT READS IS OF BULK AT MOST 1048576: true; the input reads as it did. -/
def fnExactRoundMapUptoRow : OpenClaim := { program := "ythbcadppbkglnab", sum := "143d9726b61057c4033bbead89a1375d825409740f3b47e84e3d7c21a031ef72", func := "loop.example/g01223/laws.FnExactRoundMap", spec := "fnExactRoundMap", inPlace := ["math.RoundToEven"], unfollowed := true, recurses := true, apart := false, narrowed := true }
def FnExactRoundMapUptoSaid : Prop := fnExactRoundMapUptoRow.holds Try.pinned (OpenSpec.upto fnExactRoundMapSpec)

/-- 'laws.FnExactBordersOf', WHERE WHAT IT READS IS OF BULK AT MOST 1048576: true; the input reads as it did. -/
def fnExactBordersOfUptoRow : OpenClaim := { program := "ythbcadppbkglnab", sum := "143d9726b61057c4033bbead89a1375d825409740f3b47e84e3d7c21a031ef72", func := "loop.example/g01223/laws.FnExactBordersOf", spec := "fnExactBordersOf", inPlace := ["math.Float32bits", "math.Float32frombits"], apart := false, narrowed := true }
def FnExactBordersOfUptoSaid : Prop := fnExactBordersOfUptoRow.holds Try.pinned (OpenSpec.upto fnExactBordersOfSpec)

/-- 'laws.FnExactDepthMap', WHERE WHAT IT READS IS OF BULK AT MOST 1048576: true; the input reads as it did. -/
def fnExactDepthMapUptoRow : OpenClaim := { program := "ythbcadppbkglnab", sum := "143d9726b61057c4033bbead89a1375d825409740f3b47e84e3d7c21a031ef72", func := "loop.example/g01223/laws.FnExactDepthMap", spec := "fnExactDepthMap", unfollowed := true, recurses := true, apart := false, narrowed := true }
def FnExactDepthMapUptoSaid : Prop := fnExactDepthMapUptoRow.holds Try.pinned (OpenSpec.upto fnExactDepthMapSpec)

/-- 'laws.FnExactPackMap', WHERE WHAT IT READS IS OF BULK AT MOST 1048576: true; the input reads as it did. -/
def fnExactPackMapUptoRow : OpenClaim := { program := "ythbcadppbkglnab", sum := "143d9726b61057c4033bbead89a1375d825409740f3b47e84e3d7c21a031ef72", func := "loop.example/g01223/laws.FnExactPackMap", spec := "fnExactPackMap", inPlace := ["math.archFloor", "math.Float64bits", "math.Float64frombits", "math.archTrunc"], unfollowed := true, recurses := true, apart := false, narrowed := true }
def FnExactPackMapUptoSaid : Prop := fnExactPackMapUptoRow.holds Try.pinned (OpenSpec.upto fnExactPackMapSpec)

end Rows
end Go.Proofs.Ythbcadppbkglnab
