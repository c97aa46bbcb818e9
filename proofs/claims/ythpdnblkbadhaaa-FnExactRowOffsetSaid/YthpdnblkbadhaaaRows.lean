/-
  No cell of these rows narrows 'for every input' (looked for: loops, veiled, ifaces, maps, wideKeys, modest, calm, conditions, laid).
  DERIVED. THE GIVEN ROWS OF THIS SEAT. 12 by the template 'for every input the law returns true; each argument reads behind the call as it read before'; 0 by the template 'total and deterministic' (their statements: YthpdnblkbadhaaaTotals.lean).
  GIVEN WITH THE SEED: the statements are not yours to turn. If you find one false, say at which input.
  Laid BY PROGRAM, IN A SANDBOX (cutbox-rows.mjs): the forced cells as the released guide's own fill.sh prints them over the translation a0279fa046169914… (all of the seat's roots in one cut). By AI agents, Wed Nov 11 2026. No macro, syntax, notation, axiom, sorry.
-/
import Derived.Test.YthpdnblkbadhaaaChecked
import GoSem.Claim
import GoSem.ClaimJoined
import GoSem.ClaimMapViews
import Derived.JoinedTies
import Derived.KernelRfl
namespace Go.Proofs.Ythpdnblkbadhaaa
/- THE CELL 'sum', in the pinned program and in every row, IS THE sha256 OF THE DUMP (.gsa) THAT YthpdnblkbadhaaaProg.lean LOADS. Nothing in Lean hashes anything: it is a label: what it is worth is what the hold of that sum in a sandbox is worth. -/
noncomputable def Try.pinned : Pinned := { name := "ythpdnblkbadhaaa", sum := "a0279fa04616991436c499c4f8ca8e70532b968c2030d414b939580af11830a2", checked := Try.checked }
namespace Rows
def none {H : Type} : Left H := { results := [], args := [] }

/-- 'laws.FnExactRowsOf': WHATEVER THE INPUT: true; the input reads as it did. -/
def fnExactRowsOfSpec : ChangeSpec := { name := "fnExactRowsOf", fn := fun _ => fun
  | [d1, d2] => { results := [.lit (.bool true)], args := [d1, d2] }
  | _ => none }
def fnExactRowsOfRow : OpenClaim := { program := "ythpdnblkbadhaaa", sum := "a0279fa04616991436c499c4f8ca8e70532b968c2030d414b939580af11830a2", func := "loop.example/g01223/laws.FnExactRowsOf", spec := "fnExactRowsOf", unfollowed := true, recurses := true, apart := false }
def FnExactRowsOfSaid : Prop := fnExactRowsOfRow.holds Try.pinned (OpenSpec.ofChange fnExactRowsOfSpec)

/-- ITS FALSE NEIGHBOUR: 'it returns false'. Refute it at one input. -/
def fnExactRowsOfWrong : ChangeSpec := { name := "fnExactRowsOf", fn := fun _ => fun
  | [d1, d2] => { results := [.lit (.bool false)], args := [d1, d2] }
  | _ => none }
def FnExactRowsOfWrongFalsely : Prop := fnExactRowsOfRow.holds Try.pinned (OpenSpec.ofChange fnExactRowsOfWrong)

/-- 'laws.FnExactPlaneMap': WHATEVER THE INPUT: true; the input reads as it did. -/
def fnExactPlaneMapSpec : ChangeSpec := { name := "fnExactPlaneMap", fn := fun _ => fun
  | [d1, d2, d3, d4] => { results := [.lit (.bool true)], args := [d1, d2, d3, d4] }
  | _ => none }
def fnExactPlaneMapRow : OpenClaim := { program := "ythpdnblkbadhaaa", sum := "a0279fa04616991436c499c4f8ca8e70532b968c2030d414b939580af11830a2", func := "loop.example/g01223/laws.FnExactPlaneMap", spec := "fnExactPlaneMap", unfollowed := true, recurses := true, apart := false }
def FnExactPlaneMapSaid : Prop := fnExactPlaneMapRow.holds Try.pinned (OpenSpec.ofChange fnExactPlaneMapSpec)

/-- ITS FALSE NEIGHBOUR: 'it returns false'. Refute it at one input. -/
def fnExactPlaneMapWrong : ChangeSpec := { name := "fnExactPlaneMap", fn := fun _ => fun
  | [d1, d2, d3, d4] => { results := [.lit (.bool false)], args := [d1, d2, d3, d4] }
  | _ => none }
def FnExactPlaneMapWrongFalsely : Prop := fnExactPlaneMapRow.holds Try.pinned (OpenSpec.ofChange fnExactPlaneMapWrong)

/-- 'laws.FnExactDoubleMap': WHATEVER THE INPUT: true; the input reads as it did. -/
def fnExactDoubleMapSpec : ChangeSpec := { name := "fnExactDoubleMap", fn := fun _ => fun
  | [d1, d2, d3] => { results := [.lit (.bool true)], args := [d1, d2, d3] }
  | _ => none }
def fnExactDoubleMapRow : OpenClaim := { program := "ythpdnblkbadhaaa", sum := "a0279fa04616991436c499c4f8ca8e70532b968c2030d414b939580af11830a2", func := "loop.example/g01223/laws.FnExactDoubleMap", spec := "fnExactDoubleMap", unfollowed := true, recurses := true, apart := false }
def FnExactDoubleMapSaid : Prop := fnExactDoubleMapRow.holds Try.pinned (OpenSpec.ofChange fnExactDoubleMapSpec)

/-- ITS FALSE NEIGHBOUR: 'it returns false'. Refute it at one input. -/
def fnExactDoubleMapWrong : ChangeSpec := { name := "fnExactDoubleMap", fn := fun _ => fun
  | [d1, d2, d3] => { results := [.lit (.bool false)], args := [d1, d2, d3] }
  | _ => none }
def FnExactDoubleMapWrongFalsely : Prop := fnExactDoubleMapRow.holds Try.pinned (OpenSpec.ofChange fnExactDoubleMapWrong)

/-- 'laws.FnExactLessMaps': WHATEVER THE INPUT: true; the input reads as it did. -/
def fnExactLessMapsSpec : ChangeSpec := { name := "fnExactLessMaps", fn := fun _ => fun
  | [d1, d2] => { results := [.lit (.bool true)], args := [d1, d2] }
  | _ => none }
def fnExactLessMapsRow : OpenClaim := { program := "ythpdnblkbadhaaa", sum := "a0279fa04616991436c499c4f8ca8e70532b968c2030d414b939580af11830a2", func := "loop.example/g01223/laws.FnExactLessMaps", spec := "fnExactLessMaps", unfollowed := true, recurses := true, apart := false }
def FnExactLessMapsSaid : Prop := fnExactLessMapsRow.holds Try.pinned (OpenSpec.ofChange fnExactLessMapsSpec)

/-- ITS FALSE NEIGHBOUR: 'it returns false'. Refute it at one input. -/
def fnExactLessMapsWrong : ChangeSpec := { name := "fnExactLessMaps", fn := fun _ => fun
  | [d1, d2] => { results := [.lit (.bool false)], args := [d1, d2] }
  | _ => none }
def FnExactLessMapsWrongFalsely : Prop := fnExactLessMapsRow.holds Try.pinned (OpenSpec.ofChange fnExactLessMapsWrong)

/-- 'laws.FnExactRowOffset': WHATEVER THE INPUT: true; the input reads as it did. -/
def fnExactRowOffsetSpec : ChangeSpec := { name := "fnExactRowOffset", fn := fun _ => fun
  | [d1, d2, d3] => { results := [.lit (.bool true)], args := [d1, d2, d3] }
  | _ => none }
def fnExactRowOffsetRow : OpenClaim := { program := "ythpdnblkbadhaaa", sum := "a0279fa04616991436c499c4f8ca8e70532b968c2030d414b939580af11830a2", func := "loop.example/g01223/laws.FnExactRowOffset", spec := "fnExactRowOffset", inPlace := ["math.Float32bits", "math.Float32frombits"], apart := false }
def FnExactRowOffsetSaid : Prop := fnExactRowOffsetRow.holds Try.pinned (OpenSpec.ofChange fnExactRowOffsetSpec)

/-- ITS FALSE NEIGHBOUR: 'it returns false'. Refute it at one input. -/
def fnExactRowOffsetWrong : ChangeSpec := { name := "fnExactRowOffset", fn := fun _ => fun
  | [d1, d2, d3] => { results := [.lit (.bool false)], args := [d1, d2, d3] }
  | _ => none }
def FnExactRowOffsetWrongFalsely : Prop := fnExactRowOffsetRow.holds Try.pinned (OpenSpec.ofChange fnExactRowOffsetWrong)

/-- 'laws.FnExactFillRows': WHATEVER THE INPUT: true; the input reads as it did. -/
def fnExactFillRowsSpec : ChangeSpec := { name := "fnExactFillRows", fn := fun _ => fun
  | [d] => { results := [.lit (.bool true)], args := [d] }
  | _ => none }
def fnExactFillRowsRow : OpenClaim := { program := "ythpdnblkbadhaaa", sum := "a0279fa04616991436c499c4f8ca8e70532b968c2030d414b939580af11830a2", func := "loop.example/g01223/laws.FnExactFillRows", spec := "fnExactFillRows", unfollowed := true, recurses := true, apart := false }
def FnExactFillRowsSaid : Prop := fnExactFillRowsRow.holds Try.pinned (OpenSpec.ofChange fnExactFillRowsSpec)

/-- ITS FALSE NEIGHBOUR: 'it returns false'. Refute it at one input. -/
def fnExactFillRowsWrong : ChangeSpec := { name := "fnExactFillRows", fn := fun _ => fun
  | [d] => { results := [.lit (.bool false)], args := [d] }
  | _ => none }
def FnExactFillRowsWrongFalsely : Prop := fnExactFillRowsRow.holds Try.pinned (OpenSpec.ofChange fnExactFillRowsWrong)

/-- 'laws.FnExactCountValues': WHATEVER THE INPUT: true; the input reads as it did. -/
def fnExactCountValuesSpec : ChangeSpec := { name := "fnExactCountValues", fn := fun _ => fun
  | [d1, d2] => { results := [.lit (.bool true)], args := [d1, d2] }
  | _ => none }
def fnExactCountValuesRow : OpenClaim := { program := "ythpdnblkbadhaaa", sum := "a0279fa04616991436c499c4f8ca8e70532b968c2030d414b939580af11830a2", func := "loop.example/g01223/laws.FnExactCountValues", spec := "fnExactCountValues", unfollowed := true, recurses := true, apart := false }
def FnExactCountValuesSaid : Prop := fnExactCountValuesRow.holds Try.pinned (OpenSpec.ofChange fnExactCountValuesSpec)

/-- ITS FALSE NEIGHBOUR: 'it returns false'. Refute it at one input. -/
def fnExactCountValuesWrong : ChangeSpec := { name := "fnExactCountValues", fn := fun _ => fun
  | [d1, d2] => { results := [.lit (.bool false)], args := [d1, d2] }
  | _ => none }
def FnExactCountValuesWrongFalsely : Prop := fnExactCountValuesRow.holds Try.pinned (OpenSpec.ofChange fnExactCountValuesWrong)

/-- 'laws.FnExactRoundMap': WHATEVER THE INPUT: true; the input reads as it did. -/
def fnExactRoundMapSpec : ChangeSpec := { name := "fnExactRoundMap", fn := fun _ => fun
  | [d] => { results := [.lit (.bool true)], args := [d] }
  | _ => none }
def fnExactRoundMapRow : OpenClaim := { program := "ythpdnblkbadhaaa", sum := "a0279fa04616991436c499c4f8ca8e70532b968c2030d414b939580af11830a2", func := "loop.example/g01223/laws.FnExactRoundMap", spec := "fnExactRoundMap", inPlace := ["math.RoundToEven"], unfollowed := true, recurses := true, apart := false }
def FnExactRoundMapSaid : Prop := fnExactRoundMapRow.holds Try.pinned (OpenSpec.ofChange fnExactRoundMapSpec)

/-- ITS FALSE NEIGHBOUR: 'it returns false'. Refute it at one input. -/
def fnExactRoundMapWrong : ChangeSpec := { name := "fnExactRoundMap", fn := fun _ => fun
  | [d] => { results := [.lit (.bool false)], args := [d] }
  | _ => none }
def FnExactRoundMapWrongFalsely : Prop := fnExactRoundMapRow.holds Try.pinned (OpenSpec.ofChange fnExactRoundMapWrong)

/-- 'laws.FnExactBordersOf': WHATEVER THE INPUT: true; the input reads as it did. -/
def fnExactBordersOfSpec : ChangeSpec := { name := "fnExactBordersOf", fn := fun _ => fun
  | [d1, d2] => { results := [.lit (.bool true)], args := [d1, d2] }
  | _ => none }
def fnExactBordersOfRow : OpenClaim := { program := "ythpdnblkbadhaaa", sum := "a0279fa04616991436c499c4f8ca8e70532b968c2030d414b939580af11830a2", func := "loop.example/g01223/laws.FnExactBordersOf", spec := "fnExactBordersOf", inPlace := ["math.Float32bits", "math.Float32frombits"], apart := false }
def FnExactBordersOfSaid : Prop := fnExactBordersOfRow.holds Try.pinned (OpenSpec.ofChange fnExactBordersOfSpec)

/-- ITS FALSE NEIGHBOUR: 'it returns false'. Refute it at one input. -/
def fnExactBordersOfWrong : ChangeSpec := { name := "fnExactBordersOf", fn := fun _ => fun
  | [d1, d2] => { results := [.lit (.bool false)], args := [d1, d2] }
  | _ => none }
def FnExactBordersOfWrongFalsely : Prop := fnExactBordersOfRow.holds Try.pinned (OpenSpec.ofChange fnExactBordersOfWrong)

/-- 'laws.FnExactDepthMap': WHATEVER THE INPUT: true; the input reads as it did. -/
def fnExactDepthMapSpec : ChangeSpec := { name := "fnExactDepthMap", fn := fun _ => fun
  | [d1, d2] => { results := [.lit (.bool true)], args := [d1, d2] }
  | _ => none }
def fnExactDepthMapRow : OpenClaim := { program := "ythpdnblkbadhaaa", sum := "a0279fa04616991436c499c4f8ca8e70532b968c2030d414b939580af11830a2", func := "loop.example/g01223/laws.FnExactDepthMap", spec := "fnExactDepthMap", unfollowed := true, recurses := true, apart := false }
def FnExactDepthMapSaid : Prop := fnExactDepthMapRow.holds Try.pinned (OpenSpec.ofChange fnExactDepthMapSpec)

/-- ITS FALSE NEIGHBOUR: 'it returns false'. Refute it at one input. -/
def fnExactDepthMapWrong : ChangeSpec := { name := "fnExactDepthMap", fn := fun _ => fun
  | [d1, d2] => { results := [.lit (.bool false)], args := [d1, d2] }
  | _ => none }
def FnExactDepthMapWrongFalsely : Prop := fnExactDepthMapRow.holds Try.pinned (OpenSpec.ofChange fnExactDepthMapWrong)

/-- 'laws.FnExactSharpMap': WHATEVER THE INPUT: true; the input reads as it did. -/
def fnExactSharpMapSpec : ChangeSpec := { name := "fnExactSharpMap", fn := fun _ => fun
  | [d] => { results := [.lit (.bool true)], args := [d] }
  | _ => none }
def fnExactSharpMapRow : OpenClaim := { program := "ythpdnblkbadhaaa", sum := "a0279fa04616991436c499c4f8ca8e70532b968c2030d414b939580af11830a2", func := "loop.example/g01223/laws.FnExactSharpMap", spec := "fnExactSharpMap", unfollowed := true, recurses := true, apart := false }
def FnExactSharpMapSaid : Prop := fnExactSharpMapRow.holds Try.pinned (OpenSpec.ofChange fnExactSharpMapSpec)

/-- ITS FALSE NEIGHBOUR: 'it returns false'. Refute it at one input. -/
def fnExactSharpMapWrong : ChangeSpec := { name := "fnExactSharpMap", fn := fun _ => fun
  | [d] => { results := [.lit (.bool false)], args := [d] }
  | _ => none }
def FnExactSharpMapWrongFalsely : Prop := fnExactSharpMapRow.holds Try.pinned (OpenSpec.ofChange fnExactSharpMapWrong)

/-- 'laws.FnExactFillAll': WHATEVER THE INPUT: true; the input reads as it did. -/
def fnExactFillAllSpec : ChangeSpec := { name := "fnExactFillAll", fn := fun _ => fun
  | [d] => { results := [.lit (.bool true)], args := [d] }
  | _ => none }
def fnExactFillAllRow : OpenClaim := { program := "ythpdnblkbadhaaa", sum := "a0279fa04616991436c499c4f8ca8e70532b968c2030d414b939580af11830a2", func := "loop.example/g01223/laws.FnExactFillAll", spec := "fnExactFillAll", unfollowed := true, recurses := true, apart := false }
def FnExactFillAllSaid : Prop := fnExactFillAllRow.holds Try.pinned (OpenSpec.ofChange fnExactFillAllSpec)

/-- ITS FALSE NEIGHBOUR: 'it returns false'. Refute it at one input. -/
def fnExactFillAllWrong : ChangeSpec := { name := "fnExactFillAll", fn := fun _ => fun
  | [d] => { results := [.lit (.bool false)], args := [d] }
  | _ => none }
def FnExactFillAllWrongFalsely : Prop := fnExactFillAllRow.holds Try.pinned (OpenSpec.ofChange fnExactFillAllWrong)

/- THE SECOND FORM. 'bulk': how many values and letters a reading holds, each counted each time it is reached (what is shared counts as often as it is met; a slice's spare places count too). A statement '..UptoSaid' is the law's where the arguments, and the package variables that the reading takes, are together of bulk at most 1048576: NARROWER than '..Said'. Prove '..Said' where nothing that the law and all that it calls make is longer than what came in: it says more and counts as full. Else prove '..UptoSaid'. A law counts once. -/
mutual
def uptoBulk {H : Type} : DataW H → Nat
  | .lit (.string bytes) => bytes.length + 1
  | .lit _ => 1
  | .nil => 1
  | .ptr d => uptoBulk d + 1
  | .slice elems spare => uptoBulkAll elems + uptoBulkAll spare + 1
  | .agg parts => uptoBulkAll parts + 1
  | .iface _ d => uptoBulk d + 1
  | .map entries => uptoBulkEntries entries + 1
  | .held _ => 1
def uptoBulkAll {H : Type} : List (DataW H) → Nat
  | [] => 0
  | d :: r => uptoBulk d + uptoBulkAll r
def uptoBulkEntries {H : Type} : List (Lit × DataW H) → Nat
  | [] => 0
  | x :: r => uptoBulkEntry x + uptoBulkEntries r
def uptoBulkEntry {H : Type} : Lit × DataW H → Nat
  | (.string bytes, d) => bytes.length + uptoBulk d + 1
  | (_, d) => uptoBulk d + 1
 end
def uptoSmall : (H : Type) → List (DataW H) → Bool := fun _ ds => decide (uptoBulkAll ds ≤ 1048576)
def OpenSpec.upto (s : _root_.Go.ChangeSpec) : _root_.Go.OpenSpec := { _root_.Go.OpenSpec.ofChange s with cond := some uptoSmall }

/-- 'laws.FnExactRowsOf', WHERE WHAT IT READS IS OF BULK AT MOST 1048576: true; the input reads as it did. -/
def fnExactRowsOfUptoRow : OpenClaim := { program := "ythpdnblkbadhaaa", sum := "a0279fa04616991436c499c4f8ca8e70532b968c2030d414b939580af11830a2", func := "loop.example/g01223/laws.FnExactRowsOf", spec := "fnExactRowsOf", unfollowed := true, recurses := true, apart := false, narrowed := true }
def FnExactRowsOfUptoSaid : Prop := fnExactRowsOfUptoRow.holds Try.pinned (OpenSpec.upto fnExactRowsOfSpec)

/-- 'laws.FnExactPlaneMap', WHERE WHAT IT READS IS OF BULK AT MOST 1048576: true; the input reads as it did. -/
def fnExactPlaneMapUptoRow : OpenClaim := { program := "ythpdnblkbadhaaa", sum := "a0279fa04616991436c499c4f8ca8e70532b968c2030d414b939580af11830a2", func := "loop.example/g01223/laws.FnExactPlaneMap", spec := "fnExactPlaneMap", unfollowed := true, recurses := true, apart := false, narrowed := true }
def FnExactPlaneMapUptoSaid : Prop := fnExactPlaneMapUptoRow.holds Try.pinned (OpenSpec.upto fnExactPlaneMapSpec)

/-- 'laws.FnExactDoubleMap', WHERE WHAT IT READS IS OF BULK AT MOST 1048576: true; the input reads as it did. -/
def fnExactDoubleMapUptoRow : OpenClaim := { program := "ythpdnblkbadhaaa", sum := "a0279fa04616991436c499c4f8ca8e70532b968c2030d414b939580af11830a2", func := "loop.example/g01223/laws.FnExactDoubleMap", spec := "fnExactDoubleMap", unfollowed := true, recurses := true, apart := false, narrowed := true }
def FnExactDoubleMapUptoSaid : Prop := fnExactDoubleMapUptoRow.holds Try.pinned (OpenSpec.upto fnExactDoubleMapSpec)

/-- 'laws.FnExactLessMaps', WHERE WHAT IT READS IS OF BULK AT MOST 1048576: true; the input reads as it did. -/
def fnExactLessMapsUptoRow : OpenClaim := { program := "ythpdnblkbadhaaa", sum := "a0279fa04616991436c499c4f8ca8e70532b968c2030d414b939580af11830a2", func := "loop.example/g01223/laws.FnExactLessMaps", spec := "fnExactLessMaps", unfollowed := true, recurses := true, apart := false, narrowed := true }
def FnExactLessMapsUptoSaid : Prop := fnExactLessMapsUptoRow.holds Try.pinned (OpenSpec.upto fnExactLessMapsSpec)

/-- 'laws.FnExactRowOffset', WHERE WHAT IT READS IS OF BULK AT MOST 1048576: true; the input reads as it did. -/
def fnExactRowOffsetUptoRow : OpenClaim := { program := "ythpdnblkbadhaaa", sum := "a0279fa04616991436c499c4f8ca8e70532b968c2030d414b939580af11830a2", func := "loop.example/g01223/laws.FnExactRowOffset", spec := "fnExactRowOffset", inPlace := ["math.Float32bits", "math.Float32frombits"], apart := false, narrowed := true }
def FnExactRowOffsetUptoSaid : Prop := fnExactRowOffsetUptoRow.holds Try.pinned (OpenSpec.upto fnExactRowOffsetSpec)

/-- 'laws.FnExactFillRows', WHERE WHAT IT READS IS OF BULK AT MOST 1048576: true; the input reads as it did. -/
def fnExactFillRowsUptoRow : OpenClaim := { program := "ythpdnblkbadhaaa", sum := "a0279fa04616991436c499c4f8ca8e70532b968c2030d414b939580af11830a2", func := "loop.example/g01223/laws.FnExactFillRows", spec := "fnExactFillRows", unfollowed := true, recurses := true, apart := false, narrowed := true }
def FnExactFillRowsUptoSaid : Prop := fnExactFillRowsUptoRow.holds Try.pinned (OpenSpec.upto fnExactFillRowsSpec)

/-- 'laws.FnExactCountValues', WHERE WHAT IT READS IS OF BULK AT MOST 1048576: true; the input reads as it did. -/
def fnExactCountValuesUptoRow : OpenClaim := { program := "ythpdnblkbadhaaa", sum := "a0279fa04616991436c499c4f8ca8e70532b968c2030d414b939580af11830a2", func := "loop.example/g01223/laws.FnExactCountValues", spec := "fnExactCountValues", unfollowed := true, recurses := true, apart := false, narrowed := true }
def FnExactCountValuesUptoSaid : Prop := fnExactCountValuesUptoRow.holds Try.pinned (OpenSpec.upto fnExactCountValuesSpec)

/-- 'laws.FnExactRoundMap', WHERE WHAT IT READS IS OF BULK AT MOST 1048576: true; the input reads as it did. -/
def fnExactRoundMapUptoRow : OpenClaim := { program := "ythpdnblkbadhaaa", sum := "a0279fa04616991436c499c4f8ca8e70532b968c2030d414b939580af11830a2", func := "loop.example/g01223/laws.FnExactRoundMap", spec := "fnExactRoundMap", inPlace := ["math.RoundToEven"], unfollowed := true, recurses := true, apart := false, narrowed := true }
def FnExactRoundMapUptoSaid : Prop := fnExactRoundMapUptoRow.holds Try.pinned (OpenSpec.upto fnExactRoundMapSpec)

/-- 'laws.FnExactBordersOf', WHERE WHAT IT READS IS OF BULK AT MOST 1048576: true; the input reads as it did. -/
def fnExactBordersOfUptoRow : OpenClaim := { program := "ythpdnblkbadhaaa", sum := "a0279fa04616991436c499c4f8ca8e70532b968c2030d414b939580af11830a2", func := "loop.example/g01223/laws.FnExactBordersOf", spec := "fnExactBordersOf", inPlace := ["math.Float32bits", "math.Float32frombits"], apart := false, narrowed := true }
def FnExactBordersOfUptoSaid : Prop := fnExactBordersOfUptoRow.holds Try.pinned (OpenSpec.upto fnExactBordersOfSpec)

/-- 'laws.FnExactDepthMap', WHERE WHAT IT READS IS OF BULK AT MOST 1048576: true; the input reads as it did. -/
def fnExactDepthMapUptoRow : OpenClaim := { program := "ythpdnblkbadhaaa", sum := "a0279fa04616991436c499c4f8ca8e70532b968c2030d414b939580af11830a2", func := "loop.example/g01223/laws.FnExactDepthMap", spec := "fnExactDepthMap", unfollowed := true, recurses := true, apart := false, narrowed := true }
def FnExactDepthMapUptoSaid : Prop := fnExactDepthMapUptoRow.holds Try.pinned (OpenSpec.upto fnExactDepthMapSpec)

/-- 'laws.FnExactSharpMap', WHERE WHAT IT READS IS OF BULK AT MOST 1048576: true; the input reads as it did. -/
def fnExactSharpMapUptoRow : OpenClaim := { program := "ythpdnblkbadhaaa", sum := "a0279fa04616991436c499c4f8ca8e70532b968c2030d414b939580af11830a2", func := "loop.example/g01223/laws.FnExactSharpMap", spec := "fnExactSharpMap", unfollowed := true, recurses := true, apart := false, narrowed := true }
def FnExactSharpMapUptoSaid : Prop := fnExactSharpMapUptoRow.holds Try.pinned (OpenSpec.upto fnExactSharpMapSpec)

/-- 'laws.FnExactFillAll', WHERE WHAT IT READS IS OF BULK AT MOST 1048576: true; the input reads as it did. -/
def fnExactFillAllUptoRow : OpenClaim := { program := "ythpdnblkbadhaaa", sum := "a0279fa04616991436c499c4f8ca8e70532b968c2030d414b939580af11830a2", func := "loop.example/g01223/laws.FnExactFillAll", spec := "fnExactFillAll", unfollowed := true, recurses := true, apart := false, narrowed := true }
def FnExactFillAllUptoSaid : Prop := fnExactFillAllUptoRow.holds Try.pinned (OpenSpec.upto fnExactFillAllSpec)

end Rows
end Go.Proofs.Ythpdnblkbadhaaa
