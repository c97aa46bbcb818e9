/-
  No cell of these rows narrows 'for every input' (looked for: loops, veiled, ifaces, maps, wideKeys, modest, calm, conditions, laid).
  DERIVED. THE GIVEN ROWS OF THIS SEAT. 6 by the template 'for every input the law returns true; each argument reads behind the call as it read before'; 0 by the template 'total and deterministic' (their statements: YtomlfdkcgaogcaaTotals.lean).
  GIVEN WITH THE SEED: the statements are not yours to turn. If you find one false, say at which input.
  Laid BY PROGRAM, IN A SANDBOX (cutbox-rows.mjs): the forced cells as the released guide's own fill.sh prints them over the translation cbe06f52ca7d1e72… (all of the seat's roots in one cut). By AI agents, Wed Nov 11 2026. No macro, syntax, notation, axiom, sorry.
-/
import Derived.Test.YtomlfdkcgaogcaaChecked
import GoSem.Claim
import GoSem.ClaimJoined
import GoSem.ClaimMapViews
import Derived.JoinedTies
import Derived.KernelRfl
namespace Go.Proofs.Ytomlfdkcgaogcaa
/- THE CELL 'sum', in the pinned program and in every row, IS THE sha256 OF THE DUMP (.gsa) THAT YtomlfdkcgaogcaaProg.lean LOADS. Nothing in Lean hashes anything: it is a label: what it is worth is what the hold of that sum in a sandbox is worth. -/
noncomputable def Try.pinned : Pinned := { name := "ytomlfdkcgaogcaa", sum := "cbe06f52ca7d1e7265264991a1fa2cc4c3fa9c5d98262d5cbb5b6ea5b3ad6cf8", checked := Try.checked }
namespace Rows
def none {H : Type} : Left H := { results := [], args := [] }

/-- 'laws.FnExactPatchesOf': WHATEVER THE INPUT: true; the input reads as it did. -/
def fnExactPatchesOfSpec : ChangeSpec := { name := "fnExactPatchesOf", fn := fun _ => fun
  | [d1, d2] => { results := [.lit (.bool true)], args := [d1, d2] }
  | _ => none }
def fnExactPatchesOfRow : OpenClaim := { program := "ytomlfdkcgaogcaa", sum := "cbe06f52ca7d1e7265264991a1fa2cc4c3fa9c5d98262d5cbb5b6ea5b3ad6cf8", func := "loop.example/g01223/laws.FnExactPatchesOf", spec := "fnExactPatchesOf", inPlace := ["math.Float32bits", "math.Float32frombits"], apart := false }
def FnExactPatchesOfSaid : Prop := fnExactPatchesOfRow.holds Try.pinned (OpenSpec.ofChange fnExactPatchesOfSpec)

/-- ITS FALSE NEIGHBOUR: 'it returns false'. Refute it at one input. -/
def fnExactPatchesOfWrong : ChangeSpec := { name := "fnExactPatchesOf", fn := fun _ => fun
  | [d1, d2] => { results := [.lit (.bool false)], args := [d1, d2] }
  | _ => none }
def FnExactPatchesOfWrongFalsely : Prop := fnExactPatchesOfRow.holds Try.pinned (OpenSpec.ofChange fnExactPatchesOfWrong)

/-- 'laws.FnExactDropPatches': WHATEVER THE INPUT: true; the input reads as it did. -/
def fnExactDropPatchesSpec : ChangeSpec := { name := "fnExactDropPatches", fn := fun _ => fun
  | [d1, d2, d3] => { results := [.lit (.bool true)], args := [d1, d2, d3] }
  | _ => none }
def fnExactDropPatchesRow : OpenClaim := { program := "ytomlfdkcgaogcaa", sum := "cbe06f52ca7d1e7265264991a1fa2cc4c3fa9c5d98262d5cbb5b6ea5b3ad6cf8", func := "loop.example/g01223/laws.FnExactDropPatches", spec := "fnExactDropPatches", inPlace := ["math.Float32bits", "math.Float32frombits"], unfollowed := true, recurses := true, apart := false }
def FnExactDropPatchesSaid : Prop := fnExactDropPatchesRow.holds Try.pinned (OpenSpec.ofChange fnExactDropPatchesSpec)

/-- ITS FALSE NEIGHBOUR: 'it returns false'. Refute it at one input. -/
def fnExactDropPatchesWrong : ChangeSpec := { name := "fnExactDropPatches", fn := fun _ => fun
  | [d1, d2, d3] => { results := [.lit (.bool false)], args := [d1, d2, d3] }
  | _ => none }
def FnExactDropPatchesWrongFalsely : Prop := fnExactDropPatchesRow.holds Try.pinned (OpenSpec.ofChange fnExactDropPatchesWrong)

/-- 'laws.FnExactChecksOf': WHATEVER THE INPUT: true; the input reads as it did. -/
def fnExactChecksOfSpec : ChangeSpec := { name := "fnExactChecksOf", fn := fun _ => fun
  | [d1, d2] => { results := [.lit (.bool true)], args := [d1, d2] }
  | _ => none }
def fnExactChecksOfRow : OpenClaim := { program := "ytomlfdkcgaogcaa", sum := "cbe06f52ca7d1e7265264991a1fa2cc4c3fa9c5d98262d5cbb5b6ea5b3ad6cf8", func := "loop.example/g01223/laws.FnExactChecksOf", spec := "fnExactChecksOf", inPlace := ["math.RoundToEven", "math.Float32bits", "math.Float32frombits"], unfollowed := true, recurses := true, apart := false }
def FnExactChecksOfSaid : Prop := fnExactChecksOfRow.holds Try.pinned (OpenSpec.ofChange fnExactChecksOfSpec)

/-- ITS FALSE NEIGHBOUR: 'it returns false'. Refute it at one input. -/
def fnExactChecksOfWrong : ChangeSpec := { name := "fnExactChecksOf", fn := fun _ => fun
  | [d1, d2] => { results := [.lit (.bool false)], args := [d1, d2] }
  | _ => none }
def FnExactChecksOfWrongFalsely : Prop := fnExactChecksOfRow.holds Try.pinned (OpenSpec.ofChange fnExactChecksOfWrong)

/-- 'laws.FnExactCoarseToFine': WHATEVER THE INPUT: true; the input reads as it did. -/
def fnExactCoarseToFineSpec : ChangeSpec := { name := "fnExactCoarseToFine", fn := fun _ => fun
  | [d1, d2, d3, d4] => { results := [.lit (.bool true)], args := [d1, d2, d3, d4] }
  | _ => none }
def fnExactCoarseToFineRow : OpenClaim := { program := "ytomlfdkcgaogcaa", sum := "cbe06f52ca7d1e7265264991a1fa2cc4c3fa9c5d98262d5cbb5b6ea5b3ad6cf8", func := "loop.example/g01223/laws.FnExactCoarseToFine", spec := "fnExactCoarseToFine", inPlace := ["math.RoundToEven"], unfollowed := true, recurses := true, apart := false }
def FnExactCoarseToFineSaid : Prop := fnExactCoarseToFineRow.holds Try.pinned (OpenSpec.ofChange fnExactCoarseToFineSpec)

/-- ITS FALSE NEIGHBOUR: 'it returns false'. Refute it at one input. -/
def fnExactCoarseToFineWrong : ChangeSpec := { name := "fnExactCoarseToFine", fn := fun _ => fun
  | [d1, d2, d3, d4] => { results := [.lit (.bool false)], args := [d1, d2, d3, d4] }
  | _ => none }
def FnExactCoarseToFineWrongFalsely : Prop := fnExactCoarseToFineRow.holds Try.pinned (OpenSpec.ofChange fnExactCoarseToFineWrong)

/-- 'laws.FnExactMedianAt': WHATEVER THE INPUT: true; the input reads as it did. -/
def fnExactMedianAtSpec : ChangeSpec := { name := "fnExactMedianAt", fn := fun _ => fun
  | [d1, d2, d3, d4] => { results := [.lit (.bool true)], args := [d1, d2, d3, d4] }
  | _ => none }
def fnExactMedianAtRow : OpenClaim := { program := "ytomlfdkcgaogcaa", sum := "cbe06f52ca7d1e7265264991a1fa2cc4c3fa9c5d98262d5cbb5b6ea5b3ad6cf8", func := "loop.example/g01223/laws.FnExactMedianAt", spec := "fnExactMedianAt", unfollowed := true, recurses := true, apart := false }
def FnExactMedianAtSaid : Prop := fnExactMedianAtRow.holds Try.pinned (OpenSpec.ofChange fnExactMedianAtSpec)

/-- ITS FALSE NEIGHBOUR: 'it returns false'. Refute it at one input. -/
def fnExactMedianAtWrong : ChangeSpec := { name := "fnExactMedianAt", fn := fun _ => fun
  | [d1, d2, d3, d4] => { results := [.lit (.bool false)], args := [d1, d2, d3, d4] }
  | _ => none }
def FnExactMedianAtWrongFalsely : Prop := fnExactMedianAtRow.holds Try.pinned (OpenSpec.ofChange fnExactMedianAtWrong)

/-- 'laws.FnExactMedianMap': WHATEVER THE INPUT: true; the input reads as it did. -/
def fnExactMedianMapSpec : ChangeSpec := { name := "fnExactMedianMap", fn := fun _ => fun
  | [d1, d2] => { results := [.lit (.bool true)], args := [d1, d2] }
  | _ => none }
def fnExactMedianMapRow : OpenClaim := { program := "ytomlfdkcgaogcaa", sum := "cbe06f52ca7d1e7265264991a1fa2cc4c3fa9c5d98262d5cbb5b6ea5b3ad6cf8", func := "loop.example/g01223/laws.FnExactMedianMap", spec := "fnExactMedianMap", unfollowed := true, recurses := true, apart := false }
def FnExactMedianMapSaid : Prop := fnExactMedianMapRow.holds Try.pinned (OpenSpec.ofChange fnExactMedianMapSpec)

/-- ITS FALSE NEIGHBOUR: 'it returns false'. Refute it at one input. -/
def fnExactMedianMapWrong : ChangeSpec := { name := "fnExactMedianMap", fn := fun _ => fun
  | [d1, d2] => { results := [.lit (.bool false)], args := [d1, d2] }
  | _ => none }
def FnExactMedianMapWrongFalsely : Prop := fnExactMedianMapRow.holds Try.pinned (OpenSpec.ofChange fnExactMedianMapWrong)

/- THE SECOND FORM. 'bulk': how many values and letters a reading holds, each counted each time it is reached (what is shared counts as often as it is met; a slice's spare places count too). A statement '..UptoSaid' is the law's where the arguments, and the package variables that the reading takes, are together of bulk at most 1048576: NARROWER than '..Said'. Prove '..Said' where nothing that the law and all that it calls make is longer than what came in: it says more and counts as full. Else prove '..UptoSaid'. A law counts once. -/
mutual
def uptoBulk {H : Type} : DataW H → Nat
  | .lit (.string bytes) => bytes.length + 1
  | .lit _ => 1
  | .nil => 1
  | .ptr d => uptoBulk d + 1
  | .slice elems spare => uptoBulkAll elems + uptoBulkAll spare + 1
  | .agg parts => uptoBulkAll parts + 1
  | .iface _ d => uptoBulk d + 1
  | .map entries => uptoBulkEntries entries + 1
  | .held _ => 1
def uptoBulkAll {H : Type} : List (DataW H) → Nat
  | [] => 0
  | d :: r => uptoBulk d + uptoBulkAll r
def uptoBulkEntries {H : Type} : List (Lit × DataW H) → Nat
  | [] => 0
  | x :: r => uptoBulkEntry x + uptoBulkEntries r
def uptoBulkEntry {H : Type} : Lit × DataW H → Nat
  | (.string bytes, d) => bytes.length + uptoBulk d + 1
  | (_, d) => uptoBulk d + 1
 end
def uptoSmall : (H : Type) → List (DataW H) → Bool := fun _ ds => decide (uptoBulkAll ds ≤ 1048576)
def OpenSpec.upto (s : _root_.Go.ChangeSpec) : _root_.Go.OpenSpec := { _root_.Go.OpenSpec.ofChange s with cond := some uptoSmall }

/-- 'laws.FnExactPatchesOf', WHERE WHAT IT READS IS OF BULK AT MOST 1048576: true; the input reads as it did. -/
def fnExactPatchesOfUptoRow : OpenClaim := { program := "ytomlfdkcgaogcaa", sum := "cbe06f52ca7d1e7265264991a1fa2cc4c3fa9c5d98262d5cbb5b6ea5b3ad6cf8", func := "loop.example/g01223/laws.FnExactPatchesOf", spec := "fnExactPatchesOf", inPlace := ["math.Float32bits", "math.Float32frombits"], apart := false, narrowed := true }
def FnExactPatchesOfUptoSaid : Prop := fnExactPatchesOfUptoRow.holds Try.pinned (OpenSpec.upto fnExactPatchesOfSpec)

/-- 'laws.FnExactDropPatches', WHERE WHAT IT READS IS OF BULK AT MOST 1048576: true; the input reads as it did. -/
def fnExactDropPatchesUptoRow : OpenClaim := { program := "ytomlfdkcgaogcaa", sum := "cbe06f52ca7d1e7265264991a1fa2cc4c3fa9c5d98262d5cbb5b6ea5b3ad6cf8", func := "loop.example/g01223/laws.FnExactDropPatches", spec := "fnExactDropPatches", inPlace := ["math.Float32bits", "math.Float32frombits"], unfollowed := true, recurses := true, apart := false, narrowed := true }
def FnExactDropPatchesUptoSaid : Prop := fnExactDropPatchesUptoRow.holds Try.pinned (OpenSpec.upto fnExactDropPatchesSpec)

/-- 'laws.FnExactChecksOf', WHERE WHAT IT READS IS OF BULK AT MOST 1048576: true; the input reads as it did. -/
def fnExactChecksOfUptoRow : OpenClaim := { program := "ytomlfdkcgaogcaa", sum := "cbe06f52ca7d1e7265264991a1fa2cc4c3fa9c5d98262d5cbb5b6ea5b3ad6cf8", func := "loop.example/g01223/laws.FnExactChecksOf", spec := "fnExactChecksOf", inPlace := ["math.RoundToEven", "math.Float32bits", "math.Float32frombits"], unfollowed := true, recurses := true, apart := false, narrowed := true }
def FnExactChecksOfUptoSaid : Prop := fnExactChecksOfUptoRow.holds Try.pinned (OpenSpec.upto fnExactChecksOfSpec)

/-- 'laws.FnExactCoarseToFine', WHERE WHAT IT READS IS OF BULK AT MOST 1048576: true; the input reads as it did. -/
def fnExactCoarseToFineUptoRow : OpenClaim := { program := "ytomlfdkcgaogcaa", sum := "cbe06f52ca7d1e7265264991a1fa2cc4c3fa9c5d98262d5cbb5b6ea5b3ad6cf8", func := "loop.example/g01223/laws.FnExactCoarseToFine", spec := "fnExactCoarseToFine", inPlace := ["math.RoundToEven"], unfollowed := true, recurses := true, apart := false, narrowed := true }
def FnExactCoarseToFineUptoSaid : Prop := fnExactCoarseToFineUptoRow.holds Try.pinned (OpenSpec.upto fnExactCoarseToFineSpec)

/-- 'laws.FnExactMedianAt', WHERE WHAT IT READS IS OF BULK AT MOST 1048576: true; the input reads as it did. -/
def fnExactMedianAtUptoRow : OpenClaim := { program := "ytomlfdkcgaogcaa", sum := "cbe06f52ca7d1e7265264991a1fa2cc4c3fa9c5d98262d5cbb5b6ea5b3ad6cf8", func := "loop.example/g01223/laws.FnExactMedianAt", spec := "fnExactMedianAt", unfollowed := true, recurses := true, apart := false, narrowed := true }
def FnExactMedianAtUptoSaid : Prop := fnExactMedianAtUptoRow.holds Try.pinned (OpenSpec.upto fnExactMedianAtSpec)

/-- 'laws.FnExactMedianMap', WHERE WHAT IT READS IS OF BULK AT MOST 1048576: true; the input reads as it did. -/
def fnExactMedianMapUptoRow : OpenClaim := { program := "ytomlfdkcgaogcaa", sum := "cbe06f52ca7d1e7265264991a1fa2cc4c3fa9c5d98262d5cbb5b6ea5b3ad6cf8", func := "loop.example/g01223/laws.FnExactMedianMap", spec := "fnExactMedianMap", unfollowed := true, recurses := true, apart := false, narrowed := true }
def FnExactMedianMapUptoSaid : Prop := fnExactMedianMapUptoRow.holds Try.pinned (OpenSpec.upto fnExactMedianMapSpec)

end Rows
end Go.Proofs.Ytomlfdkcgaogcaa
