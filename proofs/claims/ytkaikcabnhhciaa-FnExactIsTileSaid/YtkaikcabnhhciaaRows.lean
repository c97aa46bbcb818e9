/-
  No cell of these rows narrows 'for every input' (looked for: loops, veiled, ifaces, maps, wideKeys, modest, calm, conditions, laid).
  DERIVED. THE GIVEN ROWS OF THIS SEAT. 12 by the template 'for every input the law returns true; each argument reads behind the call as it read before'; 0 by the template 'total and deterministic' (their statements: YtkaikcabnhhciaaTotals.lean).
  GIVEN WITH THE SEED: the statements are not yours to turn. If you find one false, say at which input.
  Laid BY PROGRAM, IN A SANDBOX (cutbox-rows.mjs): the forced cells as the released guide's own fill.sh prints them over the translation abbf467567a2072e… (all of the seat's roots in one cut). By AI agents, Wed Nov 11 2026. No macro, syntax, notation, axiom, sorry.
-/
import Derived.Test.YtkaikcabnhhciaaChecked
import GoSem.Claim
import GoSem.ClaimJoined
import GoSem.ClaimMapViews
import Derived.JoinedTies
import Derived.KernelRfl
namespace Go.Proofs.Ytkaikcabnhhciaa
/- THE CELL 'sum', in the pinned program and in every row, IS THE sha256 OF THE DUMP (.gsa) THAT YtkaikcabnhhciaaProg.lean LOADS. Nothing in Lean hashes anything: it is a label: what it is worth is what the hold of that sum in a sandbox is worth. -/
noncomputable def Try.pinned : Pinned := { name := "ytkaikcabnhhciaa", sum := "abbf467567a2072ee16e0f82866deca359d2cb040f78d1d55c517a0d2e7e7f77", checked := Try.checked }
namespace Rows
def none {H : Type} : Left H := { results := [], args := [] }

/-- 'laws.FnExactHeightAt': WHATEVER THE INPUT: true; the input reads as it did. -/
def fnExactHeightAtSpec : ChangeSpec := { name := "fnExactHeightAt", fn := fun _ => fun
  | [d1, d2, d3] => { results := [.lit (.bool true)], args := [d1, d2, d3] }
  | _ => none }
def fnExactHeightAtRow : OpenClaim := { program := "ytkaikcabnhhciaa", sum := "abbf467567a2072ee16e0f82866deca359d2cb040f78d1d55c517a0d2e7e7f77", func := "loop.example/g01223/laws.FnExactHeightAt", spec := "fnExactHeightAt", apart := false }
def FnExactHeightAtSaid : Prop := fnExactHeightAtRow.holds Try.pinned (OpenSpec.ofChange fnExactHeightAtSpec)

/-- ITS FALSE NEIGHBOUR: 'it returns false'. Refute it at one input. -/
def fnExactHeightAtWrong : ChangeSpec := { name := "fnExactHeightAt", fn := fun _ => fun
  | [d1, d2, d3] => { results := [.lit (.bool false)], args := [d1, d2, d3] }
  | _ => none }
def FnExactHeightAtWrongFalsely : Prop := fnExactHeightAtRow.holds Try.pinned (OpenSpec.ofChange fnExactHeightAtWrong)

/-- 'laws.FnExactValidCamera': WHATEVER THE INPUT: true; the input reads as it did. -/
def fnExactValidCameraSpec : ChangeSpec := { name := "fnExactValidCamera", fn := fun _ => fun
  | [d] => { results := [.lit (.bool true)], args := [d] }
  | _ => none }
def fnExactValidCameraRow : OpenClaim := { program := "ytkaikcabnhhciaa", sum := "abbf467567a2072ee16e0f82866deca359d2cb040f78d1d55c517a0d2e7e7f77", func := "loop.example/g01223/laws.FnExactValidCamera", spec := "fnExactValidCamera", unfollowed := true, recurses := true, apart := false }
def FnExactValidCameraSaid : Prop := fnExactValidCameraRow.holds Try.pinned (OpenSpec.ofChange fnExactValidCameraSpec)

/-- ITS FALSE NEIGHBOUR: 'it returns false'. Refute it at one input. -/
def fnExactValidCameraWrong : ChangeSpec := { name := "fnExactValidCamera", fn := fun _ => fun
  | [d] => { results := [.lit (.bool false)], args := [d] }
  | _ => none }
def FnExactValidCameraWrongFalsely : Prop := fnExactValidCameraRow.holds Try.pinned (OpenSpec.ofChange fnExactValidCameraWrong)

/-- 'laws.FnExactValidJob': WHATEVER THE INPUT: true; the input reads as it did. -/
def fnExactValidJobSpec : ChangeSpec := { name := "fnExactValidJob", fn := fun _ => fun
  | [d] => { results := [.lit (.bool true)], args := [d] }
  | _ => none }
def fnExactValidJobRow : OpenClaim := { program := "ytkaikcabnhhciaa", sum := "abbf467567a2072ee16e0f82866deca359d2cb040f78d1d55c517a0d2e7e7f77", func := "loop.example/g01223/laws.FnExactValidJob", spec := "fnExactValidJob", unfollowed := true, recurses := true, apart := false }
def FnExactValidJobSaid : Prop := fnExactValidJobRow.holds Try.pinned (OpenSpec.ofChange fnExactValidJobSpec)

/-- ITS FALSE NEIGHBOUR: 'it returns false'. Refute it at one input. -/
def fnExactValidJobWrong : ChangeSpec := { name := "fnExactValidJob", fn := fun _ => fun
  | [d] => { results := [.lit (.bool false)], args := [d] }
  | _ => none }
def FnExactValidJobWrongFalsely : Prop := fnExactValidJobRow.holds Try.pinned (OpenSpec.ofChange fnExactValidJobWrong)

/-- 'laws.FnExactIsWarp': WHATEVER THE INPUT: true; the input reads as it did. -/
def fnExactIsWarpSpec : ChangeSpec := { name := "fnExactIsWarp", fn := fun _ => fun
  | [d] => { results := [.lit (.bool true)], args := [d] }
  | _ => none }
def fnExactIsWarpRow : OpenClaim := { program := "ytkaikcabnhhciaa", sum := "abbf467567a2072ee16e0f82866deca359d2cb040f78d1d55c517a0d2e7e7f77", func := "loop.example/g01223/laws.FnExactIsWarp", spec := "fnExactIsWarp", unfollowed := true, recurses := true, apart := false }
def FnExactIsWarpSaid : Prop := fnExactIsWarpRow.holds Try.pinned (OpenSpec.ofChange fnExactIsWarpSpec)

/-- ITS FALSE NEIGHBOUR: 'it returns false'. Refute it at one input. -/
def fnExactIsWarpWrong : ChangeSpec := { name := "fnExactIsWarp", fn := fun _ => fun
  | [d] => { results := [.lit (.bool false)], args := [d] }
  | _ => none }
def FnExactIsWarpWrongFalsely : Prop := fnExactIsWarpRow.holds Try.pinned (OpenSpec.ofChange fnExactIsWarpWrong)

/-- 'laws.FnExactDepthOf': WHATEVER THE INPUT: true; the input reads as it did. -/
def fnExactDepthOfSpec : ChangeSpec := { name := "fnExactDepthOf", fn := fun _ => fun
  | [d1, d2] => { results := [.lit (.bool true)], args := [d1, d2] }
  | _ => none }
def fnExactDepthOfRow : OpenClaim := { program := "ytkaikcabnhhciaa", sum := "abbf467567a2072ee16e0f82866deca359d2cb040f78d1d55c517a0d2e7e7f77", func := "loop.example/g01223/laws.FnExactDepthOf", spec := "fnExactDepthOf", unfollowed := true, recurses := true, apart := false }
def FnExactDepthOfSaid : Prop := fnExactDepthOfRow.holds Try.pinned (OpenSpec.ofChange fnExactDepthOfSpec)

/-- ITS FALSE NEIGHBOUR: 'it returns false'. Refute it at one input. -/
def fnExactDepthOfWrong : ChangeSpec := { name := "fnExactDepthOf", fn := fun _ => fun
  | [d1, d2] => { results := [.lit (.bool false)], args := [d1, d2] }
  | _ => none }
def FnExactDepthOfWrongFalsely : Prop := fnExactDepthOfRow.holds Try.pinned (OpenSpec.ofChange fnExactDepthOfWrong)

/-- 'laws.FnExactDisparityOf': WHATEVER THE INPUT: true; the input reads as it did. -/
def fnExactDisparityOfSpec : ChangeSpec := { name := "fnExactDisparityOf", fn := fun _ => fun
  | [d1, d2] => { results := [.lit (.bool true)], args := [d1, d2] }
  | _ => none }
def fnExactDisparityOfRow : OpenClaim := { program := "ytkaikcabnhhciaa", sum := "abbf467567a2072ee16e0f82866deca359d2cb040f78d1d55c517a0d2e7e7f77", func := "loop.example/g01223/laws.FnExactDisparityOf", spec := "fnExactDisparityOf", unfollowed := true, recurses := true, apart := false }
def FnExactDisparityOfSaid : Prop := fnExactDisparityOfRow.holds Try.pinned (OpenSpec.ofChange fnExactDisparityOfSpec)

/-- ITS FALSE NEIGHBOUR: 'it returns false'. Refute it at one input. -/
def fnExactDisparityOfWrong : ChangeSpec := { name := "fnExactDisparityOf", fn := fun _ => fun
  | [d1, d2] => { results := [.lit (.bool false)], args := [d1, d2] }
  | _ => none }
def FnExactDisparityOfWrongFalsely : Prop := fnExactDisparityOfRow.holds Try.pinned (OpenSpec.ofChange fnExactDisparityOfWrong)

/-- 'laws.FnExactWarpPoint': WHATEVER THE INPUT: true; the input reads as it did. -/
def fnExactWarpPointSpec : ChangeSpec := { name := "fnExactWarpPoint", fn := fun _ => fun
  | [d1, d2, d3] => { results := [.lit (.bool true)], args := [d1, d2, d3] }
  | _ => none }
def fnExactWarpPointRow : OpenClaim := { program := "ytkaikcabnhhciaa", sum := "abbf467567a2072ee16e0f82866deca359d2cb040f78d1d55c517a0d2e7e7f77", func := "loop.example/g01223/laws.FnExactWarpPoint", spec := "fnExactWarpPoint", unfollowed := true, recurses := true, apart := false }
def FnExactWarpPointSaid : Prop := fnExactWarpPointRow.holds Try.pinned (OpenSpec.ofChange fnExactWarpPointSpec)

/-- ITS FALSE NEIGHBOUR: 'it returns false'. Refute it at one input. -/
def fnExactWarpPointWrong : ChangeSpec := { name := "fnExactWarpPoint", fn := fun _ => fun
  | [d1, d2, d3] => { results := [.lit (.bool false)], args := [d1, d2, d3] }
  | _ => none }
def FnExactWarpPointWrongFalsely : Prop := fnExactWarpPointRow.holds Try.pinned (OpenSpec.ofChange fnExactWarpPointWrong)

/-- 'laws.FnPlanes': WHATEVER THE INPUT: true; the input reads as it did. -/
def fnPlanesSpec : ChangeSpec := { name := "fnPlanes", fn := fun _ => fun
  | [d1, d2] => { results := [.lit (.bool true)], args := [d1, d2] }
  | _ => none }
def fnPlanesRow : OpenClaim := { program := "ytkaikcabnhhciaa", sum := "abbf467567a2072ee16e0f82866deca359d2cb040f78d1d55c517a0d2e7e7f77", func := "loop.example/g01223/laws.FnPlanes", spec := "fnPlanes", inPlace := ["math.Float32bits", "math.Float32frombits"], unfollowed := true, recurses := true, apart := false }
def FnPlanesSaid : Prop := fnPlanesRow.holds Try.pinned (OpenSpec.ofChange fnPlanesSpec)

/-- ITS FALSE NEIGHBOUR: 'it returns false'. Refute it at one input. -/
def fnPlanesWrong : ChangeSpec := { name := "fnPlanes", fn := fun _ => fun
  | [d1, d2] => { results := [.lit (.bool false)], args := [d1, d2] }
  | _ => none }
def FnPlanesWrongFalsely : Prop := fnPlanesRow.holds Try.pinned (OpenSpec.ofChange fnPlanesWrong)

/-- 'laws.FnExactTilesOf': WHATEVER THE INPUT: true; the input reads as it did. -/
def fnExactTilesOfSpec : ChangeSpec := { name := "fnExactTilesOf", fn := fun _ => fun
  | [d1, d2] => { results := [.lit (.bool true)], args := [d1, d2] }
  | _ => none }
def fnExactTilesOfRow : OpenClaim := { program := "ytkaikcabnhhciaa", sum := "abbf467567a2072ee16e0f82866deca359d2cb040f78d1d55c517a0d2e7e7f77", func := "loop.example/g01223/laws.FnExactTilesOf", spec := "fnExactTilesOf", apart := false }
def FnExactTilesOfSaid : Prop := fnExactTilesOfRow.holds Try.pinned (OpenSpec.ofChange fnExactTilesOfSpec)

/-- ITS FALSE NEIGHBOUR: 'it returns false'. Refute it at one input. -/
def fnExactTilesOfWrong : ChangeSpec := { name := "fnExactTilesOf", fn := fun _ => fun
  | [d1, d2] => { results := [.lit (.bool false)], args := [d1, d2] }
  | _ => none }
def FnExactTilesOfWrongFalsely : Prop := fnExactTilesOfRow.holds Try.pinned (OpenSpec.ofChange fnExactTilesOfWrong)

/-- 'laws.FnExactPlaneThrough': WHATEVER THE INPUT: true; the input reads as it did. -/
def fnExactPlaneThroughSpec : ChangeSpec := { name := "fnExactPlaneThrough", fn := fun _ => fun
  | [d1, d2, d3] => { results := [.lit (.bool true)], args := [d1, d2, d3] }
  | _ => none }
def fnExactPlaneThroughRow : OpenClaim := { program := "ytkaikcabnhhciaa", sum := "abbf467567a2072ee16e0f82866deca359d2cb040f78d1d55c517a0d2e7e7f77", func := "loop.example/g01223/laws.FnExactPlaneThrough", spec := "fnExactPlaneThrough", unfollowed := true, recurses := true, apart := false }
def FnExactPlaneThroughSaid : Prop := fnExactPlaneThroughRow.holds Try.pinned (OpenSpec.ofChange fnExactPlaneThroughSpec)

/-- ITS FALSE NEIGHBOUR: 'it returns false'. Refute it at one input. -/
def fnExactPlaneThroughWrong : ChangeSpec := { name := "fnExactPlaneThrough", fn := fun _ => fun
  | [d1, d2, d3] => { results := [.lit (.bool false)], args := [d1, d2, d3] }
  | _ => none }
def FnExactPlaneThroughWrongFalsely : Prop := fnExactPlaneThroughRow.holds Try.pinned (OpenSpec.ofChange fnExactPlaneThroughWrong)

/-- 'laws.FnExactIsTile': WHATEVER THE INPUT: true; the input reads as it did. -/
def fnExactIsTileSpec : ChangeSpec := { name := "fnExactIsTile", fn := fun _ => fun
  | [d1, d2] => { results := [.lit (.bool true)], args := [d1, d2] }
  | _ => none }
def fnExactIsTileRow : OpenClaim := { program := "ytkaikcabnhhciaa", sum := "abbf467567a2072ee16e0f82866deca359d2cb040f78d1d55c517a0d2e7e7f77", func := "loop.example/g01223/laws.FnExactIsTile", spec := "fnExactIsTile", apart := false }
def FnExactIsTileSaid : Prop := fnExactIsTileRow.holds Try.pinned (OpenSpec.ofChange fnExactIsTileSpec)

/-- ITS FALSE NEIGHBOUR: 'it returns false'. Refute it at one input. -/
def fnExactIsTileWrong : ChangeSpec := { name := "fnExactIsTile", fn := fun _ => fun
  | [d1, d2] => { results := [.lit (.bool false)], args := [d1, d2] }
  | _ => none }
def FnExactIsTileWrongFalsely : Prop := fnExactIsTileRow.holds Try.pinned (OpenSpec.ofChange fnExactIsTileWrong)

/-- 'laws.FnExactCellOf': WHATEVER THE INPUT: true; the input reads as it did. -/
def fnExactCellOfSpec : ChangeSpec := { name := "fnExactCellOf", fn := fun _ => fun
  | [d1, d2] => { results := [.lit (.bool true)], args := [d1, d2] }
  | _ => none }
def fnExactCellOfRow : OpenClaim := { program := "ytkaikcabnhhciaa", sum := "abbf467567a2072ee16e0f82866deca359d2cb040f78d1d55c517a0d2e7e7f77", func := "loop.example/g01223/laws.FnExactCellOf", spec := "fnExactCellOf", unfollowed := true, recurses := true, apart := false }
def FnExactCellOfSaid : Prop := fnExactCellOfRow.holds Try.pinned (OpenSpec.ofChange fnExactCellOfSpec)

/-- ITS FALSE NEIGHBOUR: 'it returns false'. Refute it at one input. -/
def fnExactCellOfWrong : ChangeSpec := { name := "fnExactCellOf", fn := fun _ => fun
  | [d1, d2] => { results := [.lit (.bool false)], args := [d1, d2] }
  | _ => none }
def FnExactCellOfWrongFalsely : Prop := fnExactCellOfRow.holds Try.pinned (OpenSpec.ofChange fnExactCellOfWrong)

/- THE SECOND FORM. 'bulk': how many values and letters a reading holds, each counted each time it is reached (what is shared counts as often as it is met; a slice's spare places count too). A statement '..UptoSaid' is the law's where the arguments, and the package variables that the reading takes, are together of bulk at most 1048576: NARROWER than '..Said'. Prove '..Said' where nothing that the law and all that it calls make is longer than what came in: it says more and counts as full. Else prove '..UptoSaid'. A law counts once. -/
mutual
def uptoBulk {H : Type} : DataW H → Nat
  | .lit (.string bytes) => bytes.length + 1
  | .lit _ => 1
  | .nil => 1
  | .ptr d => uptoBulk d + 1
  | .slice elems spare => uptoBulkAll elems + uptoBulkAll spare + 1
  | .agg parts => uptoBulkAll parts + 1
  | .iface _ d => uptoBulk d + 1
  | .map entries => uptoBulkEntries entries + 1
  | .held _ => 1
def uptoBulkAll {H : Type} : List (DataW H) → Nat
  | [] => 0
  | d :: r => uptoBulk d + uptoBulkAll r
def uptoBulkEntries {H : Type} : List (Lit × DataW H) → Nat
  | [] => 0
  | x :: r => uptoBulkEntry x + uptoBulkEntries r
def uptoBulkEntry {H : Type} : Lit × DataW H → Nat
  | (.string bytes, d) => bytes.length + uptoBulk d + 1
  | (_, d) => uptoBulk d + 1
 end
def uptoSmall : (H : Type) → List (DataW H) → Bool := fun _ ds => decide (uptoBulkAll ds ≤ 1048576)
def OpenSpec.upto (s : _root_.Go.ChangeSpec) : _root_.Go.OpenSpec := { _root_.Go.OpenSpec.ofChange s with cond := some uptoSmall }

/-- 'laws.FnExactHeightAt', WHERE WHAT IT READS IS OF BULK AT MOST 1048576: true; the input reads as it did. -/
def fnExactHeightAtUptoRow : OpenClaim := { program := "ytkaikcabnhhciaa", sum := "abbf467567a2072ee16e0f82866deca359d2cb040f78d1d55c517a0d2e7e7f77", func := "loop.example/g01223/laws.FnExactHeightAt", spec := "fnExactHeightAt", apart := false, narrowed := true }
def FnExactHeightAtUptoSaid : Prop := fnExactHeightAtUptoRow.holds Try.pinned (OpenSpec.upto fnExactHeightAtSpec)

/-- 'laws.FnExactValidCamera', WHERE WHAT IT READS IS OF BULK AT MOST 1048576: true; the input reads as it did. -/
def fnExactValidCameraUptoRow : OpenClaim := { program := "ytkaikcabnhhciaa", sum := "abbf467567a2072ee16e0f82866deca359d2cb040f78d1d55c517a0d2e7e7f77", func := "loop.example/g01223/laws.FnExactValidCamera", spec := "fnExactValidCamera", unfollowed := true, recurses := true, apart := false, narrowed := true }
def FnExactValidCameraUptoSaid : Prop := fnExactValidCameraUptoRow.holds Try.pinned (OpenSpec.upto fnExactValidCameraSpec)

/-- 'laws.FnExactValidJob', WHERE WHAT IT READS IS OF BULK AT MOST 1048576: true; the input reads as it did. -/
def fnExactValidJobUptoRow : OpenClaim := { program := "ytkaikcabnhhciaa", sum := "abbf467567a2072ee16e0f82866deca359d2cb040f78d1d55c517a0d2e7e7f77", func := "loop.example/g01223/laws.FnExactValidJob", spec := "fnExactValidJob", unfollowed := true, recurses := true, apart := false, narrowed := true }
def FnExactValidJobUptoSaid : Prop := fnExactValidJobUptoRow.holds Try.pinned (OpenSpec.upto fnExactValidJobSpec)

/-- 'laws.FnExactIsWarp', WHERE WHAT IT READS IS OF BULK AT MOST 1048576: true; the input reads as it did. -/
def fnExactIsWarpUptoRow : OpenClaim := { program := "ytkaikcabnhhciaa", sum := "abbf467567a2072ee16e0f82866deca359d2cb040f78d1d55c517a0d2e7e7f77", func := "loop.example/g01223/laws.FnExactIsWarp", spec := "fnExactIsWarp", unfollowed := true, recurses := true, apart := false, narrowed := true }
def FnExactIsWarpUptoSaid : Prop := fnExactIsWarpUptoRow.holds Try.pinned (OpenSpec.upto fnExactIsWarpSpec)

/-- 'laws.FnExactDepthOf', WHERE WHAT IT READS IS OF BULK AT MOST 1048576: true; the input reads as it did. -/
def fnExactDepthOfUptoRow : OpenClaim := { program := "ytkaikcabnhhciaa", sum := "abbf467567a2072ee16e0f82866deca359d2cb040f78d1d55c517a0d2e7e7f77", func := "loop.example/g01223/laws.FnExactDepthOf", spec := "fnExactDepthOf", unfollowed := true, recurses := true, apart := false, narrowed := true }
def FnExactDepthOfUptoSaid : Prop := fnExactDepthOfUptoRow.holds Try.pinned (OpenSpec.upto fnExactDepthOfSpec)

/-- 'laws.FnExactDisparityOf', WHERE WHAT IT READS IS OF BULK AT MOST 1048576: true; the input reads as it did. -/
def fnExactDisparityOfUptoRow : OpenClaim := { program := "ytkaikcabnhhciaa", sum := "abbf467567a2072ee16e0f82866deca359d2cb040f78d1d55c517a0d2e7e7f77", func := "loop.example/g01223/laws.FnExactDisparityOf", spec := "fnExactDisparityOf", unfollowed := true, recurses := true, apart := false, narrowed := true }
def FnExactDisparityOfUptoSaid : Prop := fnExactDisparityOfUptoRow.holds Try.pinned (OpenSpec.upto fnExactDisparityOfSpec)

/-- 'laws.FnExactWarpPoint', WHERE WHAT IT READS IS OF BULK AT MOST 1048576: true; the input reads as it did. -/
def fnExactWarpPointUptoRow : OpenClaim := { program := "ytkaikcabnhhciaa", sum := "abbf467567a2072ee16e0f82866deca359d2cb040f78d1d55c517a0d2e7e7f77", func := "loop.example/g01223/laws.FnExactWarpPoint", spec := "fnExactWarpPoint", unfollowed := true, recurses := true, apart := false, narrowed := true }
def FnExactWarpPointUptoSaid : Prop := fnExactWarpPointUptoRow.holds Try.pinned (OpenSpec.upto fnExactWarpPointSpec)

/-- 'laws.FnPlanes', WHERE WHAT IT READS IS OF BULK AT MOST 1048576: true; the input reads as it did. -/
def fnPlanesUptoRow : OpenClaim := { program := "ytkaikcabnhhciaa", sum := "abbf467567a2072ee16e0f82866deca359d2cb040f78d1d55c517a0d2e7e7f77", func := "loop.example/g01223/laws.FnPlanes", spec := "fnPlanes", inPlace := ["math.Float32bits", "math.Float32frombits"], unfollowed := true, recurses := true, apart := false, narrowed := true }
def FnPlanesUptoSaid : Prop := fnPlanesUptoRow.holds Try.pinned (OpenSpec.upto fnPlanesSpec)

/-- 'laws.FnExactTilesOf', WHERE WHAT IT READS IS OF BULK AT MOST 1048576: true; the input reads as it did. -/
def fnExactTilesOfUptoRow : OpenClaim := { program := "ytkaikcabnhhciaa", sum := "abbf467567a2072ee16e0f82866deca359d2cb040f78d1d55c517a0d2e7e7f77", func := "loop.example/g01223/laws.FnExactTilesOf", spec := "fnExactTilesOf", apart := false, narrowed := true }
def FnExactTilesOfUptoSaid : Prop := fnExactTilesOfUptoRow.holds Try.pinned (OpenSpec.upto fnExactTilesOfSpec)

/-- 'laws.FnExactPlaneThrough', WHERE WHAT IT READS IS OF BULK AT MOST 1048576: true; the input reads as it did. -/
def fnExactPlaneThroughUptoRow : OpenClaim := { program := "ytkaikcabnhhciaa", sum := "abbf467567a2072ee16e0f82866deca359d2cb040f78d1d55c517a0d2e7e7f77", func := "loop.example/g01223/laws.FnExactPlaneThrough", spec := "fnExactPlaneThrough", unfollowed := true, recurses := true, apart := false, narrowed := true }
def FnExactPlaneThroughUptoSaid : Prop := fnExactPlaneThroughUptoRow.holds Try.pinned (OpenSpec.upto fnExactPlaneThroughSpec)

/-- 'laws.FnExactIsTile', WHERE WHAT IT READS IS OF BULK AT MOST 1048576: true; the input reads as it did. -/
def fnExactIsTileUptoRow : OpenClaim := { program := "ytkaikcabnhhciaa", sum := "abbf467567a2072ee16e0f82866deca359d2cb040f78d1d55c517a0d2e7e7f77", func := "loop.example/g01223/laws.FnExactIsTile", spec := "fnExactIsTile", apart := false, narrowed := true }
def FnExactIsTileUptoSaid : Prop := fnExactIsTileUptoRow.holds Try.pinned (OpenSpec.upto fnExactIsTileSpec)

/-- 'laws.FnExactCellOf', WHERE WHAT IT READS IS OF BULK AT MOST 1048576: true; the input reads as it did. -/
def fnExactCellOfUptoRow : OpenClaim := { program := "ytkaikcabnhhciaa", sum := "abbf467567a2072ee16e0f82866deca359d2cb040f78d1d55c517a0d2e7e7f77", func := "loop.example/g01223/laws.FnExactCellOf", spec := "fnExactCellOf", unfollowed := true, recurses := true, apart := false, narrowed := true }
def FnExactCellOfUptoSaid : Prop := fnExactCellOfUptoRow.holds Try.pinned (OpenSpec.upto fnExactCellOfSpec)

end Rows
end Go.Proofs.Ytkaikcabnhhciaa
