/-
  No cell of these rows narrows 'for every input' (looked for: loops, veiled, ifaces, maps, wideKeys, modest, calm, conditions, laid).
  DERIVED. THE GIVEN ROWS OF THIS SEAT. 12 by the template 'for every input the law returns true; each argument reads behind the call as it read before'; 0 by the template 'total and deterministic' (their statements: YthbcadppbkglnaaTotals.lean).
  GIVEN WITH THE SEED: the statements are not yours to turn. If you find one false, say at which input.
  Laid BY PROGRAM, IN A SANDBOX (cutbox-rows.mjs): the forced cells as the released guide's own fill.sh prints them over the translation 2d3fb30f6af64028… (all of the seat's roots in one cut). By AI agents, Wed Nov 11 2026. No macro, syntax, notation, axiom, sorry.
-/
import Derived.Test.YthbcadppbkglnaaChecked
import GoSem.Claim
import GoSem.ClaimJoined
import GoSem.ClaimMapViews
import Derived.JoinedTies
import Derived.KernelRfl
namespace Go.Proofs.Ythbcadppbkglnaa
/- THE CELL 'sum', in the pinned program and in every row, IS THE sha256 OF THE DUMP (.gsa) THAT YthbcadppbkglnaaProg.lean LOADS. Nothing in Lean hashes anything: it is a label: what it is worth is what the hold of that sum in a sandbox is worth. -/
noncomputable def Try.pinned : Pinned := { name := "ythbcadppbkglnaa", sum := "2d3fb30f6af64028aa1789044e6a4f958b4a83a8bfa04dd7ccaba8e6c20ae502", checked := Try.checked }
namespace Rows
def none {H : Type} : Left H := { results := [], args := [] }

/-- 'laws.FnExactGreyPicture': WHATEVER THE INPUT: true; the input reads as it did. -/
def fnExactGreyPictureSpec : ChangeSpec := { name := "fnExactGreyPicture", fn := fun _ => fun
  | [d1, d2, d3] => { results := [.lit (.bool true)], args := [d1, d2, d3] }
  | _ => none }
def fnExactGreyPictureRow : OpenClaim := { program := "ythbcadppbkglnaa", sum := "2d3fb30f6af64028aa1789044e6a4f958b4a83a8bfa04dd7ccaba8e6c20ae502", func := "loop.example/g01223/laws.FnExactGreyPicture", spec := "fnExactGreyPicture", unfollowed := true, recurses := true, apart := false }
def FnExactGreyPictureSaid : Prop := fnExactGreyPictureRow.holds Try.pinned (OpenSpec.ofChange fnExactGreyPictureSpec)

/-- ITS FALSE NEIGHBOUR: 'it returns false'. Refute it at one input. -/
def fnExactGreyPictureWrong : ChangeSpec := { name := "fnExactGreyPicture", fn := fun _ => fun
  | [d1, d2, d3] => { results := [.lit (.bool false)], args := [d1, d2, d3] }
  | _ => none }
def FnExactGreyPictureWrongFalsely : Prop := fnExactGreyPictureRow.holds Try.pinned (OpenSpec.ofChange fnExactGreyPictureWrong)

/-- 'laws.FnExactPointAt': WHATEVER THE INPUT: true; the input reads as it did. -/
def fnExactPointAtSpec : ChangeSpec := { name := "fnExactPointAt", fn := fun _ => fun
  | [d1, d2, d3, d4] => { results := [.lit (.bool true)], args := [d1, d2, d3, d4] }
  | _ => none }
def fnExactPointAtRow : OpenClaim := { program := "ythbcadppbkglnaa", sum := "2d3fb30f6af64028aa1789044e6a4f958b4a83a8bfa04dd7ccaba8e6c20ae502", func := "loop.example/g01223/laws.FnExactPointAt", spec := "fnExactPointAt", unfollowed := true, recurses := true, apart := false }
def FnExactPointAtSaid : Prop := fnExactPointAtRow.holds Try.pinned (OpenSpec.ofChange fnExactPointAtSpec)

/-- ITS FALSE NEIGHBOUR: 'it returns false'. Refute it at one input. -/
def fnExactPointAtWrong : ChangeSpec := { name := "fnExactPointAt", fn := fun _ => fun
  | [d1, d2, d3, d4] => { results := [.lit (.bool false)], args := [d1, d2, d3, d4] }
  | _ => none }
def FnExactPointAtWrongFalsely : Prop := fnExactPointAtRow.holds Try.pinned (OpenSpec.ofChange fnExactPointAtWrong)

/-- 'laws.FnExactTimesWarp': WHATEVER THE INPUT: true; the input reads as it did. -/
def fnExactTimesWarpSpec : ChangeSpec := { name := "fnExactTimesWarp", fn := fun _ => fun
  | [d1, d2] => { results := [.lit (.bool true)], args := [d1, d2] }
  | _ => none }
def fnExactTimesWarpRow : OpenClaim := { program := "ythbcadppbkglnaa", sum := "2d3fb30f6af64028aa1789044e6a4f958b4a83a8bfa04dd7ccaba8e6c20ae502", func := "loop.example/g01223/laws.FnExactTimesWarp", spec := "fnExactTimesWarp", unfollowed := true, recurses := true, apart := false }
def FnExactTimesWarpSaid : Prop := fnExactTimesWarpRow.holds Try.pinned (OpenSpec.ofChange fnExactTimesWarpSpec)

/-- ITS FALSE NEIGHBOUR: 'it returns false'. Refute it at one input. -/
def fnExactTimesWarpWrong : ChangeSpec := { name := "fnExactTimesWarp", fn := fun _ => fun
  | [d1, d2] => { results := [.lit (.bool false)], args := [d1, d2] }
  | _ => none }
def FnExactTimesWarpWrongFalsely : Prop := fnExactTimesWarpRow.holds Try.pinned (OpenSpec.ofChange fnExactTimesWarpWrong)

/-- 'laws.FnExactOffPlane': WHATEVER THE INPUT: true; the input reads as it did. -/
def fnExactOffPlaneSpec : ChangeSpec := { name := "fnExactOffPlane", fn := fun _ => fun
  | [d1, d2] => { results := [.lit (.bool true)], args := [d1, d2] }
  | _ => none }
def fnExactOffPlaneRow : OpenClaim := { program := "ythbcadppbkglnaa", sum := "2d3fb30f6af64028aa1789044e6a4f958b4a83a8bfa04dd7ccaba8e6c20ae502", func := "loop.example/g01223/laws.FnExactOffPlane", spec := "fnExactOffPlane", inPlace := ["math.Float32bits", "math.Float32frombits"], apart := false }
def FnExactOffPlaneSaid : Prop := fnExactOffPlaneRow.holds Try.pinned (OpenSpec.ofChange fnExactOffPlaneSpec)

/-- ITS FALSE NEIGHBOUR: 'it returns false'. Refute it at one input. -/
def fnExactOffPlaneWrong : ChangeSpec := { name := "fnExactOffPlane", fn := fun _ => fun
  | [d1, d2] => { results := [.lit (.bool false)], args := [d1, d2] }
  | _ => none }
def FnExactOffPlaneWrongFalsely : Prop := fnExactOffPlaneRow.holds Try.pinned (OpenSpec.ofChange fnExactOffPlaneWrong)

/-- 'laws.FnExactHaloOf': WHATEVER THE INPUT: true; the input reads as it did. -/
def fnExactHaloOfSpec : ChangeSpec := { name := "fnExactHaloOf", fn := fun _ => fun
  | [d1, d2, d3] => { results := [.lit (.bool true)], args := [d1, d2, d3] }
  | _ => none }
def fnExactHaloOfRow : OpenClaim := { program := "ythbcadppbkglnaa", sum := "2d3fb30f6af64028aa1789044e6a4f958b4a83a8bfa04dd7ccaba8e6c20ae502", func := "loop.example/g01223/laws.FnExactHaloOf", spec := "fnExactHaloOf", apart := false }
def FnExactHaloOfSaid : Prop := fnExactHaloOfRow.holds Try.pinned (OpenSpec.ofChange fnExactHaloOfSpec)

/-- ITS FALSE NEIGHBOUR: 'it returns false'. Refute it at one input. -/
def fnExactHaloOfWrong : ChangeSpec := { name := "fnExactHaloOf", fn := fun _ => fun
  | [d1, d2, d3] => { results := [.lit (.bool false)], args := [d1, d2, d3] }
  | _ => none }
def FnExactHaloOfWrongFalsely : Prop := fnExactHaloOfRow.holds Try.pinned (OpenSpec.ofChange fnExactHaloOfWrong)

/-- 'laws.FnExactOppositeWarp': WHATEVER THE INPUT: true; the input reads as it did. -/
def fnExactOppositeWarpSpec : ChangeSpec := { name := "fnExactOppositeWarp", fn := fun _ => fun
  | [d] => { results := [.lit (.bool true)], args := [d] }
  | _ => none }
def fnExactOppositeWarpRow : OpenClaim := { program := "ythbcadppbkglnaa", sum := "2d3fb30f6af64028aa1789044e6a4f958b4a83a8bfa04dd7ccaba8e6c20ae502", func := "loop.example/g01223/laws.FnExactOppositeWarp", spec := "fnExactOppositeWarp", unfollowed := true, recurses := true, apart := false }
def FnExactOppositeWarpSaid : Prop := fnExactOppositeWarpRow.holds Try.pinned (OpenSpec.ofChange fnExactOppositeWarpSpec)

/-- ITS FALSE NEIGHBOUR: 'it returns false'. Refute it at one input. -/
def fnExactOppositeWarpWrong : ChangeSpec := { name := "fnExactOppositeWarp", fn := fun _ => fun
  | [d] => { results := [.lit (.bool false)], args := [d] }
  | _ => none }
def FnExactOppositeWarpWrongFalsely : Prop := fnExactOppositeWarpRow.holds Try.pinned (OpenSpec.ofChange fnExactOppositeWarpWrong)

/-- 'laws.FnExactUnpackMap': WHATEVER THE INPUT: true; the input reads as it did. -/
def fnExactUnpackMapSpec : ChangeSpec := { name := "fnExactUnpackMap", fn := fun _ => fun
  | [d1, d2, d3] => { results := [.lit (.bool true)], args := [d1, d2, d3] }
  | _ => none }
def fnExactUnpackMapRow : OpenClaim := { program := "ythbcadppbkglnaa", sum := "2d3fb30f6af64028aa1789044e6a4f958b4a83a8bfa04dd7ccaba8e6c20ae502", func := "loop.example/g01223/laws.FnExactUnpackMap", spec := "fnExactUnpackMap", unfollowed := true, recurses := true, apart := false }
def FnExactUnpackMapSaid : Prop := fnExactUnpackMapRow.holds Try.pinned (OpenSpec.ofChange fnExactUnpackMapSpec)

/-- ITS FALSE NEIGHBOUR: 'it returns false'. Refute it at one input. -/
def fnExactUnpackMapWrong : ChangeSpec := { name := "fnExactUnpackMap", fn := fun _ => fun
  | [d1, d2, d3] => { results := [.lit (.bool false)], args := [d1, d2, d3] }
  | _ => none }
def FnExactUnpackMapWrongFalsely : Prop := fnExactUnpackMapRow.holds Try.pinned (OpenSpec.ofChange fnExactUnpackMapWrong)

/-- 'laws.FnExactValidAlbum': WHATEVER THE INPUT: true; the input reads as it did. -/
def fnExactValidAlbumSpec : ChangeSpec := { name := "fnExactValidAlbum", fn := fun _ => fun
  | [d] => { results := [.lit (.bool true)], args := [d] }
  | _ => none }
def fnExactValidAlbumRow : OpenClaim := { program := "ythbcadppbkglnaa", sum := "2d3fb30f6af64028aa1789044e6a4f958b4a83a8bfa04dd7ccaba8e6c20ae502", func := "loop.example/g01223/laws.FnExactValidAlbum", spec := "fnExactValidAlbum", unfollowed := true, recurses := true, apart := false }
def FnExactValidAlbumSaid : Prop := fnExactValidAlbumRow.holds Try.pinned (OpenSpec.ofChange fnExactValidAlbumSpec)

/-- ITS FALSE NEIGHBOUR: 'it returns false'. Refute it at one input. -/
def fnExactValidAlbumWrong : ChangeSpec := { name := "fnExactValidAlbum", fn := fun _ => fun
  | [d] => { results := [.lit (.bool false)], args := [d] }
  | _ => none }
def FnExactValidAlbumWrongFalsely : Prop := fnExactValidAlbumRow.holds Try.pinned (OpenSpec.ofChange fnExactValidAlbumWrong)

/-- 'laws.FnExactRowsOf': WHATEVER THE INPUT: true; the input reads as it did. -/
def fnExactRowsOfSpec : ChangeSpec := { name := "fnExactRowsOf", fn := fun _ => fun
  | [d1, d2] => { results := [.lit (.bool true)], args := [d1, d2] }
  | _ => none }
def fnExactRowsOfRow : OpenClaim := { program := "ythbcadppbkglnaa", sum := "2d3fb30f6af64028aa1789044e6a4f958b4a83a8bfa04dd7ccaba8e6c20ae502", func := "loop.example/g01223/laws.FnExactRowsOf", spec := "fnExactRowsOf", unfollowed := true, recurses := true, apart := false }
def FnExactRowsOfSaid : Prop := fnExactRowsOfRow.holds Try.pinned (OpenSpec.ofChange fnExactRowsOfSpec)

/-- ITS FALSE NEIGHBOUR: 'it returns false'. Refute it at one input. -/
def fnExactRowsOfWrong : ChangeSpec := { name := "fnExactRowsOf", fn := fun _ => fun
  | [d1, d2] => { results := [.lit (.bool false)], args := [d1, d2] }
  | _ => none }
def FnExactRowsOfWrongFalsely : Prop := fnExactRowsOfRow.holds Try.pinned (OpenSpec.ofChange fnExactRowsOfWrong)

/-- 'laws.FnExactPlaneMap': WHATEVER THE INPUT: true; the input reads as it did. -/
def fnExactPlaneMapSpec : ChangeSpec := { name := "fnExactPlaneMap", fn := fun _ => fun
  | [d1, d2, d3, d4] => { results := [.lit (.bool true)], args := [d1, d2, d3, d4] }
  | _ => none }
def fnExactPlaneMapRow : OpenClaim := { program := "ythbcadppbkglnaa", sum := "2d3fb30f6af64028aa1789044e6a4f958b4a83a8bfa04dd7ccaba8e6c20ae502", func := "loop.example/g01223/laws.FnExactPlaneMap", spec := "fnExactPlaneMap", unfollowed := true, recurses := true, apart := false }
def FnExactPlaneMapSaid : Prop := fnExactPlaneMapRow.holds Try.pinned (OpenSpec.ofChange fnExactPlaneMapSpec)

/-- ITS FALSE NEIGHBOUR: 'it returns false'. Refute it at one input. -/
def fnExactPlaneMapWrong : ChangeSpec := { name := "fnExactPlaneMap", fn := fun _ => fun
  | [d1, d2, d3, d4] => { results := [.lit (.bool false)], args := [d1, d2, d3, d4] }
  | _ => none }
def FnExactPlaneMapWrongFalsely : Prop := fnExactPlaneMapRow.holds Try.pinned (OpenSpec.ofChange fnExactPlaneMapWrong)

/-- 'laws.FnExactStorePicture': WHATEVER THE INPUT: true; the input reads as it did. -/
def fnExactStorePictureSpec : ChangeSpec := { name := "fnExactStorePicture", fn := fun _ => fun
  | [d] => { results := [.lit (.bool true)], args := [d] }
  | _ => none }
def fnExactStorePictureRow : OpenClaim := { program := "ythbcadppbkglnaa", sum := "2d3fb30f6af64028aa1789044e6a4f958b4a83a8bfa04dd7ccaba8e6c20ae502", func := "loop.example/g01223/laws.FnExactStorePicture", spec := "fnExactStorePicture", inPlace := ["math.Float32bits", "internal/abi.NoEscape"], apart := false }
def FnExactStorePictureSaid : Prop := fnExactStorePictureRow.holds Try.pinned (OpenSpec.ofChange fnExactStorePictureSpec)

/-- ITS FALSE NEIGHBOUR: 'it returns false'. Refute it at one input. -/
def fnExactStorePictureWrong : ChangeSpec := { name := "fnExactStorePicture", fn := fun _ => fun
  | [d] => { results := [.lit (.bool false)], args := [d] }
  | _ => none }
def FnExactStorePictureWrongFalsely : Prop := fnExactStorePictureRow.holds Try.pinned (OpenSpec.ofChange fnExactStorePictureWrong)

/-- 'laws.FnExactNearPlane': WHATEVER THE INPUT: true; the input reads as it did. -/
def fnExactNearPlaneSpec : ChangeSpec := { name := "fnExactNearPlane", fn := fun _ => fun
  | [d1, d2, d3] => { results := [.lit (.bool true)], args := [d1, d2, d3] }
  | _ => none }
def fnExactNearPlaneRow : OpenClaim := { program := "ythbcadppbkglnaa", sum := "2d3fb30f6af64028aa1789044e6a4f958b4a83a8bfa04dd7ccaba8e6c20ae502", func := "loop.example/g01223/laws.FnExactNearPlane", spec := "fnExactNearPlane", inPlace := ["math.Float32bits", "math.Float32frombits"], apart := false }
def FnExactNearPlaneSaid : Prop := fnExactNearPlaneRow.holds Try.pinned (OpenSpec.ofChange fnExactNearPlaneSpec)

/-- ITS FALSE NEIGHBOUR: 'it returns false'. Refute it at one input. -/
def fnExactNearPlaneWrong : ChangeSpec := { name := "fnExactNearPlane", fn := fun _ => fun
  | [d1, d2, d3] => { results := [.lit (.bool false)], args := [d1, d2, d3] }
  | _ => none }
def FnExactNearPlaneWrongFalsely : Prop := fnExactNearPlaneRow.holds Try.pinned (OpenSpec.ofChange fnExactNearPlaneWrong)

/- THE SECOND FORM. 'bulk': how many values and letters a reading holds, each counted each time it is reached (what is shared counts as often as it is met; a slice's spare places count too). A statement '..UptoSaid' is the law's where the arguments, and the package variables that the reading takes, are together of bulk at most 1048576: NARROWER than '..Said'. Prove '..Said' where nothing that the law and all that it calls make is longer than what came in: it says more and counts as full. Else prove '..UptoSaid'. A law counts once. -/
mutual
def uptoBulk {H : Type} : DataW H → Nat
  | .lit (.string bytes) => bytes.length + 1
  | .lit _ => 1
  | .nil => 1
  | .ptr d => uptoBulk d + 1
  | .slice elems spare => uptoBulkAll elems + uptoBulkAll spare + 1
  | .agg parts => uptoBulkAll parts + 1
  | .iface _ d => uptoBulk d + 1
  | .map entries => uptoBulkEntries entries + 1
  | .held _ => 1
def uptoBulkAll {H : Type} : List (DataW H) → Nat
  | [] => 0
  | d :: r => uptoBulk d + uptoBulkAll r
def uptoBulkEntries {H : Type} : List (Lit × DataW H) → Nat
  | [] => 0
  | x :: r => uptoBulkEntry x + uptoBulkEntries r
def uptoBulkEntry {H : Type} : Lit × DataW H → Nat
  | (.string bytes, d) => bytes.length + uptoBulk d + 1
  | (_, d) => uptoBulk d + 1
 end
def uptoSmall : (H : Type) → List (DataW H) → Bool := fun _ ds => decide (uptoBulkAll ds ≤ 1048576)
def OpenSpec.upto (s : _root_.Go.ChangeSpec) : _root_.Go.OpenSpec := { _root_.Go.OpenSpec.ofChange s with cond := some uptoSmall }

/-- 'laws.FnExactGreyPicture', WHERE WHAT IT READS IS OF BULK AT MOST 1048576: true; the input reads as it did. -/
def fnExactGreyPictureUptoRow : OpenClaim := { program := "ythbcadppbkglnaa", sum := "2d3fb30f6af64028aa1789044e6a4f958b4a83a8bfa04dd7ccaba8e6c20ae502", func := "loop.example/g01223/laws.FnExactGreyPicture", spec := "fnExactGreyPicture", unfollowed := true, recurses := true, apart := false, narrowed := true }
def FnExactGreyPictureUptoSaid : Prop := fnExactGreyPictureUptoRow.holds Try.pinned (OpenSpec.upto fnExactGreyPictureSpec)

/-- 'laws.FnExactPointAt', WHERE WHAT IT READS IS OF BULK AT MOST 1048576: true; the input reads as it did. -/
def fnExactPointAtUptoRow : OpenClaim := { program := "ythbcadppbkglnaa", sum := "2d3fb30f6af64028aa1789044e6a4f958b4a83a8bfa04dd7ccaba8e6c20ae502", func := "loop.example/g01223/laws.FnExactPointAt", spec := "fnExactPointAt", unfollowed := true, recurses := true, apart := false, narrowed := true }
def FnExactPointAtUptoSaid : Prop := fnExactPointAtUptoRow.holds Try.pinned (OpenSpec.upto fnExactPointAtSpec)

/-- 'laws.FnExactTimesWarp', WHERE WHAT IT READS IS OF BULK AT MOST 1048576: true; the input reads as it did. -/
def fnExactTimesWarpUptoRow : OpenClaim := { program := "ythbcadppbkglnaa", sum := "2d3fb30f6af64028aa1789044e6a4f958b4a83a8bfa04dd7ccaba8e6c20ae502", func := "loop.example/g01223/laws.FnExactTimesWarp", spec := "fnExactTimesWarp", unfollowed := true, recurses := true, apart := false, narrowed := true }
def FnExactTimesWarpUptoSaid : Prop := fnExactTimesWarpUptoRow.holds Try.pinned (OpenSpec.upto fnExactTimesWarpSpec)

/-- 'laws.FnExactOffPlane', WHERE WHAT IT READS IS OF BULK AT MOST 1048576: true; the input reads as it did. -/
def fnExactOffPlaneUptoRow : OpenClaim := { program := "ythbcadppbkglnaa", sum := "2d3fb30f6af64028aa1789044e6a4f958b4a83a8bfa04dd7ccaba8e6c20ae502", func := "loop.example/g01223/laws.FnExactOffPlane", spec := "fnExactOffPlane", inPlace := ["math.Float32bits", "math.Float32frombits"], apart := false, narrowed := true }
def FnExactOffPlaneUptoSaid : Prop := fnExactOffPlaneUptoRow.holds Try.pinned (OpenSpec.upto fnExactOffPlaneSpec)

/-- 'laws.FnExactHaloOf', WHERE WHAT IT READS IS OF BULK AT MOST 1048576: true; the input reads as it did. -/
def fnExactHaloOfUptoRow : OpenClaim := { program := "ythbcadppbkglnaa", sum := "2d3fb30f6af64028aa1789044e6a4f958b4a83a8bfa04dd7ccaba8e6c20ae502", func := "loop.example/g01223/laws.FnExactHaloOf", spec := "fnExactHaloOf", apart := false, narrowed := true }
def FnExactHaloOfUptoSaid : Prop := fnExactHaloOfUptoRow.holds Try.pinned (OpenSpec.upto fnExactHaloOfSpec)

/-- 'laws.FnExactOppositeWarp', WHERE WHAT IT READS IS OF BULK AT MOST 1048576: true; the input reads as it did. -/
def fnExactOppositeWarpUptoRow : OpenClaim := { program := "ythbcadppbkglnaa", sum := "2d3fb30f6af64028aa1789044e6a4f958b4a83a8bfa04dd7ccaba8e6c20ae502", func := "loop.example/g01223/laws.FnExactOppositeWarp", spec := "fnExactOppositeWarp", unfollowed := true, recurses := true, apart := false, narrowed := true }
def FnExactOppositeWarpUptoSaid : Prop := fnExactOppositeWarpUptoRow.holds Try.pinned (OpenSpec.upto fnExactOppositeWarpSpec)

/-- 'laws.FnExactUnpackMap', WHERE WHAT IT READS IS OF BULK AT MOST 1048576: true; the input reads as it did. -/
def fnExactUnpackMapUptoRow : OpenClaim := { program := "ythbcadppbkglnaa", sum := "2d3fb30f6af64028aa1789044e6a4f958b4a83a8bfa04dd7ccaba8e6c20ae502", func := "loop.example/g01223/laws.FnExactUnpackMap", spec := "fnExactUnpackMap", unfollowed := true, recurses := true, apart := false, narrowed := true }
def FnExactUnpackMapUptoSaid : Prop := fnExactUnpackMapUptoRow.holds Try.pinned (OpenSpec.upto fnExactUnpackMapSpec)

/-- 'laws.FnExactValidAlbum', WHERE WHAT IT READS IS OF BULK AT MOST 1048576: true; the input reads as it did. -/
def fnExactValidAlbumUptoRow : OpenClaim := { program := "ythbcadppbkglnaa", sum := "2d3fb30f6af64028aa1789044e6a4f958b4a83a8bfa04dd7ccaba8e6c20ae502", func := "loop.example/g01223/laws.FnExactValidAlbum", spec := "fnExactValidAlbum", unfollowed := true, recurses := true, apart := false, narrowed := true }
def FnExactValidAlbumUptoSaid : Prop := fnExactValidAlbumUptoRow.holds Try.pinned (OpenSpec.upto fnExactValidAlbumSpec)

/-- 'laws.FnExactRowsOf', WHERE WHAT IT READS IS OF BULK AT MOST 1048576: true; the input reads as it did. -/
def fnExactRowsOfUptoRow : OpenClaim := { program := "ythbcadppbkglnaa", sum := "2d3fb30f6af64028aa1789044e6a4f958b4a83a8bfa04dd7ccaba8e6c20ae502", func := "loop.example/g01223/laws.FnExactRowsOf", spec := "fnExactRowsOf", unfollowed := true, recurses := true, apart := false, narrowed := true }
def FnExactRowsOfUptoSaid : Prop := fnExactRowsOfUptoRow.holds Try.pinned (OpenSpec.upto fnExactRowsOfSpec)

/-- 'laws.FnExactPlaneMap', WHERE WHAT IT READS IS OF BULK AT MOST 1048576: true; the input reads as it did. -/
def fnExactPlaneMapUptoRow : OpenClaim := { program := "ythbcadppbkglnaa", sum := "2d3fb30f6af64028aa1789044e6a4f958b4a83a8bfa04dd7ccaba8e6c20ae502", func := "loop.example/g01223/laws.FnExactPlaneMap", spec := "fnExactPlaneMap", unfollowed := true, recurses := true, apart := false, narrowed := true }
def FnExactPlaneMapUptoSaid : Prop := fnExactPlaneMapUptoRow.holds Try.pinned (OpenSpec.upto fnExactPlaneMapSpec)

/-- 'laws.FnExactStorePicture', WHERE WHAT IT READS IS OF BULK AT MOST 1048576: true; the input reads as it did. -/
def fnExactStorePictureUptoRow : OpenClaim := { program := "ythbcadppbkglnaa", sum := "2d3fb30f6af64028aa1789044e6a4f958b4a83a8bfa04dd7ccaba8e6c20ae502", func := "loop.example/g01223/laws.FnExactStorePicture", spec := "fnExactStorePicture", inPlace := ["math.Float32bits", "internal/abi.NoEscape"], apart := false, narrowed := true }
def FnExactStorePictureUptoSaid : Prop := fnExactStorePictureUptoRow.holds Try.pinned (OpenSpec.upto fnExactStorePictureSpec)

/-- 'laws.FnExactNearPlane', WHERE WHAT IT READS IS OF BULK AT MOST 1048576: true; the input reads as it did. -/
def fnExactNearPlaneUptoRow : OpenClaim := { program := "ythbcadppbkglnaa", sum := "2d3fb30f6af64028aa1789044e6a4f958b4a83a8bfa04dd7ccaba8e6c20ae502", func := "loop.example/g01223/laws.FnExactNearPlane", spec := "fnExactNearPlane", inPlace := ["math.Float32bits", "math.Float32frombits"], apart := false, narrowed := true }
def FnExactNearPlaneUptoSaid : Prop := fnExactNearPlaneUptoRow.holds Try.pinned (OpenSpec.upto fnExactNearPlaneSpec)

end Rows
end Go.Proofs.Ythbcadppbkglnaa
