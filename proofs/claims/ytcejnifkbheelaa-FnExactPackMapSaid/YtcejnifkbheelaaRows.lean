/-
  No cell of these rows narrows 'for every input' (looked for: loops, veiled, ifaces, maps, wideKeys, modest, calm, conditions, laid).
  DERIVED. THE GIVEN ROWS OF THIS SEAT. 12 by the template 'for every input the law returns true; each argument reads behind the call as it read before'; 0 by the template 'total and deterministic' (their statements: YtcejnifkbheelaaTotals.lean).
  GIVEN WITH THE SEED: the statements are not yours to turn. If you find one false, say at which input.
  Laid BY PROGRAM, IN A SANDBOX (cutbox-rows.mjs): the forced cells as the released guide's own fill.sh prints them over the translation 241934cdd3fc342f… (all of the seat's roots in one cut). By AI agents, Wed Nov 11 2026. No macro, syntax, notation, axiom, sorry.
-/
import Derived.Test.YtcejnifkbheelaaChecked
import GoSem.Claim
import GoSem.ClaimJoined
import GoSem.ClaimMapViews
import Derived.JoinedTies
import Derived.KernelRfl
namespace Go.Proofs.Ytcejnifkbheelaa
/- THE CELL 'sum', in the pinned program and in every row, IS THE sha256 OF THE DUMP (.gsa) THAT YtcejnifkbheelaaProg.lean LOADS. Nothing in Lean hashes anything: it is a label: what it is worth is what the hold of that sum in a sandbox is worth. -/
noncomputable def Try.pinned : Pinned := { name := "ytcejnifkbheelaa", sum := "241934cdd3fc342f31a29a5067466db165accc222797710a8685c365e7817d95", checked := Try.checked }
namespace Rows
def none {H : Type} : Left H := { results := [], args := [] }

/-- 'laws.FnExactTilesOf': WHATEVER THE INPUT: true; the input reads as it did. -/
def fnExactTilesOfSpec : ChangeSpec := { name := "fnExactTilesOf", fn := fun _ => fun
  | [d1, d2] => { results := [.lit (.bool true)], args := [d1, d2] }
  | _ => none }
def fnExactTilesOfRow : OpenClaim := { program := "ytcejnifkbheelaa", sum := "241934cdd3fc342f31a29a5067466db165accc222797710a8685c365e7817d95", func := "loop.example/g01223/laws.FnExactTilesOf", spec := "fnExactTilesOf", apart := false }
def FnExactTilesOfSaid : Prop := fnExactTilesOfRow.holds Try.pinned (OpenSpec.ofChange fnExactTilesOfSpec)

/-- ITS FALSE NEIGHBOUR: 'it returns false'. Refute it at one input. -/
def fnExactTilesOfWrong : ChangeSpec := { name := "fnExactTilesOf", fn := fun _ => fun
  | [d1, d2] => { results := [.lit (.bool false)], args := [d1, d2] }
  | _ => none }
def FnExactTilesOfWrongFalsely : Prop := fnExactTilesOfRow.holds Try.pinned (OpenSpec.ofChange fnExactTilesOfWrong)

/-- 'laws.FnExactTimesWarp': WHATEVER THE INPUT: true; the input reads as it did. -/
def fnExactTimesWarpSpec : ChangeSpec := { name := "fnExactTimesWarp", fn := fun _ => fun
  | [d1, d2] => { results := [.lit (.bool true)], args := [d1, d2] }
  | _ => none }
def fnExactTimesWarpRow : OpenClaim := { program := "ytcejnifkbheelaa", sum := "241934cdd3fc342f31a29a5067466db165accc222797710a8685c365e7817d95", func := "loop.example/g01223/laws.FnExactTimesWarp", spec := "fnExactTimesWarp", unfollowed := true, recurses := true, apart := false }
def FnExactTimesWarpSaid : Prop := fnExactTimesWarpRow.holds Try.pinned (OpenSpec.ofChange fnExactTimesWarpSpec)

/-- ITS FALSE NEIGHBOUR: 'it returns false'. Refute it at one input. -/
def fnExactTimesWarpWrong : ChangeSpec := { name := "fnExactTimesWarp", fn := fun _ => fun
  | [d1, d2] => { results := [.lit (.bool false)], args := [d1, d2] }
  | _ => none }
def FnExactTimesWarpWrongFalsely : Prop := fnExactTimesWarpRow.holds Try.pinned (OpenSpec.ofChange fnExactTimesWarpWrong)

/-- 'laws.FnExactUnpackMap': WHATEVER THE INPUT: true; the input reads as it did. -/
def fnExactUnpackMapSpec : ChangeSpec := { name := "fnExactUnpackMap", fn := fun _ => fun
  | [d1, d2, d3] => { results := [.lit (.bool true)], args := [d1, d2, d3] }
  | _ => none }
def fnExactUnpackMapRow : OpenClaim := { program := "ytcejnifkbheelaa", sum := "241934cdd3fc342f31a29a5067466db165accc222797710a8685c365e7817d95", func := "loop.example/g01223/laws.FnExactUnpackMap", spec := "fnExactUnpackMap", unfollowed := true, recurses := true, apart := false }
def FnExactUnpackMapSaid : Prop := fnExactUnpackMapRow.holds Try.pinned (OpenSpec.ofChange fnExactUnpackMapSpec)

/-- ITS FALSE NEIGHBOUR: 'it returns false'. Refute it at one input. -/
def fnExactUnpackMapWrong : ChangeSpec := { name := "fnExactUnpackMap", fn := fun _ => fun
  | [d1, d2, d3] => { results := [.lit (.bool false)], args := [d1, d2, d3] }
  | _ => none }
def FnExactUnpackMapWrongFalsely : Prop := fnExactUnpackMapRow.holds Try.pinned (OpenSpec.ofChange fnExactUnpackMapWrong)

/-- 'laws.FnExactPackMap': WHATEVER THE INPUT: true; the input reads as it did. -/
def fnExactPackMapSpec : ChangeSpec := { name := "fnExactPackMap", fn := fun _ => fun
  | [d] => { results := [.lit (.bool true)], args := [d] }
  | _ => none }
def fnExactPackMapRow : OpenClaim := { program := "ytcejnifkbheelaa", sum := "241934cdd3fc342f31a29a5067466db165accc222797710a8685c365e7817d95", func := "loop.example/g01223/laws.FnExactPackMap", spec := "fnExactPackMap", inPlace := ["math.archFloor", "math.Float64bits", "math.Float64frombits", "math.archTrunc"], unfollowed := true, recurses := true, apart := false }
def FnExactPackMapSaid : Prop := fnExactPackMapRow.holds Try.pinned (OpenSpec.ofChange fnExactPackMapSpec)

/-- ITS FALSE NEIGHBOUR: 'it returns false'. Refute it at one input. -/
def fnExactPackMapWrong : ChangeSpec := { name := "fnExactPackMap", fn := fun _ => fun
  | [d] => { results := [.lit (.bool false)], args := [d] }
  | _ => none }
def FnExactPackMapWrongFalsely : Prop := fnExactPackMapRow.holds Try.pinned (OpenSpec.ofChange fnExactPackMapWrong)

/-- 'laws.FnExactStorePicture': WHATEVER THE INPUT: true; the input reads as it did. -/
def fnExactStorePictureSpec : ChangeSpec := { name := "fnExactStorePicture", fn := fun _ => fun
  | [d] => { results := [.lit (.bool true)], args := [d] }
  | _ => none }
def fnExactStorePictureRow : OpenClaim := { program := "ytcejnifkbheelaa", sum := "241934cdd3fc342f31a29a5067466db165accc222797710a8685c365e7817d95", func := "loop.example/g01223/laws.FnExactStorePicture", spec := "fnExactStorePicture", inPlace := ["math.Float32bits", "internal/abi.NoEscape"], apart := false }
def FnExactStorePictureSaid : Prop := fnExactStorePictureRow.holds Try.pinned (OpenSpec.ofChange fnExactStorePictureSpec)

/-- ITS FALSE NEIGHBOUR: 'it returns false'. Refute it at one input. -/
def fnExactStorePictureWrong : ChangeSpec := { name := "fnExactStorePicture", fn := fun _ => fun
  | [d] => { results := [.lit (.bool false)], args := [d] }
  | _ => none }
def FnExactStorePictureWrongFalsely : Prop := fnExactStorePictureRow.holds Try.pinned (OpenSpec.ofChange fnExactStorePictureWrong)

/-- 'laws.FnExactLoadPicture': WHATEVER THE INPUT: true; the input reads as it did. -/
def fnExactLoadPictureSpec : ChangeSpec := { name := "fnExactLoadPicture", fn := fun _ => fun
  | [d] => { results := [.lit (.bool true)], args := [d] }
  | _ => none }
def fnExactLoadPictureRow : OpenClaim := { program := "ytcejnifkbheelaa", sum := "241934cdd3fc342f31a29a5067466db165accc222797710a8685c365e7817d95", func := "loop.example/g01223/laws.FnExactLoadPicture", spec := "fnExactLoadPicture", inPlace := ["math.Float32frombits", "math.Float32bits", "internal/abi.NoEscape"], unfollowed := true, recurses := true, apart := false }
def FnExactLoadPictureSaid : Prop := fnExactLoadPictureRow.holds Try.pinned (OpenSpec.ofChange fnExactLoadPictureSpec)

/-- ITS FALSE NEIGHBOUR: 'it returns false'. Refute it at one input. -/
def fnExactLoadPictureWrong : ChangeSpec := { name := "fnExactLoadPicture", fn := fun _ => fun
  | [d] => { results := [.lit (.bool false)], args := [d] }
  | _ => none }
def FnExactLoadPictureWrongFalsely : Prop := fnExactLoadPictureRow.holds Try.pinned (OpenSpec.ofChange fnExactLoadPictureWrong)

/-- 'laws.FnExactGreyBytes': WHATEVER THE INPUT: true; the input reads as it did. -/
def fnExactGreyBytesSpec : ChangeSpec := { name := "fnExactGreyBytes", fn := fun _ => fun
  | [d] => { results := [.lit (.bool true)], args := [d] }
  | _ => none }
def fnExactGreyBytesRow : OpenClaim := { program := "ytcejnifkbheelaa", sum := "241934cdd3fc342f31a29a5067466db165accc222797710a8685c365e7817d95", func := "loop.example/g01223/laws.FnExactGreyBytes", spec := "fnExactGreyBytes", inPlace := ["math.archFloor", "math.Float64bits", "math.Float64frombits", "math.archTrunc"], apart := false }
def FnExactGreyBytesSaid : Prop := fnExactGreyBytesRow.holds Try.pinned (OpenSpec.ofChange fnExactGreyBytesSpec)

/-- ITS FALSE NEIGHBOUR: 'it returns false'. Refute it at one input. -/
def fnExactGreyBytesWrong : ChangeSpec := { name := "fnExactGreyBytes", fn := fun _ => fun
  | [d] => { results := [.lit (.bool false)], args := [d] }
  | _ => none }
def FnExactGreyBytesWrongFalsely : Prop := fnExactGreyBytesRow.holds Try.pinned (OpenSpec.ofChange fnExactGreyBytesWrong)

/-- 'laws.FnExactValidAlbum': WHATEVER THE INPUT: true; the input reads as it did. -/
def fnExactValidAlbumSpec : ChangeSpec := { name := "fnExactValidAlbum", fn := fun _ => fun
  | [d] => { results := [.lit (.bool true)], args := [d] }
  | _ => none }
def fnExactValidAlbumRow : OpenClaim := { program := "ytcejnifkbheelaa", sum := "241934cdd3fc342f31a29a5067466db165accc222797710a8685c365e7817d95", func := "loop.example/g01223/laws.FnExactValidAlbum", spec := "fnExactValidAlbum", unfollowed := true, recurses := true, apart := false }
def FnExactValidAlbumSaid : Prop := fnExactValidAlbumRow.holds Try.pinned (OpenSpec.ofChange fnExactValidAlbumSpec)

/-- ITS FALSE NEIGHBOUR: 'it returns false'. Refute it at one input. -/
def fnExactValidAlbumWrong : ChangeSpec := { name := "fnExactValidAlbum", fn := fun _ => fun
  | [d] => { results := [.lit (.bool false)], args := [d] }
  | _ => none }
def FnExactValidAlbumWrongFalsely : Prop := fnExactValidAlbumRow.holds Try.pinned (OpenSpec.ofChange fnExactValidAlbumWrong)

/-- 'laws.FnExactSameAlbum': WHATEVER THE INPUT: true; the input reads as it did. -/
def fnExactSameAlbumSpec : ChangeSpec := { name := "fnExactSameAlbum", fn := fun _ => fun
  | [d1, d2] => { results := [.lit (.bool true)], args := [d1, d2] }
  | _ => none }
def fnExactSameAlbumRow : OpenClaim := { program := "ytcejnifkbheelaa", sum := "241934cdd3fc342f31a29a5067466db165accc222797710a8685c365e7817d95", func := "loop.example/g01223/laws.FnExactSameAlbum", spec := "fnExactSameAlbum", inPlace := ["math.Float32bits"], unfollowed := true, recurses := true, apart := false }
def FnExactSameAlbumSaid : Prop := fnExactSameAlbumRow.holds Try.pinned (OpenSpec.ofChange fnExactSameAlbumSpec)

/-- ITS FALSE NEIGHBOUR: 'it returns false'. Refute it at one input. -/
def fnExactSameAlbumWrong : ChangeSpec := { name := "fnExactSameAlbum", fn := fun _ => fun
  | [d1, d2] => { results := [.lit (.bool false)], args := [d1, d2] }
  | _ => none }
def FnExactSameAlbumWrongFalsely : Prop := fnExactSameAlbumRow.holds Try.pinned (OpenSpec.ofChange fnExactSameAlbumWrong)

/-- 'laws.FnExactSliceAlbum': WHATEVER THE INPUT: true; the input reads as it did. -/
def fnExactSliceAlbumSpec : ChangeSpec := { name := "fnExactSliceAlbum", fn := fun _ => fun
  | [d1, d2, d3] => { results := [.lit (.bool true)], args := [d1, d2, d3] }
  | _ => none }
def fnExactSliceAlbumRow : OpenClaim := { program := "ytcejnifkbheelaa", sum := "241934cdd3fc342f31a29a5067466db165accc222797710a8685c365e7817d95", func := "loop.example/g01223/laws.FnExactSliceAlbum", spec := "fnExactSliceAlbum", unfollowed := true, recurses := true, apart := false }
def FnExactSliceAlbumSaid : Prop := fnExactSliceAlbumRow.holds Try.pinned (OpenSpec.ofChange fnExactSliceAlbumSpec)

/-- ITS FALSE NEIGHBOUR: 'it returns false'. Refute it at one input. -/
def fnExactSliceAlbumWrong : ChangeSpec := { name := "fnExactSliceAlbum", fn := fun _ => fun
  | [d1, d2, d3] => { results := [.lit (.bool false)], args := [d1, d2, d3] }
  | _ => none }
def FnExactSliceAlbumWrongFalsely : Prop := fnExactSliceAlbumRow.holds Try.pinned (OpenSpec.ofChange fnExactSliceAlbumWrong)

/-- 'laws.FnExactFillAll': WHATEVER THE INPUT: true; the input reads as it did. -/
def fnExactFillAllSpec : ChangeSpec := { name := "fnExactFillAll", fn := fun _ => fun
  | [d] => { results := [.lit (.bool true)], args := [d] }
  | _ => none }
def fnExactFillAllRow : OpenClaim := { program := "ytcejnifkbheelaa", sum := "241934cdd3fc342f31a29a5067466db165accc222797710a8685c365e7817d95", func := "loop.example/g01223/laws.FnExactFillAll", spec := "fnExactFillAll", unfollowed := true, recurses := true, apart := false }
def FnExactFillAllSaid : Prop := fnExactFillAllRow.holds Try.pinned (OpenSpec.ofChange fnExactFillAllSpec)

/-- ITS FALSE NEIGHBOUR: 'it returns false'. Refute it at one input. -/
def fnExactFillAllWrong : ChangeSpec := { name := "fnExactFillAll", fn := fun _ => fun
  | [d] => { results := [.lit (.bool false)], args := [d] }
  | _ => none }
def FnExactFillAllWrongFalsely : Prop := fnExactFillAllRow.holds Try.pinned (OpenSpec.ofChange fnExactFillAllWrong)

/-- 'laws.FnExactMeshOf': WHATEVER THE INPUT: true; the input reads as it did. -/
def fnExactMeshOfSpec : ChangeSpec := { name := "fnExactMeshOf", fn := fun _ => fun
  | [d1, d2, d3] => { results := [.lit (.bool true)], args := [d1, d2, d3] }
  | _ => none }
def fnExactMeshOfRow : OpenClaim := { program := "ytcejnifkbheelaa", sum := "241934cdd3fc342f31a29a5067466db165accc222797710a8685c365e7817d95", func := "loop.example/g01223/laws.FnExactMeshOf", spec := "fnExactMeshOf", unfollowed := true, recurses := true, apart := false }
def FnExactMeshOfSaid : Prop := fnExactMeshOfRow.holds Try.pinned (OpenSpec.ofChange fnExactMeshOfSpec)

/-- ITS FALSE NEIGHBOUR: 'it returns false'. Refute it at one input. -/
def fnExactMeshOfWrong : ChangeSpec := { name := "fnExactMeshOf", fn := fun _ => fun
  | [d1, d2, d3] => { results := [.lit (.bool false)], args := [d1, d2, d3] }
  | _ => none }
def FnExactMeshOfWrongFalsely : Prop := fnExactMeshOfRow.holds Try.pinned (OpenSpec.ofChange fnExactMeshOfWrong)

/- THE SECOND FORM. 'bulk': how many values and letters a reading holds, each counted each time it is reached (what is shared counts as often as it is met; a slice's spare places count too). A statement '..UptoSaid' is the law's where the arguments, and the package variables that the reading takes, are together of bulk at most 1048576: NARROWER than '..Said'. Prove '..Said' where nothing that the law and all that it calls make is longer than what came in: it says more and counts as full. Else prove '..UptoSaid'. A law counts once. -/
mutual
def uptoBulk {H : Type} : DataW H → Nat
  | .lit (.string bytes) => bytes.length + 1
  | .lit _ => 1
  | .nil => 1
  | .ptr d => uptoBulk d + 1
  | .slice elems spare => uptoBulkAll elems + uptoBulkAll spare + 1
  | .agg parts => uptoBulkAll parts + 1
  | .iface _ d => uptoBulk d + 1
  | .map entries => uptoBulkEntries entries + 1
  | .held _ => 1
def uptoBulkAll {H : Type} : List (DataW H) → Nat
  | [] => 0
  | d :: r => uptoBulk d + uptoBulkAll r
def uptoBulkEntries {H : Type} : List (Lit × DataW H) → Nat
  | [] => 0
  | x :: r => uptoBulkEntry x + uptoBulkEntries r
def uptoBulkEntry {H : Type} : Lit × DataW H → Nat
  | (.string bytes, d) => bytes.length + uptoBulk d + 1
  | (_, d) => uptoBulk d + 1
 end
def uptoSmall : (H : Type) → List (DataW H) → Bool := fun _ ds => decide (uptoBulkAll ds ≤ 1048576)
def OpenSpec.upto (s : _root_.Go.ChangeSpec) : _root_.Go.OpenSpec := { _root_.Go.OpenSpec.ofChange s with cond := some uptoSmall }

/-- 'laws.FnExactTilesOf', WHERE WHAT IT READS IS OF BULK AT MOST 1048576: true; the input reads as it did. -/
def fnExactTilesOfUptoRow : OpenClaim := { program := "ytcejnifkbheelaa", sum := "241934cdd3fc342f31a29a5067466db165accc222797710a8685c365e7817d95", func := "loop.example/g01223/laws.FnExactTilesOf", spec := "fnExactTilesOf", apart := false, narrowed := true }
def FnExactTilesOfUptoSaid : Prop := fnExactTilesOfUptoRow.holds Try.pinned (OpenSpec.upto fnExactTilesOfSpec)

/-- 'laws.FnExactTimesWarp', WHERE WHAT IT READS IS OF BULK AT MOST 1048576: true; the input reads as it did. -/
def fnExactTimesWarpUptoRow : OpenClaim := { program := "ytcejnifkbheelaa", sum := "241934cdd3fc342f31a29a5067466db165accc222797710a8685c365e7817d95", func := "loop.example/g01223/laws.FnExactTimesWarp", spec := "fnExactTimesWarp", unfollowed := true, recurses := true, apart := false, narrowed := true }
def FnExactTimesWarpUptoSaid : Prop := fnExactTimesWarpUptoRow.holds Try.pinned (OpenSpec.upto fnExactTimesWarpSpec)

/-- 'laws.FnExactUnpackMap', WHERE WHAT IT READS IS OF BULK AT MOST 1048576: true; the input reads as it did. -/
def fnExactUnpackMapUptoRow : OpenClaim := { program := "ytcejnifkbheelaa", sum := "241934cdd3fc342f31a29a5067466db165accc222797710a8685c365e7817d95", func := "loop.example/g01223/laws.FnExactUnpackMap", spec := "fnExactUnpackMap", unfollowed := true, recurses := true, apart := false, narrowed := true }
def FnExactUnpackMapUptoSaid : Prop := fnExactUnpackMapUptoRow.holds Try.pinned (OpenSpec.upto fnExactUnpackMapSpec)

/-- 'laws.FnExactPackMap', WHERE WHAT IT READS IS OF BULK AT MOST 1048576: true; the input reads as it did. -/
def fnExactPackMapUptoRow : OpenClaim := { program := "ytcejnifkbheelaa", sum := "241934cdd3fc342f31a29a5067466db165accc222797710a8685c365e7817d95", func := "loop.example/g01223/laws.FnExactPackMap", spec := "fnExactPackMap", inPlace := ["math.archFloor", "math.Float64bits", "math.Float64frombits", "math.archTrunc"], unfollowed := true, recurses := true, apart := false, narrowed := true }
def FnExactPackMapUptoSaid : Prop := fnExactPackMapUptoRow.holds Try.pinned (OpenSpec.upto fnExactPackMapSpec)

/-- 'laws.FnExactStorePicture', WHERE WHAT IT READS IS OF BULK AT MOST 1048576: true; the input reads as it did. -/
def fnExactStorePictureUptoRow : OpenClaim := { program := "ytcejnifkbheelaa", sum := "241934cdd3fc342f31a29a5067466db165accc222797710a8685c365e7817d95", func := "loop.example/g01223/laws.FnExactStorePicture", spec := "fnExactStorePicture", inPlace := ["math.Float32bits", "internal/abi.NoEscape"], apart := false, narrowed := true }
def FnExactStorePictureUptoSaid : Prop := fnExactStorePictureUptoRow.holds Try.pinned (OpenSpec.upto fnExactStorePictureSpec)

/-- 'laws.FnExactLoadPicture', WHERE WHAT IT READS IS OF BULK AT MOST 1048576: true; the input reads as it did. -/
def fnExactLoadPictureUptoRow : OpenClaim := { program := "ytcejnifkbheelaa", sum := "241934cdd3fc342f31a29a5067466db165accc222797710a8685c365e7817d95", func := "loop.example/g01223/laws.FnExactLoadPicture", spec := "fnExactLoadPicture", inPlace := ["math.Float32frombits", "math.Float32bits", "internal/abi.NoEscape"], unfollowed := true, recurses := true, apart := false, narrowed := true }
def FnExactLoadPictureUptoSaid : Prop := fnExactLoadPictureUptoRow.holds Try.pinned (OpenSpec.upto fnExactLoadPictureSpec)

/-- 'laws.FnExactGreyBytes', WHERE WHAT IT READS IS OF BULK AT MOST 1048576: true; the input reads as it did. -/
def fnExactGreyBytesUptoRow : OpenClaim := { program := "ytcejnifkbheelaa", sum := "241934cdd3fc342f31a29a5067466db165accc222797710a8685c365e7817d95", func := "loop.example/g01223/laws.FnExactGreyBytes", spec := "fnExactGreyBytes", inPlace := ["math.archFloor", "math.Float64bits", "math.Float64frombits", "math.archTrunc"], apart := false, narrowed := true }
def FnExactGreyBytesUptoSaid : Prop := fnExactGreyBytesUptoRow.holds Try.pinned (OpenSpec.upto fnExactGreyBytesSpec)

/-- 'laws.FnExactValidAlbum', WHERE WHAT IT READS IS OF BULK AT MOST 1048576: true; the input reads as it did. -/
def fnExactValidAlbumUptoRow : OpenClaim := { program := "ytcejnifkbheelaa", sum := "241934cdd3fc342f31a29a5067466db165accc222797710a8685c365e7817d95", func := "loop.example/g01223/laws.FnExactValidAlbum", spec := "fnExactValidAlbum", unfollowed := true, recurses := true, apart := false, narrowed := true }
def FnExactValidAlbumUptoSaid : Prop := fnExactValidAlbumUptoRow.holds Try.pinned (OpenSpec.upto fnExactValidAlbumSpec)

/-- 'laws.FnExactSameAlbum', WHERE WHAT IT READS IS OF BULK AT MOST 1048576: true; the input reads as it did. -/
def fnExactSameAlbumUptoRow : OpenClaim := { program := "ytcejnifkbheelaa", sum := "241934cdd3fc342f31a29a5067466db165accc222797710a8685c365e7817d95", func := "loop.example/g01223/laws.FnExactSameAlbum", spec := "fnExactSameAlbum", inPlace := ["math.Float32bits"], unfollowed := true, recurses := true, apart := false, narrowed := true }
def FnExactSameAlbumUptoSaid : Prop := fnExactSameAlbumUptoRow.holds Try.pinned (OpenSpec.upto fnExactSameAlbumSpec)

/-- 'laws.FnExactSliceAlbum', WHERE WHAT IT READS IS OF BULK AT MOST 1048576: true; the input reads as it did. -/
def fnExactSliceAlbumUptoRow : OpenClaim := { program := "ytcejnifkbheelaa", sum := "241934cdd3fc342f31a29a5067466db165accc222797710a8685c365e7817d95", func := "loop.example/g01223/laws.FnExactSliceAlbum", spec := "fnExactSliceAlbum", unfollowed := true, recurses := true, apart := false, narrowed := true }
def FnExactSliceAlbumUptoSaid : Prop := fnExactSliceAlbumUptoRow.holds Try.pinned (OpenSpec.upto fnExactSliceAlbumSpec)

/-- 'laws.FnExactFillAll', WHERE WHAT IT READS IS OF BULK AT MOST 1048576: true; the input reads as it did. -/
def fnExactFillAllUptoRow : OpenClaim := { program := "ytcejnifkbheelaa", sum := "241934cdd3fc342f31a29a5067466db165accc222797710a8685c365e7817d95", func := "loop.example/g01223/laws.FnExactFillAll", spec := "fnExactFillAll", unfollowed := true, recurses := true, apart := false, narrowed := true }
def FnExactFillAllUptoSaid : Prop := fnExactFillAllUptoRow.holds Try.pinned (OpenSpec.upto fnExactFillAllSpec)

/-- 'laws.FnExactMeshOf', WHERE WHAT IT READS IS OF BULK AT MOST 1048576: true; the input reads as it did. -/
def fnExactMeshOfUptoRow : OpenClaim := { program := "ytcejnifkbheelaa", sum := "241934cdd3fc342f31a29a5067466db165accc222797710a8685c365e7817d95", func := "loop.example/g01223/laws.FnExactMeshOf", spec := "fnExactMeshOf", unfollowed := true, recurses := true, apart := false, narrowed := true }
def FnExactMeshOfUptoSaid : Prop := fnExactMeshOfUptoRow.holds Try.pinned (OpenSpec.upto fnExactMeshOfSpec)

end Rows
end Go.Proofs.Ytcejnifkbheelaa
