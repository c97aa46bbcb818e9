/-
  No cell of these rows narrows 'for every input' (looked for: loops, veiled, ifaces, maps, wideKeys, modest, calm, conditions, laid).
  DERIVED. THE GIVEN ROWS OF THIS SEAT. 10 by the template 'for every input the law returns true; each argument reads behind the call as it read before'; 0 by the template 'total and deterministic' (their statements: YtaidkokgafojeaaTotals.lean).
  GIVEN WITH THE SEED: the statements are not yours to turn. If you find one false, say at which input.
  Laid BY PROGRAM, IN A SANDBOX (cutbox-rows.mjs): the forced cells as the released guide's own fill.sh prints them over the translation 82ee7e3715c2da71… (all of the seat's roots in one cut). By AI agents, Wed Nov 11 2026. No macro, syntax, notation, axiom, sorry.
-/
import Derived.Test.YtaidkokgafojeaaChecked
import GoSem.Claim
import GoSem.ClaimJoined
import GoSem.ClaimMapViews
import Derived.JoinedTies
import Derived.KernelRfl
namespace Go.Proofs.Ytaidkokgafojeaa
/- THE CELL 'sum', in the pinned program and in every row, IS THE sha256 OF THE DUMP (.gsa) THAT YtaidkokgafojeaaProg.lean LOADS. Nothing in Lean hashes anything: it is a label: what it is worth is what the hold of that sum in a sandbox is worth. -/
noncomputable def Try.pinned : Pinned := { name := "ytaidkokgafojeaa", sum := "82ee7e3715c2da71477e655c60197036dad8fd05a2af6a1e328867faa540bdf7", checked := Try.checked }
namespace Rows
def none {H : Type} : Left H := { results := [], args := [] }

/-- 'laws.FnExactUnpackMap': WHATEVER THE INPUT: true; the input reads as it did. -/
def fnExactUnpackMapSpec : ChangeSpec := { name := "fnExactUnpackMap", fn := fun _ => fun
  | [d1, d2, d3] => { results := [.lit (.bool true)], args := [d1, d2, d3] }
  | _ => none }
def fnExactUnpackMapRow : OpenClaim := { program := "ytaidkokgafojeaa", sum := "82ee7e3715c2da71477e655c60197036dad8fd05a2af6a1e328867faa540bdf7", func := "loop.example/g01223/laws.FnExactUnpackMap", spec := "fnExactUnpackMap", unfollowed := true, recurses := true, apart := false }
def FnExactUnpackMapSaid : Prop := fnExactUnpackMapRow.holds Try.pinned (OpenSpec.ofChange fnExactUnpackMapSpec)

/-- ITS FALSE NEIGHBOUR: 'it returns false'. Refute it at one input. -/
def fnExactUnpackMapWrong : ChangeSpec := { name := "fnExactUnpackMap", fn := fun _ => fun
  | [d1, d2, d3] => { results := [.lit (.bool false)], args := [d1, d2, d3] }
  | _ => none }
def FnExactUnpackMapWrongFalsely : Prop := fnExactUnpackMapRow.holds Try.pinned (OpenSpec.ofChange fnExactUnpackMapWrong)

/-- 'laws.FnExactStorePicture': WHATEVER THE INPUT: true; the input reads as it did. -/
def fnExactStorePictureSpec : ChangeSpec := { name := "fnExactStorePicture", fn := fun _ => fun
  | [d] => { results := [.lit (.bool true)], args := [d] }
  | _ => none }
def fnExactStorePictureRow : OpenClaim := { program := "ytaidkokgafojeaa", sum := "82ee7e3715c2da71477e655c60197036dad8fd05a2af6a1e328867faa540bdf7", func := "loop.example/g01223/laws.FnExactStorePicture", spec := "fnExactStorePicture", inPlace := ["math.Float32bits", "internal/abi.NoEscape"], apart := false }
def FnExactStorePictureSaid : Prop := fnExactStorePictureRow.holds Try.pinned (OpenSpec.ofChange fnExactStorePictureSpec)

/-- ITS FALSE NEIGHBOUR: 'it returns false'. Refute it at one input. -/
def fnExactStorePictureWrong : ChangeSpec := { name := "fnExactStorePicture", fn := fun _ => fun
  | [d] => { results := [.lit (.bool false)], args := [d] }
  | _ => none }
def FnExactStorePictureWrongFalsely : Prop := fnExactStorePictureRow.holds Try.pinned (OpenSpec.ofChange fnExactStorePictureWrong)

/-- 'laws.FnExactLoadPicture': WHATEVER THE INPUT: true; the input reads as it did. -/
def fnExactLoadPictureSpec : ChangeSpec := { name := "fnExactLoadPicture", fn := fun _ => fun
  | [d] => { results := [.lit (.bool true)], args := [d] }
  | _ => none }
def fnExactLoadPictureRow : OpenClaim := { program := "ytaidkokgafojeaa", sum := "82ee7e3715c2da71477e655c60197036dad8fd05a2af6a1e328867faa540bdf7", func := "loop.example/g01223/laws.FnExactLoadPicture", spec := "fnExactLoadPicture", inPlace := ["math.Float32frombits", "math.Float32bits", "internal/abi.NoEscape"], unfollowed := true, recurses := true, apart := false }
def FnExactLoadPictureSaid : Prop := fnExactLoadPictureRow.holds Try.pinned (OpenSpec.ofChange fnExactLoadPictureSpec)

/-- ITS FALSE NEIGHBOUR: 'it returns false'. Refute it at one input. -/
def fnExactLoadPictureWrong : ChangeSpec := { name := "fnExactLoadPicture", fn := fun _ => fun
  | [d] => { results := [.lit (.bool false)], args := [d] }
  | _ => none }
def FnExactLoadPictureWrongFalsely : Prop := fnExactLoadPictureRow.holds Try.pinned (OpenSpec.ofChange fnExactLoadPictureWrong)

/-- 'laws.FnExactValidAlbum': WHATEVER THE INPUT: true; the input reads as it did. -/
def fnExactValidAlbumSpec : ChangeSpec := { name := "fnExactValidAlbum", fn := fun _ => fun
  | [d] => { results := [.lit (.bool true)], args := [d] }
  | _ => none }
def fnExactValidAlbumRow : OpenClaim := { program := "ytaidkokgafojeaa", sum := "82ee7e3715c2da71477e655c60197036dad8fd05a2af6a1e328867faa540bdf7", func := "loop.example/g01223/laws.FnExactValidAlbum", spec := "fnExactValidAlbum", unfollowed := true, recurses := true, apart := false }
def FnExactValidAlbumSaid : Prop := fnExactValidAlbumRow.holds Try.pinned (OpenSpec.ofChange fnExactValidAlbumSpec)

/-- ITS FALSE NEIGHBOUR: 'it returns false'. Refute it at one input. -/
def fnExactValidAlbumWrong : ChangeSpec := { name := "fnExactValidAlbum", fn := fun _ => fun
  | [d] => { results := [.lit (.bool false)], args := [d] }
  | _ => none }
def FnExactValidAlbumWrongFalsely : Prop := fnExactValidAlbumRow.holds Try.pinned (OpenSpec.ofChange fnExactValidAlbumWrong)

/-- 'laws.FnExactSameAlbum': WHATEVER THE INPUT: true; the input reads as it did. -/
def fnExactSameAlbumSpec : ChangeSpec := { name := "fnExactSameAlbum", fn := fun _ => fun
  | [d1, d2] => { results := [.lit (.bool true)], args := [d1, d2] }
  | _ => none }
def fnExactSameAlbumRow : OpenClaim := { program := "ytaidkokgafojeaa", sum := "82ee7e3715c2da71477e655c60197036dad8fd05a2af6a1e328867faa540bdf7", func := "loop.example/g01223/laws.FnExactSameAlbum", spec := "fnExactSameAlbum", inPlace := ["math.Float32bits"], unfollowed := true, recurses := true, apart := false }
def FnExactSameAlbumSaid : Prop := fnExactSameAlbumRow.holds Try.pinned (OpenSpec.ofChange fnExactSameAlbumSpec)

/-- ITS FALSE NEIGHBOUR: 'it returns false'. Refute it at one input. -/
def fnExactSameAlbumWrong : ChangeSpec := { name := "fnExactSameAlbum", fn := fun _ => fun
  | [d1, d2] => { results := [.lit (.bool false)], args := [d1, d2] }
  | _ => none }
def FnExactSameAlbumWrongFalsely : Prop := fnExactSameAlbumRow.holds Try.pinned (OpenSpec.ofChange fnExactSameAlbumWrong)

/-- 'laws.FnExactSliceAlbum': WHATEVER THE INPUT: true; the input reads as it did. -/
def fnExactSliceAlbumSpec : ChangeSpec := { name := "fnExactSliceAlbum", fn := fun _ => fun
  | [d1, d2, d3] => { results := [.lit (.bool true)], args := [d1, d2, d3] }
  | _ => none }
def fnExactSliceAlbumRow : OpenClaim := { program := "ytaidkokgafojeaa", sum := "82ee7e3715c2da71477e655c60197036dad8fd05a2af6a1e328867faa540bdf7", func := "loop.example/g01223/laws.FnExactSliceAlbum", spec := "fnExactSliceAlbum", unfollowed := true, recurses := true, apart := false }
def FnExactSliceAlbumSaid : Prop := fnExactSliceAlbumRow.holds Try.pinned (OpenSpec.ofChange fnExactSliceAlbumSpec)

/-- ITS FALSE NEIGHBOUR: 'it returns false'. Refute it at one input. -/
def fnExactSliceAlbumWrong : ChangeSpec := { name := "fnExactSliceAlbum", fn := fun _ => fun
  | [d1, d2, d3] => { results := [.lit (.bool false)], args := [d1, d2, d3] }
  | _ => none }
def FnExactSliceAlbumWrongFalsely : Prop := fnExactSliceAlbumRow.holds Try.pinned (OpenSpec.ofChange fnExactSliceAlbumWrong)

/-- 'laws.FnExactFillAll': WHATEVER THE INPUT: true; the input reads as it did. -/
def fnExactFillAllSpec : ChangeSpec := { name := "fnExactFillAll", fn := fun _ => fun
  | [d] => { results := [.lit (.bool true)], args := [d] }
  | _ => none }
def fnExactFillAllRow : OpenClaim := { program := "ytaidkokgafojeaa", sum := "82ee7e3715c2da71477e655c60197036dad8fd05a2af6a1e328867faa540bdf7", func := "loop.example/g01223/laws.FnExactFillAll", spec := "fnExactFillAll", unfollowed := true, recurses := true, apart := false }
def FnExactFillAllSaid : Prop := fnExactFillAllRow.holds Try.pinned (OpenSpec.ofChange fnExactFillAllSpec)

/-- ITS FALSE NEIGHBOUR: 'it returns false'. Refute it at one input. -/
def fnExactFillAllWrong : ChangeSpec := { name := "fnExactFillAll", fn := fun _ => fun
  | [d] => { results := [.lit (.bool false)], args := [d] }
  | _ => none }
def FnExactFillAllWrongFalsely : Prop := fnExactFillAllRow.holds Try.pinned (OpenSpec.ofChange fnExactFillAllWrong)

/-- 'laws.FnExactGuidedMap': WHATEVER THE INPUT: true; the input reads as it did. -/
def fnExactGuidedMapSpec : ChangeSpec := { name := "fnExactGuidedMap", fn := fun _ => fun
  | [d1, d2, d3, d4] => { results := [.lit (.bool true)], args := [d1, d2, d3, d4] }
  | _ => none }
def fnExactGuidedMapRow : OpenClaim := { program := "ytaidkokgafojeaa", sum := "82ee7e3715c2da71477e655c60197036dad8fd05a2af6a1e328867faa540bdf7", func := "loop.example/g01223/laws.FnExactGuidedMap", spec := "fnExactGuidedMap", inPlace := ["math.Float32bits", "math.Float32frombits"], unfollowed := true, recurses := true, apart := false }
def FnExactGuidedMapSaid : Prop := fnExactGuidedMapRow.holds Try.pinned (OpenSpec.ofChange fnExactGuidedMapSpec)

/-- ITS FALSE NEIGHBOUR: 'it returns false'. Refute it at one input. -/
def fnExactGuidedMapWrong : ChangeSpec := { name := "fnExactGuidedMap", fn := fun _ => fun
  | [d1, d2, d3, d4] => { results := [.lit (.bool false)], args := [d1, d2, d3, d4] }
  | _ => none }
def FnExactGuidedMapWrongFalsely : Prop := fnExactGuidedMapRow.holds Try.pinned (OpenSpec.ofChange fnExactGuidedMapWrong)

/-- 'laws.FnExactPointsOf': WHATEVER THE INPUT: true; the input reads as it did. -/
def fnExactPointsOfSpec : ChangeSpec := { name := "fnExactPointsOf", fn := fun _ => fun
  | [d1, d2] => { results := [.lit (.bool true)], args := [d1, d2] }
  | _ => none }
def fnExactPointsOfRow : OpenClaim := { program := "ytaidkokgafojeaa", sum := "82ee7e3715c2da71477e655c60197036dad8fd05a2af6a1e328867faa540bdf7", func := "loop.example/g01223/laws.FnExactPointsOf", spec := "fnExactPointsOf", unfollowed := true, recurses := true, apart := false }
def FnExactPointsOfSaid : Prop := fnExactPointsOfRow.holds Try.pinned (OpenSpec.ofChange fnExactPointsOfSpec)

/-- ITS FALSE NEIGHBOUR: 'it returns false'. Refute it at one input. -/
def fnExactPointsOfWrong : ChangeSpec := { name := "fnExactPointsOf", fn := fun _ => fun
  | [d1, d2] => { results := [.lit (.bool false)], args := [d1, d2] }
  | _ => none }
def FnExactPointsOfWrongFalsely : Prop := fnExactPointsOfRow.holds Try.pinned (OpenSpec.ofChange fnExactPointsOfWrong)

/-- 'laws.FnExactMeshOf': WHATEVER THE INPUT: true; the input reads as it did. -/
def fnExactMeshOfSpec : ChangeSpec := { name := "fnExactMeshOf", fn := fun _ => fun
  | [d1, d2, d3] => { results := [.lit (.bool true)], args := [d1, d2, d3] }
  | _ => none }
def fnExactMeshOfRow : OpenClaim := { program := "ytaidkokgafojeaa", sum := "82ee7e3715c2da71477e655c60197036dad8fd05a2af6a1e328867faa540bdf7", func := "loop.example/g01223/laws.FnExactMeshOf", spec := "fnExactMeshOf", unfollowed := true, recurses := true, apart := false }
def FnExactMeshOfSaid : Prop := fnExactMeshOfRow.holds Try.pinned (OpenSpec.ofChange fnExactMeshOfSpec)

/-- ITS FALSE NEIGHBOUR: 'it returns false'. Refute it at one input. -/
def fnExactMeshOfWrong : ChangeSpec := { name := "fnExactMeshOf", fn := fun _ => fun
  | [d1, d2, d3] => { results := [.lit (.bool false)], args := [d1, d2, d3] }
  | _ => none }
def FnExactMeshOfWrongFalsely : Prop := fnExactMeshOfRow.holds Try.pinned (OpenSpec.ofChange fnExactMeshOfWrong)

/- THE SECOND FORM. 'bulk': how many values and letters a reading holds, each counted each time it is reached (what is shared counts as often as it is met; a slice's spare places count too). A statement '..UptoSaid' is the law's where the arguments, and the package variables that the reading takes, are together of bulk at most 1048576: NARROWER than '..Said'. Prove '..Said' where nothing that the law and all that it calls make is longer than what came in: it says more and counts as full. Else prove '..UptoSaid'. A law counts once. -/
mutual
def uptoBulk {H : Type} : DataW H → Nat
  | .lit (.string bytes) => bytes.length + 1
  | .lit _ => 1
  | .nil => 1
  | .ptr d => uptoBulk d + 1
  | .slice elems spare => uptoBulkAll elems + uptoBulkAll spare + 1
  | .agg parts => uptoBulkAll parts + 1
  | .iface _ d => uptoBulk d + 1
  | .map entries => uptoBulkEntries entries + 1
  | .held _ => 1
def uptoBulkAll {H : Type} : List (DataW H) → Nat
  | [] => 0
  | d :: r => uptoBulk d + uptoBulkAll r
def uptoBulkEntries {H : Type} : List (Lit × DataW H) → Nat
  | [] => 0
  | x :: r => uptoBulkEntry x + uptoBulkEntries r
def uptoBulkEntry {H : Type} : Lit × DataW H → Nat
  | (.string bytes, d) => bytes.length + uptoBulk d + 1
  | (_, d) => uptoBulk d + 1
 end
def uptoSmall : (H : Type) → List (DataW H) → Bool := fun _ ds => decide (uptoBulkAll ds ≤ 1048576)
def OpenSpec.upto (s : _root_.Go.ChangeSpec) : _root_.Go.OpenSpec := { _root_.Go.OpenSpec.ofChange s with cond := some uptoSmall }

/-- 'laws.FnExactUnpackMap', WHERE WHAT IT READS IS OF BULK AT MOST 1048576: true; the input reads as it did. -/
def fnExactUnpackMapUptoRow : OpenClaim := { program := "ytaidkokgafojeaa", sum := "82ee7e3715c2da71477e655c60197036dad8fd05a2af6a1e328867faa540bdf7", func := "loop.example/g01223/laws.FnExactUnpackMap", spec := "fnExactUnpackMap", unfollowed := true, recurses := true, apart := false, narrowed := true }
def FnExactUnpackMapUptoSaid : Prop := fnExactUnpackMapUptoRow.holds Try.pinned (OpenSpec.upto fnExactUnpackMapSpec)

/-- 'laws.FnExactStorePicture', WHERE WHAT IT READS IS OF BULK AT MOST 1048576: true; the input reads as it did. -/
def fnExactStorePictureUptoRow : OpenClaim := { program := "ytaidkokgafojeaa", sum := "82ee7e3715c2da71477e655c60197036dad8fd05a2af6a1e328867faa540bdf7", func := "loop.example/g01223/laws.FnExactStorePicture", spec := "fnExactStorePicture", inPlace := ["math.Float32bits", "internal/abi.NoEscape"], apart := false, narrowed := true }
def FnExactStorePictureUptoSaid : Prop := fnExactStorePictureUptoRow.holds Try.pinned (OpenSpec.upto fnExactStorePictureSpec)

/-- 'laws.FnExactLoadPicture', WHERE WHAT IT READS IS OF BULK AT MOST 1048576: true; the input reads as it did. -/
def fnExactLoadPictureUptoRow : OpenClaim := { program := "ytaidkokgafojeaa", sum := "82ee7e3715c2da71477e655c60197036dad8fd05a2af6a1e328867faa540bdf7", func := "loop.example/g01223/laws.FnExactLoadPicture", spec := "fnExactLoadPicture", inPlace := ["math.Float32frombits", "math.Float32bits", "internal/abi.NoEscape"], unfollowed := true, recurses := true, apart := false, narrowed := true }
def FnExactLoadPictureUptoSaid : Prop := fnExactLoadPictureUptoRow.holds Try.pinned (OpenSpec.upto fnExactLoadPictureSpec)

/-- 'laws.FnExactValidAlbum', WHERE WHAT IT READS IS OF BULK AT MOST 1048576: true; the input reads as it did. -/
def fnExactValidAlbumUptoRow : OpenClaim := { program := "ytaidkokgafojeaa", sum := "82ee7e3715c2da71477e655c60197036dad8fd05a2af6a1e328867faa540bdf7", func := "loop.example/g01223/laws.FnExactValidAlbum", spec := "fnExactValidAlbum", unfollowed := true, recurses := true, apart := false, narrowed := true }
def FnExactValidAlbumUptoSaid : Prop := fnExactValidAlbumUptoRow.holds Try.pinned (OpenSpec.upto fnExactValidAlbumSpec)

/-- 'laws.FnExactSameAlbum', WHERE WHAT IT READS IS OF BULK AT MOST 1048576: true; the input reads as it did. -/
def fnExactSameAlbumUptoRow : OpenClaim := { program := "ytaidkokgafojeaa", sum := "82ee7e3715c2da71477e655c60197036dad8fd05a2af6a1e328867faa540bdf7", func := "loop.example/g01223/laws.FnExactSameAlbum", spec := "fnExactSameAlbum", inPlace := ["math.Float32bits"], unfollowed := true, recurses := true, apart := false, narrowed := true }
def FnExactSameAlbumUptoSaid : Prop := fnExactSameAlbumUptoRow.holds Try.pinned (OpenSpec.upto fnExactSameAlbumSpec)

/-- 'laws.FnExactSliceAlbum', WHERE WHAT IT READS IS OF BULK AT MOST 1048576: true; the input reads as it did. -/
def fnExactSliceAlbumUptoRow : OpenClaim := { program := "ytaidkokgafojeaa", sum := "82ee7e3715c2da71477e655c60197036dad8fd05a2af6a1e328867faa540bdf7", func := "loop.example/g01223/laws.FnExactSliceAlbum", spec := "fnExactSliceAlbum", unfollowed := true, recurses := true, apart := false, narrowed := true }
def FnExactSliceAlbumUptoSaid : Prop := fnExactSliceAlbumUptoRow.holds Try.pinned (OpenSpec.upto fnExactSliceAlbumSpec)

/-- 'laws.FnExactFillAll', WHERE WHAT IT READS IS OF BULK AT MOST 1048576: true; the input reads as it did. -/
def fnExactFillAllUptoRow : OpenClaim := { program := "ytaidkokgafojeaa", sum := "82ee7e3715c2da71477e655c60197036dad8fd05a2af6a1e328867faa540bdf7", func := "loop.example/g01223/laws.FnExactFillAll", spec := "fnExactFillAll", unfollowed := true, recurses := true, apart := false, narrowed := true }
def FnExactFillAllUptoSaid : Prop := fnExactFillAllUptoRow.holds Try.pinned (OpenSpec.upto fnExactFillAllSpec)

/-- 'laws.FnExactGuidedMap', WHERE WHAT IT READS IS OF BULK AT MOST 1048576: true; the input reads as it did. -/
def fnExactGuidedMapUptoRow : OpenClaim := { program := "ytaidkokgafojeaa", sum := "82ee7e3715c2da71477e655c60197036dad8fd05a2af6a1e328867faa540bdf7", func := "loop.example/g01223/laws.FnExactGuidedMap", spec := "fnExactGuidedMap", inPlace := ["math.Float32bits", "math.Float32frombits"], unfollowed := true, recurses := true, apart := false, narrowed := true }
def FnExactGuidedMapUptoSaid : Prop := fnExactGuidedMapUptoRow.holds Try.pinned (OpenSpec.upto fnExactGuidedMapSpec)

/-- 'laws.FnExactPointsOf', WHERE WHAT IT READS IS OF BULK AT MOST 1048576: true; the input reads as it did. -/
def fnExactPointsOfUptoRow : OpenClaim := { program := "ytaidkokgafojeaa", sum := "82ee7e3715c2da71477e655c60197036dad8fd05a2af6a1e328867faa540bdf7", func := "loop.example/g01223/laws.FnExactPointsOf", spec := "fnExactPointsOf", unfollowed := true, recurses := true, apart := false, narrowed := true }
def FnExactPointsOfUptoSaid : Prop := fnExactPointsOfUptoRow.holds Try.pinned (OpenSpec.upto fnExactPointsOfSpec)

/-- 'laws.FnExactMeshOf', WHERE WHAT IT READS IS OF BULK AT MOST 1048576: true; the input reads as it did. -/
def fnExactMeshOfUptoRow : OpenClaim := { program := "ytaidkokgafojeaa", sum := "82ee7e3715c2da71477e655c60197036dad8fd05a2af6a1e328867faa540bdf7", func := "loop.example/g01223/laws.FnExactMeshOf", spec := "fnExactMeshOf", unfollowed := true, recurses := true, apart := false, narrowed := true }
def FnExactMeshOfUptoSaid : Prop := fnExactMeshOfUptoRow.holds Try.pinned (OpenSpec.upto fnExactMeshOfSpec)

end Rows
end Go.Proofs.Ytaidkokgafojeaa
