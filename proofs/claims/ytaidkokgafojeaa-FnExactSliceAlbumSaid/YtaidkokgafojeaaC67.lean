/- Contracts: albums that are copied, in another spelling. -/
import Derived.Test.YtaidkokgafojeaaProg
import Derived.Test.YtaidkokgafojeaaC63
namespace Go.Proofs.Ytaidkokgafojeaa
open Go.RowKit Go.Fx Go.Soft
theorem L_toAlbumX (a : Option Addr) (n cap : Nat) (ps : List Pic) (w : World) (hs : PSl w a ps) (hl : ps.length = n) (hn : n ≤ 1048576) (hm : ∀ i, i < n → (pAt ps i).gs.length ≤ 1048576) :
    Calls Try.prog 29 #[.agg #[.slice a n cap]] w fun e w' => (∃ v, e = .returned (.agg #[v]) ∧ PIn w' w.heap.size w'.heap.size 35 65 v ps) ∧ ∃ os m, w' = w.grew os m := L_toAlbum a n cap ps w hs hl hn hm
end Go.Proofs.Ytaidkokgafojeaa
