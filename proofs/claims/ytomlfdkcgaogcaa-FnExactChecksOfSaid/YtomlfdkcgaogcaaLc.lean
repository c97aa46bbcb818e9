/- Rows and their room. -/
import Derived.Test.YtomlfdkcgaogcaaGd
namespace Go.Fx
open Go Go.Soft Go.RowKit
/-- Read as any slice, with its room. -/
theorem FOwn.slc {w : World} {B : Nat} {e : TypeId} {v : Value} {xs : List Nat} (h : FOwn w B e v xs) : ∃ a cap, v = .slice a xs.length cap ∧ FSl w a xs.length xs ∧ xs.length ≤ cap := by
  obtain ⟨a, cap, hv, hs, _⟩ := h.sl
  refine ⟨a, cap, hv, hs, ?_⟩
  obtain ⟨rs, h1, h2⟩ := h
  rcases h2.2 with ⟨h0, h3⟩ | ⟨g, cap', cur, h0, hb, hg, hnc, _⟩
  · rw [hv] at h0
    simp only [Value.slice.injEq] at h0
    obtain ⟨_, h4, h5⟩ := h0
    omega
  · rw [hv] at h0
    simp only [Value.slice.injEq] at h0
    obtain ⟨_, h4, h5⟩ := h0
    omega
end Go.Fx
