/- Lemmas. -/
import Derived.Deep.RegionHeld3
namespace Go.Proofs.YtfpphfjlpgefaaaGreat
theorem Oo {p : Prop} (h : p := by omega) : p := h
abbrev Tb := List (List Int)
abbrev Li := List Int
end Go.Proofs.YtfpphfjlpgefaaaGreat
