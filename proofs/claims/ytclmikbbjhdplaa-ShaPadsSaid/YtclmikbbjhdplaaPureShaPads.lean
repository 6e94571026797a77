/- The law ShaPads over lists: any text with its padding is as the page says. No condition. -/
import Derived.Test.YtclmikbbjhdplaaHShaPads
namespace Go.Proofs.Ytclmikbbjhdplaa.Pure
open Go.RowKit Go.Proofs.Ytclmikbbjhdplaa.X
theorem ShaPads (l : List Int) (w : ∀ z ∈ l, (Lit.int .u8 z).wf = true) (h : l.length * 1 ≤ 140737488351232) : mootlaw02_ShaPads.f l = some true := by
  unfold mootlaw02_ShaPads.f
  rw [if_pos (by omega)]
end Go.Proofs.Ytclmikbbjhdplaa.Pure
