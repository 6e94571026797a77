/- The law DiskLasts over lists. No condition. -/
import Derived.Test.YtfdpbdaekfdnjaaHLasts
namespace Go.Proofs.Ytfdpbdaekfdnjaa.Pure
open Go.RowKit Go.Proofs.Ytfdpbdaekfdnjaa.X
set_option linter.unusedVariables false
theorem DiskLasts (l0 l1 : List Int) (a2 : Int) (w0 : ∀ z ∈ l0, (Lit.int .u8 z).wf = true) (z0 : l0.length * 1 ≤ 140737488351232) (w1 : ∀ z ∈ l1, (Lit.int .u8 z).wf = true) (z1 : l1.length * 1 ≤ 140737488351232) (w2 : (Lit.int .i64 a2).wf = true) : mootlaw12_DiskLasts.f l0 l1 a2 = some true := by
  unfold mootlaw12_DiskLasts.f
  rw [if_pos (by omega)]
end Go.Proofs.Ytfdpbdaekfdnjaa.Pure
