/- The law DiskTwice over lists. No condition. -/
import Derived.Test.YtfdpbdaekfdnjaaHTwice
namespace Go.Proofs.Ytfdpbdaekfdnjaa.Pure
open Go.RowKit Go.Proofs.Ytfdpbdaekfdnjaa.X
set_option linter.unusedVariables false
theorem DiskTwice (l0 : List Int) (a1 a2 : Int) (w0 : ∀ z ∈ l0, (Lit.int .u8 z).wf = true) (z0 : l0.length * 1 ≤ 140737488351232) (w1 : (Lit.int .i64 a1).wf = true) (w2 : (Lit.int .i64 a2).wf = true) : mootlaw12_DiskTwice.f l0 a1 a2 = some true := by
  unfold mootlaw12_DiskTwice.f
  rw [if_pos (by omega)]
end Go.Proofs.Ytfdpbdaekfdnjaa.Pure
