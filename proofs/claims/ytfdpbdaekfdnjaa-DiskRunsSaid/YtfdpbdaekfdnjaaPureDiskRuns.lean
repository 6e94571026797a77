/- The law DiskRuns over lists. No condition. -/
import Derived.Test.YtfdpbdaekfdnjaaHRuns
namespace Go.Proofs.Ytfdpbdaekfdnjaa.Pure
open Go.RowKit Go.Proofs.Ytfdpbdaekfdnjaa.X
set_option linter.unusedVariables false
theorem DiskRuns (a0 : Int) (l1 : List S45) (w0 : (Lit.int .i64 a0).wf = true) (w1 : ∀ x ∈ l1, x.f2.length ≤ 140737488351232) (z1 : l1.length * 40 ≤ 140737488351232) : mootlaw12_DiskRuns.f a0 l1 = some true := by
  unfold mootlaw12_DiskRuns.f
  rw [if_pos w1]
end Go.Proofs.Ytfdpbdaekfdnjaa.Pure
