/- The law DiskNobody over lists. No condition. -/
import Derived.Test.YtfdpbdaekfdnjaaHNobody
namespace Go.Proofs.Ytfdpbdaekfdnjaa.Pure
open Go.RowKit Go.Proofs.Ytfdpbdaekfdnjaa.X
set_option linter.unusedVariables false
theorem DiskNobody (l0 : List Int) (a1 : Int) (w0 : ∀ z ∈ l0, (Lit.int .u8 z).wf = true) (z0 : l0.length * 1 ≤ 140737488351232) (w1 : (Lit.int .i64 a1).wf = true) : mootlaw12_DiskNobody.f l0 a1 = some true := rfl
end Go.Proofs.Ytfdpbdaekfdnjaa.Pure
