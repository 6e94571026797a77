/- The law HeldTells: how many ticks have gone by fully, and which reports are due, of whatever is held, are as the page says. No condition. -/
import Derived.Test.YtccabdgfjcjpoaaHTells
import Derived.Test.YtccabdgfjcjpoaaHOpens
namespace Go.Proofs.Ytccabdgfjcjpoaa.Pure
open Go.RowKit Go.Proofs.Ytccabdgfjcjpoaa.X
theorem HeldTells (x : S32) (a1 : Int) (w0 : wfT32 x) (w1 : (Lit.int .i64 a1).wf = true) : mootlaw19_HeldTells.f x.f0.f0 x.f0.f1 x.f0.f2 x.f1 x.f2 a1 = some true := rfl
end Go.Proofs.Ytccabdgfjcjpoaa.Pure
