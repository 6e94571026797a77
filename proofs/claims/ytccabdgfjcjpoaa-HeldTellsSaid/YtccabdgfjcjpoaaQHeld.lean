/- Plain laws on what is held: how many ticks have gone by, and which reports Tick tells. -/
import Derived.Test.YtccabdgfjcjpoaaXF17
import Derived.Test.YtccabdgfjcjpoaaHTick
import Derived.OpenShut
namespace Go.Proofs.Ytccabdgfjcjpoaa.X
open Go.RowKit Go.Proofs.YtccabdgfjcjpoaaW.PrintWords Go.Proofs.YtccabdgfjcjpoaaW.PrintLast Go.Proofs.YtccabdgfjcjpoaaW.PrintMore
set_option linter.unusedVariables false
set_option linter.unusedSimpArgs false

theorem alive19 : mootlaw19_alive.f 9 = some true := by decide +kernel
theorem alive19_at (k : Nat) (hk : 9 ≤ k) : mootlaw19_alive.f k = some true := at_rounds (fun k => mootlaw19_alive.mono k) hk alive19
theorem full_at (v h s t now : Int) (b : ByteArray) (h0 : 0 ≤ s) (h1 : s ≤ 1099511627776) (h2 : 0 ≤ now) (h3 : now ≤ 1099511627776) : held_Full.f v h b s t now = some (mx (now - s - 1) 0) := by
  unfold held_Full.f held_odd.f
  rw [if_neg (by omega), Option.bind_some, if_neg (by simp; omega), if_neg (by omega), Option.bind_some, if_neg (by simp; omega)]
  have e : wrap64 ((wrap64 (now - s)) - 1) = now - s - 1 := by unfold wrap64; omega
  rw [e]
theorem tick_off (v h s t now : Int) (b : ByteArray) (hb : b.toList = []) : held_Tick.f v h b s t now = some (v, h, b, s, t, []) := by
  unfold held_Tick.f
  rw [if_pos (.inl hb)]
theorem tick_on (v h s t now : Int) (b : ByteArray) (hb : ¬ b.toList = []) (ht : 0 ≤ t) (h0 : 0 ≤ s) (h1 : s ≤ 1099511627776) (h2 : 0 ≤ now) (h3 : now ≤ 1099511627776) :
    held_Tick.f v h b s t now = some (v, h, b, s, lastTold t (tickL t (mx (now - s - 1) 0)), (tickL t (mx (now - s - 1) 0)).map (·.1)) := by
  unfold held_Tick.f
  rw [if_neg (by rintro (e | e); exact hb e; omega), full_at v h s t now b h0 h1 h2 h3]
  rfl
end Go.Proofs.Ytccabdgfjcjpoaa.X
