/- The law HeldFresh over numbers: nothing is told at the tick at which it began, nor at the next one. No condition. -/
import Derived.Test.YtccabdgfjcjpoaaXF6
import Derived.Test.YtccabdgfjcjpoaaQHeld
import Derived.Test.YtccabdgfjcjpoaaHOpens
namespace Go.Proofs.Ytccabdgfjcjpoaa.Pure
open Go.RowKit Go.Proofs.Ytccabdgfjcjpoaa.X Go.Proofs.YtccabdgfjcjpoaaW.PrintWords Go.Proofs.YtccabdgfjcjpoaaW.PrintLast Go.Proofs.YtccabdgfjcjpoaaW.PrintMore
set_option linter.unusedVariables false
set_option linter.unusedSimpArgs false

theorem HeldFresh (x : S30) (a1 : Int) (w0 : wfT30 x) (w1 : (Lit.int .i64 a1).wf = true) : ∃ k, mootlaw19_HeldFresh.f k x.f0 x.f1 x.f2 a1 = some true := by
  refine ⟨9, ?_⟩
  have hb1 := bounds_i64 w1
  obtain ⟨s, hs⟩ : ∃ s, Int.tmod (wrap64 ((Int.tmod a1 100000) + 100000)) 100000 = s := ⟨_, rfl⟩
  have hr : -100000 < Int.tmod a1 100000 ∧ Int.tmod a1 100000 < 100000 := ⟨by have := Int.lt_tmod_of_pos a1 (b := 100000) (by omega); omega, Int.tmod_lt_of_pos a1 (by omega)⟩
  have hw : wrap64 ((Int.tmod a1 100000) + 100000) = (Int.tmod a1 100000) + 100000 := by unfold wrap64; omega
  have h0 : 0 ≤ s ∧ s < 100000 := by
    rw [← hs, hw]
    exact ⟨Int.tmod_nonneg _ (by omega), Int.tmod_lt_of_pos _ (by omega)⟩
  unfold mootlaw19_HeldFresh.f
  rw [alive19, Option.bind_some, if_pos rfl]
  simp only [hs]
  unfold held_Start.f
  rw [Option.bind_some]
  have e1 : wrap64 (s + 1) = s + 1 := by unfold wrap64; omega
  have e2 : wrap64 (s + 2) = s + 2 := by unfold wrap64; omega
  simp only [e1, e2]
  by_cases hb : x.f2.toList = []
  · rw [tick_off _ _ _ _ _ _ hb, Option.bind_some]
    simp only []
    rw [tick_off _ _ _ _ _ _ hb, Option.bind_some]
    simp only []
    rw [tick_off _ _ _ _ _ _ hb, Option.bind_some]
    simp [hb, wrap64]
  · rw [tick_on _ _ _ _ _ _ hb (by omega) (by omega) (by omega) (by omega) (by omega), Option.bind_some]
    have m0 : mx (s - s - 1) 0 = 0 := by unfold mx; split <;> omega
    have m1 : mx (s + 1 - s - 1) 0 = 0 := by unfold mx; split <;> omega
    have m2 : mx (s + 2 - s - 1) 0 = 1 := by unfold mx; split <;> omega
    have t0 : tickL 0 0 = [] := by decide +kernel
    have t1 : tickL 0 1 = [(1, 1)] := by decide +kernel
    have l0 : lastTold 0 [] = 0 := rfl
    simp only [m0, t0, l0]
    rw [tick_on _ _ _ _ _ _ hb (by omega) (by omega) (by omega) (by omega) (by omega), Option.bind_some]
    simp only [m1, t0, l0]
    rw [tick_on _ _ _ _ _ _ hb (by omega) (by omega) (by omega) (by omega) (by omega), Option.bind_some]
    simp only [m2, t1]
    simp [hb, wrap64]
end Go.Proofs.Ytccabdgfjcjpoaa.Pure
