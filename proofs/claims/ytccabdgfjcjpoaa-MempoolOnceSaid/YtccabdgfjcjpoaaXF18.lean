-- Written by a program of this session (a turn of the kit's print with contracts by hand). Not trusted: Lean checks it.
import Derived.Test.YtccabdgfjcjpoaaX0
namespace Go.Proofs.Ytccabdgfjcjpoaa.X
open Go.RowKit Go.Proofs.YtccabdgfjcjpoaaW.PrintWords Go.Proofs.YtccabdgfjcjpoaaW.PrintLast Go.Proofs.YtccabdgfjcjpoaaW.PrintMore
attribute [local go_sem] max2_int min2_int max_two min_two max_three min_three max_four min_four   -- for this text's walks alone
set_option linter.unusedVariables false
set_option linter.unusedSimpArgs false

/-! ### mootref14_Accounts: function 18 -/
def mootref14_Accounts.f  : Option ((List (S52))) := some (([(⟨250, 0⟩ : S52), (⟨250, 0⟩ : S52), (⟨250, 0⟩ : S52), (⟨250, 0⟩ : S52)] : List (S52)))
set_option maxHeartbeats 8000000 in
set_option maxRecDepth 100000 in
theorem mootref14_Accounts.calls  (r : List (S52)) (w : World) (h : mootref14_Accounts.f  = some r) :
    Calls Try.prog 18 #[] w fun e w' => ∃ v0_ : Value, e = .returned (v0_) ∧ Kd.R k52 52 w' w.heap.size (fun _ => True) v0_ r ∧ Below w.heap.size w w' := by
  have hu52 := Try.underlying52
  have HB := Aside0.mk (Below.refl w.heap.size w)
  have H : (some (([(⟨250, 0⟩ : S52), (⟨250, 0⟩ : S52), (⟨250, 0⟩ : S52), (⟨250, 0⟩ : S52)] : List (S52)))) = some r := h
  clear h
  obtain ⟨y124, hy124⟩ : ∃ y_ : List (S52), y_ = (([(⟨250, 0⟩ : S52), (⟨250, 0⟩ : S52), (⟨250, 0⟩ : S52), (⟨250, 0⟩ : S52)] : List (S52))) := ⟨_, rfl⟩
  replace H : (some y124) = some r := by first | (rw [hy124]; with_reducible exact H) | (have H2_ := (Option.bind_some _ _).symm.trans H; rw [hy124]; with_reducible exact H2_) | (have H2_ := (Option.bind_some _ _).symm.trans H; with_reducible exact H2_) | with_reducible exact H | (rw [hy124]; exact H) | exact H
  have Ny124 := Aside0.mk hy124
  clear hy124
  obtain rfl := Option.some.inj H
  go_enter Try.func18, Try.ntmps18
  go_wp2_with (first | ((with_reducible refine gate_dst (N := 5) rfl ?_); refine Kd.R_lit k52 _ 52 ?hg (N := 5) ?hd (xs := ([(⟨250, 0⟩ : S52), (⟨250, 0⟩ : S52), (⟨250, 0⟩ : S52), (⟨250, 0⟩ : S52)] : List (S52))) (inner := [.int .i64 250, .int .i64 0, .int .i64 250, .int .i64 0, .int .i64 250, .int .i64 0, .int .i64 250, .int .i64 0]) (ok := fun _ => True) (okp := fun _ => True) ?hr ?hp (fun _ hk => hk) trivial (Below.refl _ _) (Nat.le_refl _) (by simp) ?_; (case hd => rfl); (case hg => rfl); (case hr => first | (go_simp; done) | (go_simp; rfl)); (case hp => exact (Reps.c2 (show Kd.M k52 _ _ _ (⟨250, 0⟩ : S52) [.int .i64 250, .int .i64 0] from (k52_mkM _ _ _ (⟨250, 0⟩ : S52) )) (Reps.c2 (show Kd.M k52 _ _ _ (⟨250, 0⟩ : S52) [.int .i64 250, .int .i64 0] from (k52_mkM _ _ _ (⟨250, 0⟩ : S52) )) (Reps.c2 (show Kd.M k52 _ _ _ (⟨250, 0⟩ : S52) [.int .i64 250, .int .i64 0] from (k52_mkM _ _ _ (⟨250, 0⟩ : S52) )) (Reps.c2 (show Kd.M k52 _ _ _ (⟨250, 0⟩ : S52) [.int .i64 250, .int .i64 0] from (k52_mkM _ _ _ (⟨250, 0⟩ : S52) )) (Reps.none _ _)))))); intro v125 w1 ho2 hb hg_ hnew_; clear hg_ hnew_; (first | rw [← Ny124.out] at ho2 | (simp only [Int.reduceToNat] at ho2; rw [← Ny124.out] at ho2)); have n0_ := Aside0.mk (Kd.R_lower ho2 (below_size (by repeat (first | (with_reducible first | exact HB.out | apply below_alloc | apply pw_below_drewN | apply below_drew1) | exact HB.out)))); have n1_ := Aside0.mk (below_step (by repeat (first | (with_reducible first | exact HB.out | apply below_alloc | apply pw_below_drewN | apply below_drew1) | exact HB.out)) hb); clear HB; have HO126 := n0_; have HB := n1_; clear n0_ n1_; clear hb ho2))
  go_ret
  exact ⟨_, by first | rfl | (simp [errW_none, errW_some] <;> rfl) | (simp [*, errW_none, errW_some] <;> rfl), by (with_reducible repeat (first | apply Kd.R_alloc | apply Kd.R_drewN | apply Kd.R_drew)); exact HO126.out, by repeat (first | (with_reducible first | exact HB.out | apply below_alloc | apply pw_below_drewN | apply below_drew1) | exact HB.out)⟩

end Go.Proofs.Ytccabdgfjcjpoaa.X
