/- The law NetTells: whatever the input, the call returns true and each argument reads behind it as it read before. No condition. -/
-- MERGED FROM Derived.Test.YtccabdgfjcjpoaaRows Derived.Test.YtccabdgfjcjpoaaHNet Derived.Test.YtccabdgfjcjpoaaHOpensM Derived.Test.YtccabdgfjcjpoaaPureNetTells Derived.WalkKit Derived.ProofKit Derived.OpenShut Derived.ShutString Derived.ChangeOld Derived.Below Derived.SizedLaws Derived.JoinedCond
import Derived.Test.YtccabdgfjcjpoaaRows
import Derived.WalkKit
import Derived.ProofKit
import Derived.OpenShut
import Derived.ShutString
import Derived.ChangeOld
import Derived.Below
import Derived.SizedLaws
import Derived.JoinedCond
import Derived.Test.YtccabdgfjcjpoaaZNetTells1
import Derived.Test.YtccabdgfjcjpoaaZNetTells2
namespace Go.Proofs.Ytccabdgfjcjpoaa.netTells
open Go.ChangeShapes Go.WideShapes Go.ChangeAt Go.RowKit Go.Proofs.Ytccabdgfjcjpoaa.X Go.Proofs.YtccabdgfjcjpoaaW.PrintWords
open Go.ChangeMaps (open_string shut_string)
set_option linter.unusedVariables false
theorem own : ownKnob Try.prog.godebug = none := by kernel_rfl
theorem laidOut : laidOutB Try.prog = true := by kernel_rfl
set_option maxRecDepth 100000 in
theorem lifted (os : Os) (started : os.Started) (H : Type) (enc : TypeId × Value → H) :
    ReturnsInHanded {} Try.checked os 9 .any (Rows.netTellsSpec.pre6 enc Try.prog Try.f9 Rows.netTellsRow.domain false) (Rows.netTellsSpec.post enc Try.prog Try.f9 false true false false) := by
  refine returnsInHanded_of_change_sized (C := Try.checked) own started (by kernel_rfl) Try.func9
    (ChangeSpec.witness6 (enc := enc) (C := Try.checked) false ⟨#[], #[.slice none 0 0, .agg #[.int .i64 0, .int .i64 0, .int .i64 0, .slice none 0 0], .int .i64 0, .int .i64 0, .slice none 0 0], []⟩ 8 (by kernel_rfl) (by kernel_rfl) (by kernel_rfl) (by kernel_rfl)) ?_
  intro W base args ds gs before hval0 hW hcnd hsz0 _
  have hsz : (DataW.weightsEach Try.prog (Try.f9.params.toList ++ Rows.netTellsSpec.plain.varTypes Try.prog) (ds ++ gs)).all (· ≤ reachBytes) = true := hsz0
  have hval : ∀ (j : Nat) t v, Try.f9.params[j]? = some t → args[j]? = some v → Value.okWide Try.prog W .any base t v := hval0
  have hW' := hW
  obtain ⟨p, q, hA0, hV, rfl, hfz, hnd⟩ := hW
  have hA : DataW.TrodAll enc Try.prog W 0 (fun _ => true) true Try.f9.params.toList args.toList ds p := hA0
  rw [Try.params9] at hA hval hsz
  obtain ⟨v0, vs0, d0, ds0, p0, q0, hargs, rfl, rfl, h0, r0⟩ := trodAll_cons hA
  obtain ⟨v1, vs1, d1, ds1, p1, q1, rfl, rfl, rfl, h1, r1⟩ := trodAll_cons r0
  obtain ⟨v2, vs2, d2, ds2, p2, q2, rfl, rfl, rfl, h2, r2⟩ := trodAll_cons r1
  obtain ⟨v3, vs3, d3, ds3, p3, q3, rfl, rfl, rfl, h3, r3⟩ := trodAll_cons r2
  obtain ⟨v4, vs4, d4, ds4, p4, q4, rfl, rfl, rfl, h4, r4⟩ := trodAll_cons r3
  obtain ⟨rfl, rfl, rfl⟩ := trodAll_nil r4
  obtain rfl : args = #[v0, v1, v2, v3, v4] := by cases args; simp_all
  obtain ⟨rfl, rfl⟩ := trodVars_none hV
  obtain ⟨a0, len0, cap0, rfl⟩ := okWide_slice Try.underlying53 (hval 0 53 v0 rfl rfl)
  have k0 := h0
  have lt0 : ∀ x ∈ p0, x.block < W.heap.size := by obtain ⟨m, hm⟩ := k0; exact DataW.trod_lt m _ _ _ hm
  obtain ⟨l0, rfl, hc0, hr0, w0, m0⟩ := OpensW.arg_slice (OpensW.slice Try.underlying53 (by kernel_rfl) OpensW.T56) hsz (j := 0) rfl rfl h0
  have z0 : l0.length * 48 ≤ 140737488351232 := Nat.le_trans (Nat.mul_le_mul_right _ hc0) (sized_any hsz (j := 0) (t := 53) rfl rfl Try.underlying53 (by kernel_rfl) h0)
  obtain ⟨cs1, rfl, hsz1⟩ := okWide_struct Try.underlying56 (hval 1 56 v1 rfl rfl)
  have k1 := h1
  have lt1 : ∀ x ∈ p1, x.block < W.heap.size := by obtain ⟨m, hm⟩ := k1; exact DataW.trod_lt m _ _ _ hm
  obtain ⟨x1, kk1, w1, m1⟩ : ∃ x, k56.K W x cs1.toList ∧ x.f3.length ≤ 140737488351232 ∧ True := by
    obtain ⟨fuel, hf⟩ := h1
    obtain ⟨x, q1, q2⟩ := OpensW.arg OpensW.T56 hsz (j := 1) rfl rfl hf
    exact ⟨x, by simpa [Value.cells] using q1, q2, trivial⟩
  obtain ⟨A1_3, c1_3, ee1, hc1_3, hr1_3⟩ := k56_open kk1
  obtain rfl : cs1 = #[.int .i64 x1.f0, .int .i64 x1.f1, .int .i64 x1.f2, .slice A1_3 x1.f3.length c1_3] := by
    apply Array.ext'
    simpa using ee1
  obtain ⟨a2, rfl, rfl, rfl, w2⟩ := open_int Try.underlying3 (hval 2 3 v2 rfl rfl) h2
  obtain ⟨a3, rfl, rfl, rfl, w3⟩ := open_int Try.underlying3 (hval 3 3 v3 rfl rfl) h3
  obtain ⟨a4, len4, cap4, rfl⟩ := okWide_slice Try.underlying57 (hval 4 57 v4 rfl rfl)
  have k4 := h4
  have lt4 : ∀ x ∈ p4, x.block < W.heap.size := by obtain ⟨m, hm⟩ := k4; exact DataW.trod_lt m _ _ _ hm
  obtain ⟨l4, rfl, hc4, hr4, w4, m4⟩ := OpensW.arg_slice (OpensW.slice Try.underlying57 (by kernel_rfl) OpensW.T54) hsz (j := 4) rfl rfl h4
  have z4 : l4.length * 24 ≤ 140737488351232 := Nat.le_trans (Nat.mul_le_mul_right _ hc4) (sized_any hsz (j := 4) (t := 57) rfl rfl Try.underlying57 (by kernel_rfl) h4)
  have hh := Pure.NetTells l0 x1 a2 a3 l4 w0 w1 w4
  clear hA0 hval0 hsz0 hsz
  refine (mootlaw24_NetTells.calls _ _ l0 x1.f0 x1.f1 x1.f2 _ _ x1.f3 a2 a3 _ _ l4 true W hr0 hc0 hr1_3 hc1_3 hr4 hc4 hh).mono ?_
  rintro e W' ⟨rfl, bel0⟩
  have bel : Below W.heap.size W W' := by first | exact bel0 | exact bel0.below
  exact ⟨_, rfl, _, _, _, [], _, [], hW', trodAll_mk1 (shut_bool Try.underlying4 _), (trodAll_cons_mk (Below.trod laidOut (by kernel_rfl) (of_decide_eq_true (by kernel_rfl)) k0 bel lt0) (trodAll_cons_mk (Below.trod laidOut (by kernel_rfl) (of_decide_eq_true (by kernel_rfl)) k1 bel lt1) (trodAll_cons_mk (shut_int Try.underlying3 w2) (trodAll_cons_mk (shut_int Try.underlying3 w3) (trodAll_cons_mk (Below.trod laidOut (by kernel_rfl) (of_decide_eq_true (by kernel_rfl)) k4 bel lt4) trodAll_mk0))))), rfl, bel.frame _, fun h => by cases h⟩
theorem over : Rows.netTellsRow.holds Try.pinned (OpenSpec.ofChange Rows.netTellsSpec) :=
  OpenClaim.holds_of_wide 9 Try.f9 rfl rfl rfl rfl rfl rfl rfl ⟨rfl, rfl, rfl, rfl, rfl⟩ rfl rfl rfl rfl rfl (by kernel_rfl) Try.func9 (by kernel_rfl)
    (of_decide_eq_true (by kernel_rfl)) (by unfold Func.isWrapper; first | (rw [if_pos (by decide +kernel)]; kernel_rfl) | (rw [if_neg (by decide +kernel)]; exact ⟨rfl, rfl⟩))
    (fun os started H enc _ => lifted os started H enc)
theorem proved : Rows.NetTellsSaid := over
#print axioms proved
end Go.Proofs.Ytccabdgfjcjpoaa.netTells
namespace Go.Proofs.Ytccabdgfjcjpoaa
/-- The row, under a short name, for the claim. -/
theorem netTells_holds : Rows.NetTellsSaid := netTells.proved
end Go.Proofs.Ytccabdgfjcjpoaa
