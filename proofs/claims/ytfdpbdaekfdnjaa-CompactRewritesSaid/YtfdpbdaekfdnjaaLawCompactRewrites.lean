/- The law CompactRewrites: whatever the input, the call returns true and each argument reads behind it as it read before. No condition. -/
-- MERGED FROM Derived.Test.YtfdpbdaekfdnjaaRows Derived.Test.YtfdpbdaekfdnjaaHLRewrites Derived.Test.YtfdpbdaekfdnjaaHOpensR Derived.Test.YtfdpbdaekfdnjaaPureCompactRewrites Derived.WalkKit Derived.ProofKit Derived.OpenShut Derived.ShutString Derived.ChangeOld Derived.Below Derived.SizedLaws Derived.JoinedCond
import Derived.Test.YtfdpbdaekfdnjaaRows
import Derived.WalkKit
import Derived.ProofKit
import Derived.OpenShut
import Derived.ShutString
import Derived.ChangeOld
import Derived.Below
import Derived.SizedLaws
import Derived.JoinedCond
import Derived.Test.YtfdpbdaekfdnjaaZFrm
import Derived.Test.YtfdpbdaekfdnjaaZKeep
import Derived.Test.YtfdpbdaekfdnjaaZCompactRewrites1
namespace Go.Proofs.Ytfdpbdaekfdnjaa.compactRewrites
open Go.ChangeShapes Go.WideShapes Go.ChangeAt Go.RowKit Go.Proofs.Ytfdpbdaekfdnjaa.X Go.Proofs.YtfdpbdaekfdnjaaW.PrintWords
open Go.ChangeMaps (open_string shut_string)
set_option linter.unusedVariables false
theorem own : ownKnob Try.prog.godebug = none := by kernel_rfl
theorem laidOut : laidOutB Try.prog = true := by kernel_rfl
set_option maxRecDepth 100000 in
theorem lifted (os : Os) (started : os.Started) (H : Type) (enc : TypeId × Value → H) :
    ReturnsInHanded {} Try.checked os 5 .any (Rows.compactRewritesSpec.pre6 enc Try.prog Try.f5 Rows.compactRewritesRow.domain false) (Rows.compactRewritesSpec.post enc Try.prog Try.f5 false true false false) := by
  refine returnsInHanded_of_change_sized (C := Try.checked) own started (by kernel_rfl) Try.func5
    (ChangeSpec.witness6 (enc := enc) (C := Try.checked) false ⟨#[], #[.slice none 0 0, .int .i64 0], []⟩ 8 (by kernel_rfl) (by kernel_rfl) (by kernel_rfl) (by kernel_rfl)) ?_
  intro W base args ds gs before hval0 hW hcnd hsz0 _
  have hsz : (DataW.weightsEach Try.prog (Try.f5.params.toList ++ Rows.compactRewritesSpec.plain.varTypes Try.prog) (ds ++ gs)).all (· ≤ reachBytes) = true := hsz0
  have hval : ∀ (j : Nat) t v, Try.f5.params[j]? = some t → args[j]? = some v → Value.okWide Try.prog W .any base t v := hval0
  have hW' := hW
  obtain ⟨p, q, hA0, hV, rfl, hfz, hnd⟩ := hW
  have hA : DataW.TrodAll enc Try.prog W 0 (fun _ => true) true Try.f5.params.toList args.toList ds p := hA0
  rw [Try.params5] at hA hval hsz
  obtain ⟨v0, vs0, d0, ds0, p0, q0, hargs, rfl, rfl, h0, r0⟩ := trodAll_cons hA
  obtain ⟨v1, vs1, d1, ds1, p1, q1, rfl, rfl, rfl, h1, r1⟩ := trodAll_cons r0
  obtain ⟨rfl, rfl, rfl⟩ := trodAll_nil r1
  obtain rfl : args = #[v0, v1] := by cases args; simp_all
  obtain ⟨rfl, rfl⟩ := trodVars_none hV
  obtain ⟨a0, len0, cap0, rfl⟩ := okWide_slice Try.underlying33 (hval 0 33 v0 rfl rfl)
  have k0 := h0
  have lt0 : ∀ x ∈ p0, x.block < W.heap.size := by obtain ⟨m, hm⟩ := k0; exact DataW.trod_lt m _ _ _ hm
  obtain ⟨l0, rfl, hc0, hr0, w0, m0⟩ := OpensW.arg_slice (OpensW.slice Try.underlying33 (by kernel_rfl) OpensW.T22) hsz (j := 0) rfl rfl h0
  have z0 : l0.length * 24 ≤ 140737488351232 := Nat.le_trans (Nat.mul_le_mul_right _ hc0) (sized_any hsz (j := 0) (t := 33) rfl rfl Try.underlying33 (by kernel_rfl) h0)
  obtain ⟨a1, rfl, rfl, rfl, w1⟩ := open_int Try.underlying3 (hval 1 3 v1 rfl rfl) h1
  have hh := Pure.CompactRewrites l0 a1 w0 z0 w1
  clear hA0 hval0 hsz0 hsz
  refine (mootlaw30_CompactRewrites.calls _ _ l0 a1 true W hr0 hc0 hh).mono ?_
  rintro e W' ⟨rfl, bel0⟩
  have bel : Below W.heap.size W W' := by first | exact bel0 | exact bel0.below
  exact ⟨_, rfl, _, _, _, [], _, [], hW', trodAll_mk1 (shut_bool Try.underlying4 _), (trodAll_cons_mk (Below.trod laidOut (by kernel_rfl) (of_decide_eq_true (by kernel_rfl)) k0 bel lt0) (trodAll_cons_mk (shut_int Try.underlying3 w1) trodAll_mk0)), rfl, bel.frame _, fun h => by cases h⟩
theorem over : Rows.compactRewritesRow.holds Try.pinned (OpenSpec.ofChange Rows.compactRewritesSpec) :=
  OpenClaim.holds_of_wide 5 Try.f5 rfl rfl rfl rfl rfl rfl rfl ⟨rfl, rfl, rfl, rfl, rfl⟩ rfl rfl rfl rfl rfl (by kernel_rfl) Try.func5 (by kernel_rfl)
    (of_decide_eq_true (by kernel_rfl)) (by unfold Func.isWrapper; first | (rw [if_pos (by decide +kernel)]; kernel_rfl) | (rw [if_neg (by decide +kernel)]; exact ⟨rfl, rfl⟩))
    (fun os started H enc _ => lifted os started H enc)
theorem proved : Rows.CompactRewritesSaid := over
#print axioms proved
end Go.Proofs.Ytfdpbdaekfdnjaa.compactRewrites
namespace Go.Proofs.Ytfdpbdaekfdnjaa
/-- The row, under a short name, for the claim. -/
theorem compactRewrites_holds : Rows.CompactRewritesSaid := compactRewrites.proved
end Go.Proofs.Ytfdpbdaekfdnjaa
