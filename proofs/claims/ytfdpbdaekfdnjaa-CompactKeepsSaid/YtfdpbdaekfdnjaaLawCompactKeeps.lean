/- The law CompactKeeps: whatever the input, the call returns true and each argument reads behind it as it read before. No condition. -/
-- MERGED FROM Derived.Test.YtfdpbdaekfdnjaaRows Derived.Test.YtfdpbdaekfdnjaaHLKeeps Derived.Test.YtfdpbdaekfdnjaaHOpensR Derived.Test.YtfdpbdaekfdnjaaPureCompactKeeps Derived.WalkKit Derived.ProofKit Derived.OpenShut Derived.ShutString Derived.ChangeOld Derived.Below Derived.SizedLaws Derived.JoinedCond
import Derived.Test.YtfdpbdaekfdnjaaRows
import Derived.WalkKit
import Derived.ProofKit
import Derived.OpenShut
import Derived.ShutString
import Derived.ChangeOld
import Derived.Below
import Derived.SizedLaws
import Derived.JoinedCond
import Derived.Test.YtfdpbdaekfdnjaaZFrm
import Derived.Test.YtfdpbdaekfdnjaaZKeep
import Derived.Test.YtfdpbdaekfdnjaaZCompactKeeps1
namespace Go.Proofs.Ytfdpbdaekfdnjaa.compactKeeps
open Go.ChangeShapes Go.WideShapes Go.ChangeAt Go.RowKit Go.Proofs.Ytfdpbdaekfdnjaa.X Go.Proofs.YtfdpbdaekfdnjaaW.PrintWords
open Go.ChangeMaps (open_string shut_string)
set_option linter.unusedVariables false
theorem own : ownKnob Try.prog.godebug = none := by kernel_rfl
theorem laidOut : laidOutB Try.prog = true := by kernel_rfl
set_option maxRecDepth 100000 in
theorem lifted (os : Os) (started : os.Started) (H : Type) (enc : TypeId × Value → H) :
    ReturnsInHanded {} Try.checked os 10 .any (Rows.compactKeepsSpec.pre6 enc Try.prog Try.f10 Rows.compactKeepsRow.domain false) (Rows.compactKeepsSpec.post enc Try.prog Try.f10 false true false false) := by
  refine returnsInHanded_of_change_sized (C := Try.checked) own started (by kernel_rfl) Try.func10
    (ChangeSpec.witness6 (enc := enc) (C := Try.checked) false ⟨#[], #[.slice none 0 0, .slice none 0 0], []⟩ 8 (by kernel_rfl) (by kernel_rfl) (by kernel_rfl) (by kernel_rfl)) ?_
  intro W base args ds gs before hval0 hW hcnd hsz0 _
  have hsz : (DataW.weightsEach Try.prog (Try.f10.params.toList ++ Rows.compactKeepsSpec.plain.varTypes Try.prog) (ds ++ gs)).all (· ≤ reachBytes) = true := hsz0
  have hval : ∀ (j : Nat) t v, Try.f10.params[j]? = some t → args[j]? = some v → Value.okWide Try.prog W .any base t v := hval0
  have hW' := hW
  obtain ⟨p, q, hA0, hV, rfl, hfz, hnd⟩ := hW
  have hA : DataW.TrodAll enc Try.prog W 0 (fun _ => true) true Try.f10.params.toList args.toList ds p := hA0
  rw [Try.params10] at hA hval hsz
  obtain ⟨v0, vs0, d0, ds0, p0, q0, hargs, rfl, rfl, h0, r0⟩ := trodAll_cons hA
  obtain ⟨v1, vs1, d1, ds1, p1, q1, rfl, rfl, rfl, h1, r1⟩ := trodAll_cons r0
  obtain ⟨rfl, rfl, rfl⟩ := trodAll_nil r1
  obtain rfl : args = #[v0, v1] := by cases args; simp_all
  obtain ⟨rfl, rfl⟩ := trodVars_none hV
  obtain ⟨a0, len0, cap0, rfl⟩ := okWide_slice Try.underlying33 (hval 0 33 v0 rfl rfl)
  have k0 := h0
  have lt0 : ∀ x ∈ p0, x.block < W.heap.size := by obtain ⟨m, hm⟩ := k0; exact DataW.trod_lt m _ _ _ hm
  obtain ⟨l0, rfl, hc0, hr0, w0, m0⟩ := OpensW.arg_slice (OpensW.slice Try.underlying33 (by kernel_rfl) OpensW.T22) hsz (j := 0) rfl rfl h0
  have z0 : l0.length * 24 ≤ 140737488351232 := Nat.le_trans (Nat.mul_le_mul_right _ hc0) (sized_any hsz (j := 0) (t := 33) rfl rfl Try.underlying33 (by kernel_rfl) h0)
  obtain ⟨a1, len1, cap1, rfl⟩ := okWide_slice Try.underlying22 (hval 1 22 v1 rfl rfl)
  have k1 := h1
  have lt1 : ∀ x ∈ p1, x.block < W.heap.size := by obtain ⟨m, hm⟩ := k1; exact DataW.trod_lt m _ _ _ hm
  obtain ⟨l1, rfl, hc1, hr1, w1, m1⟩ := Opens.arg_slice (Opens.slice Try.underlying22 (by kernel_rfl) (Opens.int Try.underlying5)) h1
  have z1 : l1.length * 1 ≤ 140737488351232 := Nat.le_trans (Nat.mul_le_mul_right _ hc1) (sized_any hsz (j := 1) (t := 22) rfl rfl Try.underlying22 (by kernel_rfl) h1)
  have hh := Pure.CompactKeeps l0 l1 w0 z0 w1 z1
  clear hA0 hval0 hsz0 hsz
  refine (mootlaw30_CompactKeeps.calls _ _ l0 _ _ l1 true W hr0 hc0 hr1 hc1 hh).mono ?_
  rintro e W' ⟨rfl, bel0⟩
  have bel : Below W.heap.size W W' := by first | exact bel0 | exact bel0.below
  exact ⟨_, rfl, _, _, _, [], _, [], hW', trodAll_mk1 (shut_bool Try.underlying4 _), (trodAll_cons_mk (Below.trod laidOut (by kernel_rfl) (of_decide_eq_true (by kernel_rfl)) k0 bel lt0) (trodAll_cons_mk (Below.trod laidOut (by kernel_rfl) (of_decide_eq_true (by kernel_rfl)) k1 bel lt1) trodAll_mk0)), rfl, bel.frame _, fun h => by cases h⟩
theorem over : Rows.compactKeepsRow.holds Try.pinned (OpenSpec.ofChange Rows.compactKeepsSpec) :=
  OpenClaim.holds_of_wide 10 Try.f10 rfl rfl rfl rfl rfl rfl rfl ⟨rfl, rfl, rfl, rfl, rfl⟩ rfl rfl rfl rfl rfl (by kernel_rfl) Try.func10 (by kernel_rfl)
    (of_decide_eq_true (by kernel_rfl)) (by unfold Func.isWrapper; first | (rw [if_pos (by decide +kernel)]; kernel_rfl) | (rw [if_neg (by decide +kernel)]; exact ⟨rfl, rfl⟩))
    (fun os started H enc _ => lifted os started H enc)
theorem proved : Rows.CompactKeepsSaid := over
#print axioms proved
end Go.Proofs.Ytfdpbdaekfdnjaa.compactKeeps
namespace Go.Proofs.Ytfdpbdaekfdnjaa
/-- The row, under a short name, for the claim. -/
theorem compactKeeps_holds : Rows.CompactKeepsSaid := compactKeeps.proved
end Go.Proofs.Ytfdpbdaekfdnjaa
