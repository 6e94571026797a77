/- slices.Grow of no slice: an empty row with room. -/
import Derived.Test.YtclmikbbjhdplaaHMake
import Derived.Test.YtclmikbbjhdplaaProg
import Derived.Test.YtclmikbbjhdplaaWLast
import Derived.Test.YtclmikbbjhdplaaWZeros
import Derived.Tactics2
import Derived.WalkKit
import Derived.Deep.DeepMust
namespace Go.Proofs.Ytclmikbbjhdplaa.X
open Go.RowKit Go.Proofs.YtclmikbbjhdplaaW.PrintWords Go.Proofs.YtclmikbbjhdplaaW.PrintLast
set_option linter.unusedVariables false
set_option linter.unusedSimpArgs false
theorem info5' : (Try.prog.info? 5).map (fun i => (i.zero, i.size, i.bytes)) = some (some (.int .u8 0), 1, 1) := by kernel_rfl

set_option maxRecDepth 100000 in
set_option maxHeartbeats 4000000 in
theorem grow_nil (n : Int) (h0 : 0 ≤ n) (hn : n.toNat ≤ 140737488355328) (w : World) :
    Calls Try.prog 63 #[.slice none 0 0, .int .i64 n] w fun e w' => ∃ v, e = .returned v ∧ Kd.R (Kd.int .u8) 5 w' w.heap.size (fun _ => True) v (List.replicate 0 0) ∧ Below w.heap.size w w' := by
  have hw : wrap64 (n - wrap64 (0 - 0)) = n := by unfold wrap64; omega
  by_cases hz : 0 < n
  · have c0 : decide (n < 0) = false := decide_eq_false (by omega)
    have c1 : decide (n > 0) = true := decide_eq_true hz
    go_enter Try.func63, Try.ntmps63
    go_wp2_with ((with_reducible refine gate_dst (N := 22) rfl ?_); go_must (refine Kd.R_append_zeros (Kd.int .u8) w.heap.size rfl _ _ 23 3 5 (.int .u8 0) 1 rfl Try.underlying23 Try.underlying3 info5' rfl (by decide) (by decide) (.slice none 0 0) ([] : List Int) 0 n (fun _ => True) rfl rfl rfl (fun _ _ => trivial) (Kd.R_nil _ _ _ _ _) h0 (Below.refl _ _) (Nat.le_refl _) (by simpa using hn) ?_; intro v1 w1 ho hb hg hat; obtain ⟨A, c, rfl⟩ := Kd.R_slice ho; obtain ⟨i0, hi0, _, hsz, _⟩ := info_parts info5'; have hcut := cut_to (P := Try.prog) 23 5 .i64 Try.underlying23 hi0 A _ c 0 (by omega) (Int.natCast_nonneg _) (Kd.R_reads' ho).2.1; have ht := Kd.R_take (m := 0) ho (Nat.zero_le _); clear ho))
    go_ret
    exact ⟨_, rfl, ht, hb⟩
  · obtain rfl : n = 0 := by omega
    go_enter Try.func63, Try.ntmps63
    go_wp2
    go_ret
    exact ⟨_, rfl, Kd.R_nil _ _ _ _ _, Below.refl _ _⟩
section
variable {ops : Array Oper} {rest : List Oper} {o : Oper} {a : Act} {Q : Exit → Act → World → Prop}
/-- slices.Grow of no slice, as one step of a walk. -/
theorem Kd.R_grow {w0 W : World} (d : Kd Int) (base e : Nat) (hgd : o.guard = none) {N : Tmp} (hd : o.dst = some N) (t : TypeId) (x y : Operand) (ho : o.op = .call { callee := .value (.func 63), args := #[x, y], argTypes := #[23, 3] }) (n : Int) (hx : a.eval x = .slice none 0 0) (hy : a.eval y = .int .i64 n)
    (ht : Try.prog.underlying t = some (.slice e)) (z : Value) (bytes : Nat) (hinfo : (Try.prog.info? e).map (fun i => (i.zero, i.size, i.bytes)) = some (some z, 1, bytes)) (hz : z.cells.size = 1) (hs0 : 0 < 1) (hb0 : 0 < bytes)
    (z0 : Int) {ok okp : Nat → Prop} (_hzero : 0 = 0) (hok : ∀ k, okp k → ok k) (hfresh : ok W.heap.size) (h0 : 0 ≤ n) (hl : n.toNat * bytes ≤ 140737488355328) (HB : Below base w0 W) (hbase : base ≤ W.heap.size)
    (h : ∀ v1 w1, (Kd.int .u8).R 5 w1 base (fun _ => True) v1 (List.replicate 0 0) → Below base w0 w1 → True → True → wpList Try.prog ops Q rest (a.put o.dst v1) w1) : wpList Try.prog ops Q (o :: rest) a W := by
  have hb1 : n.toNat ≤ 140737488355328 := Nat.le_trans (Nat.le_mul_of_pos_right _ hb0) hl
  refine goesL_ (some N) hd hgd (f := 63) Try.func63 (by kernel_rfl) rfl #[.slice none 0 0, .int .i64 n] ho (by simp [hx, hy]) ?_
  refine (grow_nil n h0 hb1 W).mono ?_
  rintro e w' ⟨v, rfl, hr, hb⟩
  refine ⟨_, rfl, ?_⟩
  rw [← hd]
  exact h _ _ (Kd.R_lower hr hbase) (below_then HB hbase hb) trivial trivial
end
end Go.Proofs.Ytclmikbbjhdplaa.X
