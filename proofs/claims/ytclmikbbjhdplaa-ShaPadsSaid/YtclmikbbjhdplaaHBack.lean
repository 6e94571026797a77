/- slices.Backward over octets: the iterator's contract, for a loop body that may write the octets. -/
import Derived.RangeFuncBox
import Derived.RangeFuncNested
import Derived.RangeFuncLeaves
import Derived.Shelf.Abstract
import Derived.WalkKit
import Derived.OwnWalkIn
import Derived.TacticsInMore
import Derived.LoopNIn
import Derived.LoopIn
import Derived.Lib.Hide
import Derived.Test.YtclmikbbjhdplaaX0
namespace Go.Proofs.Ytclmikbbjhdplaa.X
open Go.RowKit Go.Shelf Go.Proofs.YtclmikbbjhdplaaW.PrintWords Go.Proofs.YtclmikbbjhdplaaW.PrintLast Go.Proofs.YtclmikbbjhdplaaW.PrintMore
set_option linter.unusedVariables false
set_option linter.unusedSimpArgs false
attribute [local go_sem] Oper.semAt_some

/-- The octets of a row are octets still, and its value's box is as it was. -/
def KeepsBytes (Bs b len : Nat) (W W' : World) : Prop :=
  (∀ v, W.cell? ⟨Bs, 0, none⟩ = some v → W'.cell? ⟨Bs, 0, none⟩ = some v) ∧ ∀ j, j < len → (∃ v, W.cell? ⟨b, j, none⟩ = some (.int .u8 v)) → ∃ v, W'.cell? ⟨b, j, none⟩ = some (.int .u8 v)
theorem KeepsBytes.trans {Bs b len : Nat} {X Y Z : World} (h : KeepsBytes Bs b len X Y) (k : KeepsBytes Bs b len Y Z) : KeepsBytes Bs b len X Z :=
  ⟨fun v hv => k.1 v (h.1 v hv), fun j hj hv => k.2 j hj (h.2 j hj hv)⟩

theorem KeepsBytes.of_grown {Bs b len : Nat} {W W' : World} {row : Option Nat} (hg : W.grownBy W' row) (hr : ∀ r, row = some r → ∃ o : Obj, W.heap[r]? = some o ∧ o.isCells = false) : KeepsBytes Bs b len W W' :=
  ⟨fun v hv => cell_kept hv hg hr, fun j hj ⟨v, hv⟩ => ⟨v, cell_kept hv hg hr⟩⟩

/-- What has come when d are still to come. -/
def Came (len d : Nat) (ys : List {x : Nat × Int // x.1 < len}) : Prop := ys.length + d = len ∧ ys.map (fun y => y.1.1) = (List.range len).reverse.take (len - d)
theorem Came.step {len m : Nat} {ys : List {x : Nat × Int // x.1 < len}} (h : Came len (m + 1) ys) (v : Int) (hm : m < len) : Came len m (ys ++ [⟨(m, v), hm⟩]) := by
  obtain ⟨h1, h2⟩ := h
  refine ⟨by simp; omega, ?_⟩
  rw [List.map_append, h2, show len - m = (len - (m + 1)) + 1 by omega, List.take_succ_eq_append_getElem (by simp; omega)]
  congr 1
  simp only [List.map_cons, List.map_nil, List.getElem_reverse, List.length_range, List.getElem_range]
  congr 1
  omega

set_option maxRecDepth 100000 in
set_option maxHeartbeats 2000000 in
theorem back1_in (F : Fence) (n : Nat) (h62 : F.fn 62) (hro : F.round = none) (hn : 1 ≤ n) (l Bs b len cap : Nat) (hlen : len ≤ 1000000) (J Jx : List {x : Nat × Int // x.1 < len} → World → Prop)
    (hY : ∀ pre x W, J pre W → pre.length < len → YieldAt F (n - 1) Try.prog l #[.int .i64 (x.1.1 : Int), .int .u8 x.1.2] W fun e W' =>
      (e = .returned (.bool true) ∧ J (pre ++ [x]) W' ∧ KeepsBytes Bs b len W W') ∨ (e = .returned (.bool false) ∧ Jx (pre ++ [x]) W'))
    (W : World) (hBs : W.cell? ⟨Bs, 0, none⟩ = some (.slice (some ⟨b, 0, none⟩) len cap)) (hc : ∀ j, j < len → ∃ v, W.cell? ⟨b, j, none⟩ = some (.int .u8 v)) (h0 : J [] W) :
    CallsIn F n Try.prog 62 #[.func (.yield l) #[] #[], .pointer (some ⟨Bs, 0, none⟩)] W fun e W' => (∃ v, e = .returned v) ∧
      ((∃ ys : List {x : Nat × Int // x.1 < len}, Came len 0 ys ∧ J ys W') ∨ (∃ pre, True ∧ Jx pre W')) := by
  refine callsIn_of_wp Try.func62 rfl h62 ?_ hro
  simp only [Try.ntmps62, List.size_toArray, List.length_cons, List.length_nil, Nat.reduceAdd, Nat.reduceSub, Array.replicate_succ, Array.replicate_zero, List.push_toArray, List.append_toArray, List.nil_append, List.cons_append]
  gi_wp2
  gi_loopw [3] (fun i wr => ∃ (d : Nat) (ys : List {x : Nat × Int // x.1 < len}), d ≤ len ∧ i = .int .i64 ((d : Int) - 1) ∧ Came len d ys ∧ J ys wr ∧ KeepsBytes Bs b len W wr)
    (fun i _ => (intOf i + 1).toNat)
  case atStart => exact ⟨len, [], Nat.le_refl _, rfl, ⟨by simp, by simp⟩, h0, ⟨fun _ h => h, fun _ _ h => h⟩⟩
  case round =>
    obtain ⟨d, ys, hd, rfl, hys, hJs, hnx⟩ := hrel
    have hb1 := hnx.1 _ hBs
    rcases d with _ | m
    · gi_wp2
      go_end0
      exact ⟨⟨_, rfl⟩, .inl ⟨_, hys, hJs⟩⟩
    · have hml : m < len := hd
      obtain ⟨v, hv⟩ := hnx.2 m hml (hc _ hml)
      obtain ⟨fn, tmps, assign, body, hy, hR⟩ := hY ys ⟨(m, v), hml⟩ wr hJs (by have := hys.1; omega)
      dsimp only at hy
      rw [show (((m + 1 : Nat) : Int) - 1) = (m : Int) by omega]
      gi_wp2
      refine hR.mono ?_
      rintro e W3 (⟨rfl, hJ3, hk3⟩ | ⟨rfl, hJx3⟩)
      · gi_wp2
        go_roundw
        case rel => exact ⟨m, _, by omega, rfl, hys.step v hml, hJ3, hnx.trans hk3⟩
        case measure => simp [intOf]
      · gi_wp2
        refine bodyPost_ret (results_none rfl _ _ _) rfl ?_
        exact ⟨⟨_, rfl⟩, .inr ⟨_, trivial, hJx3⟩⟩
end Go.Proofs.Ytclmikbbjhdplaa.X
