/- Texts of this session joined into one: HMake, HGrow, X0, XF54, XF42, HBack, HPut, XF30, HArr, HCloneB, HDisk, HDiskW, HDiskA, HConv, HDS, HFrame, HDead, HWrite, HWriteG, XF57, QGet, HFrames, HScan, QScan, HLists, HLParts, HRecover. -/
import Derived.Test.YtfdpbdaekfdnjaaWWords
import Derived.Test.YtfdpbdaekfdnjaaProg
import Derived.Test.YtfdpbdaekfdnjaaWLast
import Derived.Test.YtfdpbdaekfdnjaaWZeros
import Derived.Tactics2
import Derived.WalkKit
import Derived.Deep.DeepMust
import Derived.Below
import Derived.Deep.Draws
import Derived.Deep.AppendLies
import Derived.Maps.AppendAt
import Derived.OwnWalk
import Derived.Laws.BytesArg
import Derived.Laws.MakeOwn
import Derived.Laws.OwnMore
import Derived.Deep.OwnRows
import Derived.Tactics
import Derived.Lib.ConvBytes
import Derived.Laws.Slices
import Derived.KernelRfl
import Derived.RowKit3
import Derived.Deep.LoopGhost
import Derived.Deep.QuietTactic
import Derived.BigQuiet
import Derived.WideLaws
import Derived.Deep.DeepCutAuto
import Derived.Deep.CutBlock
import Derived.Deep.RegionHeld3
import Derived.Laws.Rows
import Derived.Lib.AppendStr
import Derived.ArgAppend
import Derived.Laws.IdiomCopy
import Derived.OrdersHeld
import Derived.Laws.BitsLemmas
import Derived.RowKit
import Derived.Test.YtfdpbdaekfdnjaaWTab
import Derived.Test.YtfdpbdaekfdnjaaWFour
import Derived.Test.YtfdpbdaekfdnjaaWQPut
import Derived.Test.YtfdpbdaekfdnjaaWApart
import Derived.Test.YtfdpbdaekfdnjaaWArr
import Derived.Test.YtfdpbdaekfdnjaaWFoot
import Derived.Test.YtfdpbdaekfdnjaaWKept
import Derived.Test.YtfdpbdaekfdnjaaWShare
import Derived.Test.YtfdpbdaekfdnjaaWN
import Derived.Test.YtfdpbdaekfdnjaaWFootNe
import Derived.Test.YtfdpbdaekfdnjaaWAt
import Derived.Test.YtfdpbdaekfdnjaaWEqStruct
import Derived.Test.YtfdpbdaekfdnjaaWRepsOne
import Derived.Test.YtfdpbdaekfdnjaaWInv
import Derived.Test.YtfdpbdaekfdnjaaWInvWords
import Derived.Test.YtfdpbdaekfdnjaaWGuard
import Derived.Test.YtfdpbdaekfdnjaaWNEv
import Derived.Test.YtfdpbdaekfdnjaaWMore
import Derived.RangeFuncBox
import Derived.RangeFuncNested
import Derived.RangeFuncLeaves
import Derived.Shelf.Abstract
import Derived.OwnWalkIn
import Derived.TacticsInMore
import Derived.LoopNIn
import Derived.LoopIn
import Derived.Lib.Hide
import Derived.Deep.MidRow
import Derived.Deep.WholeRow
import Derived.WalkSpells
import Derived.Lib.SliceRun
import Derived.StillTailTactics
import Derived.Deep.Cut
import Derived.OpenShut
/- A row of a capacity of its own, made empty. -/
namespace Go.Proofs.Ytfdpbdaekfdnjaa.X
open Go.RowKit Go.Proofs.YtfdpbdaekfdnjaaW.PrintWords
set_option linter.unusedVariables false
section
variable {P : Program} {ops : Array Oper} {rest : List Oper} {o : Oper} {a : Act} {Q : Exit → Act → World → Prop}
/-- make([]T, 0, n): no element, room for n. -/
theorem Kd.R_makecap {w0 W : World} (d : Kd Int) (base e : Nat) (hgd : o.guard = none) {N : Tmp} (hd : o.dst = some N) (t : TypeId) (x y : Operand) (ho : o.op = .makeSlice t x y) (n : Int) (hx : a.eval x = .int .i64 0) (hy : a.eval y = .int .i64 n)
    (ht : P.underlying t = some (.slice e)) (z : Value) (bytes : Nat) (hinfo : (P.info? e).map (fun i => (i.zero, i.size, i.bytes)) = some (some z, 1, bytes)) (hz : z.cells.size = 1) (_hs0 : 0 < 1) (hb0 : 0 < bytes)
    (z0 : Int) {ok okp : Nat → Prop} (_hzero : 0 = 0) (hok : ∀ k, okp k → ok k) (hfresh : ok W.heap.size) (h0 : 0 ≤ n) (hl : n.toNat * bytes ≤ 281474976710656) (HB : Below base w0 W) (hbase : base ≤ W.heap.size)
    (h : ∀ v1 w1, (Kd.int .u8).R e w1 base ok v1 (List.replicate 0 z0) → Below base w0 w1 → W.grownBy w1 none → (∃ b, v1.ownBlock = some b ∧ W.heap.size ≤ b) → wpList P ops Q rest (a.put o.dst v1) w1) : wpList P ops Q (o :: rest) a W := by
  obtain ⟨m, rfl⟩ := Int.eq_ofNat_of_zero_le h0
  simp only [Int.toNat_natCast] at hl
  obtain ⟨i0, hi, hzz⟩ := Option.map_eq_some_iff.1 hinfo
  simp only [Prod.mk.injEq] at hzz
  obtain ⟨hz0, hz1, hz2⟩ := hzz
  have hm : m ≤ 281474976710656 := Nat.le_trans (Nat.le_mul_of_pos_right _ hb0) hl
  have hr := run_make (P := P) W t e i0 z ht hi hz0 .i64 .i64 0 (m : Int) (by omega) (by omega)
    (by
      have h3 : ((i0.bytes * m : Nat) : Int) ≤ 281474976710656 := by rw [hz2, Nat.mul_comm]; omega
      rwa [Int.natCast_mul] at h3) (by omega)
  simp only [Int.toNat_natCast, Int.toNat_zero] at hr
  rw [hz1, Nat.mul_one] at hr
  refine Kd.event_run hgd (v := .slice (some ⟨W.heap.size, 0, none⟩) 0 m) (w1 := W.alloc (.cells (madeCells z.cells m) e)) (by simp [execOp, ho, hx, hy, hr]) (h _ _ (Kd.R_of_own (enc := Value.int .u8) ⟨by simp [encs], .inr ⟨W.heap.size, m, madeCells z.cells m, rfl, hbase, blk_new _ _, Nat.zero_le _, by simp only [maxLen]; omega, by simp [madeCells], by simp [encs]⟩⟩ (fun k hk => ?_)) (HB.alloc hbase _) (World.grownBy_alloc W _ none) ⟨W.heap.size, by simp [Value.ownBlock], Nat.le_refl _⟩)
  have : W.heap.size = k := by simpa [Value.ownBlock] using hk
  subst this
  exact hfresh
end
end Go.Proofs.Ytfdpbdaekfdnjaa.X
/- slices.Grow of no slice: an empty row with room. -/
namespace Go.Proofs.Ytfdpbdaekfdnjaa.X
open Go.RowKit Go.Proofs.YtfdpbdaekfdnjaaW.PrintWords Go.Proofs.YtfdpbdaekfdnjaaW.PrintLast
set_option linter.unusedVariables false
set_option linter.unusedSimpArgs false
theorem info5' : (Try.prog.info? 5).map (fun i => (i.zero, i.size, i.bytes)) = some (some (.int .u8 0), 1, 1) := by kernel_rfl

set_option maxRecDepth 100000 in
set_option maxHeartbeats 4000000 in
theorem grow_nil (n : Int) (h0 : 0 ≤ n) (hn : n.toNat ≤ 140737488355328) (w : World) :
    Calls Try.prog 65 #[.slice none 0 0, .int .i64 n] w fun e w' => ∃ v, e = .returned v ∧ Kd.R (Kd.int .u8) 5 w' w.heap.size (fun _ => True) v (List.replicate 0 0) ∧ Below w.heap.size w w' := by
  have hw : wrap64 (n - wrap64 (0 - 0)) = n := by unfold wrap64; omega
  by_cases hz : 0 < n
  · have c0 : decide (n < 0) = false := decide_eq_false (by omega)
    have c1 : decide (n > 0) = true := decide_eq_true hz
    go_enter Try.func65, Try.ntmps65
    go_wp2_with ((with_reducible refine gate_dst (N := 22) rfl ?_); go_must (refine Kd.R_append_zeros (Kd.int .u8) w.heap.size rfl _ _ 22 3 5 (.int .u8 0) 1 rfl Try.underlying22 Try.underlying3 info5' rfl (by decide) (by decide) (.slice none 0 0) ([] : List Int) 0 n (fun _ => True) rfl rfl rfl (fun _ _ => trivial) (Kd.R_nil _ _ _ _ _) h0 (Below.refl _ _) (Nat.le_refl _) (by simpa using hn) ?_; intro v1 w1 ho hb hg hat; obtain ⟨A, c, rfl⟩ := Kd.R_slice ho; obtain ⟨i0, hi0, _, hsz, _⟩ := info_parts info5'; have hcut := cut_to (P := Try.prog) 22 5 .i64 Try.underlying22 hi0 A _ c 0 (by omega) (Int.natCast_nonneg _) (Kd.R_reads' ho).2.1; have ht := Kd.R_take (m := 0) ho (Nat.zero_le _); clear ho))
    go_ret
    exact ⟨_, rfl, ht, hb⟩
  · obtain rfl : n = 0 := by omega
    go_enter Try.func65, Try.ntmps65
    go_wp2
    go_ret
    exact ⟨_, rfl, Kd.R_nil _ _ _ _ _, Below.refl _ _⟩
section
variable {ops : Array Oper} {rest : List Oper} {o : Oper} {a : Act} {Q : Exit → Act → World → Prop}
/-- slices.Grow of no slice, as one step of a walk. -/
theorem Kd.R_grow {w0 W : World} (d : Kd Int) (base e : Nat) (hgd : o.guard = none) {N : Tmp} (hd : o.dst = some N) (t : TypeId) (x y : Operand) (ho : o.op = .call { callee := .value (.func 65), args := #[x, y], argTypes := #[22, 3] }) (n : Int) (hx : a.eval x = .slice none 0 0) (hy : a.eval y = .int .i64 n)
    (ht : Try.prog.underlying t = some (.slice e)) (z : Value) (bytes : Nat) (hinfo : (Try.prog.info? e).map (fun i => (i.zero, i.size, i.bytes)) = some (some z, 1, bytes)) (hz : z.cells.size = 1) (hs0 : 0 < 1) (hb0 : 0 < bytes)
    (z0 : Int) {ok okp : Nat → Prop} (_hzero : 0 = 0) (hok : ∀ k, okp k → ok k) (hfresh : ok W.heap.size) (h0 : 0 ≤ n) (hl : n.toNat * bytes ≤ 140737488355328) (HB : Below base w0 W) (hbase : base ≤ W.heap.size)
    (h : ∀ v1 w1, (Kd.int .u8).R 5 w1 base (fun _ => True) v1 (List.replicate 0 0) → Below base w0 w1 → True → True → wpList Try.prog ops Q rest (a.put o.dst v1) w1) : wpList Try.prog ops Q (o :: rest) a W := by
  have hb1 : n.toNat ≤ 140737488355328 := Nat.le_trans (Nat.le_mul_of_pos_right _ hb0) hl
  refine goesL_ (some N) hd hgd (f := 65) Try.func65 (by kernel_rfl) rfl #[.slice none 0 0, .int .i64 n] ho (by simp [hx, hy]) ?_
  refine (grow_nil n h0 hb1 W).mono ?_
  rintro e w' ⟨v, rfl, hr, hb⟩
  refine ⟨_, rfl, ?_⟩
  rw [← hd]
  exact h _ _ (Kd.R_lower hr hbase) (below_then HB hbase hb) trivial trivial
end
end Go.Proofs.Ytfdpbdaekfdnjaa.X
-- Written by a program of this session (a turn of the kit's print with contracts by hand). Not trusted: Lean checks it.
namespace Go.Proofs.Ytfdpbdaekfdnjaa.X
open Go.RowKit Go.Proofs.YtfdpbdaekfdnjaaW.PrintWords Go.Proofs.YtfdpbdaekfdnjaaW.PrintLast Go.Proofs.YtfdpbdaekfdnjaaW.PrintMore
attribute [local go_sem] max2_int min2_int max_two min_two max_three min_three max_four min_four   -- for this text's walks alone
set_option linter.unusedVariables false
set_option linter.unusedSimpArgs false



def errW : Option Int → Value
  | none => .nilIface
  | some c => .iface 0 (.int .i64 c)
theorem errW_none : errW none = .nilIface := rfl
theorem errW_some (c : Int) : errW (some c) = .iface 0 (.int .i64 c) := rfl

theorem info5 : (Try.prog.info? 5).map (fun i => (i.zero, i.size, i.bytes)) = some (some (.int .u8 0), 1, 1) := by kernel_rfl
theorem info22 : (Try.prog.info? 22).map (fun i => (i.zero, i.size, i.bytes)) = some (some (.slice none 0 0), 1, 24) := by kernel_rfl
-- the values' own types
def rd_L1 (xs : List (List Int)) (i : Int) : (List Int) := xs.getD i.toNat ([] : List Int)
theorem at_L1 {w : World} {A : Option Addr} {n : Nat} {xs : List (List Int)} (h : Kd.C (Kd.slice 5 (Kd.int .u8)) w A n xs) (i : Int) (h0 : 0 ≤ i) (h1 : i < n) : ∃ ad A0 c0, A = some ad ∧ w.cell? (ad.add i.toNat) = some (.slice A0 (rd_L1 xs i).length c0) ∧ (rd_L1 xs i).length ≤ c0 ∧ (Kd.int .u8).C w A0 (rd_L1 xs i).length (rd_L1 xs i) := by
  obtain ⟨ad, c, e, _, hK, hc0⟩ := Kd.C_get h ([] : List Int) i h0 h1
  have hc : ∀ j u, c[j]? = some u → w.cell? (ad.add (i.toNat * 1 + j)) = some u := hc0
  obtain ⟨A0, c0, rfl, l0, g0⟩ := hK
  exact ⟨ad, A0, c0, e, by have hq := hc 0 _ rfl; rwa [Nat.mul_one, Nat.add_zero] at hq, l0, g0⟩

def rd_L3 (xs : List (List (List Int))) (i : Int) : (List (List Int)) := xs.getD i.toNat ([] : List (List Int))
theorem at_L3 {w : World} {A : Option Addr} {n : Nat} {xs : List (List (List Int))} (h : Kd.C (Kd.slice 22 (Kd.slice 5 (Kd.int .u8))) w A n xs) (i : Int) (h0 : 0 ≤ i) (h1 : i < n) : ∃ ad A0 c0, A = some ad ∧ w.cell? (ad.add i.toNat) = some (.slice A0 (rd_L3 xs i).length c0) ∧ (rd_L3 xs i).length ≤ c0 ∧ (Kd.slice 5 (Kd.int .u8)).C w A0 (rd_L3 xs i).length (rd_L3 xs i) := by
  obtain ⟨ad, c, e, _, hK, hc0⟩ := Kd.C_get h ([] : List (List Int)) i h0 h1
  have hc : ∀ j u, c[j]? = some u → w.cell? (ad.add (i.toNat * 1 + j)) = some u := hc0
  obtain ⟨A0, c0, rfl, l0, g0⟩ := hK
  exact ⟨ad, A0, c0, e, by have hq := hc 0 _ rfl; rwa [Nat.mul_one, Nat.add_zero] at hq, l0, g0⟩

end Go.Proofs.Ytfdpbdaekfdnjaa.X
-- Written by a program of this session (a turn of the kit's print with contracts by hand). Not trusted: Lean checks it.
namespace Go.Proofs.Ytfdpbdaekfdnjaa.X
open Go.RowKit Go.Proofs.YtfdpbdaekfdnjaaW.PrintWords Go.Proofs.YtfdpbdaekfdnjaaW.PrintLast Go.Proofs.YtfdpbdaekfdnjaaW.PrintMore
attribute [local go_sem] max2_int min2_int max_two min_two max_three min_three max_four min_four   -- for this text's walks alone
set_option linter.unusedVariables false
set_option linter.unusedSimpArgs false

/-! ### slices_Concat_byte_byte: function 54 -/
mutual
def slices_Concat_byte_byte.l0 : Nat → List (List Int) → Int → List (List Int) → Int → Int → Option (List Int)
  | 0, _, _, _, _, _ => none
  | k + 1, x0, x3, x9, x10, x11 => if x11 < x10 then (if 0 ≤ x11 then (if x11 < (x9.length : Int) then (if (wrap64 (x3 + ((rd_L1 x9 x11).length : Int))) < 0 then (none) else (slices_Concat_byte_byte.l0 k x0 (wrap64 (x3 + ((rd_L1 x9 x11).length : Int))) x9 x10 (wrap64 (x11 + 1)))) else (none)) else (none)) else (if 0 ≤ x3 then (if (x3 : Int).toNat ≤ 140737488355328 then (slices_Concat_byte_byte.l1 k ((List.replicate 0 0)) x0 (x0.length : Int) 0) else (none)) else (none))
def slices_Concat_byte_byte.l1 : Nat → List Int → List (List Int) → Int → Int → Option (List Int)
  | 0, _, _, _, _ => none
  | k + 1, x6, x25, x26, x27 => if x27 < x26 then (if 0 ≤ x27 then (if x27 < (x25.length : Int) then (if x6.length + (rd_L1 x25 x27).length < 140737488355328 then (slices_Concat_byte_byte.l1 k (x6 ++ (rd_L1 x25 x27)) x25 x26 (wrap64 (x27 + 1))) else (none)) else (none)) else (none)) else (some x6)
end
def slices_Concat_byte_byte.f (k : Nat) (l0 : List (List Int)) : Option (List Int) := slices_Concat_byte_byte.l0 k l0 0 l0 (l0.length : Int) 0
theorem slices_Concat_byte_byte.mono_l : ∀ k, (∀ y0 y1 y2 y3 y4, LeO (slices_Concat_byte_byte.l0 k y0 y1 y2 y3 y4) (slices_Concat_byte_byte.l0 (k + 1) y0 y1 y2 y3 y4)) ∧ (∀ y0 y1 y2 y3, LeO (slices_Concat_byte_byte.l1 k y0 y1 y2 y3) (slices_Concat_byte_byte.l1 (k + 1) y0 y1 y2 y3))
  | 0 => ⟨fun _ _ _ _ _ r h => by simp [slices_Concat_byte_byte.l0] at h, fun _ _ _ _ r h => by simp [slices_Concat_byte_byte.l1] at h⟩
  | k + 1 => by
    obtain ⟨ih0, ih1⟩ := slices_Concat_byte_byte.mono_l k
    refine ⟨?_, ?_⟩
    · intro y0 y1 y2 y3 y4
      unfold slices_Concat_byte_byte.l0
      repeat' first
      | (with_reducible exact ih0 _ _ _ _ _)
      | (with_reducible exact ih1 _ _ _ _)
      | (with_reducible exact LeO.refl _)
      | (with_reducible exact LeO.none _)
      | (with_reducible refine LeO.ite ?_ ?_)
      | (with_reducible refine LeO.bind ?_ (fun _ => ?_))
      | exact ih0 _ _ _ _ _
      | exact ih1 _ _ _ _
      | exact LeO.none _
      | refine LeO.ite ?_ ?_
      | refine LeO.bind ?_ (fun _ => ?_)
    · intro y0 y1 y2 y3
      unfold slices_Concat_byte_byte.l1
      repeat' first
      | (with_reducible exact ih0 _ _ _ _ _)
      | (with_reducible exact ih1 _ _ _ _)
      | (with_reducible exact LeO.refl _)
      | (with_reducible exact LeO.none _)
      | (with_reducible refine LeO.ite ?_ ?_)
      | (with_reducible refine LeO.bind ?_ (fun _ => ?_))
      | exact ih0 _ _ _ _ _
      | exact ih1 _ _ _ _
      | exact LeO.none _
      | refine LeO.ite ?_ ?_
      | refine LeO.bind ?_ (fun _ => ?_)
theorem slices_Concat_byte_byte.mono : ∀ a0 k, LeO (slices_Concat_byte_byte.f k a0) (slices_Concat_byte_byte.f (k + 1) a0) := by
  intro a0 k
  obtain ⟨ih0, ih1⟩ := slices_Concat_byte_byte.mono_l k
  unfold slices_Concat_byte_byte.f
  repeat' first
      | (with_reducible exact ih0 _ _ _ _ _)
      | (with_reducible exact ih1 _ _ _ _)
      | (with_reducible exact LeO.refl _)
      | (with_reducible exact LeO.none _)
      | (with_reducible refine LeO.ite ?_ ?_)
      | (with_reducible refine LeO.bind ?_ (fun _ => ?_))
      | exact ih0 _ _ _ _ _
      | exact ih1 _ _ _ _
      | exact LeO.none _
      | refine LeO.ite ?_ ?_
      | refine LeO.bind ?_ (fun _ => ?_)
set_option maxHeartbeats 8000000 in
set_option maxRecDepth 100000 in
theorem slices_Concat_byte_byte.calls (k : Nat) (A0 : Option Addr) (c0 : Nat) (l0 : List (List Int)) (r : List Int) (w : World) (hr0 : Kd.C (Kd.slice 5 (Kd.int .u8)) w A0 l0.length l0) (hc0 : l0.length ≤ c0) (h : slices_Concat_byte_byte.f k l0 = some r) :
    Calls Try.prog 54 #[.slice A0 l0.length c0] w fun e w' => ∃ v0_ : Value, e = .returned (v0_) ∧ Kd.R (Kd.int .u8) 5 w' w.heap.size (fun _ => True) v0_ r ∧ Below w.heap.size w w' := by
  have HR0 := Aside0.mk hr0
  have HC0 := Aside0.mk hc0
  clear hr0 hc0
  have HB := Aside0.mk (Below.refl w.heap.size w)
  have H : (slices_Concat_byte_byte.l0 k l0 0 l0 (l0.length : Int) 0) = some r := h
  clear h
  have H' := Aside0.mk H
  clear H
  go_enter Try.func54, Try.ntmps54
  go_wp2
  go_loopg [3, 11] k (fun kq v3 v11 w' => ∃ (x3_1 : Int) (x11_1 : Int), v3 = .int .i64 x3_1 ∧ v11 = .int .i64 x11_1 ∧ Aside0 (slices_Concat_byte_byte.l0 kq l0 x3_1 l0 (l0.length : Int) x11_1 = some r) ∧ Aside0 (kq ≤ k) ∧ Aside0 (Below w.heap.size w w'))
  case atStart => exact ⟨(0), (0), (by first | rfl | (simp; done) | (simp [*]; done)), (by first | rfl | (simp; done) | (simp [*]; done)), H', ⟨Nat.le_refl _⟩, ⟨by repeat (first | (with_reducible first | exact HB.out | apply below_alloc | apply pw_below_drewN | apply below_drew1) | exact HB.out)⟩⟩
  case round =>
    clear H'
    obtain ⟨x3_1, x11_1, rfl, rfl, HA, HK1, HB⟩ := hrel
    cases gk with
    | zero => exact absurd HA.out (by simp [slices_Concat_byte_byte.l0])
    | succ k1 =>
      have H := HA.out
      clear HA
      simp only [slices_Concat_byte_byte.l0] at H
      by_cases c2 : x11_1 < (l0.length : Int)
      · rw [if_pos c2] at H
        have c2b0 : decide (x11_1 < (l0.length : Int)) = true := decide_eq_true c2
        clear c2
        by_cases c3 : 0 ≤ x11_1
        · rw [if_pos c3] at H
          have c3b0 : decide (0 ≤ x11_1) = true := decide_eq_true c3
          clear c3
          by_cases c4 : x11_1 < (l0.length : Int)
          · rw [if_pos c4] at H
            have c4b0 : decide (x11_1 < (l0.length : Int)) = true := decide_eq_true c4
            clear c4
            by_cases c5 : (wrap64 (x3_1 + ((rd_L1 l0 x11_1).length : Int))) < 0
            · rw [if_pos c5] at H
              exact absurd H (by simp)
            · rw [if_neg c5] at H
              have c5b0 : decide ((wrap64 (x3_1 + ((rd_L1 l0 x11_1).length : Int))) < 0) = false := decide_eq_false c5
              clear c5
              have H' := Aside0.mk H
              clear H
              have p113 : 0 ≤ (x11_1 : Int) := of_decide_eq_true (by first | (with_reducible assumption) | assumption)
              have q113 : x11_1 < (l0.length : Int) := of_decide_eq_true (by first | (with_reducible assumption) | assumption)
              obtain ⟨ad113, A113_0, c113_0, e113, hx113_0, hl113_0, hi113_0⟩ := at_L1 HR0.out x11_1 p113 q113
              cases e113
              replace hx113_0 := (HB.out.cell (World.block_lt_of_cell? w _ hx113_0)).trans hx113_0
              have HR113_0 := Aside0.mk hi113_0
              have HC113_0 := Aside0.mk hl113_0
              clear hi113_0 hl113_0
              replace p113 := eq_true p113
              replace q113 := eq_true q113
              go_wp2
              go_roundg k1
              case measure => have := HK1.out; omega
              case rel => exact ⟨(wrap64 (x3_1 + ((rd_L1 l0 x11_1).length : Int))), (wrap64 (x11_1 + 1)), (by first | rfl | (simp; done) | (simp [*]; done)), (by first | rfl | (simp; done) | (simp [*]; done)), H', ⟨by have := HK1.out; omega⟩, ⟨by repeat (first | (with_reducible first | exact HB.out | apply below_alloc | apply pw_below_drewN | apply below_drew1) | exact HB.out)⟩⟩
          · rw [if_neg c4] at H
            exact absurd H (by simp)
        · rw [if_neg c3] at H
          exact absurd H (by simp)
      · rw [if_neg c2] at H
        have c2b0 : decide (x11_1 < (l0.length : Int)) = false := decide_eq_false c2
        clear c2
        by_cases c6 : 0 ≤ x3_1
        · rw [if_pos c6] at H
          have c6b0 := eq_true c6
          have c6b1 : decide (0 ≤ x3_1) = true := decide_eq_true c6
          clear c6
          by_cases c7 : (x3_1 : Int).toNat ≤ 140737488355328
          · rw [if_pos c7] at H
            have c7b0 := eq_true c7
            have c7b1 : decide ((x3_1 : Int).toNat ≤ 140737488355328) = true := decide_eq_true c7
            clear c7
            obtain ⟨y114, hy114⟩ : ∃ y_ : List Int, y_ = ((List.replicate 0 0)) := ⟨_, rfl⟩
            replace H : (slices_Concat_byte_byte.l1 k1 y114 l0 (l0.length : Int) 0) = some r := by first | (rw [hy114]; with_reducible exact H) | (have H2_ := (Option.bind_some _ _).symm.trans H; rw [hy114]; with_reducible exact H2_) | (have H2_ := (Option.bind_some _ _).symm.trans H; with_reducible exact H2_) | with_reducible exact H | (rw [hy114]; exact H) | exact H
            have Ny114 := Aside0.mk hy114
            clear hy114
            have H' := Aside0.mk H
            clear H
            go_wp2_with (first | ((with_reducible refine gate_dst (N := 24) rfl ?_); refine Kd.R_grow (Kd.int .u8) _ 5 rfl (N := 24) rfl 22 _ _ rfl x3_1 rfl rfl Try.underlying22 (.int .u8 0) 1 info5 rfl (by decide) (by omega) 0 (ok := fun _ => True) (okp := fun _ => True) rfl (fun _ hk => hk) trivial (of_decide_eq_true (by first | (with_reducible assumption) | assumption)) (Nat.le_trans (Nat.mul_le_mul_right _ (of_decide_eq_true (by first | (with_reducible assumption) | assumption) : x3_1.toNat ≤ 140737488355328)) (by omega)) (Below.refl _ _) (Nat.le_refl _) ?_; intro v115 w8 ho9 hb hg_ hnew_; clear hg_ hnew_; (first | rw [← Ny114.out] at ho9 | (simp only [Int.reduceToNat] at ho9; rw [← Ny114.out] at ho9)); have n0_ := Aside0.mk (Kd.R_lower ho9 (below_size (by repeat (first | (with_reducible first | exact HB.out | apply below_alloc | apply pw_below_drewN | apply below_drew1) | exact HB.out)))); have n1_ := Aside0.mk (below_step (by repeat (first | (with_reducible first | exact HB.out | apply below_alloc | apply pw_below_drewN | apply below_drew1) | exact HB.out)) hb); clear HB; have HO116 := n0_; have HB := n1_; clear n0_ n1_; clear hb ho9))
            go_loopg [6, 27] k1 (fun kq v6 v27 w' => ∃ (x6_2 : List Int) (x27_2 : Int), v27 = .int .i64 x27_2 ∧ Aside0 (slices_Concat_byte_byte.l1 kq x6_2 l0 (l0.length : Int) x27_2 = some r) ∧ Aside0 (kq ≤ k1) ∧ Aside0 (Kd.R (Kd.int .u8) 5 w' w.heap.size (fun _ => True) v6 x6_2) ∧ Aside0 (Below w.heap.size w w'))
            case atStart => exact ⟨(y114), (0), (by first | rfl | (simp; done) | (simp [*]; done)), H', ⟨Nat.le_refl _⟩, ⟨by (with_reducible repeat (first | apply Kd.R_alloc | apply Kd.R_drewN | apply Kd.R_drew)); exact HO116.out⟩, ⟨by repeat (first | (with_reducible first | exact HB.out | apply below_alloc | apply pw_below_drewN | apply below_drew1) | exact HB.out)⟩⟩
            case round =>
              clear H'
              try clear c1
              try clear p1
              try clear q1
              try clear hx1
              try clear c2
              try clear c2b0
              try clear p2
              try clear c3
              try clear c3b0
              try clear c4
              try clear c4b0
              try clear c5
              try clear c5b0
              try clear c6
              try clear c6b0
              try clear c6b1
              try clear p6
              try clear c7
              try clear c7b0
              try clear c7b1
              try clear hx113_0
              try clear p113
              try clear q113
              obtain ⟨x6_2, x27_2, rfl, HA, HK2, HO_6, HB⟩ := hrel
              cases gk with
              | zero => exact absurd HA.out (by simp [slices_Concat_byte_byte.l1])
              | succ k2 =>
                have H := HA.out
                clear HA
                simp only [slices_Concat_byte_byte.l1] at H
                by_cases c10 : x27_2 < (l0.length : Int)
                · rw [if_pos c10] at H
                  have c10b0 : decide (x27_2 < (l0.length : Int)) = true := decide_eq_true c10
                  clear c10
                  by_cases c11 : 0 ≤ x27_2
                  · rw [if_pos c11] at H
                    have c11b0 : decide (0 ≤ x27_2) = true := decide_eq_true c11
                    clear c11
                    by_cases c12 : x27_2 < (l0.length : Int)
                    · rw [if_pos c12] at H
                      have c12b0 : decide (x27_2 < (l0.length : Int)) = true := decide_eq_true c12
                      clear c12
                      by_cases c13 : x6_2.length + (rd_L1 l0 x27_2).length < 140737488355328
                      · rw [if_pos c13] at H
                        have LMc13 := Aside0.mk c13
                        clear c13
                        obtain ⟨y118, hy118⟩ : ∃ y_ : List Int, y_ = (x6_2 ++ (rd_L1 l0 x27_2)) := ⟨_, rfl⟩
                        replace H : (slices_Concat_byte_byte.l1 k2 y118 l0 (l0.length : Int) (wrap64 (x27_2 + 1))) = some r := by first | (rw [hy118]; with_reducible exact H) | (have H2_ := (Option.bind_some _ _).symm.trans H; rw [hy118]; with_reducible exact H2_) | (have H2_ := (Option.bind_some _ _).symm.trans H; with_reducible exact H2_) | with_reducible exact H | (rw [hy118]; exact H) | exact H
                        have Ny118 := Aside0.mk hy118
                        clear hy118
                        have H' := Aside0.mk H
                        clear H
                        have p117 : 0 ≤ (x27_2 : Int) := of_decide_eq_true (by first | (with_reducible assumption) | assumption)
                        have q117 : x27_2 < (l0.length : Int) := of_decide_eq_true (by first | (with_reducible assumption) | assumption)
                        obtain ⟨ad117, A117_0, c117_0, e117, hx117_0, hl117_0, hi117_0⟩ := at_L1 HR0.out x27_2 p117 q117
                        cases e117
                        replace hx117_0 := (HB.out.cell (World.block_lt_of_cell? w _ hx117_0)).trans hx117_0
                        have HR117_0 := Aside0.mk hi117_0
                        have HC117_0 := Aside0.mk hl117_0
                        clear hi117_0 hl117_0
                        replace p117 := eq_true p117
                        replace q117 := eq_true q117
                        go_wp2_with (first | ((with_reducible refine gate_builtin (b := .append) (xs := #[.tmp 31, .tmp 32]) rfl ?_); at_builtin; refine Kd.R_append_rows (Kd.int .u8) (w0 := w) w.heap.size rfl (.tmp 31) (.tmp 32) 22 5 (.int .u8 0) 1 rfl Try.underlying22 info5 rfl (by decide) (by omega) u6 x6_2 (rd_L1 l0 x27_2) _ _ _ (fun _ => True) (fun _ => False) rfl rfl ?aO ?aR (fun _ _ h => h) (fun _ h => h.elim) ?aF ?aB ?aS ?aL ?_; (case aR => repeat (first | exact (Kd.C_below HR117_0.out HB.out) | (with_reducible refine Kd.C_alloc ?_ _) | (with_reducible refine Kd.C_drewN ?_ _) | (with_reducible refine Kd.C_drew ?_))); (case aB => exact (by repeat (first | (with_reducible first | exact HB.out | apply below_alloc | apply pw_below_drewN | apply below_drew1) | exact HB.out))); (case aF => exact (fun _ _ => trivial)); (case aO => exact (by (with_reducible repeat (first | apply Kd.R_alloc | apply Kd.R_drewN | apply Kd.R_drew)); exact HO_6.out)); (case aS => exact (below_size (by repeat (first | (with_reducible first | exact HB.out | apply below_alloc | apply pw_below_drewN | apply below_drew1) | exact HB.out)))); (case aL => have := LMc13.out; omega); intro v119 w14 ho hb hg hat; rw [← Ny118.out] at ho; have n0_ := Aside0.mk (hb); have n1_ := Aside0.mk (ho); clear HB; clear HO_6; have HB := n0_; have HO120 := n1_; clear n0_ n1_; clear ho hb hg hat))
                        go_roundg k2
                        case measure => have := HK1.out; have := HK2.out; omega
                        case rel => exact ⟨(y118), (wrap64 (x27_2 + 1)), (by first | rfl | (simp; done) | (simp [*]; done)), H', ⟨by have := HK1.out; have := HK2.out; omega⟩, ⟨by (with_reducible repeat (first | apply Kd.R_alloc | apply Kd.R_drewN | apply Kd.R_drew)); exact HO120.out⟩, ⟨by repeat (first | (with_reducible first | exact HB.out | apply below_alloc | apply pw_below_drewN | apply below_drew1) | exact HB.out)⟩⟩
                      · rw [if_neg c13] at H
                        exact absurd H (by simp)
                    · rw [if_neg c12] at H
                      exact absurd H (by simp)
                  · rw [if_neg c11] at H
                    exact absurd H (by simp)
                · rw [if_neg c10] at H
                  have c10b0 : decide (x27_2 < (l0.length : Int)) = false := decide_eq_false c10
                  clear c10
                  obtain rfl := Option.some.inj H
                  go_wp2
                  go_ret
                  exact ⟨_, by first | rfl | (simp [errW_none, errW_some] <;> rfl) | (simp [*, errW_none, errW_some] <;> rfl), by (with_reducible repeat (first | apply Kd.R_alloc | apply Kd.R_drewN | apply Kd.R_drew)); exact HO_6.out, by repeat (first | (with_reducible first | exact HB.out | apply below_alloc | apply pw_below_drewN | apply below_drew1) | exact HB.out)⟩
          · rw [if_neg c7] at H
            exact absurd H (by simp)
        · rw [if_neg c6] at H
          exact absurd H (by simp)

end Go.Proofs.Ytfdpbdaekfdnjaa.X
-- Written by a program of this session (a turn of the kit's print with contracts by hand). Not trusted: Lean checks it.
namespace Go.Proofs.Ytfdpbdaekfdnjaa.X
open Go.RowKit Go.Proofs.YtfdpbdaekfdnjaaW.PrintWords Go.Proofs.YtfdpbdaekfdnjaaW.PrintLast Go.Proofs.YtfdpbdaekfdnjaaW.PrintMore
attribute [local go_sem] max2_int min2_int max_two min_two max_three min_three max_four min_four   -- for this text's walks alone
set_option linter.unusedVariables false
set_option linter.unusedSimpArgs false

/-! ### octets_Join: function 42 -/
def octets_Join.f (k : Nat) (l0 : List (List Int)) : Option (List Int) := (slices_Concat_byte_byte.f k l0).bind fun t121 => (some t121)
theorem octets_Join.mono : ∀ a0 k, LeO (octets_Join.f k a0) (octets_Join.f (k + 1) a0) := by
  intro a0 k
  unfold octets_Join.f
  repeat' first
      | (with_reducible exact slices_Concat_byte_byte.mono _ _)
      | (with_reducible exact LeO.refl _)
      | (with_reducible exact LeO.none _)
      | (with_reducible refine LeO.ite ?_ ?_)
      | (with_reducible refine LeO.bind ?_ (fun _ => ?_))
      | exact slices_Concat_byte_byte.mono _ _
      | exact LeO.none _
      | refine LeO.ite ?_ ?_
      | refine LeO.bind ?_ (fun _ => ?_)
set_option maxHeartbeats 8000000 in
set_option maxRecDepth 100000 in
theorem octets_Join.calls (k : Nat) (A0 : Option Addr) (c0 : Nat) (l0 : List (List Int)) (r : List Int) (w : World) (hr0 : Kd.C (Kd.slice 5 (Kd.int .u8)) w A0 l0.length l0) (hc0 : l0.length ≤ c0) (h : octets_Join.f k l0 = some r) :
    Calls Try.prog 42 #[.slice A0 l0.length c0] w fun e w' => ∃ v0_ : Value, e = .returned (v0_) ∧ Kd.R (Kd.int .u8) 5 w' w.heap.size (fun _ => True) v0_ r ∧ Below w.heap.size w w' := by
  have HR0 := Aside0.mk hr0
  have HC0 := Aside0.mk hc0
  clear hr0 hc0
  have HB := Aside0.mk (Below.refl w.heap.size w)
  have H : ((slices_Concat_byte_byte.f k l0).bind fun t121 => (some t121)) = some r := h
  clear h
  replace H := Option.bind_eq_some_iff.mp H
  obtain ⟨t121, A20, H⟩ := H
  replace H : (some t121) = some r := H
  have A2 := Aside0.mk A20
  clear A20
  obtain rfl := Option.some.inj H
  go_enter Try.func42, Try.ntmps42
  go_wp2_with (first | ((with_reducible refine gate_callee (f := 54) rfl ?_); refine goesL_ (some 4) rfl rfl Try.func54 (by kernel_rfl) rfl #[.slice A0 l0.length c0] rfl (by (try simp only [List.map_toArray, List.map_cons, List.map_nil]); first | done | rfl | (simp only [List.length_drop, List.length_take]; rfl)) ?_; (with_reducible refine (slices_Concat_byte_byte.calls k _ _ l0 t121 _ ?side1 ?side2 A2.out).mono ?_); (case side1 => repeat (first | exact HR0.out | (with_reducible refine Kd.C_alloc ?_ _) | (with_reducible refine Kd.C_drewN ?_ _) | (with_reducible refine Kd.C_drew ?_))); (case side2 => exact HC0.out); rintro e w3 ⟨v122, rfl, ho0, hb⟩; refine ⟨_, rfl, ?_⟩; have n0_ := Aside0.mk (Kd.R_lower ho0 (below_size (by repeat (first | (with_reducible first | exact HB.out | apply below_alloc | apply pw_below_drewN | apply below_drew1) | exact HB.out)))); have n1_ := Aside0.mk (below_step (by repeat (first | (with_reducible first | exact HB.out | apply below_alloc | apply pw_below_drewN | apply below_drew1) | exact HB.out)) hb); clear HB; have HO123 := n0_; have HB := n1_; clear n0_ n1_; (try clear hb); (try clear hb2); (try clear hk); (try clear hi); (try clear ho0)))
  go_ret
  exact ⟨_, by first | rfl | (simp [errW_none, errW_some] <;> rfl) | (simp [*, errW_none, errW_some] <;> rfl), by (with_reducible repeat (first | apply Kd.R_alloc | apply Kd.R_drewN | apply Kd.R_drew)); exact HO123.out, by repeat (first | (with_reducible first | exact HB.out | apply below_alloc | apply pw_below_drewN | apply below_drew1) | exact HB.out)⟩

end Go.Proofs.Ytfdpbdaekfdnjaa.X
/- slices.Backward over octets: the iterator's contract, for a loop body that may write the octets. -/
namespace Go.Proofs.Ytfdpbdaekfdnjaa.X
open Go.RowKit Go.Shelf Go.Proofs.YtfdpbdaekfdnjaaW.PrintWords Go.Proofs.YtfdpbdaekfdnjaaW.PrintLast Go.Proofs.YtfdpbdaekfdnjaaW.PrintMore
set_option linter.unusedVariables false
set_option linter.unusedSimpArgs false
attribute [local go_sem] Oper.semAt_some

/-- The octets of a row are octets still, and its value's box is as it was. -/
def KeepsBytes (Bs b len : Nat) (W W' : World) : Prop :=
  (∀ v, W.cell? ⟨Bs, 0, none⟩ = some v → W'.cell? ⟨Bs, 0, none⟩ = some v) ∧ ∀ j, j < len → (∃ v, W.cell? ⟨b, j, none⟩ = some (.int .u8 v)) → ∃ v, W'.cell? ⟨b, j, none⟩ = some (.int .u8 v)
theorem KeepsBytes.trans {Bs b len : Nat} {X Y Z : World} (h : KeepsBytes Bs b len X Y) (k : KeepsBytes Bs b len Y Z) : KeepsBytes Bs b len X Z :=
  ⟨fun v hv => k.1 v (h.1 v hv), fun j hj hv => k.2 j hj (h.2 j hj hv)⟩

theorem KeepsBytes.of_grown {Bs b len : Nat} {W W' : World} {row : Option Nat} (hg : W.grownBy W' row) (hr : ∀ r, row = some r → ∃ o : Obj, W.heap[r]? = some o ∧ o.isCells = false) : KeepsBytes Bs b len W W' :=
  ⟨fun v hv => cell_kept hv hg hr, fun j hj ⟨v, hv⟩ => ⟨v, cell_kept hv hg hr⟩⟩

/-- What has come when d are still to come. -/
def Came (len d : Nat) (ys : List {x : Nat × Int // x.1 < len}) : Prop := ys.length + d = len ∧ ys.map (fun y => y.1.1) = (List.range len).reverse.take (len - d)
theorem Came.step {len m : Nat} {ys : List {x : Nat × Int // x.1 < len}} (h : Came len (m + 1) ys) (v : Int) (hm : m < len) : Came len m (ys ++ [⟨(m, v), hm⟩]) := by
  obtain ⟨h1, h2⟩ := h
  refine ⟨by simp; omega, ?_⟩
  rw [List.map_append, h2, show len - m = (len - (m + 1)) + 1 by omega, List.take_succ_eq_append_getElem (by simp; omega)]
  congr 1
  simp only [List.map_cons, List.map_nil, List.getElem_reverse, List.length_range, List.getElem_range]
  congr 1
  omega

set_option maxRecDepth 100000 in
set_option maxHeartbeats 2000000 in
theorem back1_in (F : Fence) (n : Nat) (h66 : F.fn 66) (hro : F.round = none) (hn : 1 ≤ n) (l Bs b len cap : Nat) (hlen : len ≤ 1000000) (J Jx : List {x : Nat × Int // x.1 < len} → World → Prop)
    (hY : ∀ pre x W, J pre W → pre.length < len → YieldAt F (n - 1) Try.prog l #[.int .i64 (x.1.1 : Int), .int .u8 x.1.2] W fun e W' =>
      (e = .returned (.bool true) ∧ J (pre ++ [x]) W' ∧ KeepsBytes Bs b len W W') ∨ (e = .returned (.bool false) ∧ Jx (pre ++ [x]) W'))
    (W : World) (hBs : W.cell? ⟨Bs, 0, none⟩ = some (.slice (some ⟨b, 0, none⟩) len cap)) (hc : ∀ j, j < len → ∃ v, W.cell? ⟨b, j, none⟩ = some (.int .u8 v)) (h0 : J [] W) :
    CallsIn F n Try.prog 66 #[.func (.yield l) #[] #[], .pointer (some ⟨Bs, 0, none⟩)] W fun e W' => (∃ v, e = .returned v) ∧
      ((∃ ys : List {x : Nat × Int // x.1 < len}, Came len 0 ys ∧ J ys W') ∨ (∃ pre, True ∧ Jx pre W')) := by
  refine callsIn_of_wp Try.func66 rfl h66 ?_ hro
  simp only [Try.ntmps66, List.size_toArray, List.length_cons, List.length_nil, Nat.reduceAdd, Nat.reduceSub, Array.replicate_succ, Array.replicate_zero, List.push_toArray, List.append_toArray, List.nil_append, List.cons_append]
  gi_wp2
  gi_loopw [3] (fun i wr => ∃ (d : Nat) (ys : List {x : Nat × Int // x.1 < len}), d ≤ len ∧ i = .int .i64 ((d : Int) - 1) ∧ Came len d ys ∧ J ys wr ∧ KeepsBytes Bs b len W wr)
    (fun i _ => (intOf i + 1).toNat)
  case atStart => exact ⟨len, [], Nat.le_refl _, rfl, ⟨by simp, by simp⟩, h0, ⟨fun _ h => h, fun _ _ h => h⟩⟩
  case round =>
    obtain ⟨d, ys, hd, rfl, hys, hJs, hnx⟩ := hrel
    have hb1 := hnx.1 _ hBs
    rcases d with _ | m
    · gi_wp2
      go_end0
      exact ⟨⟨_, rfl⟩, .inl ⟨_, hys, hJs⟩⟩
    · have hml : m < len := hd
      obtain ⟨v, hv⟩ := hnx.2 m hml (hc _ hml)
      obtain ⟨fn, tmps, assign, body, hy, hR⟩ := hY ys ⟨(m, v), hml⟩ wr hJs (by have := hys.1; omega)
      dsimp only at hy
      rw [show (((m + 1 : Nat) : Int) - 1) = (m : Int) by omega]
      gi_wp2
      refine hR.mono ?_
      rintro e W3 (⟨rfl, hJ3, hk3⟩ | ⟨rfl, hJx3⟩)
      · gi_wp2
        go_roundw
        case rel => exact ⟨m, _, by omega, rfl, hys.step v hml, hJ3, hnx.trans hk3⟩
        case measure => simp [intOf]
      · gi_wp2
        refine bodyPost_ret (results_none rfl _ _ _) rfl ?_
        exact ⟨⟨_, rfl⟩, .inr ⟨_, trivial, hJx3⟩⟩
end Go.Proofs.Ytfdpbdaekfdnjaa.X
/- octets.Put: a number in so many octets. -/
namespace Go.Proofs.Ytfdpbdaekfdnjaa.X
open Go.RowKit Go.Shelf Go.Proofs.YtfdpbdaekfdnjaaW.PrintWords Go.Proofs.YtfdpbdaekfdnjaaW.PrintLast Go.Proofs.YtfdpbdaekfdnjaaW.PrintMore
set_option linter.unusedVariables false
set_option linter.unusedSimpArgs false
attribute [local go_sem] Oper.semAt_some max2_int min2_int max_two min_two max_three min_three max_four min_four

theorem back_in (F : Fence) (n : Nat) (h55 : F.fn 55) (hro : F.round = none) (a : Option Addr) (len cap : Nat) (w : World) :
    CallsIn F n Try.prog 55 #[.slice a len cap] w fun e w' => e = .returned (.func (.func 66) #[] #[.pointer (some ⟨w.heap.size, 0, none⟩)]) ∧ w' = w.alloc (.cells #[.slice a len cap] 22) := by
  refine callsIn_of_wp Try.func55 rfl h55 ?_ hro
  simp only [Try.ntmps55, List.size_toArray, List.length_cons, List.length_nil, Nat.reduceAdd, Nat.reduceSub, Array.replicate_succ, Array.replicate_zero, List.push_toArray, List.append_toArray, List.nil_append, List.cons_append]
  gi_wp2
  go_ret
  exact ⟨rfl, rfl⟩

/-- The lowest octets of a number, the highest first. -/
def putL (u : Int) : Nat → List Int
  | 0 => []
  | k + 1 => (u / 256 ^ k % 256) :: putL u k
def octets_Put.f (a0 : Int) (a1 : Int) : Option (List Int) := some (putL (IntKind.u64.wrap a0) (mn (mx a1 0) 8).toNat)

def pstp (st : List Int × Int) (i : Nat) : List Int × Int := (st.1.set i (st.2 % 256), st.2 / 256)

theorem blk_own {W W' : World} {g : Nat} {t : TypeId} {cs : Array Value} {row : Option Nat} (h : W.heap[g]? = some (.cells cs t (0, 0))) (hg : W.grownBy W' row) (hr : ∀ r, row = some r → ∃ o : Obj, W.heap[r]? = some o ∧ o.isCells = false) : W'.heap[g]? = some (.cells cs t (0, 0)) :=
  blk_grown h hg (fun e => by obtain ⟨o, ho, hc⟩ := hr g e.symm; rw [h] at ho; cases ho; cases hc)

def putF (s : Nat) (u : Int) (is : List Nat) : List Int × Int := is.foldl pstp (List.replicate s 0, u)
theorem putF_snoc (s : Nat) (u : Int) (is : List Nat) (i : Nat) : putF s u (is ++ [i]) = pstp (putF s u is) i := by simp [putF]
theorem foldl_pstp (is : List Nat) : ∀ st : List Int × Int, (is.foldl pstp st).1.length = st.1.length ∧ (0 ≤ st.2 → st.2 < 18446744073709551616 → 0 ≤ (is.foldl pstp st).2 ∧ (is.foldl pstp st).2 < 18446744073709551616) := by
  induction is with
  | nil => intro st; exact ⟨rfl, fun a b => ⟨a, b⟩⟩
  | cons i is ih =>
    intro st
    obtain ⟨h1, h2⟩ := ih (pstp st i)
    refine ⟨by rw [List.foldl_cons, h1]; simp [pstp], fun a b => ?_⟩
    rw [List.foldl_cons]
    exact h2 (by simp only [pstp]; omega) (by simp only [pstp]; omega)
theorem putF_len (s : Nat) (u : Int) (is : List Nat) : (putF s u is).1.length = s := by unfold putF; rw [(foldl_pstp is _).1]; simp
theorem putF_nonneg (s : Nat) (u : Int) (hu : 0 ≤ u ∧ u < 18446744073709551616) (is : List Nat) : 0 ≤ (putF s u is).2 ∧ (putF s u is).2 < 18446744073709551616 := (foldl_pstp is _).2 hu.1 hu.2
/-- From the last place on to the first one: the octets. -/
theorem putF_all (s : Nat) (u : Int) : ∀ k, k ≤ s → putF s u (((List.range s).reverse).take k) = (List.replicate (s - k) 0 ++ putL u k, u / 256 ^ k) := by
  intro k
  induction k with
  | zero => intro _; simp [putF, putL]
  | succ k ih =>
    intro hk
    rw [List.take_succ_eq_append_getElem (by simp; omega), putF_snoc, ih (by omega)]
    simp only [pstp, List.getElem_reverse, List.length_range, List.getElem_range, putL]
    have e1 : s - k = (s - (k + 1)) + 1 := by omega
    have e2 : s - 1 - k = s - (k + 1) := by omega
    refine Prod.ext ?_ ?_
    · simp only [e2]
      rw [e1, List.replicate_succ', List.append_assoc, List.set_append_right _ _ (by simp)]
      simp
    · simp only
      rw [Int.pow_succ, Int.ediv_ediv_of_nonneg (by exact Int.pow_nonneg (by omega))]
theorem putF_end (s : Nat) (u : Int) (ys : List {x : Nat × Int // x.1 < s}) (h : Came s 0 ys) : (putF s u (ys.map (fun y => y.1.1))).1 = putL u s := by
  rw [h.2, Nat.sub_zero, putF_all s u s (Nat.le_refl _)]
  simp

/-- What the loop over the octets keeps. -/
structure PutInv (w : World) (s : Nat) (u : Int) (is : List Nat) (W : World) : Prop where
  row : W.heap[w.heap.size]? = some (.cells (nums .u8 (putF s u is).1).toArray 5 (0, 0))
  box : W.heap[w.heap.size + 1]? = some (.cells #[.slice (some ⟨w.heap.size, 0, none⟩) s s] 22 (0, 0))
  num : W.heap[w.heap.size + 1 + 1]? = some (.cells #[.int .u64 (putF s u is).2] 66 (0, 0))
  seq : W.heap[w.heap.size + 1 + 1 + 1]? = some (.cells #[.slice (some ⟨w.heap.size, 0, none⟩) s s] 22 (0, 0))

theorem putL_len (u : Int) : ∀ s, (putL u s).length = s
  | 0 => rfl
  | s + 1 => by simp [putL, putL_len u s]
theorem R_of_blk {W : World} {g e base cap : Nat} {k : IntKind} {ok : Nat → Prop} {xs : List Int} (h : W.heap[g]? = some (.cells (nums k xs).toArray e (0, 0))) (hb : base ≤ g) (hc : xs.length = cap) (hm : cap ≤ 9223372036854775807) (hok : ∀ k, ok k) :
    Kd.R (Kd.int k) e W base ok (.slice (some ⟨g, 0, none⟩) xs.length cap) xs := by
  subst hc
  refine Kd.R_of_own (enc := Value.int k) ⟨by simp [encs], .inr ⟨g, xs.length, _, rfl, hb, h, Nat.le_refl _, by simpa [maxLen] using hm, by simp [nums], ?_⟩⟩ (fun k _ => hok k)
  simp [nums, encs, List.take_of_length_le]

theorem nums_set (k : IntKind) (xs : List Int) (i : Nat) (x : Int) : (nums k xs).toArray.setIfInBounds i (.int k x) = (nums k (xs.set i x)).toArray := by
  simp [nums, List.map_set]
theorem PutInv.step {w : World} {s : Nat} {u : Int} {is : List Nat} {W : World} (h : PutInv w s u is W) (i : Nat) :
    PutInv w s u (is ++ [i]) ((W.setCell ⟨w.heap.size, i, none⟩ (.int .u8 ((putF s u is).2 % 256))).setCell ⟨w.heap.size + 1 + 1, 0, none⟩ (.int .u64 ((putF s u is).2 / 256))) := by
  rw [show w.heap.size + 1 + 1 = w.heap.size + 2 from rfl]
  refine ⟨?_, ?_, ?_, ?_⟩
  · refine blk_far ?_ (by dsimp only; omega) _
    rw [putF_snoc, pstp, ← nums_set]
    exact blk_set h.row i _
  · exact blk_far (blk_far h.box (by dsimp only; omega) _) (by dsimp only; omega) _
  · rw [putF_snoc, pstp]
    exact blk_set (blk_far h.num (by dsimp only; omega) _) 0 _
  · exact blk_far (blk_far h.seq (by dsimp only; omega) _) (by dsimp only; omega) _
theorem PutInv.bytes {w : World} {s : Nat} {u : Int} {is : List Nat} {W : World} (h : PutInv w s u is W) (j : Nat) (hj : j < s) : W.cell? ⟨w.heap.size, j, none⟩ = some (.int .u8 ((putF s u is).1[j]?.getD 0)) := by
  have hl0 := putF_len s u is
  rw [blk_cell h.row]
  simp only [nums, List.getElem?_toArray, List.getElem?_map]
  rw [List.getElem?_eq_getElem (by omega)]
  rfl

set_option maxRecDepth 100000 in
set_option maxHeartbeats 4000000 in
theorem octets_Put.calls (a0 : Int) (a1 : Int) (r : List Int) (w : World) (h : octets_Put.f a0 a1 = some r) :
    Calls Try.prog 43 #[.int .i64 a0, .int .i64 a1] w fun e w' => ∃ v0_ : Value, e = .returned (v0_) ∧ Kd.R (Kd.int .u8) 5 w' w.heap.size (fun _ => True) v0_ r ∧ Below w.heap.size w w' := by
  obtain ⟨m1, he1⟩ : ∃ m1 : Int, (if a1 < 0 then 0 else a1) = m1 := ⟨_, rfl⟩
  have hm0 : 0 ≤ m1 := by rw [← he1]; split <;> omega
  obtain ⟨s, he2, hs8⟩ : ∃ s : Nat, (if 8 < m1 then 8 else m1) = (s : Int) ∧ s ≤ 8 := ⟨(if 8 < m1 then 8 else m1).toNat, by split <;> omega, by split <;> omega⟩
  obtain rfl : putL (IntKind.u64.wrap a0) s = r := by
    have e : mn (mx a1 0) 8 = (s : Int) := by rw [← he2, ← he1]; unfold mn mx; rfl
    simpa [octets_Put.f, e] using h
  clear h
  have hmk := print_make (P := Try.prog) 22 5 .u8 1 Try.underlying22 info5 (by omega) s (by omega)
  refine callsIn_wide (n := 5).1 ?_
  have hro : Fence.wide.round = none := rfl
  have h1 : 1 ≤ 5 := by omega
  have h55 : Fence.wide.fn 55 := trivial
  have h66 : Fence.wide.fn 66 := trivial
  refine callsIn_of_wp_marks Try.func43 rfl trivial ?_ hro
  simp only [Try.ntmps43, List.size_toArray, List.length_cons, List.length_nil, Nat.reduceAdd, Nat.reduceSub, Array.replicate_succ, Array.replicate_zero, List.push_toArray, List.append_toArray, List.nil_append, List.cons_append]
  gi_wp2_with (gi_at_call 55; refine (back_in Fence.wide 4 h55 hro _ _ _ _).mono ?_; rintro e w' ⟨rfl, rfl⟩)
  obtain ⟨W0, hW0⟩ : ∃ W0, ((((w.alloc (Obj.cells (madeCells #[Value.int IntKind.u8 0] s) 5)).alloc (Obj.cells #[Value.slice (some { block := w.heap.size, off := 0 }) s s] 22)).alloc (Obj.cells #[Value.int IntKind.u64 (IntKind.u64.wrap a0)] 66)).alloc (Obj.cells #[Value.slice (some { block := w.heap.size, off := 0 }) s s] 22)) = W0 := ⟨_, rfl⟩
  rw [hW0]
  have hsz : W0.heap.size = w.heap.size + 4 := by rw [← hW0]; simp
  have hmc : madeCells #[Value.int IntKind.u8 0] s = (nums .u8 (List.replicate s 0)).toArray := by
    apply Array.ext'
    apply List.ext_getElem
    · simp [nums, madeCells]
    · intro i h1 h2
      simp [nums, madeCells, Nat.mod_one]
  have hI0 : PutInv w s (IntKind.u64.wrap a0) [] W0 := by
    rw [← hW0]
    have b0 := blk_new w (Obj.cells (madeCells #[Value.int IntKind.u8 0] s) 5)
    have b1 := blk_new (w.alloc (Obj.cells (madeCells #[Value.int IntKind.u8 0] s) 5)) (Obj.cells #[Value.slice (some { block := w.heap.size, off := 0 }) s s] 22)
    have b2 := blk_new ((w.alloc (Obj.cells (madeCells #[Value.int IntKind.u8 0] s) 5)).alloc (Obj.cells #[Value.slice (some { block := w.heap.size, off := 0 }) s s] 22)) (Obj.cells #[Value.int IntKind.u64 (IntKind.u64.wrap a0)] 66)
    have b3 := blk_new (((w.alloc (Obj.cells (madeCells #[Value.int IntKind.u8 0] s) 5)).alloc (Obj.cells #[Value.slice (some { block := w.heap.size, off := 0 }) s s] 22)).alloc (Obj.cells #[Value.int IntKind.u64 (IntKind.u64.wrap a0)] 66)) (Obj.cells #[Value.slice (some { block := w.heap.size, off := 0 }) s s] 22)
    simp only [World.size_alloc] at b1 b2 b3
    exact ⟨by rw [hmc] at b0 ⊢; exact blk_alloc (blk_alloc (blk_alloc b0 _) _) _, blk_alloc (blk_alloc b1 _) _, blk_alloc b2 _, b3⟩
  have hB0 : Below w.heap.size w W0 := by rw [← hW0]; exact below_alloc (below_alloc (below_alloc (below_alloc (Below.refl _ _) _) _) _) _
  have hu : 0 ≤ IntKind.u64.wrap a0 ∧ IntKind.u64.wrap a0 < 18446744073709551616 := by rw [IntKind.wrap_u64]; omega
  obtain ⟨u0, hu0⟩ : ∃ u0, IntKind.u64.wrap a0 = u0 := ⟨_, rfl⟩
  rw [hu0] at hI0 hu ⊢
  have HU := Lib.hid hu0
  clear hW0 he1 he2 hmk hmc hu0
  refine wpIn_rangeFunc_ownG hro h1 (gf := 66) (lb := #[.pointer (some ⟨w.heap.size + 1 + 1 + 1, 0, none⟩)]) rfl h66 (enters_of Try.func66 (by kernel_rfl) rfl)
    (encs := fun x : {x : Nat × Int // x.1 < s} => #[Value.int .i64 (x.1.1 : Int), Value.int .u8 x.1.2]) (Kp := KeepsBytes (w.heap.size + 1 + 1 + 1) w.heap.size s) (S := Came s 0) (Sp := fun _ => True) (N := s) (w0 := W0) ?seq ?kt ?kb (Below.refl _ _) (fun _ => rfl)
    (fun pre W => PutInv w s u0 (pre.map (fun y => y.1.1)) W ∧ Below w.heap.size w W)
    (fun _ _ _ => False)
    ?own (fun _ _ _ _ _ hs _ _ => hs) ⟨hI0, hB0⟩
    (fun x => { tmps := #[Value.int IntKind.i64 a0, Value.int IntKind.i64 a1, undef, undef, Value.slice none 0 0,
          Value.pointer (some { block := w.heap.size + 1, off := 0 }),
          Value.pointer (some { block := w.heap.size + 1 + 1, off := 0 }), Value.int .i64 (x.1.1 : Int), Value.int IntKind.i64 a1,
          Value.int IntKind.i64 m1, Value.int IntKind.i64 ↑s, Value.slice (some { block := w.heap.size, off := 0 }) s s,
          Value.int IntKind.i64 a0, Value.int IntKind.u64 u0,
          Value.slice (some { block := w.heap.size, off := 0 }) s s,
          Value.func (Fn.func 66) #[] #[Value.pointer (some { block := w.heap.size + 1 + 1 + 1, off := 0 })], Value.int .i64 (x.1.1 : Int),
          Value.int .u8 x.1.2, undef, undef, undef, undef, undef, undef, undef, undef], defers := [] }) ?assign ?body ?done ?stop
  case seq =>
    intro l J Jx W hW _ _ hY h0
    have e1 := hW.cell (p := ⟨w.heap.size + 1 + 1 + 1, 0, none⟩) (by simp [hsz])
    have e2 : ∀ j, j < s → ∃ v, W.cell? ⟨w.heap.size, j, none⟩ = some (.int .u8 v) := fun j hj => by
      rw [hW.cell (p := ⟨w.heap.size, j, none⟩) (by simp [hsz]), blk_cell hI0.row]
      have hl := putF_len s u0 []
      exact ⟨_, by simp only [nums, List.getElem?_toArray, List.getElem?_map]; rw [List.getElem?_eq_getElem (by simp only [List.map_nil] at *; omega)]; rfl⟩
    exact back1_in Fence.wide 4 h66 hro (by omega) l _ _ s s (by omega) J Jx hY W (e1.trans (blk_cell hI0.seq 0)) e2 h0
  case kt => exact fun h k => h.trans k
  case kb =>
    intro W l o o' hl ho hc hw
    exact KeepsBytes.of_grown (grownBy_putObj' W l o') (fun r e => by cases e; exact ⟨o, ho, hc⟩)
  case own =>
    exact OwnFrom.and (Own.from (fun s_ A B row hs hg hr => ⟨blk_own hs.row hg hr, blk_own hs.box hg hr, blk_own hs.num hg hr, blk_own hs.seq hg hr⟩) _) (ownFrom_below (Nat.le_refl _) (by omega))
  case assign =>
    intro l x W K hK
    gi_wp2
    exact hK
  case body =>
    rintro l pre ⟨⟨i, v⟩, hx⟩ W ⟨hI, hB⟩ _
    dsimp only at hx ⊢
    have hn0 := putF_nonneg s u0 hu (pre.map (fun y => y.1.1))
    have hl0 := putF_len s u0 (pre.map (fun y => y.1.1))
    have hi := hI.step i
    have hkb : KeepsBytes (w.heap.size + 1 + 1 + 1) w.heap.size s W ((W.setCell ⟨w.heap.size, i, none⟩ (.int .u8 ((putF s u0 (pre.map (fun y => y.1.1))).2 % 256))).setCell ⟨w.heap.size + 1 + 1, 0, none⟩ (.int .u64 ((putF s u0 (pre.map (fun y => y.1.1))).2 / 256))) :=
      ⟨fun v hv => by rw [blk_cell hI.seq] at hv; rw [blk_cell hi.seq]; exact hv, fun j hj _ => ⟨_, hi.bytes j hj⟩⟩
    have HI := Lib.hid hi
    have HKB := Lib.hid hkb
    clear hi hkb
    have c0 := hI.bytes i hx
    have f0 := blk_frozen hI.row i
    have c1 := blk_cell hI.box 0
    have c2 := blk_cell hI.num 0
    have f2 := blk_frozen hI.num 0
    generalize hst : putF s u0 (pre.map (fun y => y.1.1)) = st at *
    clear hst
    obtain ⟨L, u⟩ := st
    dsimp only at *
    gi_wp2
    refine ⟨((KeepsOthers.setCell _ _ _).trans (KeepsOthers.setCell _ _ _)).from _, HKB.out, ?_, below_set (below_set hB (Nat.le_refl _)) (by omega)⟩
    simpa using HI.out
  case done =>
    rintro D ys W hD hys ⟨hI, hB⟩ hK
    have hend := putF_end s u0 ys hys
    have hrow := hI.row
    rw [hend] at hrow
    have c1 := blk_cell hI.box 0
    have HR := Lib.hid hrow
    clear hrow hend
    gi_wp2
    refine ⟨by simp, .inl ⟨_, _, rfl, run_takeDeferred hK, ?_⟩⟩
    refine ⟨_, results_tmp rfl _ _ _, _, rfl, ?_, hB.trans (belowK_b (w := w) (Nat.le_refl _) W D _ _ (by omega) hK rfl rfl)⟩
    have hput : (W.putObj D (.deferred none)).heap[w.heap.size]? = some (.cells (nums .u8 (putL u0 s)).toArray 5 (0, 0)) := blk_own HR.out (grownBy_putObj' W D _) (fun r e => by cases e; exact ⟨_, hK, rfl⟩)
    have hlen : (putL u0 s).length = s := putL_len u0 s
    have := R_of_blk (k := .u8) (e := 5) (ok := fun _ => True) (base := w.heap.size) hput (Nat.le_refl _) (cap := s) (by omega) (by omega) (fun _ => trivial)
    rw [hlen] at this
    rw [HU.out]
    exact this
  case stop =>
    rintro D c pre W _ _ h _
    exact h.elim
end Go.Proofs.Ytfdpbdaekfdnjaa.X
-- Written by a program of this session (a turn of the kit's print with contracts by hand). Not trusted: Lean checks it.
namespace Go.Proofs.Ytfdpbdaekfdnjaa.X
open Go.RowKit Go.Proofs.YtfdpbdaekfdnjaaW.PrintWords Go.Proofs.YtfdpbdaekfdnjaaW.PrintLast Go.Proofs.YtfdpbdaekfdnjaaW.PrintMore
attribute [local go_sem] max2_int min2_int max_two min_two max_three min_three max_four min_four   -- for this text's walks alone
set_option linter.unusedVariables false
set_option linter.unusedSimpArgs false

/-! ### journal_Frame: function 30 -/
def journal_Frame.f (k : Nat) (l0 : List Int) : Option (List Int × Int) := if (l0.length : Int) > 16384 then (some (([] : List Int), 5)) else ((octets_Put.f (l0.length : Int) 3).bind fun t124 => ((octets_Join.f k (([t124, l0] : List (List Int)))).bind fun t130 => (some (t130, 0))))
theorem journal_Frame.mono : ∀ a0 k, LeO (journal_Frame.f k a0) (journal_Frame.f (k + 1) a0) := by
  intro a0 k
  unfold journal_Frame.f
  repeat' first
      | (with_reducible exact octets_Join.mono _ _)
      | (with_reducible exact LeO.refl _)
      | (with_reducible exact LeO.none _)
      | (with_reducible refine LeO.ite ?_ ?_)
      | (with_reducible refine LeO.bind ?_ (fun _ => ?_))
      | exact octets_Join.mono _ _
      | exact LeO.none _
      | refine LeO.ite ?_ ?_
      | refine LeO.bind ?_ (fun _ => ?_)
set_option maxHeartbeats 8000000 in
set_option maxRecDepth 100000 in
theorem journal_Frame.calls (k : Nat) (P0_ : Nat → Prop) (A0 : Option Addr) (c0 : Nat) (l0 : List Int) (r1 : List Int) (r2 : Int) (w : World) (hs0 : Kd.V (Kd.int .u8) 5 w w.heap.size (fun k_ => P0_ k_) (.slice A0 l0.length c0) l0) (h : journal_Frame.f k l0 = some (r1, r2)) :
    Calls Try.prog 30 #[.slice A0 l0.length c0] w fun e w' => ∃ v0_ : Value, e = .returned (.tuple #[v0_, .int .i64 r2]) ∧ Kd.R (Kd.int .u8) 5 w' w.heap.size (fun k_ => (w.heap.size ≤ k_)) v0_ r1 ∧ Below w.heap.size w w' := by
  have HO0 := Aside0.mk (show Kd.V (Kd.int .u8) 5 w w.heap.size (fun k_ => (P0_ k_ ∨ w.heap.size ≤ k_)) (.slice A0 l0.length c0) l0 from Kd.V_mono hs0 (fun k_ hk => .inl hk))
  have HB := Aside0.mk (Below.refl w.heap.size w)
  have H : (if (l0.length : Int) > 16384 then (some (([] : List Int), 5)) else ((octets_Put.f (l0.length : Int) 3).bind fun t124 => ((octets_Join.f k (([t124, l0] : List (List Int)))).bind fun t130 => (some (t130, 0))))) = some (r1, r2) := h
  clear h
  by_cases c2 : (l0.length : Int) > 16384
  · rw [if_pos c2] at H
    have c2b0 : decide (16384 < (l0.length : Int)) = true := decide_eq_true c2
    have c2b1 : decide (16384 < l0.length) = true := decide_eq_true (by omega)
    clear c2
    simp only [Option.some.injEq, Prod.mk.injEq] at H
    obtain ⟨rfl, rfl⟩ := H
    go_enter Try.func30, Try.ntmps30
    go_wp2
    go_ret2
    exact ⟨_, by first | rfl | (simp [errW_none, errW_some] <;> rfl) | (simp [*, errW_none, errW_some] <;> rfl), by first | exact Kd.R_nil _ _ _ _ _ | exact Kd.N_nil _ _ _ _ _ | exact Kd.V_nil _ _ _ _ _ | exact Kd.Q_nil _ _ _ _ _ | exact Kd.S_nil _ _ _ _ _, by repeat (first | (with_reducible first | exact HB.out | apply below_alloc | apply pw_below_drewN | apply below_drew1) | exact HB.out)⟩
  · rw [if_neg c2] at H
    have c2b0 : decide (16384 < (l0.length : Int)) = false := decide_eq_false c2
    have c2b1 : decide (16384 < l0.length) = false := decide_eq_false (by omega)
    clear c2
    replace H := Option.bind_eq_some_iff.mp H
    obtain ⟨t124, A30, H⟩ := H
    replace H : ((octets_Join.f k (([t124, l0] : List (List Int)))).bind fun t130 => (some (t130, 0))) = some (r1, r2) := H
    have A3 := Aside0.mk A30
    clear A30
    obtain ⟨y127, hy127⟩ : ∃ y_ : List (List Int), y_ = (([t124, l0] : List (List Int))) := ⟨_, rfl⟩
    replace H : ((octets_Join.f k y127).bind fun t130 => (some (t130, 0))) = some (r1, r2) := by first | (rw [hy127]; with_reducible exact H) | (have H2_ := (Option.bind_some _ _).symm.trans H; rw [hy127]; with_reducible exact H2_) | (have H2_ := (Option.bind_some _ _).symm.trans H; with_reducible exact H2_) | with_reducible exact H | (rw [hy127]; exact H) | exact H
    have Ny127 := Aside0.mk hy127
    clear hy127
    replace H := Option.bind_eq_some_iff.mp H
    obtain ⟨t130, A40, H⟩ := H
    replace H : (some (t130, 0)) = some (r1, r2) := H
    have A4 := Aside0.mk A40
    clear A40
    simp only [Option.some.injEq, Prod.mk.injEq] at H
    obtain ⟨rfl, rfl⟩ := H
    go_enter Try.func30, Try.ntmps30
    go_wp2_with (first | ((with_reducible refine gate_callee (f := 43) rfl ?_); refine goesL_ (some 9) rfl rfl Try.func43 (by kernel_rfl) rfl #[.int .i64 (l0.length : Int), .int .i64 3] rfl (by (try simp only [List.map_toArray, List.map_cons, List.map_nil]); first | done | rfl | (simp only [List.length_drop, List.length_take]; rfl)) ?_; (with_reducible refine (octets_Put.calls (l0.length : Int) 3 t124 _ A3.out).mono ?_); rintro e w5 ⟨v125, rfl, ho0, hb⟩; refine ⟨_, rfl, ?_⟩; have n0_ := Aside0.mk (Kd.V_elder' (by (with_reducible repeat (first | apply Kd.V_alloc | apply Kd.V_drewN | apply Kd.V_drew)); exact HO0.out) (Kd.R_base ho0) hb); have n1_ := Aside0.mk (Kd.R_lower (Kd.R_newM (M := fun k_ => (w.heap.size ≤ k_)) ho0 (below_size (by repeat (first | (with_reducible first | exact HB.out | apply below_alloc | apply pw_below_drewN | apply below_drew1) | exact HB.out))) (fun k_ h_ => h_)) (below_size (by repeat (first | (with_reducible first | exact HB.out | apply below_alloc | apply pw_below_drewN | apply below_drew1) | exact HB.out)))); have n2_ := Aside0.mk (below_step (by repeat (first | (with_reducible first | exact HB.out | apply below_alloc | apply pw_below_drewN | apply below_drew1) | exact HB.out)) hb); clear HO0; clear HB; have HO0 := n0_; have HO126 := n1_; have HB := n2_; clear n0_ n1_ n2_; (try clear hb); (try clear hb2); (try clear hk); (try clear hi); (try clear ho0); obtain ⟨Ao6, co6, eo6⟩ := Kd.R_slice HO126.out; subst eo6) | ((with_reducible refine gate_dst (N := 11) rfl ?_); refine Kd.N_lit (Kd.slice 5 (Kd.int .u8)) _ 22 ?hg (N' := 11) ?hd (xs := ([t124, l0] : List (List Int))) (inner := [.slice Ao6 t124.length co6, .slice A0 l0.length c0]) (ok := (fun k_ => (P0_ k_ ∨ w.heap.size ≤ k_))) (okp := (fun k_ => (P0_ k_ ∨ w.heap.size ≤ k_))) ?hr ?hp (fun _ hk => hk) ((show ∀ k_, w5.heap.size ≤ k_ → (fun k_ => (P0_ k_ ∨ w.heap.size ≤ k_)) k_ from fun k_ hk => (.inr (Nat.le_trans (below_size (by repeat (first | (with_reducible first | exact HB.out | apply below_alloc | apply pw_below_drewN | apply below_drew1) | exact HB.out))) hk))) _ (Nat.le_refl _)) (Below.refl _ _) (Nat.le_refl _) (by simp) ?_; (case hd => rfl); (case hg => rfl); (case hr => first | (go_simp; done) | (go_simp; rfl)); (case hp => exact (Reps.one (show Kd.FK (Kd.slice 5 (Kd.int .u8)) _ _ t124 [.slice Ao6 t124.length co6] from (Kd.FK_slice_mk (Kd.R_reads' (Kd.R_mono (ok' := (fun k_ => (P0_ k_ ∨ w.heap.size ≤ k_))) (HO126.out) (fun k_ hk => (.inr (hk.1))))).2.1 (Kd.R_F (Kd.R_mono (ok' := (fun k_ => (P0_ k_ ∨ w.heap.size ≤ k_))) (HO126.out) (fun k_ hk => (.inr (hk.1))))))) (Reps.one (show Kd.FK (Kd.slice 5 (Kd.int .u8)) _ _ l0 [.slice A0 l0.length c0] from (Kd.FK_slice_mk (Kd.V_reads' (Kd.V_mono (ok' := (fun k_ => (P0_ k_ ∨ w.heap.size ≤ k_))) (HO0.out) (fun k_ hk => hk.1))).2.1 (Kd.V_F (Kd.V_mono (ok' := (fun k_ => (P0_ k_ ∨ w.heap.size ≤ k_))) (HO0.out) (fun k_ hk => hk.1))))) (Reps.none _ _)))); intro v128 w7 ho8 hb hg_ hnew_; clear hg_ hnew_; (first | rw [← Ny127.out] at ho8 | (simp only [Int.reduceToNat] at ho8; rw [← Ny127.out] at ho8)); have n0_ := Aside0.mk (Kd.V_elder' (by (with_reducible repeat (first | apply Kd.V_alloc | apply Kd.V_drewN | apply Kd.V_drew)); exact HO0.out) (Kd.N_base ho8) hb); have n1_ := Aside0.mk (Kd.N_lower ho8 (below_size (by repeat (first | (with_reducible first | exact HB.out | apply below_alloc | apply pw_below_drewN | apply below_drew1) | exact HB.out)))); have n2_ := Aside0.mk (below_step (by repeat (first | (with_reducible first | exact HB.out | apply below_alloc | apply pw_below_drewN | apply below_drew1) | exact HB.out)) hb); clear HO0; clear HB; clear HO126; have HO0 := n0_; have HO129 := n1_; have HB := n2_; clear n0_ n1_ n2_; clear hb ho8; obtain ⟨Ao9, co9, eo9⟩ := Kd.N_slice HO129.out; subst eo9) | ((with_reducible refine gate_callee (f := 42) rfl ?_); refine goesL_ (some 12) rfl rfl Try.func42 (by kernel_rfl) rfl #[.slice Ao9 y127.length co9] rfl (by (try simp only [List.map_toArray, List.map_cons, List.map_nil]); first | done | rfl | (simp only [List.length_drop, List.length_take]; rfl)) ?_; (with_reducible refine (octets_Join.calls k _ _ y127 t130 _ ?side1 ?side2 A4.out).mono ?_); (case side1 => repeat (first | exact (Kd.N_reads' HO129.out).2.2 | (with_reducible refine Kd.C_alloc ?_ _) | (with_reducible refine Kd.C_drewN ?_ _) | (with_reducible refine Kd.C_drew ?_))); (case side2 => exact (Kd.N_reads' HO129.out).2.1); rintro e w10 ⟨v131, rfl, ho0, hb⟩; refine ⟨_, rfl, ?_⟩; have n0_ := Aside0.mk (Kd.V_elder' (by (with_reducible repeat (first | apply Kd.V_alloc | apply Kd.V_drewN | apply Kd.V_drew)); exact HO0.out) (Kd.R_base ho0) hb); have n1_ := Aside0.mk (Kd.N_elder' (by (with_reducible repeat (first | apply Kd.N_alloc | apply Kd.N_drewN | apply Kd.N_drew)); exact HO129.out) (Kd.R_base ho0) hb); have n2_ := Aside0.mk (Kd.R_lower (Kd.R_newM (M := fun k_ => (w.heap.size ≤ k_)) ho0 (below_size (by repeat (first | (with_reducible first | exact HB.out | apply below_alloc | apply pw_below_drewN | apply below_drew1) | exact HB.out))) (fun k_ h_ => h_)) (below_size (by repeat (first | (with_reducible first | exact HB.out | apply below_alloc | apply pw_below_drewN | apply below_drew1) | exact HB.out)))); have n3_ := Aside0.mk (below_step (by repeat (first | (with_reducible first | exact HB.out | apply below_alloc | apply pw_below_drewN | apply below_drew1) | exact HB.out)) hb); clear HO0; clear HO129; clear HB; have HO0 := n0_; have HO129 := n1_; have HO132 := n2_; have HB := n3_; clear n0_ n1_ n2_ n3_; (try clear hb); (try clear hb2); (try clear hk); (try clear hi); (try clear ho0)))
    go_ret2
    exact ⟨_, by first | rfl | (simp [errW_none, errW_some] <;> rfl) | (simp [*, errW_none, errW_some] <;> rfl), by (with_reducible repeat (first | apply Kd.R_alloc | apply Kd.R_drewN | apply Kd.R_drew)); exact Kd.R_mono HO132.out (fun _ hk => hk.1), by repeat (first | (with_reducible first | exact HB.out | apply below_alloc | apply pw_below_drewN | apply below_drew1) | exact HB.out)⟩

end Go.Proofs.Ytfdpbdaekfdnjaa.X
/- Whole structs and arrays in a block: made, stored, read. -/
namespace Go.Proofs.Ytfdpbdaekfdnjaa.X
open Go.RowKit Go.Proofs.YtfdpbdaekfdnjaaW.PrintWords Go.Proofs.YtfdpbdaekfdnjaaW.PrintLast Go.Proofs.YtfdpbdaekfdnjaaW.PrintMore
set_option linter.unusedVariables false
set_option linter.unusedSimpArgs false

/-- Another array in block g, and no other block turned. -/
structure Stored (g : Nat) (t : TypeId) (cs : Array Value) (w w1 : World) : Prop where
  at_ : w1.heap[g]? = some (.cells cs t (0, 0))
  size : w1.heap.size = w.heap.size
  far : ∀ i, i ≠ g → w1.heap[i]? = w.heap[i]?
  below : ∀ (v : World), Below v.heap.size v w → v.heap.size ≤ g → Below v.heap.size v w1
section
variable {P : Program} {ops : Array Oper} {rest : List Oper} {o : Oper} {a : Act} {Q : Exit → Act → World → Prop}
theorem setCells_stored (g : Nat) (t : TypeId) : ∀ (vs : List Value) (i : Nat) (w : World) (pre suf : List Value), w.heap[g]? = some (.cells (pre ++ suf).toArray t (0, 0)) → pre.length = i → vs.length = suf.length →
    Stored g t (pre ++ vs).toArray w (w.setCells g i vs)
  | [], i, w, pre, suf, h, hp, hl => by
    have : suf = [] := List.length_eq_zero_iff.1 (by simpa using hl.symm)
    subst this
    exact ⟨h, rfl, fun _ _ => rfl, fun v hb _ => hb⟩
  | v :: vs, i, w, pre, suf, h, hp, hl => by
    match suf, hl with
    | s :: suf, hl =>
    have h1 := blk_put (cs' := ((pre ++ [v]) ++ suf).toArray) h i v (by
      subst hp
      simp [List.set_append_right])
    have ih := setCells_stored g t vs (i + 1) (w.setCell ⟨g, i, none⟩ v) (pre ++ [v]) suf h1 (by simp [hp]) (by simpa using hl)
    rw [World.setCells]
    refine ⟨by have := ih.at_; simpa using this, ih.size.trans (World.size_setCell _ _ _), fun j hj => (ih.far j hj).trans ?_, fun u hb hg => ih.below u (by exact hb.setCell hg _) hg⟩
    exact Below.heap_setCell w ⟨g, i, none⟩ v j hj
/-- A whole array stored. -/
theorem store_ev {W : World} (hgd : o.guard = none) (hd : o.dst = none) (ty : TypeId) (x y : Operand) (ho : o.op = .store ty x y) (g : Nat) (cs cells : Array Value) (hx : a.eval x = .pointer (some ⟨g, 0, none⟩)) (hy : a.eval y = .agg cells)
    (hg : W.heap[g]? = some (.cells cs ty (0, 0))) (hs : cs.size = cells.size) (hi : (P.info? ty).map (·.size) = some cells.size) (h1 : cells.all (·.oneCell') = true)
    (h : ∀ w1, Stored g ty cells W w1 → wpList P ops Q rest a w1) : wpList P ops Q (o :: rest) a W := by
  refine wpList_store_mid hgd ty x y ho g 0 cells hx hy (fun j hj => ?_) hi h1 ?_
  · rw [Nat.zero_add, blk_cell hg, blk_frozen hg]
    exact ⟨by rw [Array.getElem?_eq_getElem (by omega)]; rfl, rfl⟩
  · rw [hd]
    have := setCells_stored g ty cells.toList 0 W [] cs.toList (by simpa using hg) rfl (by simpa using hs.symm)
    exact h _ (by simpa using this)
/-- An array of parts that are told. -/
theorem build_ev {W : World} (hgd : o.guard = none) {N : Tmp} (hd : o.dst = some N) (t : TypeId) (parts : Array (Nat × Operand)) (ho : o.op = .build t parts) (cells : Array Value) (hb : P.built t (parts.map fun (i, x) => (i, a.eval x)).toList = some cells)
    (h : wpList P ops Q rest (a.put (some N) (.agg cells)) W) : wpList P ops Q (o :: rest) a W := by
  refine wpList_build hgd t parts ho (by rw [hb]; rfl) ?_
  rw [hb, hd]
  exact h
/-- A whole array read. -/
theorem load_ev {W : World} (hgd : o.guard = none) {N : Tmp} (hd : o.dst = some N) (ty : TypeId) (x : Operand) (ho : o.op = .load ty x) (g : Nat) (cs : Array Value) (d : TypeDesc) (hx : a.eval x = .pointer (some ⟨g, 0, none⟩))
    (hg : W.heap[g]? = some (.cells cs ty (0, 0))) (hu : P.underlying ty = some d) (hd2 : d.isRow = true) (hi : (P.info? ty).map (·.size) = some cs.size)
    (h : wpList P ops Q rest (a.put (some N) (.agg cs)) W) : wpList P ops Q (o :: rest) a W := by
  refine wpList_load_mid hgd ty x ho g 0 hx cs.toList d (fun j v hv => ?_) hu hd2 (by simpa using hi) ?_
  · rw [Nat.zero_add, blk_cell hg]
    simpa using hv
  · rw [hd]
    simpa using h
end
theorem gen_world {P : Program} {c : Code} {Q : Exit → Act → World → Prop} {a : Act} {w0 w : World} (hd : Drawn0 w0 w) (h : ∀ W, Drawn0 w0 W → Code.wp P c Q a W) : Code.wp P c Q a w := h w hd
theorem run_alloc (P : Program) (t : TypeId) (cs : Array Value) (n : Nat) (h : (P.info? t).map (fun i => (i.zero, i.size)) = some (some (.agg cs), n)) (eval : Operand → Value) (o : Oper) (ho : o.op = .alloc t) (W : World) :
    (execOp eval o).run P W = .ok (.value (.pointer (some ⟨W.heap.size, 0, none⟩))) (W.alloc (.cells cs t (0, 0))) := by
  have hz := (zero_of_info h).1
  unfold execOp
  simp [ho, Instr.alloc, hz, newVar, newRow, Value.cells]
end Go.Proofs.Ytfdpbdaekfdnjaa.X
/- slices.Clone of octets. -/
namespace Go.Proofs.Ytfdpbdaekfdnjaa.X
open Go.RowKit Go.Proofs.YtfdpbdaekfdnjaaW.PrintWords Go.Proofs.YtfdpbdaekfdnjaaW.PrintLast Go.Proofs.YtfdpbdaekfdnjaaW.PrintMore
set_option linter.unusedVariables false
set_option linter.unusedSimpArgs false

def slices_Clone_byte_byte.f (l0 : List Int) : Option (List Int) := if l0.length ≤ 140737488355328 then some l0 else none
set_option maxRecDepth 100000 in
set_option maxHeartbeats 4000000 in
theorem cloneB_calls (A0 : Option Addr) (c0 : Nat) (l0 : List Int) (w : World) (hr0 : Kd.C (Kd.int .u8) w A0 l0.length l0) (hc0 : l0.length ≤ c0) (hl : l0.length ≤ 140737488355328) :
    Calls Try.prog 40 #[.slice A0 l0.length c0] w fun e w' => ∃ v : Value, e = .returned v ∧ Kd.R (Kd.int .u8) 5 w' w.heap.size (fun _ => True) v l0 ∧ Below w.heap.size w w' := by
  have HR0 := Lib.hid hr0
  have HL := Lib.hid hl
  cases A0 with
  | none =>
    have h0 : l0 = [] := by
      rcases Nat.eq_zero_or_pos l0.length with h0 | h0
      · exact List.eq_nil_of_length_eq_zero h0
      · obtain ⟨ad, e, _⟩ := hr0.2.2 h0
        cases e
    subst h0
    clear hr0 hl
    have hq : ∀ W : World, (binOp .eql 22 (.slice none ([] : List Int).length c0) (.slice none 0 0)).run Try.prog W = .ok (.bool true) W := fun W => Lib.run_eql_slice_nil W 22 5 none _ _ _ _ Try.underlying22
    simp only [List.length_nil] at hq
    go_enter Try.func40, Try.ntmps40
    go_wp2
    go_ret
    exact ⟨_, rfl, Kd.R_nil _ _ _ _ _, Below.refl _ _⟩
  | some ad =>
    clear hr0 hl
    have hq : ∀ W : World, (binOp .eql 22 (.slice (some ad) l0.length c0) (.slice none 0 0)).run Try.prog W = .ok (.bool false) W := fun W => Lib.run_eql_slice_nil W 22 5 (some ad) _ _ _ _ Try.underlying22
    go_enter Try.func40, Try.ntmps40
    go_wp2_with (first | ((with_reducible refine gate_dst (N := 5) rfl ?_); refine Kd.R_lit (Kd.int .u8) _ 5 ?hg (N := 5) ?hd (xs := ([] : List Int)) (inner := []) (ok := fun _ => True) (okp := fun _ => True) ?hr ?hp (fun _ hk => hk) trivial (Below.refl _ _) (Nat.le_refl _) (by simp) ?_; (case hd => rfl); (case hg => rfl); (case hr => first | (go_simp; done) | (go_simp; rfl)); (case hp => exact Reps.none _ _); intro v5 w1 ho hb hg_ hnew_; clear hg_ hnew_) | ((with_reducible refine gate_builtin (b := .append) (xs := #[.tmp 5, .tmp 6]) rfl ?_); at_builtin; refine Kd.R_append_rows (Kd.int .u8) (w0 := w) w.heap.size rfl (.tmp 5) (.tmp 6) 22 5 _ 1 rfl Try.underlying22 info5 rfl (by decide) (by decide) v5 [] l0 (some ad) l0.length c0 (fun _ => True) (fun _ => False) rfl rfl ho (Kd.C_below HR0.out hb) (fun x cs hp => hp) (fun _ hk => hk.elim) (fun _ _ => trivial) hb hb.size (by have := HL.out; simpa using this) ?_; intro v1 w2 hR2 hb2 hg2 hat2))
    go_ret
    exact ⟨_, rfl, by simpa using hR2, hb2⟩
theorem slices_Clone_byte_byte.calls (A0 : Option Addr) (c0 : Nat) (l0 : List Int) (r : List Int) (w : World) (hr0 : Kd.C (Kd.int .u8) w A0 l0.length l0) (hc0 : l0.length ≤ c0) (h : slices_Clone_byte_byte.f l0 = some r) :
    Calls Try.prog 40 #[.slice A0 l0.length c0] w fun e w' => ∃ v0_ : Value, e = .returned (v0_) ∧ Kd.R (Kd.int .u8) 5 w' w.heap.size (fun _ => True) v0_ r ∧ Below w.heap.size w w' := by
  unfold slices_Clone_byte_byte.f at h
  by_cases hl : l0.length ≤ 140737488355328
  · rw [if_pos hl] at h
    cases h
    exact cloneB_calls A0 c0 l0 w hr0 hc0 hl
  · rw [if_neg hl] at h
    cases h
end Go.Proofs.Ytfdpbdaekfdnjaa.X
/- Disks: what lies in memory, and the calls that only read. -/
namespace Go.Proofs.Ytfdpbdaekfdnjaa.X
open Go.RowKit Go.Proofs.YtfdpbdaekfdnjaaW.PrintWords Go.Proofs.YtfdpbdaekfdnjaaW.PrintLast Go.Proofs.YtfdpbdaekfdnjaaW.PrintMore
set_option linter.unusedVariables false
set_option linter.unusedSimpArgs false

/-- Octets of one's own, in a block that may be longer than the slice's capacity. -/
def DRow (W : World) (base : Nat) (v : Value) (xs : List Int) : Prop :=
  (v = .slice none 0 0 ∧ xs = []) ∨ ∃ g cap cur, v = .slice (some ⟨g, 0, none⟩) xs.length cap ∧ base ≤ g ∧ W.heap[g]? = some (.cells cur 5 (0, 0)) ∧ xs.length ≤ cap ∧ cap ≤ cur.size ∧ cap ≤ maxLen ∧ cur.toList.take xs.length = nums .u8 xs
section
variable {W W1 : World} {base : Nat} {v : Value} {xs : List Int}
theorem DRow.nil (W : World) (base : Nat) : DRow W base (.slice none 0 0) [] := .inl ⟨rfl, rfl⟩
theorem DRow.slice (h : DRow W base v xs) : ∃ A c, v = .slice A xs.length c ∧ xs.length ≤ c := by
  rcases h with ⟨rfl, rfl⟩ | ⟨g, cap, cur, rfl, _, _, hc, _⟩
  · exact ⟨none, 0, rfl, Nat.le_refl _⟩
  · exact ⟨_, _, rfl, hc⟩
theorem DRow.move (h : DRow W base v xs) (hm : ∀ k, v.ownBlock = some k → W1.heap[k]? = W.heap[k]?) : DRow W1 base v xs := by
  rcases h with h | ⟨g, cap, cur, rfl, hb, hh, r⟩
  · exact .inl h
  · exact .inr ⟨g, cap, cur, rfl, hb, (hm g rfl).trans hh, r⟩
theorem DRow.lt (h : DRow W base v xs) : ∀ k, v.ownBlock = some k → base ≤ k ∧ k < W.heap.size := by
  intro k hk
  rcases h with ⟨rfl, _⟩ | ⟨g, cap, cur, rfl, hb, hh, _⟩
  · simp [Value.ownBlock] at hk
  · have : g = k := by simpa [Value.ownBlock] using hk
    subst this
    exact ⟨hb, blk_lt hh⟩
theorem DRow.lower (h : DRow W base v xs) {base' : Nat} (hb : base' ≤ base) : DRow W base' v xs := by
  rcases h with h | ⟨g, cap, cur, e, hg, r⟩
  · exact .inl h
  · exact .inr ⟨g, cap, cur, e, Nat.le_trans hb hg, r⟩
theorem DRow.row {A : Option Addr} {n c : Nat} (h : DRow W base (.slice A n c) xs) : xs.length = n ∧ Kd.C (Kd.int .u8) W A n xs := by
  rcases h with ⟨e, rfl⟩ | ⟨g, cap, cur, e, hb, hh, hc, hcs, hm, ht⟩
  · injection e with e1 e2 e3
    subst e1 e2
    exact ⟨rfl, Kd.C_nil _ _⟩
  · injection e with e1 e2 e3
    subst e1 e2
    refine ⟨rfl, Kd.C_of_reads (d := (0 : Int)) (h1 := fun _ => rfl) ⟨rfl, by unfold maxLen at hm; omega, fun _ => ⟨_, rfl, fun j hj => ?_⟩⟩⟩
    rw [show (⟨g, 0, none⟩ : Addr).add j = ⟨g, j, none⟩ by simp only [Addr.add]; split <;> simp_all, blk_cell hh]
    have e4 : (cur.toList.take xs.length)[j]? = (nums .u8 xs)[j]? := by rw [ht]
    rw [List.getElem?_take_of_lt hj] at e4
    rw [← Array.getElem?_toList, e4]
    simp [nums, List.getD_eq_getElem?_getD, hj]
theorem DRow.take {A : Option Addr} {n c m : Nat} (h : DRow W base (.slice A n c) xs) (hm : m ≤ n) : DRow W base (.slice A m c) (xs.take m) := by
  rcases h with ⟨e, rfl⟩ | ⟨g, cap, cur, e, hb, hh, hc, hcs, hml, ht⟩
  · injection e with e1 e2 e3
    subst e1 e2 e3
    obtain rfl : m = 0 := by omega
    exact .inl ⟨rfl, rfl⟩
  · injection e with e1 e2 e3
    subst e1 e2 e3
    have hl : (xs.take m).length = m := by rw [List.length_take]; omega
    refine .inr ⟨g, c, cur, by rw [hl], hb, hh, by omega, hcs, hml, ?_⟩
    rw [hl]
    have : (cur.toList.take xs.length).take m = (nums .u8 xs).take m := by rw [ht]
    rw [List.take_take, Nat.min_eq_left hm] at this
    rw [this]
    simp [nums, List.map_take]
theorem DRow.cut {A : Option Addr} {n c m : Nat} (h : DRow W base (.slice A n c) xs) (hm : m ≤ n) : DRow W base (.slice A m m) (xs.take m) := by
  rcases h.take hm with ⟨e, e2⟩ | ⟨g, cap, cur, e, hb, hh, hc, hcs, hml, ht⟩
  · injection e with e1 e3 e4
    subst e1 e3
    exact .inl ⟨rfl, e2⟩
  · injection e with e1 e3 e4
    subst e1
    exact .inr ⟨g, m, cur, by rw [← e3], hb, hh, by omega, by omega, by omega, ht⟩
theorem DRow.of_R {ok : Nat → Prop} (h : Kd.R (Kd.int .u8) 5 W base ok v xs) : DRow W base v xs := by
  have ho := Kd.own_of_R h
  have hr := (Kd.R_reads h)
  rcases ho.2 with ⟨rfl, h0⟩ | ⟨g, cap, cur, rfl, hg, hh, hc, hm, hs, ht⟩
  · exact .inl ⟨rfl, List.eq_nil_of_length_eq_zero h0⟩
  · exact .inr ⟨g, cap, cur, rfl, hg, hh, hc, by rw [hs]; omega, hm, by simpa [nums, encs] using ht⟩
end
/-- A disk. -/
structure DiskAt (W : World) (base g : Nat) (v : Value) (xs : List Int) (sure room : Int) : Prop where
  blk : W.heap[g]? = some (.cells #[v, .int .i64 sure, .int .i64 room, .bool true] 49 (0, 0))
  row : DRow W base v xs
  ge : base ≤ g
  ne : ∀ k, v.ownBlock = some k → k ≠ g
/-- Only blocks of S are turned. -/
structure Touch (S : Nat → Prop) (W W1 : World) : Prop where
  os : W1.os = W.os
  tape : W1.tape = W.tape
  output : W1.output = W.output
  size : W.heap.size ≤ W1.heap.size
  block : ∀ k, k < W.heap.size → ¬ S k → W1.heap[k]? = W.heap[k]?
theorem DiskAt.move {W W1 : World} {base g : Nat} {v : Value} {xs : List Int} {sure room : Int} (h : DiskAt W base g v xs sure room) (hg : W1.heap[g]? = W.heap[g]?) (hm : ∀ k, v.ownBlock = some k → W1.heap[k]? = W.heap[k]?) : DiskAt W1 base g v xs sure room :=
  ⟨hg.trans h.blk, h.row.move hm, h.ge, h.ne⟩
theorem DiskAt.below {W W1 : World} {base g : Nat} {v : Value} {xs : List Int} {sure room : Int} (h : DiskAt W base g v xs sure room) (hb : Below W.heap.size W W1) : DiskAt W1 base g v xs sure room :=
  h.move (hb.block _ (blk_lt h.blk)) (fun k hk => hb.block _ (h.row.lt k hk).2)

set_option maxRecDepth 100000 in
set_option maxHeartbeats 4000000 in
theorem is_calls (W : World) (base g : Nat) (v : Value) (xs : List Int) (sure room : Int) (h : DiskAt W base g v xs sure room) :
    Calls Try.prog 39 #[.pointer (some ⟨g, 0, none⟩)] W fun e w' => e = .returned (.bool true) ∧ W = w' := by
  have f3 := blk_cell h.blk 3
  go_enter Try.func39, Try.ntmps39
  go_wp2
  go_ret
  exact ⟨rfl, rfl⟩
set_option maxRecDepth 100000 in
set_option maxHeartbeats 4000000 in
theorem size_calls (W : World) (base g : Nat) (v : Value) (xs : List Int) (sure room : Int) (h : DiskAt W base g v xs sure room) :
    Calls Try.prog 29 #[.pointer (some ⟨g, 0, none⟩)] W fun e w' => e = .returned (.int .i64 xs.length) ∧ W = w' := by
  obtain ⟨A, c, rfl, hc⟩ := h.row.slice
  have f0 := blk_cell h.blk 0
  go_enter Try.func29, Try.ntmps29
  go_wp2_with (go_at_call 39; (with_reducible refine (is_calls _ _ _ _ _ _ _ h).mono ?_); rintro e w' ⟨rfl, rfl⟩)
  go_ret
  exact ⟨rfl, rfl⟩
set_option maxRecDepth 100000 in
set_option maxHeartbeats 4000000 in
theorem loose_calls (W : World) (base g : Nat) (v : Value) (xs : List Int) (sure : Nat) (room : Int) (h : DiskAt W base g v xs sure room) (hs : sure ≤ xs.length) :
    Calls Try.prog 20 #[.pointer (some ⟨g, 0, none⟩)] W fun e w' => e = .returned (.int .i64 ((xs.length : Int) - sure)) ∧ Drawn0 W w' := by
  obtain ⟨A, c, rfl, hc⟩ := h.row.slice
  have hm := Kd.C_max h.row.row.2
  have f0 := blk_cell h.blk 0
  have f1 := blk_cell h.blk 1
  have b0 : (0 : Int) ≤ (xs.length : Int) - sure := by omega
  have b1 : ((xs.length : Int) - sure) ≤ 9223372036854775807 := by omega
  have e1 : IntKind.i64.wrap ((xs.length : Int) - sure) = (xs.length : Int) - sure := by rw [IntKind.wrap_i64]; omega
  go_enter Try.func20, Try.ntmps20
  go_wp2_with (go_at_call 39; (with_reducible refine (is_calls _ _ _ _ _ _ _ h).mono ?_); rintro e w' ⟨rfl, rfl⟩)
  go_quiet (fail)
  go_wp2
  go_ret
  exact ⟨rfl, ⟨_, rfl⟩⟩
end Go.Proofs.Ytfdpbdaekfdnjaa.X
/- Disks: the calls that make or turn one. -/
namespace Go.Proofs.Ytfdpbdaekfdnjaa.X
open Go.RowKit Go.Proofs.YtfdpbdaekfdnjaaW.PrintWords Go.Proofs.YtfdpbdaekfdnjaaW.PrintLast Go.Proofs.YtfdpbdaekfdnjaaW.PrintMore
set_option linter.unusedVariables false
set_option linter.unusedSimpArgs false

theorem Touch.refl (S : Nat → Prop) (W : World) : Touch S W W := ⟨rfl, rfl, rfl, Nat.le_refl _, fun _ _ _ => rfl⟩
theorem Touch.set {S : Nat → Prop} {W W1 : World} {g : Nat} (h : Touch S W W1) (hg : S g) (o : Nat) (x : Value) : Touch S W (W1.setCell ⟨g, o, none⟩ x) :=
  ⟨h.os, h.tape, h.output, by rw [World.size_setCell]; exact h.size, fun k hk hn => (Below.heap_setCell W1 ⟨g, o, none⟩ x k (fun e => hn (by rw [e]; exact hg))).trans (h.block k hk hn)⟩
theorem Touch.drewN {S : Nat → Prop} {W W1 : World} (h : Touch S W W1) (n : Nat) : Touch S W (W1.drewN n) := ⟨h.os, h.tape, h.output, h.size, h.block⟩
theorem Touch.below {S : Nat → Prop} {W W1 w : World} (h : Touch S W W1) (hb : Below w.heap.size w W) (hS : ∀ k, S k → w.heap.size ≤ k) : Below w.heap.size w W1 :=
  ⟨h.os.trans hb.os, h.tape.trans hb.tape, h.output.trans hb.output, Nat.le_trans hb.size h.size, fun k hk => (h.block k (Nat.lt_of_lt_of_le hk hb.size) (fun hs => by have := hS k hs; omega)).trans (hb.block k hk)⟩
set_option maxRecDepth 100000 in
set_option maxHeartbeats 4000000 in
theorem new_calls (w : World) (room r : Int) (hr : mn (mx room 0) 262144 = r) :
    Calls Try.prog 15 #[.int .i64 room] w fun e w' => e = .returned (.pointer (some ⟨w.heap.size, 0, none⟩)) ∧ DiskAt w' w.heap.size w.heap.size (.slice none 0 0) [] 0 r ∧ Below w.heap.size w w' := by
  unfold mn mx at hr
  have HR := Lib.hid hr
  clear hr
  go_enter Try.func15, Try.ntmps15
  go_wp2
  all_goals go_ret
  all_goals (refine ⟨rfl, ⟨?_, DRow.nil _ _, Nat.le_refl _, by simp [Value.ownBlock]⟩, below_alloc (Below.refl _ _) _⟩)
  all_goals (have := HR.out; (first | (rw [← this]; exact blk_new _ _) | (rw [show r = 262144 by (repeat' split at this) <;> omega]; exact blk_new _ _) | (rw [show r = 0 by (repeat' split at this) <;> omega]; exact blk_new _ _) | (rw [show r = room by (repeat' split at this) <;> omega]; exact blk_new _ _)))
set_option maxRecDepth 100000 in
set_option maxHeartbeats 4000000 in
theorem read_calls (W : World) (base g : Nat) (v : Value) (xs : List Int) (sure room : Int) (h : DiskAt W base g v xs sure room) (hl : xs.length ≤ 140737488355328) :
    Calls Try.prog 19 #[.pointer (some ⟨g, 0, none⟩)] W fun e w' => ∃ v1, e = .returned v1 ∧ Kd.R (Kd.int .u8) 5 w' W.heap.size (fun _ => True) v1 xs ∧ Below W.heap.size W w' := by
  obtain ⟨A, c, rfl, hc⟩ := h.row.slice
  have f0 := blk_cell h.blk 0
  go_enter Try.func19, Try.ntmps19
  go_wp2_with (first | (go_at_call 39; (with_reducible refine (is_calls _ _ _ _ _ _ _ h).mono ?_); rintro e w' ⟨rfl, rfl⟩) | (go_at_call 40; go_must ((with_reducible refine (cloneB_calls A c xs _ h.row.row.2 hc hl).mono ?_); rintro e w1 ⟨v1, rfl, ho, hb⟩)))
  go_ret
  exact ⟨_, rfl, ho, hb⟩
set_option maxRecDepth 100000 in
set_option maxHeartbeats 4000000 in
theorem flush_calls (W : World) (base g : Nat) (v : Value) (xs : List Int) (sure : Nat) (room : Int) (h : DiskAt W base g v xs sure room) (hs : sure ≤ xs.length) :
    Calls Try.prog 17 #[.pointer (some ⟨g, 0, none⟩)] W fun e w' => e = .returned (.int .i64 ((xs.length : Int) - sure)) ∧ DiskAt w' base g v xs xs.length room ∧ Touch (· = g) W w' := by
  obtain ⟨A, c, rfl, hc⟩ := h.row.slice
  have h2 : ∀ n, DiskAt (W.drewN n) base g (.slice A xs.length c) xs sure room := fun n => h.move rfl (fun _ _ => rfl)
  have f0 := blk_cell h.blk 0
  have f1 := blk_cell h.blk 1
  have fr1 := blk_frozen h.blk 1
  have H := Lib.hid h
  have H2 := Lib.hid h2
  clear h2 h
  go_enter Try.func17, Try.ntmps17
  go_wp2_with (first | (go_at_call 20; (with_reducible refine (loose_calls _ _ _ _ _ _ _ H.out hs).mono ?_); rintro e w' ⟨rfl, ⟨n, rfl⟩⟩) | (go_at_call 39; (with_reducible refine (is_calls _ _ _ _ _ _ _ (H2.out _)).mono ?_); rintro e w' ⟨rfl, rfl⟩))
  go_ret
  refine ⟨rfl, ⟨?_, (H.out.row.move (W1 := W.drewN n) (fun _ _ => rfl)).move (fun k hk => Below.heap_setCell _ _ _ _ (H.out.ne k hk)), H.out.ge, H.out.ne⟩, ((Touch.refl (fun x => x = g) W).drewN n).set (S := fun x => x = g) rfl _ _⟩
  have hb : (W.drewN n).heap[g]? = some (.cells #[.slice A xs.length c, .int .i64 sure, .int .i64 room, .bool true] 49 (0, 0)) := H.out.blk
  exact blk_put hb 1 _ rfl
theorem own_slice (A : Option Addr) (n c n' c' : Nat) : (Value.slice A n c).ownBlock = (Value.slice A n' c').ownBlock := by cases A <;> rfl
theorem mix : Try.prog.follows .mixedOrders = true := by kernel_rfl
theorem info_5 : ∃ i, Try.prog.info? 5 = some i ∧ i.size = 1 := by
  obtain ⟨i, hi, _, hs, _⟩ := info_parts info5
  exact ⟨i, hi, hs⟩
/-- How many of the loose ones stay. -/
def keepN (keep : Int) (n sure : Nat) : Nat := (mn (mx keep 0) ((n : Int) - sure)).toNat
theorem keepN_le (keep : Int) (n sure : Nat) (h : sure ≤ n) : sure + keepN keep n sure ≤ n := by
  unfold keepN mn mx
  (repeat' split) <;> omega
set_option maxRecDepth 100000 in
set_option maxHeartbeats 4000000 in
theorem crash_calls (W : World) (base g : Nat) (v : Value) (xs : List Int) (sure : Nat) (room keep : Int) (h : DiskAt W base g v xs sure room) (hs : sure ≤ xs.length) :
    Calls Try.prog 18 #[.pointer (some ⟨g, 0, none⟩), .int .i64 keep] W fun e w' => e = .returned (.tuple #[]) ∧ ∃ v1, DiskAt w' base g v1 (xs.take (sure + keepN keep xs.length sure)) (sure + keepN keep xs.length sure : Nat) room ∧ Touch (· = g) W w' ∧ v1.ownBlock = v.ownBlock := by
  obtain ⟨A, c, rfl, hc⟩ := h.row.slice
  have hm := Kd.C_max h.row.row.2
  obtain ⟨m, hmm⟩ : ∃ m, sure + keepN keep xs.length sure = m := ⟨_, rfl⟩
  have hml : m ≤ xs.length := by rw [← hmm]; exact keepN_le _ _ _ hs
  rw [hmm]
  unfold keepN mn mx at hmm
  have f0 := blk_cell h.blk 0
  have f1 := blk_cell h.blk 1
  have fr1 := blk_frozen h.blk 1
  have e1 : IntKind.i64.wrap ((xs.length : Int) - sure) = (xs.length : Int) - sure := by rw [IntKind.wrap_i64]; omega
  have e2 : IntKind.i64.wrap ((sure : Int) + if (xs.length : Int) - sure < if keep < 0 then 0 else keep then (xs.length : Int) - sure else if keep < 0 then 0 else keep) = (m : Int) := by
    rw [IntKind.wrap_i64]
    (repeat' split at hmm) <;> (repeat' split) <;> omega
  obtain ⟨i5, hi5, hs5⟩ := info_5
  have hto := cut_to (P := Try.prog) 22 5 .i64 Try.underlying22 hi5 A xs.length c (m : Int) (by omega) (by omega) hc
  rw [Int.toNat_natCast] at hto
  have H := Lib.hid h
  have HML := Lib.hid hml
  clear h hmm hi5 hs5
  go_enter Try.func18, Try.ntmps18
  go_wp2_with (go_at_call 39; (with_reducible refine (is_calls _ _ _ _ _ _ _ H.out).mono ?_); rintro e w' ⟨rfl, rfl⟩)
  go_still_tail 20, mix
  clear e2
  generalize (if keep < 0 then (0 : Int) else keep) = q1
  generalize (if (xs.length : Int) - sure < q1 then (xs.length : Int) - sure else q1) = q2
  go_wp2
  obtain ⟨W2, hW2⟩ : ∃ W2, (W.setCell ⟨g, 1, none⟩ (.int .i64 m)).drew = W2 := ⟨_, rfl⟩
  have hb1 : (W.setCell ⟨g, 1, none⟩ (.int .i64 m)).heap[g]? = some (.cells #[.slice A xs.length c, .int .i64 m, .int .i64 room, .bool true] 49 (0, 0)) := blk_put H.out.blk 1 _ rfl
  have hb2 : W2.heap[g]? = some (.cells #[.slice A xs.length c, .int .i64 m, .int .i64 room, .bool true] 49 (0, 0)) := by rw [← hW2]; exact hb1
  have hr1 : DRow (W.setCell ⟨g, 1, none⟩ (.int .i64 m)) base (.slice A xs.length c) xs := H.out.row.move (fun k hk => Below.heap_setCell _ _ _ _ (H.out.ne k hk))
  have hr2 : DRow W2 base (.slice A xs.length c) xs := by rw [← hW2]; exact hr1.move (fun k hk => rfl)
  have ht1 : Touch (fun x => x = g) W (W.setCell ⟨g, 1, none⟩ (.int .i64 m)) := (Touch.refl (fun x => x = g) W).set (S := fun x => x = g) rfl _ _
  have ht2 : Touch (fun x => x = g) W W2 := by rw [← hW2]; exact ht1.drewN 1
  rw [hW2]
  clear f0 f1 fr1
  have f0 := blk_cell hb2 0
  have f1 := blk_cell hb2 1
  have fr0 := blk_frozen hb2 0
  have HB2 := Lib.hid hb2
  have HR2 := Lib.hid hr2
  have HT2 := Lib.hid ht2
  clear hW2 hb1 hb2 hr1 hr2 ht1 ht2
  go_still_tail 12, mix
  clear hto
  go_wp2
  go_end0
  refine ⟨rfl, .slice A m c, ⟨?_, ?_, H.out.ge, fun k hk => H.out.ne k ((own_slice A xs.length c m c).trans hk)⟩, ?_, own_slice A m c xs.length c⟩
  · have := blk_put HB2.out 0 (.slice A m c) rfl
    exact this
  · have h1 : DRow (W2.setCell ⟨g, 0, none⟩ (.slice A m c)) base (.slice A xs.length c) xs := HR2.out.move (fun k hk => Below.heap_setCell _ _ _ _ (H.out.ne k hk))
    exact h1.take HML.out
  · exact (HT2.out.set (S := fun x => x = g) rfl 0 (.slice A m c)).drewN 1
set_option maxRecDepth 100000 in
set_option maxHeartbeats 4000000 in
theorem cut_calls (W : World) (base g : Nat) (v : Value) (xs : List Int) (sure : Nat) (room size : Int) (h : DiskAt W base g v xs sure room) :
    Calls Try.prog 28 #[.pointer (some ⟨g, 0, none⟩), .int .i64 size] W fun e w' => (¬ (0 ≤ size ∧ size ≤ xs.length) → e = .returned (.int .i64 4) ∧ W = w') ∧ (0 ≤ size ∧ size ≤ xs.length → e = .returned (.int .i64 0) ∧ ∃ v1, DiskAt w' base g v1 (xs.take size.toNat) size room ∧ Touch (· = g) W w' ∧ v1.ownBlock = v.ownBlock) := by
  obtain ⟨A, c, rfl, hc⟩ := h.row.slice
  have f0 := blk_cell h.blk 0
  have fr0 := blk_frozen h.blk 0
  have f1 := blk_cell h.blk 1
  have fr1 := blk_frozen h.blk 1
  have H := Lib.hid h
  clear h
  by_cases hs : 0 ≤ size ∧ size ≤ xs.length
  · obtain ⟨s0, s1⟩ := hs
    obtain ⟨m, rfl⟩ := Int.eq_ofNat_of_zero_le s0
    have hml : m ≤ xs.length := by omega
    have c1 : decide ((m : Int) < 0) = false := decide_eq_false (by omega)
    have c2 : decide ((m : Int) > (xs.length : Int)) = false := decide_eq_false (by omega)
    have c3 : decide (xs.length < m) = false := decide_eq_false (by omega)
    have hmc : m ≤ c := by omega
    have HML := Lib.hid hml
    clear hml s1
    go_enter Try.func28, Try.ntmps28
    go_wp2_with (go_at_call 39; (with_reducible refine (is_calls _ _ _ _ _ _ _ H.out).mono ?_); rintro e w' ⟨rfl, rfl⟩)
    go_ret
    refine ⟨fun hn => absurd ⟨by omega, by have := HML.out; omega⟩ hn, fun _ => ⟨rfl, .slice A m m, ⟨?_, ?_, H.out.ge, fun k hk => H.out.ne k ((own_slice A xs.length c m m).trans hk)⟩, ?_, own_slice A m m xs.length c⟩⟩
    · exact blk_put (blk_put H.out.blk 0 (.slice A m m) rfl) 1 (.int .i64 (m : Int)) rfl
    · rw [Int.toNat_natCast]
      have h1 : DRow ((W.setCell ⟨g, 0, none⟩ (.slice A m m)).setCell ⟨g, 1, none⟩ (.int .i64 (m : Int))) base (.slice A xs.length c) xs := (H.out.row.move (fun k hk => Below.heap_setCell W ⟨g, 0, none⟩ (.slice A m m) k (H.out.ne k hk))).move (fun k hk => Below.heap_setCell _ _ _ _ (H.out.ne k hk))
      exact h1.cut HML.out
    · exact ((Touch.refl (fun x => x = g) W).set (S := fun x => x = g) rfl 0 (.slice A m m)).set (S := fun x => x = g) rfl 1 (.int .i64 (m : Int))
  · by_cases h1 : size < 0
    · have HS := Lib.hid hs
      have c1 : decide (size < 0) = true := decide_eq_true h1
      clear hs
      go_enter Try.func28, Try.ntmps28
      go_wp2_with (go_at_call 39; (with_reducible refine (is_calls _ _ _ _ _ _ _ H.out).mono ?_); rintro e w' ⟨rfl, rfl⟩)
      go_ret
      exact ⟨fun _ => ⟨rfl, rfl⟩, fun hh => absurd hh HS.out⟩
    · have h2 : (xs.length : Int) < size := by omega
      have HS := Lib.hid hs
      have c1 : decide (size < 0) = false := decide_eq_false h1
      have c2 : decide (size > (xs.length : Int)) = true := decide_eq_true h2
      clear hs
      go_enter Try.func28, Try.ntmps28
      go_wp2_with (go_at_call 39; (with_reducible refine (is_calls _ _ _ _ _ _ _ H.out).mono ?_); rintro e w' ⟨rfl, rfl⟩)
      go_ret
      exact ⟨fun _ => ⟨rfl, rfl⟩, fun hh => absurd hh HS.out⟩
end Go.Proofs.Ytfdpbdaekfdnjaa.X
/- Disks: octets more. -/
namespace Go.Proofs.Ytfdpbdaekfdnjaa.X
open Go.RowKit Go.Proofs.YtfdpbdaekfdnjaaW.PrintWords Go.Proofs.YtfdpbdaekfdnjaaW.PrintLast Go.Proofs.YtfdpbdaekfdnjaaW.PrintMore
set_option linter.unusedVariables false
set_option linter.unusedSimpArgs false

/-- Cells in the midst of a block stored. -/
theorem setCells_mid (g : Nat) (t : TypeId) : ∀ (vs : List Value) (i : Nat) (w : World) (pre mid suf : List Value), w.heap[g]? = some (.cells (pre ++ (mid ++ suf)).toArray t (0, 0)) → pre.length = i → vs.length = mid.length →
    (w.setCells g i vs).heap[g]? = some (.cells (pre ++ (vs ++ suf)).toArray t (0, 0)) ∧ w.grownBy (w.setCells g i vs) (some g)
  | [], i, w, pre, mid, suf, h, hp, hl => by
    have : mid = [] := List.length_eq_zero_iff.1 (by simpa using hl.symm)
    subst this
    exact ⟨h, World.grownBy.refl w _⟩
  | v :: vs, i, w, pre, mid, suf, h, hp, hl => by
    match mid, hl with
    | s :: mid, hl =>
    have h1 := blk_put (cs' := ((pre ++ [v]) ++ (mid ++ suf)).toArray) h i v (by
      subst hp
      simp [List.set_append_right])
    obtain ⟨a1, a2⟩ := setCells_mid g t vs (i + 1) (w.setCell ⟨g, i, none⟩ v) (pre ++ [v]) mid suf h1 (by simp [hp]) (by simpa using hl)
    rw [World.setCells]
    refine ⟨by simpa using a1, ⟨a2.os, a2.tape, a2.output, by have := a2.size; rwa [World.size_setCell] at this, fun k hk hn => ?_⟩⟩
    have hkg : k ≠ g := fun e => hn (by rw [e])
    exact (a2.block k (by rw [World.size_setCell]; exact hk) hn).trans (Below.heap_setCell w ⟨g, i, none⟩ v k hkg)
section
variable {ops : Array Oper} {rest : List Oper} {o : Oper} {a : Act} {Q : Exit → Act → World → Prop}
theorem drow_append {W : World} (hgd : o.guard = none) (s x : Operand) (ho : o.op = .call { callee := .builtin .append, args := #[s, x], argTypes := #[22, 22] }) (base : Nat) (v : Value) (xs ys : List Int) (A : Option Addr) (c : Nat) (hs : a.eval s = v) (hx : a.eval x = .slice A ys.length c)
    (hD : DRow W base v xs) (hC : Kd.C (Kd.int .u8) W A ys.length ys) (hl : xs.length + ys.length ≤ 140737488355328) (hb : base ≤ W.heap.size)
    (h : ∀ v1 w1, DRow w1 base v1 (xs ++ ys) → W.grownBy w1 v.ownBlock → (v1.ownBlock = v.ownBlock ∨ ∃ b, v1.ownBlock = some b ∧ W.heap.size ≤ b) → wpList Try.prog ops Q rest (a.put o.dst v1) w1) : wpList Try.prog ops Q (o :: rest) a W := by
  obtain ⟨i5, hi, hz0, hz1, hz2⟩ := info_parts info5
  rcases hD with ⟨rfl, rfl⟩ | ⟨g, cap, cur, rfl, hbg, hh, hnc, hcs, hcm, ht⟩
  · refine Kd.R_append_rows (Kd.int .u8) (w0 := W) W.heap.size hgd s x 22 5 (.int .u8 0) 1 ho Try.underlying22 info5 rfl (by decide) (by decide) (.slice none 0 0) [] ys A ys.length c (fun _ => True) (fun _ => False) hs hx (Kd.R_nil _ _ _ _ _) hC (fun x cs hp => hp) (fun _ hk => hk.elim) (fun _ _ => trivial) (Below.refl _ _) (Nat.le_refl _) (by simpa using hl) ?_
    intro v1 w1 hR hb1 hg hat
    exact h v1 w1 ((DRow.of_R hR).lower hb) hg hat
  · cases A with
    | none =>
      have h0 : ys = [] := by
        rcases Nat.eq_zero_or_pos ys.length with h0 | h0
        · exact List.eq_nil_of_length_eq_zero h0
        · obtain ⟨ad, e, _⟩ := hC.2.2 h0
          cases e
      subst h0
      have hrun : (Builtin.append_ #[22, 22] o.type #[.slice (some ⟨g, 0, none⟩) xs.length cap, .slice none 0 c]).run Try.prog W = .ok (.slice (some ⟨g, 0, none⟩) xs.length cap) W := by
        simp [Builtin.append_, run_underlying Try.underlying22, sizeOf, typeInfo, hi, Builtin.lenOf, Builtin.firstCells, hnc, storeCells]
      refine Kd.event_run hgd (v := .slice (some ⟨g, 0, none⟩) xs.length cap) (w1 := W) ?_ (h _ _ (by rw [List.append_nil]; exact .inr ⟨g, cap, cur, rfl, hbg, hh, hnc, hcs, hcm, ht⟩) (World.grownBy.refl W _) (.inl rfl))
      simp only [List.length_nil] at hx
      simp [execOp, ho, resolve, invoke, builtin, hs, hx, hrun, Result.andThen]
    | some ad =>
      have hrd := Kd.reads_of_C (d := (0 : Int)) (h1 := fun _ => rfl) hC
      have hold : ∀ j u, (nums .u8 xs)[j]? = some u → W.cell? ⟨g, 0 + j, none⟩ = some u := fun j u hj => by
        rw [Nat.zero_add, blk_cell hh, ← Array.getElem?_toList]
        have hj2 : j < xs.length := by
          have := (List.getElem?_eq_some_iff.1 hj).1
          simpa [nums] using this
        rw [← ht, List.getElem?_take_of_lt hj2] at hj
        exact hj
      refine wpList_append_arg W hgd s x 22 ho 5 i5 (.int .u8 0) 1 1 Try.underlying22 hi hz0 hz1 hz2 rfl (by decide) g 0 xs.length cap (nums .u8 xs) hs (by simp [nums]) hold ad ys.length c (nums .u8 ys) hx (by simp [nums]) (fun j u hj => ?_) (fun u hu => ?_) (fun hr j hj => ?_) (by unfold maxLen at *; omega) (by omega) (fun hr => ?_) (fun hg v' w' hown hgr => ?_)
      · have hj2 : j < ys.length := by
          have := (List.getElem?_eq_some_iff.1 hj).1
          simpa [nums] using this
        obtain ⟨ad', e, hc⟩ := hrd.2.2 (by omega)
        cases e
        rw [hc j hj2]
        simpa [nums, hj2, List.getD_eq_getElem?_getD] using hj
      · simp only [nums, List.mem_map] at hu
        obtain ⟨q, _, rfl⟩ := hu
        rfl
      · have hj2 : j < ys.length := by simpa [nums] using hj
        refine ⟨?_, blk_frozen hh _⟩
        rw [blk_cell hh, Array.getElem?_eq_getElem (by omega)]
        rfl
      · have hcl : cur.toList.length = cur.size := by simp
        have hsplit : cur.toList = nums .u8 xs ++ ((cur.toList.drop xs.length).take ys.length ++ (cur.toList.drop xs.length).drop ys.length) := by
          rw [List.take_append_drop, ← ht, List.take_append_drop]
        have hh' : W.heap[g]? = some (.cells (nums .u8 xs ++ ((cur.toList.drop xs.length).take ys.length ++ (cur.toList.drop xs.length).drop ys.length)).toArray 5 (0, 0)) := by
          rw [← hsplit]
          simpa using hh
        obtain ⟨h1, h2⟩ := setCells_mid g 5 (nums .u8 ys) (0 + xs.length * 1) W _ _ _ hh' (by simp [nums]) (by simp [nums]; omega)
        refine h _ _ (.inr ⟨g, cap, _, by rw [List.length_append], hbg, h1, by rw [List.length_append]; exact hr, ?_, hcm, ?_⟩) h2 (.inl rfl)
        · simp [nums]
          omega
        · rw [List.toList_toArray, ← List.append_assoc, List.take_left' (by simp [nums])]
          simp [nums]
      · rcases hown.2 with ⟨_, h0⟩ | ⟨g', cap', cur', rfl, hg', hh', hc', hm', hs', ht'⟩
        · omega
        · refine h _ w' (.inr ⟨g', cap', cur', by rw [List.length_append], Nat.le_trans hb hg', hh', by rw [List.length_append]; exact hc', by rw [hs']; omega, hm', ?_⟩) ⟨hgr.os, hgr.tape, hgr.output, hgr.size, fun k hk hn => hgr.block k hk (by simp)⟩ (.inr ⟨g', rfl, hg'⟩)
          rw [List.length_append]
          simpa [nums] using ht'
end
set_option maxRecDepth 100000 in
set_option maxHeartbeats 4000000 in
theorem append_calls (W : World) (base g : Nat) (v : Value) (xs : List Int) (sure room : Int) (A1 : Option Addr) (c1 : Nat) (ys : List Int) (h : DiskAt W base g v xs sure room) (hC : Kd.C (Kd.int .u8) W A1 ys.length ys) (hr0 : 0 ≤ room) (hr1 : room ≤ 1000000) (hx : xs.length ≤ room) :
    Calls Try.prog 16 #[.pointer (some ⟨g, 0, none⟩), .slice A1 ys.length c1] W fun e w' => (room < (xs.length : Int) + ys.length → e = .returned (.int .i64 17) ∧ Drawn0 W w') ∧ ((xs.length : Int) + ys.length ≤ room → e = .returned (.int .i64 0) ∧ ∃ v1, DiskAt w' base g v1 (xs ++ ys) sure room ∧ Touch (fun k => k = g ∨ v.ownBlock = some k) W w' ∧ (v1.ownBlock = v.ownBlock ∨ ∃ b, v1.ownBlock = some b ∧ W.heap.size ≤ b)) := by
  obtain ⟨A, c, rfl, hc⟩ := h.row.slice
  have hm := Kd.C_max hC
  have f0 := blk_cell h.blk 0
  have f2 := blk_cell h.blk 2
  have H := Lib.hid h
  have HC := Lib.hid hC
  have e1 : IntKind.i64.wrap (room - (xs.length : Int)) = room - xs.length := by rw [IntKind.wrap_i64]; omega
  have e2 : wrap64 (room - (xs.length : Int)) = room - xs.length := by unfold wrap64; omega
  have HX := Lib.hid hx
  clear h hC
  by_cases hf : room < (xs.length : Int) + ys.length
  · have d1 : decide ((ys.length : Int) > room - xs.length) = true := decide_eq_true (by omega)
    have HF := Lib.hid hf
    clear hf hx
    go_enter Try.func16, Try.ntmps16
    go_wp2_with (go_at_call 39; (with_reducible refine (is_calls _ _ _ _ _ _ _ H.out).mono ?_); rintro e w' ⟨rfl, rfl⟩)
    go_quiet (fail)
    go_wp2
    go_ret
    exact ⟨fun _ => ⟨rfl, ⟨_, rfl⟩⟩, fun hh => absurd hh (by have := HF.out; omega)⟩
  · have d1 : decide ((ys.length : Int) > room - xs.length) = false := decide_eq_false (by omega)
    have HF := Lib.hid hf
    clear hf hx
    go_enter Try.func16, Try.ntmps16
    go_wp2_with (go_at_call 39; (with_reducible refine (is_calls _ _ _ _ _ _ _ H.out).mono ?_); rintro e w' ⟨rfl, rfl⟩)
    go_quiet (fail)
    go_wp2_with ((with_reducible refine gate_builtin (b := .append) (xs := #[.tmp 27, .tmp 28]) rfl ?_); at_builtin; refine drow_append rfl (.tmp 27) (.tmp 28) rfl base (.slice A xs.length c) xs ys A1 c1 rfl rfl (H.out.row.move (fun _ _ => rfl)) (Kd.C_drewN HC.out _) (by have := HF.out; omega) (Nat.le_trans H.out.ge (Nat.le_of_lt (blk_lt H.out.blk))) ?_; intro v1 w1 hD hg hat; obtain ⟨A2, c2, rfl, hc2⟩ := hD.slice; have hb1 : w1.heap[g]? = some (.cells #[.slice A xs.length c, .int .i64 sure, .int .i64 room, .bool true] 49 (0, 0)) := (hg.block g (blk_lt H.out.blk) (fun e => H.out.ne g e.symm rfl)).trans H.out.blk; have k0 := blk_cell hb1 0; have kr := blk_frozen hb1 0; have HG := Lib.hid hg; have HD := Lib.hid hD; have HAT := Lib.hid hat; have HB1 := Lib.hid hb1; clear hg hD hat hb1)
    go_ret
    have hD : DRow w1 base (.slice A2 (xs.length + ys.length) c2) (xs ++ ys) := by rw [← List.length_append]; exact HD.out
    have hAT := HAT.out
    rw [List.length_append] at hAT
    have hown : ∀ k, (Value.slice A2 (xs.length + ys.length) c2).ownBlock = some k → k ≠ g := fun k hk => by
      rcases hAT with h1 | ⟨b, h1, h2⟩
      · exact H.out.ne k (h1 ▸ hk)
      · rw [h1] at hk
        obtain rfl := Option.some.inj hk
        have h3 : g < W.heap.size := blk_lt H.out.blk
        have h4 : W.heap.size ≤ b := h2
        omega
    refine ⟨fun hh => absurd hh (by have := HF.out; omega), fun _ => ⟨rfl, .slice A2 (xs.length + ys.length) c2, ⟨blk_put HB1.out 0 (.slice A2 (xs.length + ys.length) c2) rfl, hD.move (fun k hk => Below.heap_setCell _ _ _ _ (hown k hk)), H.out.ge, hown⟩, ?_, hAT⟩⟩
    have ht : Touch (fun k => k = g ∨ (Value.slice A xs.length c).ownBlock = some k) W w1 := ⟨HG.out.os, HG.out.tape, HG.out.output, HG.out.size, fun k hk hn => HG.out.block k hk (fun e => hn (.inr e.symm))⟩
    exact ht.set (S := fun k => k = g ∨ (Value.slice A xs.length c).ownBlock = some k) (.inl rfl) 0 (.slice A2 (xs.length + ys.length) c2)
end Go.Proofs.Ytfdpbdaekfdnjaa.X
/- Octets turned into octets: the block is marked behind its end, and reads as before. -/
namespace Go.Proofs.Ytfdpbdaekfdnjaa.X
open Go.RowKit Go.Proofs.YtfdpbdaekfdnjaaW.PrintWords Go.Proofs.YtfdpbdaekfdnjaaW.PrintLast Go.Proofs.YtfdpbdaekfdnjaaW.PrintMore
set_option linter.unusedVariables false
set_option linter.unusedSimpArgs false

/-- A block that is marked: what it reads stays. -/
structure Marked (g : Nat) (w w1 : World) : Prop where
  size : w1.heap.size = w.heap.size
  far : ∀ i, i ≠ g → w1.heap[i]? = w.heap[i]?
  cell : ∀ p, w1.cell? p = w.cell? p
  below : ∀ (v : World), Below v.heap.size v w → v.heap.size ≤ g → Below v.heap.size v w1
theorem freeze_marked (W : World) (g j : Nat) : Marked g W (W.freeze ⟨g, j, none⟩ 1) := by
  have hs : (W.freeze ⟨g, j, none⟩ 1).heap.size = W.heap.size := by simp [World.freeze]
  have hf : ∀ i, i ≠ g → (W.freeze ⟨g, j, none⟩ 1).heap[i]? = W.heap[i]? := fun i hi => by
    simp only [World.freeze, Nat.one_ne_zero, ↓reduceIte, Array.getElem?_modify]
    rw [if_neg (Ne.symm hi)]
  refine ⟨hs, hf, fun p => ?_, fun v hb hg => ⟨hb.os, hb.tape, hb.output, by rw [hs]; exact hb.size, fun i hi => (hf i (by omega)).trans (hb.block i hi)⟩⟩
  by_cases hp : p.block = g
  · simp only [World.cell?, World.freeze, Nat.one_ne_zero, ↓reduceIte, Array.getElem?_modify, hp]
    cases W.heap[g]? with
    | none => rfl
    | some o => cases o <;> rfl
  · simp only [World.cell?, hf _ hp]
theorem Marked.row {g : Nat} {W W1 : World} (h : Marked g W W1) {k : IntKind} {A : Option Addr} {n : Nat} {xs : List Int} (hC : Kd.C (Kd.int k) W A n xs) : Kd.C (Kd.int k) W1 A n xs := by
  have hr := Kd.reads_of_C (d := (0 : Int)) (h1 := fun _ => rfl) hC
  refine Kd.C_of_reads (d := (0 : Int)) (h1 := fun _ => rfl) ⟨hr.1, hr.2.1, fun hn => ?_⟩
  obtain ⟨ad, e, hc⟩ := hr.2.2 hn
  exact ⟨ad, e, fun j hj => (h.cell _).trans (hc j hj)⟩
section
variable {P : Program} {ops : Array Oper} {rest : List Oper} {o : Oper} {a : Act} {Q : Exit → Act → World → Prop}
/-- A conversion of octets to octets. -/
theorem conv_ev {W : World} (hgd : o.guard = none) {N : Tmp} (hd : o.dst = some N) (t e : TypeId) (x : Operand) (ho : o.op = .convert t t x) (ht : P.underlying t = some (.slice e)) (he : P.underlying e = some (.int .u8))
    (g n c : Nat) (hx : a.eval x = .slice (some ⟨g, 0, none⟩) n c) (cs : Array Value) (hg : W.heap[g]? = some (.cells cs e (0, 0)))
    (h : ∀ w1, Marked g W w1 → wpList P ops Q rest (a.put o.dst (.slice (some ⟨g, 0, none⟩) n c)) w1) : wpList P ops Q (o :: rest) a W := by
  refine Kd.event_run hgd (v := .slice (some ⟨g, 0, none⟩) n c) (w1 := W.freeze ⟨g, cs.size, none⟩ 1) ?_ (h _ (freeze_marked _ _ _))
  have hsh : W.shape? g = some (e, cs.size) := by simp [World.shape?, hg]
  have h1 := run_underlying ht W
  have h2 := run_underlying he W
  simp [execOp, ho, hx, convert, h1, h2, markStringish, hsh, Result.andThen]
end
theorem lit_block {k : IntKind} {e base : Nat} {ok : Nat → Prop} {w : World} {v : Value} {xs : List Int} (h : Kd.R (Kd.int k) e w base ok v xs) (hn : 0 < xs.length) :
    ∃ g cap cur, v = .slice (some ⟨g, 0, none⟩) xs.length cap ∧ base ≤ g ∧ w.heap[g]? = some (.cells cur e (0, 0)) ∧ xs.length ≤ cap ∧ Kd.C (Kd.int k) w (some ⟨g, 0, none⟩) xs.length xs := by
  obtain ⟨inner, ho⟩ := Kd.R_own h
  rcases ho.2 with ⟨hz, h0⟩ | ⟨g, cap, cur, rfl, hg, hh, r⟩
  · exact absurd h0 (by omega)
  · have := Kd.R_reads' h
    exact ⟨g, cap, cur, rfl, hg, hh, this.2.1, this.2.2⟩
end Go.Proofs.Ytfdpbdaekfdnjaa.X
/- One disk that a call has made: each call on it, as the laws use it. -/
namespace Go.Proofs.Ytfdpbdaekfdnjaa.X
open Go.RowKit Go.Proofs.YtfdpbdaekfdnjaaW.PrintWords Go.Proofs.YtfdpbdaekfdnjaaW.PrintLast Go.Proofs.YtfdpbdaekfdnjaaW.PrintMore
set_option linter.unusedVariables false
set_option linter.unusedSimpArgs false

structure DS (w W : World) (g : Nat) (xs : List Int) (sure : Nat) (room : Int) : Prop where
  d : ∃ v, DiskAt W w.heap.size g v xs sure room
  below : Below w.heap.size w W
  hs : sure ≤ xs.length
  r0 : 0 ≤ room
  r1 : room ≤ 262144
  hx : (xs.length : Int) ≤ room
theorem DS.step {w W W1 : World} {g : Nat} {xs : List Int} {sure : Nat} {room : Int} (h : DS w W g xs sure room) (hb : Below W.heap.size W W1) : DS w W1 g xs sure room := by
  obtain ⟨v, hd⟩ := h.d
  exact ⟨⟨v, hd.below hb⟩, below_step h.below hb, h.hs, h.r0, h.r1, h.hx⟩
theorem DS.drawn {w W W1 : World} {g : Nat} {xs : List Int} {sure : Nat} {room : Int} (h : DS w W g xs sure room) (hd : Drawn0 W W1) : DS w W1 g xs sure room := by
  obtain ⟨n, rfl⟩ := hd
  exact h.step (pw_below_drewN (Below.refl _ _) n)
theorem DS.new {w W : World} (hB : Below w.heap.size w W) (room r : Int) (hr : mn (mx room 0) 262144 = r) :
    Calls Try.prog 15 #[.int .i64 room] W fun e w' => e = .returned (.pointer (some ⟨W.heap.size, 0, none⟩)) ∧ DS w w' W.heap.size [] 0 r := by
  refine (new_calls W room r hr).mono ?_
  rintro e w' ⟨rfl, hd, hb⟩
  refine ⟨rfl, ⟨_, hd.blk, hd.row.lower hB.size, hB.size, hd.ne⟩, below_step hB hb, Nat.le_refl _, ?_, ?_, ?_⟩ <;> (rw [← hr]; unfold mn mx; (repeat' split) <;> first | omega | (simp; done) | (simp; omega))
theorem DS.append {w W : World} {g : Nat} {xs : List Int} {sure : Nat} {room : Int} (h : DS w W g xs sure room) (A1 : Option Addr) (c1 : Nat) (ys : List Int) (hC : Kd.C (Kd.int .u8) W A1 ys.length ys) (e0 : Int) (zs : List Int)
    (hno : room < (xs.length : Int) + ys.length → e0 = 17 ∧ zs = xs) (hyes : (xs.length : Int) + ys.length ≤ room → e0 = 0 ∧ zs = xs ++ ys) :
    Calls Try.prog 16 #[.pointer (some ⟨g, 0, none⟩), .slice A1 ys.length c1] W fun e w' => e = .returned (.int .i64 e0) ∧ DS w w' g zs sure room := by
  obtain ⟨v, hd⟩ := h.d
  refine (append_calls W w.heap.size g v xs sure room A1 c1 ys hd hC h.r0 (by have := h.r1; omega) h.hx).mono ?_
  rintro e w' ⟨h1, h2⟩
  by_cases c : room < (xs.length : Int) + ys.length
  · obtain ⟨rfl, rfl⟩ := hno c
    obtain ⟨rfl, hd1⟩ := h1 c
    exact ⟨rfl, h.drawn hd1⟩
  · obtain ⟨rfl, rfl⟩ := hyes (by omega)
    obtain ⟨rfl, v1, hd1, ht, _⟩ := h2 (by omega)
    refine ⟨rfl, ⟨v1, hd1⟩, ht.below h.below (fun k hk => ?_), by have := h.hs; rw [List.length_append]; omega, h.r0, h.r1, by rw [List.length_append]; omega⟩
    rcases hk with rfl | hk
    · exact hd.ge
    · exact (hd.row.lt k hk).1
theorem DS.flush {w W : World} {g : Nat} {xs : List Int} {sure : Nat} {room : Int} (h : DS w W g xs sure room) :
    Calls Try.prog 17 #[.pointer (some ⟨g, 0, none⟩)] W fun e w' => e = .returned (.int .i64 ((xs.length : Int) - sure)) ∧ DS w w' g xs xs.length room := by
  obtain ⟨v, hd⟩ := h.d
  refine (flush_calls W w.heap.size g v xs sure room hd h.hs).mono ?_
  rintro e w' ⟨rfl, hd1, ht⟩
  exact ⟨rfl, ⟨v, hd1⟩, ht.below h.below (fun k hk => by rw [hk]; exact hd.ge), Nat.le_refl _, h.r0, h.r1, h.hx⟩
theorem DS.crash {w W : World} {g : Nat} {xs : List Int} {sure : Nat} {room : Int} (h : DS w W g xs sure room) (keep : Int) (m : Nat) (hm : sure + keepN keep xs.length sure = m) :
    Calls Try.prog 18 #[.pointer (some ⟨g, 0, none⟩), .int .i64 keep] W fun e w' => e = .returned (.tuple #[]) ∧ DS w w' g (xs.take m) m room := by
  obtain ⟨v, hd⟩ := h.d
  have hk := keepN_le keep xs.length sure h.hs
  refine (crash_calls W w.heap.size g v xs sure room keep hd h.hs).mono ?_
  rintro e w' ⟨rfl, v1, hd1, ht, _⟩
  rw [hm] at hd1 hk
  have hx := h.hx
  exact ⟨rfl, ⟨v1, hd1⟩, ht.below h.below (fun k hk => by rw [hk]; exact hd.ge), by rw [List.length_take]; omega, h.r0, h.r1, by rw [List.length_take]; omega⟩
theorem DS.read {w W : World} {g : Nat} {xs : List Int} {sure : Nat} {room : Int} (h : DS w W g xs sure room) :
    Calls Try.prog 19 #[.pointer (some ⟨g, 0, none⟩)] W fun e w' => ∃ A c, e = .returned (.slice A xs.length c) ∧ xs.length ≤ c ∧ Kd.C (Kd.int .u8) w' A xs.length xs ∧ DS w w' g xs sure room ∧ Below W.heap.size W w' := by
  obtain ⟨v, hd⟩ := h.d
  refine (read_calls W w.heap.size g v xs sure room hd (by have := h.hx; have := h.r1; omega)).mono ?_
  rintro e w' ⟨v1, rfl, hR, hb⟩
  obtain ⟨A, c, rfl⟩ := Kd.R_slice hR
  exact ⟨A, c, rfl, (Kd.R_reads' hR).2.1, (Kd.R_reads' hR).2.2, h.step hb, hb⟩
theorem DS.loose {w W : World} {g : Nat} {xs : List Int} {sure : Nat} {room : Int} (h : DS w W g xs sure room) :
    Calls Try.prog 20 #[.pointer (some ⟨g, 0, none⟩)] W fun e w' => e = .returned (.int .i64 ((xs.length : Int) - sure)) ∧ DS w w' g xs sure room ∧ Drawn0 W w' := by
  obtain ⟨v, hd⟩ := h.d
  refine (loose_calls W w.heap.size g v xs sure room hd h.hs).mono ?_
  rintro e w' ⟨rfl, hdr⟩
  exact ⟨rfl, h.drawn hdr, hdr⟩
theorem DS.size {w W : World} {g : Nat} {xs : List Int} {sure : Nat} {room : Int} (h : DS w W g xs sure room) :
    Calls Try.prog 29 #[.pointer (some ⟨g, 0, none⟩)] W fun e w' => e = .returned (.int .i64 xs.length) ∧ W = w' := by
  obtain ⟨v, hd⟩ := h.d
  exact size_calls W w.heap.size g v xs sure room hd
set_option maxRecDepth 100000 in
set_option maxHeartbeats 4000000 in
theorem alive12_calls (w : World) : Calls Try.prog 14 #[] w fun e w' => e = .returned (.bool true) ∧ Below w.heap.size w w' := by
  obtain ⟨p, hp⟩ : ∃ p : List Int, p = [97, 98] := ⟨_, rfl⟩
  obtain ⟨q, hq⟩ : ∃ q : List Int, q = [99, 100] := ⟨_, rfl⟩
  have HP := Lib.hid hp
  have HQ := Lib.hid hq
  obtain ⟨t, ht⟩ : ∃ t, (p ++ q).take 3 = t := ⟨_, rfl⟩
  have hts : strOfNums t = ⟨#[97, 98, 99]⟩ := by rw [← ht, hp, hq]; decide +kernel
  have hpl : p.length = 2 := by rw [hp]; rfl
  have hql : q.length = 2 := by rw [hq]; rfl
  have hm : p.length + keepN 1 (p ++ q).length p.length = 3 := by rw [hp, hq]; decide +kernel
  have hf : ((p.length : Int) - ((0 : Nat) : Int)) = 2 := by rw [hpl]; rfl
  have HT := Lib.hid ht
  have HPL := Lib.hid hpl
  have HQL := Lib.hid hql
  have HM := Lib.hid hm
  have HF := Lib.hid hf
  clear hp hq ht hpl hql hm hf
  go_enter Try.func14, Try.ntmps14
  go_wp2_with (first | (go_at_call 15; go_must ((with_reducible refine (DS.new (Below.refl _ w) 9 9 (by decide)).mono ?_); rintro e w1 ⟨rfl, h1⟩)) | ((with_reducible refine gate_dst (N := 7) rfl ?_); refine Kd.R_lit (Kd.int .u8) _ 5 ?hg (N := 7) ?hd (xs := ([97, 98] : List Int)) (inner := [.int .u8 97, .int .u8 98]) (ok := fun _ => True) (okp := fun _ => True) ?hr ?hp (fun _ hk => hk) trivial (Below.refl _ _) (Nat.le_refl _) (by simp) ?_; (case hd => rfl); (case hg => rfl); (case hr => first | (go_simp; done) | (go_simp; rfl)); (case hp => exact (Reps.one (show Kd.M (Kd.int .u8) _ _ _ 97 [.int .u8 97] from rfl) (Reps.one (show Kd.M (Kd.int .u8) _ _ _ 98 [.int .u8 98] from rfl) (Reps.none _ _)))); intro v7 w2 ho hb hg_ hnew_; clear hg_ hnew_; rw [← HP.out] at ho; obtain ⟨g, cap, cur, rfl, hgb, hgh, hcap, hC⟩ := lit_block ho (by rw [HP.out]; decide); clear ho) | ((with_reducible refine gate_dst (N := 8) rfl ?_); go_must (refine conv_ev rfl (N := 8) rfl 22 5 (.tmp 7) rfl Try.underlying22 Try.underlying5 g _ _ rfl cur hgh ?_; intro w3 hM; have h3 := h1.step (hM.below _ hb hgb); have C3 := hM.row hC; clear hM hb hgb hgh hC hcap)) | (go_at_call 16; (with_reducible refine (DS.append h3 _ _ p C3 0 p (fun h => absurd h (by have := HPL.out; simp only [List.length_nil]; omega)) (fun h => ⟨rfl, by simp⟩)).mono ?_); rintro e w4 ⟨rfl, h4⟩; clear h3 C3) | (go_at_call 17; have hfl := h4.flush; rw [HF.out] at hfl; (with_reducible refine hfl.mono ?_); rintro e w5 ⟨rfl, h5⟩; clear hfl h4) | ((with_reducible refine gate_dst (N := 13) rfl ?_); refine Kd.R_lit (Kd.int .u8) _ 5 ?hg (N := 13) ?hd (xs := ([99, 100] : List Int)) (inner := [.int .u8 99, .int .u8 100]) (ok := fun _ => True) (okp := fun _ => True) ?hr ?hp (fun _ hk => hk) trivial (Below.refl _ _) (Nat.le_refl _) (by simp) ?_; (case hd => rfl); (case hg => rfl); (case hr => first | (go_simp; done) | (go_simp; rfl)); (case hp => exact (Reps.one (show Kd.M (Kd.int .u8) _ _ _ 99 [.int .u8 99] from rfl) (Reps.one (show Kd.M (Kd.int .u8) _ _ _ 100 [.int .u8 100] from rfl) (Reps.none _ _)))); intro v13 w6 ho hb hg_ hnew_; clear hg_ hnew_; rw [← HQ.out] at ho; obtain ⟨g, cap, cur, rfl, hgb, hgh, hcap, hC⟩ := lit_block ho (by rw [HQ.out]; decide); clear ho) | ((with_reducible refine gate_dst (N := 14) rfl ?_); go_must (refine conv_ev rfl (N := 14) rfl 22 5 (.tmp 13) rfl Try.underlying22 Try.underlying5 g _ _ rfl cur hgh ?_; intro w7 hM; have h7 := h5.step (hM.below _ hb hgb); have C7 := hM.row hC; clear hM hb hgb hgh hC hcap h5)) | (go_at_call 16; (with_reducible refine (DS.append h7 _ _ q C7 0 (p ++ q) (fun h => absurd h (by have := HPL.out; have := HQL.out; omega)) (fun h => ⟨rfl, rfl⟩)).mono ?_); rintro e w8 ⟨rfl, h8⟩; clear h7 C7) | (go_at_call 18; (with_reducible refine (h8.crash 1 3 HM.out).mono ?_); rintro e w9 ⟨rfl, h9⟩; rw [HT.out] at h9) | (go_at_call 19; (with_reducible refine h9.read.mono ?_); rintro e w10 ⟨Ar, cr, rfl, hcr, hCr, h10, _⟩; have hcv := Kd.C_string (P := Try.prog) Try.underlying22 Try.underlying5 Try.underlying9 (c := cr) hCr; rw [hts] at hcv))
  go_ret
  exact ⟨rfl, h10.below⟩
end Go.Proofs.Ytfdpbdaekfdnjaa.X
/- A record's frame: what journal.Frame comes to. -/
namespace Go.Proofs.Ytfdpbdaekfdnjaa.X
open Go.RowKit Go.Proofs.YtfdpbdaekfdnjaaW.PrintWords Go.Proofs.YtfdpbdaekfdnjaaW.PrintLast Go.Proofs.YtfdpbdaekfdnjaaW.PrintMore
set_option linter.unusedVariables false
set_option linter.unusedSimpArgs false

theorem wrap64_id (x : Int) (h0 : -9223372036854775808 ≤ x) (h1 : x ≤ 9223372036854775807) : wrap64 x = x := by unfold wrap64; omega
/-- How many octets there are in all. -/
def tot (l : List (List Int)) : Nat := (l.map List.length).sum
theorem tot_cons (x : List Int) (l : List (List Int)) : tot (x :: l) = x.length + tot l := by simp [tot]
theorem tot_flatten (l : List (List Int)) : l.flatten.length = tot l := by simp [tot, List.length_flatten]
theorem rdL2_at (l : List (List Int)) (i : Nat) (h : i < l.length) : rd_L1 l (i : Int) = l[i] := by simp [rd_L1, List.getD_eq_getElem?_getD, h]
theorem concat_l1 (l : List (List Int)) (hl : l.length < 9223372036854775807) : ∀ (d k i : Nat) (acc : List Int), i + d = l.length → d < k → acc.length + tot (l.drop i) < 140737488355328 →
    slices_Concat_byte_byte.l1 k acc l (l.length : Int) (i : Int) = some (acc ++ (l.drop i).flatten)
  | 0, k, i, acc, hd, hk, ha => by
    obtain ⟨k, rfl⟩ : ∃ m, k = m + 1 := ⟨k - 1, by omega⟩
    rw [slices_Concat_byte_byte.l1, if_neg (by omega), List.drop_of_length_le (by omega)]
    simp
  | d + 1, k, i, acc, hd, hk, ha => by
    obtain ⟨k, rfl⟩ : ∃ m, k = m + 1 := ⟨k - 1, by omega⟩
    have hi : i < l.length := by omega
    have hs : wrap64 ((i : Int) + 1) = ((i + 1 : Nat) : Int) := by rw [wrap64_id _ (by omega) (by omega)]; rfl
    rw [List.drop_eq_getElem_cons hi, tot_cons] at ha
    rw [slices_Concat_byte_byte.l1, if_pos (by omega), if_pos (by omega), if_pos (by omega), rdL2_at l i hi, if_pos (by omega), hs]
    rw [concat_l1 l hl d k (i + 1) _ (by omega) (by omega) (by rw [List.length_append]; omega), List.append_assoc, List.drop_eq_getElem_cons hi]
    rfl
theorem concat_l0 (l : List (List Int)) (hl : l.length < 9223372036854775807) (ht : tot l < 140737488355328) : ∀ (d k i : Nat) (s : Int), i + d = l.length → d + l.length + 1 < k → 0 ≤ s → s + tot (l.drop i) = tot l →
    slices_Concat_byte_byte.l0 k l s l (l.length : Int) (i : Int) = some l.flatten
  | 0, k, i, s, hd, hk, h0, hs => by
    obtain ⟨k, rfl⟩ : ∃ m, k = m + 1 := ⟨k - 1, by omega⟩
    rw [List.drop_of_length_le (by omega)] at hs
    have : tot [] = 0 := rfl
    rw [slices_Concat_byte_byte.l0, if_neg (by omega), if_pos h0, if_pos (by omega)]
    have := concat_l1 l hl l.length k 0 [] (by omega) (by omega) (by simpa using ht)
    simpa using this
  | d + 1, k, i, s, hd, hk, h0, hs => by
    obtain ⟨k, rfl⟩ : ∃ m, k = m + 1 := ⟨k - 1, by omega⟩
    have hi : i < l.length := by omega
    have hw : wrap64 ((i : Int) + 1) = ((i + 1 : Nat) : Int) := by rw [wrap64_id _ (by omega) (by omega)]; rfl
    rw [List.drop_eq_getElem_cons hi, tot_cons] at hs
    have hw2 : wrap64 (s + (l[i].length : Int)) = s + (l[i].length : Int) := wrap64_id _ (by omega) (by omega)
    rw [slices_Concat_byte_byte.l0, if_pos (by omega), if_pos (by omega), if_pos (by omega), rdL2_at l i hi, hw2, if_neg (by omega), hw]
    exact concat_l0 l hl ht d k (i + 1) _ (by omega) (by omega) (by omega) (by omega)
theorem join_f (l : List (List Int)) (hl : l.length < 4611686018427387904) (ht : tot l < 140737488355328) (k : Nat) (hk : 2 * l.length + 2 ≤ k) : octets_Join.f k l = some l.flatten := by
  unfold octets_Join.f slices_Concat_byte_byte.f
  rw [show (0 : Int) = ((0 : Nat) : Int) from rfl]
  rw [concat_l0 l (by omega) ht l.length k 0 _ (by omega) (by omega) (by omega) (by simp), Option.bind_some]

/-- A record's frame: how long it is, and the record. -/
def frameL (l : List Int) : List Int := putL (l.length : Int) 3 ++ l
theorem frameL_len (l : List Int) : (frameL l).length = 3 + l.length := by simp [frameL, putL_len]
theorem frame_ok (l : List Int) (h : l.length ≤ 16384) : journal_Frame.f 6 l = some (frameL l, 0) := by
  have hp : octets_Put.f (l.length : Int) 3 = some (putL (l.length : Int) 3) := by
    have e1 : IntKind.u64.wrap (l.length : Int) = (l.length : Int) := by rw [IntKind.wrap_u64]; omega
    have e2 : (mn (mx 3 0) 8).toNat = 3 := by decide +kernel
    rw [octets_Put.f, e1, e2]
  have hj : octets_Join.f 6 [putL (l.length : Int) 3, l] = some (frameL l) := by
    rw [join_f _ (by simp) (by simp [tot, putL_len]; omega) 6 (by simp)]
    simp [frameL]
  rw [journal_Frame.f, if_neg (by omega), hp, Option.bind_some, hj, Option.bind_some]
theorem frame_long (l : List Int) (h : 16384 < l.length) : journal_Frame.f 6 l = some ([], 5) := by
  rw [journal_Frame.f, if_pos (by omega)]
theorem frame_calls (A : Option Addr) (c : Nat) (l : List Int) (w : World) (hC : Kd.C (Kd.int .u8) w A l.length l) (hc : l.length ≤ c) (h : l.length ≤ 16384) :
    Calls Try.prog 30 #[.slice A l.length c] w fun e w' => ∃ A1 c1, e = .returned (.tuple #[.slice A1 (frameL l).length c1, .int .i64 0]) ∧ (frameL l).length ≤ c1 ∧ Kd.C (Kd.int .u8) w' A1 (frameL l).length (frameL l) ∧ Below w.heap.size w w' := by
  refine (journal_Frame.calls 6 (fun k => k < w.heap.size) A c l (frameL l) 0 w (Kd.V_mk hc (Kd.C_F (Kd.heap_int .u8) hC)) (frame_ok l h)).mono ?_
  rintro e w' ⟨v, rfl, hr, hb⟩
  obtain ⟨A1, c1, rfl⟩ := Kd.R_slice hr
  exact ⟨A1, c1, rfl, (Kd.R_reads' hr).2.1, (Kd.R_reads' hr).2.2, hb⟩
theorem frame_calls_long (A : Option Addr) (c : Nat) (l : List Int) (w : World) (hC : Kd.C (Kd.int .u8) w A l.length l) (hc : l.length ≤ c) (h : 16384 < l.length) :
    Calls Try.prog 30 #[.slice A l.length c] w fun e w' => ∃ A1 c1, e = .returned (.tuple #[.slice A1 0 c1, .int .i64 5]) ∧ Kd.C (Kd.int .u8) w' A1 0 [] ∧ Below w.heap.size w w' := by
  refine (journal_Frame.calls 6 (fun k => k < w.heap.size) A c l [] 5 w (Kd.V_mk hc (Kd.C_F (Kd.heap_int .u8) hC)) (frame_long l h)).mono ?_
  rintro e w' ⟨v, rfl, hr, hb⟩
  obtain ⟨A1, c1, rfl⟩ := Kd.R_slice hr
  exact ⟨A1, c1, rfl, (Kd.R_reads' hr).2.2, hb⟩

set_option maxRecDepth 100000 in
set_option maxHeartbeats 4000000 in
theorem alive13_calls (w : World) : Calls Try.prog 33 #[] w fun e w' => e = .returned (.bool true) ∧ Below w.heap.size w w' := by
  obtain ⟨p, hp⟩ : ∃ p : List Int, p = [97] := ⟨_, rfl⟩
  have HP := Lib.hid hp
  have hpl : p.length = 1 := by rw [hp]; rfl
  obtain ⟨t, ht⟩ : ∃ t, frameL p = t := ⟨_, rfl⟩
  have hts : strOfNums t = ⟨#[0, 0, 1, 97]⟩ := by rw [← ht, hp]; decide +kernel
  have HT := Lib.hid ht
  have HPL := Lib.hid hpl
  clear hp ht hpl
  go_enter Try.func33, Try.ntmps33
  go_wp2_with (first | ((with_reducible refine gate_dst (N := 4) rfl ?_); refine Kd.R_lit (Kd.int .u8) _ 5 ?hg (N := 4) ?hd (xs := ([97] : List Int)) (inner := [.int .u8 97]) (ok := fun _ => True) (okp := fun _ => True) ?hr ?hp (fun _ hk => hk) trivial (Below.refl _ _) (Nat.le_refl _) (by simp) ?_; (case hd => rfl); (case hg => rfl); (case hr => first | (go_simp; done) | (go_simp; rfl)); (case hp => exact (Reps.one (show Kd.M (Kd.int .u8) _ _ _ 97 [.int .u8 97] from rfl) (Reps.none _ _))); intro v7 w2 ho hb hg_ hnew_; clear hg_ hnew_; rw [← HP.out] at ho; obtain ⟨g, cap, cur, rfl, hgb, hgh, hcap, hC⟩ := lit_block ho (by rw [HP.out]; decide); clear ho) | ((with_reducible refine gate_dst (N := 5) rfl ?_); refine conv_ev rfl rfl 22 5 (.tmp 4) rfl Try.underlying22 Try.underlying5 g p.length cap rfl cur hgh ?_; intro w3 hm; have hC3 := hm.row hC; have hb3 := hm.below _ hb hgb; clear hm hC hb hgb hgh) | (go_at_call 30; (with_reducible refine (frame_calls _ _ p _ hC3 hcap (by rw [HPL.out]; decide)).mono ?_); rintro e w4 ⟨A1, c1, rfl, hc1, hC4, hb4⟩; rw [HT.out] at hC4 hc1 ⊢; have s1 := Kd.C_string (P := Try.prog) Try.underlying22 Try.underlying5 Try.underlying9 (c := c1) hC4; rw [hts] at s1; have hB := Lib.hid (below_step hb3 hb4); clear hb3 hb4 hC4 hc1 hC3 hcap))
  go_ret
  exact ⟨rfl, hB.out⟩
end Go.Proofs.Ytfdpbdaekfdnjaa.X
/- A disk that nobody made: each call on it. -/
namespace Go.Proofs.Ytfdpbdaekfdnjaa.X
open Go.RowKit Go.Proofs.YtfdpbdaekfdnjaaW.PrintWords Go.Proofs.YtfdpbdaekfdnjaaW.PrintLast Go.Proofs.YtfdpbdaekfdnjaaW.PrintMore
set_option linter.unusedVariables false
set_option linter.unusedSimpArgs false
def Dead (W : World) (p : Option Addr) : Prop := p = none ∨ ∃ g, p = some ⟨g, 0, none⟩ ∧ W.heap[g]? = some (.cells #[.slice none 0 0, .int .i64 0, .int .i64 0, .bool false] 49 (0, 0))
section
variable (W : World) (p : Option Addr) (h : Dead W p)
include h
set_option maxRecDepth 100000 in
set_option maxHeartbeats 4000000 in
theorem isnt_calls : Calls Try.prog 39 #[.pointer p] W fun e w' => e = .returned (.bool false) ∧ W = w' := by
  rcases h with rfl | ⟨g, rfl, hh⟩
  · go_enter Try.func39, Try.ntmps39
    go_wp2
    go_ret
    exact ⟨rfl, rfl⟩
  · have f3 := blk_cell hh 3
    go_enter Try.func39, Try.ntmps39
    go_wp2
    go_ret
    exact ⟨rfl, rfl⟩
set_option maxRecDepth 100000 in
set_option maxHeartbeats 4000000 in
theorem dead_append (v : Value) : Calls Try.prog 16 #[.pointer p, v] W fun e w' => e = .returned (.int .i64 9) ∧ W = w' := by
  go_enter Try.func16, Try.ntmps16
  go_wp2_with (go_at_call 39; (with_reducible refine (isnt_calls _ _ h).mono ?_); rintro e w' ⟨rfl, rfl⟩)
  go_ret
  exact ⟨rfl, rfl⟩
set_option maxRecDepth 100000 in
set_option maxHeartbeats 4000000 in
theorem dead_loose : Calls Try.prog 20 #[.pointer p] W fun e w' => e = .returned (.int .i64 0) ∧ W = w' := by
  go_enter Try.func20, Try.ntmps20
  go_wp2_with (go_at_call 39; (with_reducible refine (isnt_calls _ _ h).mono ?_); rintro e w' ⟨rfl, rfl⟩)
  go_ret
  exact ⟨rfl, rfl⟩
set_option maxRecDepth 100000 in
set_option maxHeartbeats 4000000 in
theorem dead_flush : Calls Try.prog 17 #[.pointer p] W fun e w' => e = .returned (.int .i64 0) ∧ W = w' := by
  go_enter Try.func17, Try.ntmps17
  go_wp2_with (first | (go_at_call 20; (with_reducible refine (dead_loose _ _ h).mono ?_); rintro e w' ⟨rfl, rfl⟩) | (go_at_call 39; (with_reducible refine (isnt_calls _ _ h).mono ?_); rintro e w' ⟨rfl, rfl⟩))
  go_ret
  exact ⟨rfl, rfl⟩
set_option maxRecDepth 100000 in
set_option maxHeartbeats 4000000 in
theorem dead_crash (n : Int) : Calls Try.prog 18 #[.pointer p, .int .i64 n] W fun e w' => e = .returned (.tuple #[]) ∧ W = w' := by
  go_enter Try.func18, Try.ntmps18
  go_wp2_with (go_at_call 39; (with_reducible refine (isnt_calls _ _ h).mono ?_); rintro e w' ⟨rfl, rfl⟩)
  refine bodyPost_ret (results_none rfl _ _ _) rfl ?_
  exact ⟨rfl, rfl⟩
set_option maxRecDepth 100000 in
set_option maxHeartbeats 4000000 in
theorem dead_read : Calls Try.prog 19 #[.pointer p] W fun e w' => e = .returned (.slice none 0 0) ∧ W = w' := by
  go_enter Try.func19, Try.ntmps19
  go_wp2_with (go_at_call 39; (with_reducible refine (isnt_calls _ _ h).mono ?_); rintro e w' ⟨rfl, rfl⟩)
  go_ret
  exact ⟨rfl, rfl⟩
set_option maxRecDepth 100000 in
set_option maxHeartbeats 4000000 in
theorem dead_cut (n : Int) : Calls Try.prog 28 #[.pointer p, .int .i64 n] W fun e w' => e = .returned (.int .i64 9) ∧ W = w' := by
  go_enter Try.func28, Try.ntmps28
  go_wp2_with (go_at_call 39; (with_reducible refine (isnt_calls _ _ h).mono ?_); rintro e w' ⟨rfl, rfl⟩)
  go_ret
  exact ⟨rfl, rfl⟩
set_option maxRecDepth 100000 in
set_option maxHeartbeats 4000000 in
theorem dead_size : Calls Try.prog 29 #[.pointer p] W fun e w' => e = .returned (.int .i64 0) ∧ W = w' := by
  go_enter Try.func29, Try.ntmps29
  go_wp2_with (go_at_call 39; (with_reducible refine (isnt_calls _ _ h).mono ?_); rintro e w' ⟨rfl, rfl⟩)
  go_ret
  exact ⟨rfl, rfl⟩
end
end Go.Proofs.Ytfdpbdaekfdnjaa.X
/- journal.Write: records more, on a disk that a call has made, and on one that nobody made. -/
namespace Go.Proofs.Ytfdpbdaekfdnjaa.X
open Go.RowKit Go.Proofs.YtfdpbdaekfdnjaaW.PrintWords Go.Proofs.YtfdpbdaekfdnjaaW.PrintLast Go.Proofs.YtfdpbdaekfdnjaaW.PrintMore
set_option linter.unusedVariables false
set_option linter.unusedSimpArgs false

/-- All frames, one behind the other. -/
def framesL (l : List (List Int)) : List Int := (l.map frameL).flatten
theorem framesL_snoc (l : List (List Int)) (b : List Int) : framesL (l ++ [b]) = framesL l ++ frameL b := by simp [framesL]
theorem framesL_append (l m : List (List Int)) : framesL (l ++ m) = framesL l ++ framesL m := by simp [framesL]
theorem framesL_take_le (l : List (List Int)) (i : Nat) : (framesL (l.take i)).length ≤ (framesL l).length := by
  have h := framesL_append (l.take i) (l.drop i)
  rw [List.take_append_drop] at h
  rw [h, List.length_append]
  omega
theorem framesL_next (l : List (List Int)) (i : Nat) (h : i < l.length) : framesL (l.take (i + 1)) = framesL (l.take i) ++ frameL (rd_L1 l (i : Int)) := by
  rw [List.take_succ_eq_append_getElem h, framesL_snoc, rdL2_at l i h]

set_option maxRecDepth 100000 in
set_option maxHeartbeats 4000000 in
theorem write_calls {w W : World} {g : Nat} {xs : List Int} {sure : Nat} {room : Int} (h : DS w W g xs sure room) (A : Option Addr) (c : Nat) (l : List (List Int)) (hC : Kd.C (Kd.slice 5 (Kd.int .u8)) w A l.length l)
    (hl : l.length ≤ 4611686018427387904) (m : Nat) (hm : m ≤ l.length) (hpre : ∀ i, i < m → (rd_L1 l (i : Int)).length ≤ 16384) (hend : m < l.length → 16384 < (rd_L1 l (m : Int)).length) (ht : (framesL (l.take m)).length < 140737488355328)
    (e0 : Int) (zs : List Int) (hlong : m < l.length → e0 = 5 ∧ zs = xs) (hno : m = l.length → room < (xs.length : Int) + (framesL l).length → e0 = 17 ∧ zs = xs) (hyes : m = l.length → (xs.length : Int) + (framesL l).length ≤ room → e0 = 0 ∧ zs = xs ++ framesL l) :
    Calls Try.prog 22 #[.pointer (some ⟨g, 0, none⟩), .slice A l.length c] W fun e w' => e = .returned (.int .i64 e0) ∧ DS w w' g zs sure room := by
  have HC := Lib.hid hC
  have HPRE := Lib.hid hpre
  have HEND := Lib.hid hend
  have HT := Lib.hid ht
  have HLONG := Lib.hid hlong
  have HNO := Lib.hid hno
  have HYES := Lib.hid hyes
  have HM := Lib.hid hm
  have HLL := Lib.hid hl
  have hx0 := h.hx
  clear hC hpre hend ht hlong hno hyes hm hl
  go_enter Try.func22, Try.ntmps22
  go_wp2_with (go_at_call 16; refine (DS.append h none 0 [] (Kd.C_nil _ _) 0 xs (fun hh => absurd hh (by simp only [List.length_nil]; omega)) (fun _ => ⟨rfl, by simp⟩)).mono ?_; rintro e w1 ⟨rfl, h1⟩; have HC1 := Lib.hid (Kd.C_below HC.out h1.below))
  have H1 := Lib.hid h1
  clear h1 h hx0
  go_loopg [5, 15] (m + 1) (fun kq v5 v15 w' => ∃ i : Nat, v15 = .int .i64 (i : Int) ∧ Hid (i ≤ m) ∧ Hid (kq + i = m + 1) ∧ Hid (Kd.R (Kd.int .u8) 5 w' w1.heap.size (fun _ => True) v5 (framesL (l.take i))) ∧ Hid (Below w1.heap.size w1 w'))
  case atStart => exact ⟨0, rfl, Lib.hid (Nat.zero_le _), Lib.hid rfl, Lib.hid (Kd.R_nil _ _ _ _ _), Lib.hid (Below.refl _ _)⟩
  case round =>
    obtain ⟨i, rfl, hi, hk8, hR, hB⟩ := hrel
    by_cases ci : i < l.length
    · have c1 : decide ((i : Int) < (l.length : Int)) = true := decide_eq_true (by omega)
      have p0 : (0 ≤ (i : Int)) = True := eq_true (by omega)
      have p1 : ((i : Int) < (l.length : Int)) = True := eq_true (by omega)
      obtain ⟨ad, A1, c1_, rfl, hx, hl1, hi1⟩ := at_L1 HC1.out i (by omega) (by omega)
      rw [Int.toNat_natCast] at hx
      replace hx := (hB.out.cell (World.block_lt_of_cell? w1 _ hx)).trans hx
      have HCI := Lib.hid (Kd.C_below hi1 hB.out)
      have HLI := Lib.hid hl1
      clear hi1 hl1
      have CI := Lib.hid ci
      clear ci
      obtain ⟨b, hb⟩ : ∃ b, rd_L1 l (i : Int) = b := ⟨_, rfl⟩
      rw [hb] at hx HCI HLI
      have HBB := Lib.hid hb
      clear hb
      by_cases cm : i < m
      · have hbl : b.length ≤ 16384 := by rw [← HBB.out]; exact HPRE.out i cm
        have HBL := Lib.hid hbl
        have CM := Lib.hid cm
        clear hbl cm
        have hnx := framesL_next l i CI.out
        have htl : (framesL (l.take i) ++ frameL b).length < 140737488355328 := by
          rw [← HBB.out, ← hnx]
          have e : l.take (i + 1) = (l.take m).take (i + 1) := by rw [List.take_take, Nat.min_eq_left (by have := CM.out; omega)]
          rw [e]
          exact Nat.lt_of_le_of_lt (framesL_take_le _ _) HT.out
        rw [HBB.out] at hnx
        have HNX := Lib.hid hnx
        have HTL := Lib.hid htl
        clear hnx htl
        go_wp2_with (first | (go_at_call 30; (with_reducible refine (frame_calls _ _ b _ HCI.out HLI.out HBL.out).mono ?_); rintro e w2 ⟨A2, c2, rfl, hc2, hC2, hb2⟩; have HC2 := Lib.hid hC2; have HR2 := Lib.hid (Kd.R_below hR.out hb2); have HB2 := Lib.hid (below_step hB.out hb2); clear hC2 hb2) | ((with_reducible refine gate_builtin (b := .append) (xs := #[.tmp 27, .tmp 28]) rfl ?_); at_builtin; (refine Kd.R_append_rows (Kd.int .u8) (w0 := w1) w1.heap.size rfl (.tmp 27) (.tmp 28) 22 5 (.int .u8 0) 1 rfl Try.underlying22 info5 rfl (by decide) (by omega) u5 (framesL (l.take i)) (frameL b) _ _ _ (fun _ => True) (fun _ => False) rfl rfl HR2.out HC2.out (fun _ _ h => h) (fun _ h => h.elim) (fun _ _ => trivial) HB2.out (below_size HB2.out) ?aL ?_); (case aL => have := HTL.out; rw [List.length_append] at this; omega); intro v9 w3 ho hb hg hat; rw [← HNX.out] at ho; have HR3 := Lib.hid ho; have HB3 := Lib.hid hb; clear ho hb hg hat))
        obtain ⟨k1, rfl⟩ : ∃ k1, gk = k1 + 1 := ⟨gk - 1, by have := hk8.out; have := CM.out; omega⟩
        go_roundg k1
        case measure => omega
        case rel => exact ⟨i + 1, congrArg (Value.int .i64) (by have := CI.out; have := HLL.out; rw [wrap64_id _ (by omega) (by omega)]; rfl), Lib.hid CM.out, Lib.hid (by have := hk8.out; omega), Lib.hid HR3.out, Lib.hid HB3.out⟩
      · obtain rfl : i = m := by have := hi.out; omega
        have hbl : 16384 < b.length := by rw [← HBB.out]; exact HEND.out CI.out
        have HBL := Lib.hid hbl
        have hlg := HLONG.out CI.out
        clear hbl cm
        obtain ⟨rfl, rfl⟩ := hlg
        go_wp2_with (go_at_call 30; (with_reducible refine (frame_calls_long _ _ b _ HCI.out HLI.out HBL.out).mono ?_); rintro e w2 ⟨A2, c2, rfl, hC2, hb2⟩; have HB2 := Lib.hid (below_step hB.out hb2); clear hC2 hb2)
        go_ret
        exact ⟨rfl, H1.out.step HB2.out⟩
    · have c1 : decide ((i : Int) < (l.length : Int)) = false := decide_eq_false (by omega)
      have c2 : decide (i < l.length) = false := decide_eq_false ci
      have hie : i = l.length := by have := hi.out; have := HM.out; omega
      have hml : m = l.length := by have := hi.out; have := HM.out; omega
      have hn := HNO.out hml
      have hy := HYES.out hml
      have hRl := hR.out
      rw [hie, List.take_length] at hRl
      obtain ⟨A3, c3, rfl⟩ := Kd.R_slice hRl
      have HN := Lib.hid hn
      have HY := Lib.hid hy
      have HC3 := Lib.hid (Kd.R_reads' hRl).2.2
      clear hRl hn hy hie hml ci
      go_wp2_with (go_at_call 16; (refine (DS.append (H1.out.step hB.out) A3 c3 (framesL l) HC3.out e0 zs HN.out HY.out).mono ?_); rintro e w4 ⟨rfl, h4⟩)
      go_ret
      exact ⟨rfl, h4⟩
set_option maxRecDepth 100000 in
set_option maxHeartbeats 4000000 in
theorem dead_write (W : World) (p : Option Addr) (h : Dead W p) (v : Value) : Calls Try.prog 22 #[.pointer p, v] W fun e w' => e = .returned (.int .i64 9) ∧ W = w' := by
  go_enter Try.func22, Try.ntmps22
  go_wp2_with (go_at_call 16; refine (dead_append _ _ h _).mono ?_; rintro e w' ⟨rfl, rfl⟩)
  go_ret
  exact ⟨rfl, rfl⟩
set_option maxRecDepth 100000 in
set_option maxHeartbeats 4000000 in
theorem dead_recover (W : World) (p : Option Addr) (h : Dead W p) : Calls Try.prog 26 #[.pointer p] W fun e w' => e = .returned (.tuple #[.slice none 0 0, .int .i64 9]) ∧ W = w' := by
  go_enter Try.func26, Try.ntmps26
  go_wp2_with (go_at_call 16; refine (dead_append _ _ h _).mono ?_; rintro e w' ⟨rfl, rfl⟩)
  go_ret2
  exact ⟨rfl, rfl⟩
end Go.Proofs.Ytfdpbdaekfdnjaa.X
/- journal.Write on one disk beside others: what it touches. -/
namespace Go.Proofs.Ytfdpbdaekfdnjaa.X
open Go.RowKit Go.Proofs.YtfdpbdaekfdnjaaW.PrintWords Go.Proofs.YtfdpbdaekfdnjaaW.PrintLast Go.Proofs.YtfdpbdaekfdnjaaW.PrintMore
set_option linter.unusedVariables false
set_option linter.unusedSimpArgs false

/-- A disk, with what is known of its numbers. -/
structure Dk (W : World) (base g : Nat) (v : Value) (xs : List Int) (sure : Nat) (room : Int) : Prop where
  d : DiskAt W base g v xs sure room
  hs : sure ≤ xs.length
  r0 : 0 ≤ room
  r1 : room ≤ 262144
  hx : (xs.length : Int) ≤ room
def Own (g : Nat) (v : Value) (k : Nat) : Prop := k = g ∨ v.ownBlock = some k
/-- Only the disk's own blocks are turned, and its row is where it was, or in a block that is new. -/
structure Step (W W' : World) (g : Nat) (v v' : Value) : Prop where
  t : Touch (Own g v) W W'
  at_ : v'.ownBlock = v.ownBlock ∨ ∃ b, v'.ownBlock = some b ∧ W.heap.size ≤ b
theorem Touch.of_below {S : Nat → Prop} {W W' : World} (h : Below W.heap.size W W') : Touch S W W' := ⟨h.os, h.tape, h.output, h.size, fun k hk _ => h.block k hk⟩
theorem Step.refl (W : World) (g : Nat) (v : Value) : Step W W g v v := ⟨Touch.refl _ _, .inl rfl⟩
theorem Step.below {W W1 W2 : World} {g : Nat} {v v1 : Value} (h : Step W W1 g v v1) (hb : Below W1.heap.size W1 W2) : Step W W2 g v v1 :=
  ⟨⟨hb.os.trans h.t.os, hb.tape.trans h.t.tape, hb.output.trans h.t.output, Nat.le_trans h.t.size hb.size, fun k hk hn => (hb.block k (Nat.lt_of_lt_of_le hk h.t.size)).trans (h.t.block k hk hn)⟩, h.at_⟩
theorem Step.trans {W W1 W2 : World} {g : Nat} {v v1 v2 : Value} (h : Step W W1 g v v1) (k : Step W1 W2 g v1 v2) : Step W W2 g v v2 := by
  refine ⟨⟨k.t.os.trans h.t.os, k.t.tape.trans h.t.tape, k.t.output.trans h.t.output, Nat.le_trans h.t.size k.t.size, fun i hi hn => ?_⟩, ?_⟩
  · refine (k.t.block i (Nat.lt_of_lt_of_le hi h.t.size) (fun ho => ?_)).trans (h.t.block i hi hn)
    rcases ho with ho | ho
    · exact hn (.inl ho)
    · rcases h.at_ with e | ⟨b, e, hb⟩
      · exact hn (.inr (e ▸ ho))
      · rw [e] at ho
        obtain rfl := Option.some.inj ho
        omega
  · rcases k.at_ with e | ⟨b, e, hb⟩
    · rcases h.at_ with e2 | ⟨b, e2, hb⟩
      · exact .inl (e.trans e2)
      · exact .inr ⟨b, e.trans e2, hb⟩
    · exact .inr ⟨b, e, Nat.le_trans h.t.size hb⟩
theorem Dk.below {W W1 : World} {base g : Nat} {v : Value} {xs : List Int} {sure : Nat} {room : Int} (h : Dk W base g v xs sure room) (hb : Below W.heap.size W W1) : Dk W1 base g v xs sure room := ⟨h.d.below hb, h.hs, h.r0, h.r1, h.hx⟩
theorem Dk.own {W : World} {base g : Nat} {v : Value} {xs : List Int} {sure : Nat} {room : Int} (h : Dk W base g v xs sure room) : ∀ k, Own g v k → base ≤ k ∧ k < W.heap.size := fun k hk => by
  rcases hk with rfl | hk
  · exact ⟨h.d.ge, blk_lt h.d.blk⟩
  · exact h.d.row.lt k hk
theorem dk_append {W : World} {base g : Nat} {v : Value} {xs : List Int} {sure : Nat} {room : Int} (h : Dk W base g v xs sure room) (A1 : Option Addr) (c1 : Nat) (ys : List Int) (hC : Kd.C (Kd.int .u8) W A1 ys.length ys) (e0 : Int) (zs : List Int)
    (hno : room < (xs.length : Int) + ys.length → e0 = 17 ∧ zs = xs) (hyes : (xs.length : Int) + ys.length ≤ room → e0 = 0 ∧ zs = xs ++ ys) :
    Calls Try.prog 16 #[.pointer (some ⟨g, 0, none⟩), .slice A1 ys.length c1] W fun e w' => e = .returned (.int .i64 e0) ∧ ∃ v', Dk w' base g v' zs sure room ∧ Step W w' g v v' := by
  refine (append_calls W base g v xs sure room A1 c1 ys h.d hC h.r0 (by have := h.r1; omega) h.hx).mono ?_
  rintro e w' ⟨h1, h2⟩
  by_cases c : room < (xs.length : Int) + ys.length
  · obtain ⟨rfl, rfl⟩ := hno c
    obtain ⟨rfl, n, rfl⟩ := h1 c
    exact ⟨rfl, v, h.below (pw_below_drewN (Below.refl _ _) n), (Step.refl _ _ _).below (pw_below_drewN (Below.refl _ _) n)⟩
  · obtain ⟨rfl, rfl⟩ := hyes (by omega)
    obtain ⟨rfl, v1, hd1, ht, hat⟩ := h2 (by omega)
    exact ⟨rfl, v1, ⟨hd1, by have := h.hs; rw [List.length_append]; omega, h.r0, h.r1, by rw [List.length_append]; omega⟩, ⟨ht, hat⟩⟩

set_option maxRecDepth 100000 in
set_option maxHeartbeats 40000000 in
theorem dk_write {W : World} {base g : Nat} {v : Value} {xs : List Int} {sure : Nat} {room : Int} (h : Dk W base g v xs sure room) (A : Option Addr) (c : Nat) (l : List (List Int)) (hC : ∀ W1, Touch (Own g v) W W1 → Kd.C (Kd.slice 5 (Kd.int .u8)) W1 A l.length l)
    (hl : l.length ≤ 4611686018427387904) (m : Nat) (hm : m ≤ l.length) (hpre : ∀ i, i < m → (rd_L1 l (i : Int)).length ≤ 16384) (hend : m < l.length → 16384 < (rd_L1 l (m : Int)).length) (ht : (framesL (l.take m)).length < 140737488355328)
    (e0 : Int) (zs : List Int) (hlong : m < l.length → e0 = 5 ∧ zs = xs) (hno : m = l.length → room < (xs.length : Int) + (framesL l).length → e0 = 17 ∧ zs = xs) (hyes : m = l.length → (xs.length : Int) + (framesL l).length ≤ room → e0 = 0 ∧ zs = xs ++ framesL l) :
    Calls Try.prog 22 #[.pointer (some ⟨g, 0, none⟩), .slice A l.length c] W fun e w' => e = .returned (.int .i64 e0) ∧ ∃ v', Dk w' base g v' zs sure room ∧ Step W w' g v v' := by
  have HC := Lib.hid hC
  have HPRE := Lib.hid hpre
  have HEND := Lib.hid hend
  have HT := Lib.hid ht
  have HLONG := Lib.hid hlong
  have HNO := Lib.hid hno
  have HYES := Lib.hid hyes
  have HM := Lib.hid hm
  have HLL := Lib.hid hl
  have hx0 := h.hx
  clear hC hpre hend ht hlong hno hyes hm hl
  go_enter Try.func22, Try.ntmps22
  go_wp2_with (go_at_call 16; refine (dk_append h none 0 [] (Kd.C_nil _ _) 0 xs (fun hh => absurd hh (by simp only [List.length_nil]; omega)) (fun _ => ⟨rfl, by simp⟩)).mono ?_; rintro e w1 ⟨rfl, v1, h1, hs1⟩; have HC1 := Lib.hid (HC.out w1 hs1.t))
  have H1 := Lib.hid h1
  have HS1 := Lib.hid hs1
  clear h1 h hx0 hs1
  go_loopg [5, 15] (m + 1) (fun kq v5 v15 w' => ∃ i : Nat, v15 = .int .i64 (i : Int) ∧ Hid (i ≤ m) ∧ Hid (kq + i = m + 1) ∧ Hid (Kd.R (Kd.int .u8) 5 w' w1.heap.size (fun _ => True) v5 (framesL (l.take i))) ∧ Hid (Below w1.heap.size w1 w'))
  case atStart => exact ⟨0, rfl, Lib.hid (Nat.zero_le _), Lib.hid rfl, Lib.hid (Kd.R_nil _ _ _ _ _), Lib.hid (Below.refl _ _)⟩
  case round =>
    obtain ⟨i, rfl, hi, hk8, hR, hB⟩ := hrel
    by_cases ci : i < l.length
    · have c1 : decide ((i : Int) < (l.length : Int)) = true := decide_eq_true (by omega)
      have p0 : (0 ≤ (i : Int)) = True := eq_true (by omega)
      have p1 : ((i : Int) < (l.length : Int)) = True := eq_true (by omega)
      obtain ⟨ad, A1, c1_, rfl, hx, hl1, hi1⟩ := at_L1 HC1.out i (by omega) (by omega)
      rw [Int.toNat_natCast] at hx
      replace hx := (hB.out.cell (World.block_lt_of_cell? w1 _ hx)).trans hx
      have HCI := Lib.hid (Kd.C_below hi1 hB.out)
      have HLI := Lib.hid hl1
      clear hi1 hl1
      have CI := Lib.hid ci
      clear ci
      obtain ⟨b, hb⟩ : ∃ b, rd_L1 l (i : Int) = b := ⟨_, rfl⟩
      rw [hb] at hx HCI HLI
      have HBB := Lib.hid hb
      clear hb
      by_cases cm : i < m
      · have hbl : b.length ≤ 16384 := by rw [← HBB.out]; exact HPRE.out i cm
        have HBL := Lib.hid hbl
        have CM := Lib.hid cm
        clear hbl cm
        have hnx := framesL_next l i CI.out
        have htl : (framesL (l.take i) ++ frameL b).length < 140737488355328 := by
          rw [← HBB.out, ← hnx]
          have e : l.take (i + 1) = (l.take m).take (i + 1) := by rw [List.take_take, Nat.min_eq_left (by have := CM.out; omega)]
          rw [e]
          exact Nat.lt_of_le_of_lt (framesL_take_le _ _) HT.out
        rw [HBB.out] at hnx
        have HNX := Lib.hid hnx
        have HTL := Lib.hid htl
        clear hnx htl
        go_wp2_with (first | (go_at_call 30; (with_reducible refine (frame_calls _ _ b _ HCI.out HLI.out HBL.out).mono ?_); rintro e w2 ⟨A2, c2, rfl, hc2, hC2, hb2⟩; have HC2 := Lib.hid hC2; have HR2 := Lib.hid (Kd.R_below hR.out hb2); have HB2 := Lib.hid (below_step hB.out hb2); clear hC2 hb2) | ((with_reducible refine gate_builtin (b := .append) (xs := #[.tmp 27, .tmp 28]) rfl ?_); at_builtin; (refine Kd.R_append_rows (Kd.int .u8) (w0 := w1) w1.heap.size rfl (.tmp 27) (.tmp 28) 22 5 (.int .u8 0) 1 rfl Try.underlying22 info5 rfl (by decide) (by omega) u5 (framesL (l.take i)) (frameL b) _ _ _ (fun _ => True) (fun _ => False) rfl rfl HR2.out HC2.out (fun _ _ h => h) (fun _ h => h.elim) (fun _ _ => trivial) HB2.out (below_size HB2.out) ?aL ?_); (case aL => have := HTL.out; rw [List.length_append] at this; omega); intro v9 w3 ho hb hg hat; rw [← HNX.out] at ho; have HR3 := Lib.hid ho; have HB3 := Lib.hid hb; clear ho hb hg hat))
        obtain ⟨k1, rfl⟩ : ∃ k1, gk = k1 + 1 := ⟨gk - 1, by have := hk8.out; have := CM.out; omega⟩
        go_roundg k1
        case measure => omega
        case rel => exact ⟨i + 1, congrArg (Value.int .i64) (by have := CI.out; have := HLL.out; rw [wrap64_id _ (by omega) (by omega)]; rfl), Lib.hid CM.out, Lib.hid (by have := hk8.out; omega), Lib.hid HR3.out, Lib.hid HB3.out⟩
      · obtain rfl : i = m := by have := hi.out; omega
        have hbl : 16384 < b.length := by rw [← HBB.out]; exact HEND.out CI.out
        have HBL := Lib.hid hbl
        have hlg := HLONG.out CI.out
        clear hbl cm
        obtain ⟨rfl, rfl⟩ := hlg
        go_wp2_with (go_at_call 30; (with_reducible refine (frame_calls_long _ _ b _ HCI.out HLI.out HBL.out).mono ?_); rintro e w2 ⟨A2, c2, rfl, hC2, hb2⟩; have HB2 := Lib.hid (below_step hB.out hb2); clear hC2 hb2)
        go_ret
        exact ⟨rfl, v1, H1.out.below HB2.out, HS1.out.below HB2.out⟩
    · have c1 : decide ((i : Int) < (l.length : Int)) = false := decide_eq_false (by omega)
      have c2 : decide (i < l.length) = false := decide_eq_false ci
      have hie : i = l.length := by have := hi.out; have := HM.out; omega
      have hml : m = l.length := by have := hi.out; have := HM.out; omega
      have hn := HNO.out hml
      have hy := HYES.out hml
      have hRl := hR.out
      rw [hie, List.take_length] at hRl
      obtain ⟨A3, c3, rfl⟩ := Kd.R_slice hRl
      have HN := Lib.hid hn
      have HY := Lib.hid hy
      have HC3 := Lib.hid (Kd.R_reads' hRl).2.2
      clear hRl hn hy hie hml ci
      go_wp2_with (go_at_call 16; (refine (dk_append (H1.out.below hB.out) A3 c3 (framesL l) HC3.out e0 zs HN.out HY.out).mono ?_); rintro e w4 ⟨rfl, v4, h4, hs4⟩)
      go_ret
      exact ⟨rfl, v4, h4, (HS1.out.below hB.out).trans hs4⟩

/-- One row, told as a list of one. -/
theorem one_C {W : World} {K : Nat} {A : Option Addr} {c : Nat} {x : List Int} (hk : W.cell? ⟨K, 0, none⟩ = some (.slice A x.length c)) (hc : x.length ≤ c) (hC : Kd.C (Kd.int .u8) W A x.length x) : Kd.C (Kd.slice 5 (Kd.int .u8)) W (some ⟨K, 0, none⟩) 1 [x] := by
  refine ⟨rfl, by omega, fun _ => ⟨_, rfl, fun j p hj => ?_⟩⟩
  rcases j with _ | j
  · obtain rfl : x = p := by simpa using hj
    refine ⟨[.slice A x.length c], rfl, ⟨A, c, rfl, hc, hC⟩, fun i u hu => ?_⟩
    rcases i with _ | i
    · obtain rfl : Value.slice A x.length c = u := by simpa using hu
      rw [show ((⟨K, 0, none⟩ : Addr).add (0 * (Kd.slice 5 (Kd.int .u8)).sz + 0)) = ⟨K, 0, none⟩ by simp [Addr.add]]
      exact hk
    · simp at hu
  · simp at hj
end Go.Proofs.Ytfdpbdaekfdnjaa.X
-- Written by a program of this session (a turn of the kit's print with contracts by hand). Not trusted: Lean checks it.
namespace Go.Proofs.Ytfdpbdaekfdnjaa.X
open Go.RowKit Go.Proofs.YtfdpbdaekfdnjaaW.PrintWords Go.Proofs.YtfdpbdaekfdnjaaW.PrintLast Go.Proofs.YtfdpbdaekfdnjaaW.PrintMore
attribute [local go_sem] max2_int min2_int max_two min_two max_three min_three max_four min_four   -- for this text's walks alone
set_option linter.unusedVariables false
set_option linter.unusedSimpArgs false

/-! ### octets_Get: function 57 -/
def octets_Get.l0 : Nat → Int → List Int → Int → Int → Option (Int)
  | 0, _, _, _, _ => none
  | k + 1, x3, x6, x7, x8 => if x8 < x7 then (if 0 ≤ x8 then (if x8 < (x6.length : Int) then (octets_Get.l0 k (Go.bits .or .u64 (IntKind.u64.wrap (x3 * 256)) (IntKind.u64.wrap (rd x6 x8))) x6 x7 (wrap64 (x8 + 1))) else (none)) else (none)) else (some (wrap64 (Go.bits .and .u64 x3 4611686018427387903)))
def octets_Get.f (k : Nat) (l0 : List Int) : Option (Int) := octets_Get.l0 k 0 l0 (l0.length : Int) 0
theorem octets_Get.mono_l : ∀ k, (∀ y0 y1 y2 y3, LeO (octets_Get.l0 k y0 y1 y2 y3) (octets_Get.l0 (k + 1) y0 y1 y2 y3))
  | 0 => fun _ _ _ _ r h => by simp [octets_Get.l0] at h
  | k + 1 => by
    have ih0 := octets_Get.mono_l k
    · intro y0 y1 y2 y3
      unfold octets_Get.l0
      repeat' first
      | (with_reducible exact ih0 _ _ _ _)
      | (with_reducible exact LeO.refl _)
      | (with_reducible exact LeO.none _)
      | (with_reducible refine LeO.ite ?_ ?_)
      | (with_reducible refine LeO.bind ?_ (fun _ => ?_))
      | exact ih0 _ _ _ _
      | exact LeO.none _
      | refine LeO.ite ?_ ?_
      | refine LeO.bind ?_ (fun _ => ?_)
theorem octets_Get.mono : ∀ a0 k, LeO (octets_Get.f k a0) (octets_Get.f (k + 1) a0) := by
  intro a0 k
  have ih0 := octets_Get.mono_l k
  unfold octets_Get.f
  repeat' first
      | (with_reducible exact ih0 _ _ _ _)
      | (with_reducible exact LeO.refl _)
      | (with_reducible exact LeO.none _)
      | (with_reducible refine LeO.ite ?_ ?_)
      | (with_reducible refine LeO.bind ?_ (fun _ => ?_))
      | exact ih0 _ _ _ _
      | exact LeO.none _
      | refine LeO.ite ?_ ?_
      | refine LeO.bind ?_ (fun _ => ?_)
set_option maxHeartbeats 8000000 in
set_option maxRecDepth 100000 in
theorem octets_Get.calls (k : Nat) (A0 : Option Addr) (c0 : Nat) (l0 : List Int) (r : Int) (w : World) (hr0 : Kd.C (Kd.int .u8) w A0 l0.length l0) (hc0 : l0.length ≤ c0) (h : octets_Get.f k l0 = some r) :
    Calls Try.prog 57 #[.slice A0 l0.length c0] w fun e w' => e = .returned (.int .i64 r) ∧ Drawn0 w w' := by
  have HR0 := Aside0.mk hr0
  have HC0 := Aside0.mk hc0
  clear hr0 hc0
  have H : (octets_Get.l0 k 0 l0 (l0.length : Int) 0) = some r := h
  clear h
  have H' := Aside0.mk H
  clear H
  go_enter Try.func57, Try.ntmps57
  go_wp2
  go_loopg [3, 8] k (fun kq v3 v8 w' => ∃ (x3_1 : Int) (x8_1 : Int), v3 = .int .u64 x3_1 ∧ v8 = .int .i64 x8_1 ∧ Aside0 (octets_Get.l0 kq x3_1 l0 (l0.length : Int) x8_1 = some r) ∧ Aside0 (kq ≤ k) ∧ Drawn0 w w')
  case atStart => exact ⟨(0), (0), (by first | rfl | (simp; done) | (simp [*]; done)), (by first | rfl | (simp; done) | (simp [*]; done)), H', ⟨Nat.le_refl _⟩, by repeat (first | exact Drawn0.refl _ | apply Drawn0.step)⟩
  case round =>
    clear H'
    obtain ⟨x3_1, x8_1, rfl, rfl, HA, HK1, ⟨m1, rfl⟩⟩ := hrel
    cases gk with
    | zero => exact absurd HA.out (by simp [octets_Get.l0])
    | succ k1 =>
      have H := HA.out
      clear HA
      simp only [octets_Get.l0] at H
      by_cases c2 : x8_1 < (l0.length : Int)
      · rw [if_pos c2] at H
        have c2b0 : decide (x8_1 < (l0.length : Int)) = true := decide_eq_true c2
        clear c2
        by_cases c3 : 0 ≤ x8_1
        · rw [if_pos c3] at H
          have c3b0 : decide (0 ≤ x8_1) = true := decide_eq_true c3
          clear c3
          by_cases c4 : x8_1 < (l0.length : Int)
          · rw [if_pos c4] at H
            have c4b0 : decide (x8_1 < (l0.length : Int)) = true := decide_eq_true c4
            clear c4
            have H' := Aside0.mk H
            clear H
            have p190 : 0 ≤ (x8_1 : Int) := of_decide_eq_true (by first | (with_reducible assumption) | assumption)
            have q190 : x8_1 < (l0.length : Int) := of_decide_eq_true (by first | (with_reducible assumption) | assumption)
            obtain ⟨ad190, e190, hx190_0⟩ := Kd.at_int HR0.out x8_1 p190 q190
            cases e190
            replace p190 := eq_true p190
            replace q190 := eq_true q190
            go_wp2
            go_roundg k1
            case measure => have := HK1.out; omega
            case rel => exact ⟨(Go.bits .or .u64 (IntKind.u64.wrap (x3_1 * 256)) (IntKind.u64.wrap (rd l0 x8_1))), (wrap64 (x8_1 + 1)), (by first | rfl | (simp; done) | (simp [*]; done)), (by first | rfl | (simp; done) | (simp [*]; done)), H', ⟨by have := HK1.out; omega⟩, by repeat (first | exact Drawn0.refl _ | apply Drawn0.step)⟩
          · rw [if_neg c4] at H
            exact absurd H (by simp)
        · rw [if_neg c3] at H
          exact absurd H (by simp)
      · rw [if_neg c2] at H
        have c2b0 : decide (x8_1 < (l0.length : Int)) = false := decide_eq_false c2
        clear c2
        obtain rfl := Option.some.inj H
        go_wp2
        go_ret
        exact ⟨by first | rfl | (simp; done) | (simp [*]; done), by repeat (first | exact Drawn0.refl _ | apply Drawn0.step)⟩

end Go.Proofs.Ytfdpbdaekfdnjaa.X
/- Plain laws on octets as numbers: what Get comes to, and that it leads back from Put. -/
namespace Go.Proofs.Ytfdpbdaekfdnjaa.X
open Go.RowKit Go.Proofs.YtfdpbdaekfdnjaaW.PrintWords Go.Proofs.YtfdpbdaekfdnjaaW.PrintLast Go.Proofs.YtfdpbdaekfdnjaaW.PrintMore
set_option linter.unusedVariables false
set_option linter.unusedSimpArgs false

theorem wraps_u64 (n : Int) (h0 : 0 ≤ n) (h1 : n < 2 ^ 64) : IntKind.u64.wrap n = n := by rw [IntKind.wrap_u64]; omega
theorem wraps_u32 (n : Int) (h0 : 0 ≤ n) (h1 : n < 2 ^ 32) : IntKind.u32.wrap n = n := by rw [IntKind.wrap_u32]; omega
/-- Octets as a number, so many of its bits as a word has. -/
def getF (acc : Int) (l : List Int) : Int := l.foldl (fun u c => (u * 256 + c) % 18446744073709551616) acc
theorem getF_range (l : List Int) : ∀ acc : Int, 0 ≤ acc → acc < 18446744073709551616 → 0 ≤ getF acc l ∧ getF acc l < 18446744073709551616 := by
  induction l with
  | nil => intro acc a b; exact ⟨a, b⟩
  | cons c l ih => intro acc a b; exact ih _ (by dsimp only; omega) (by dsimp only; omega)
def Octets (l : List Int) : Prop := ∀ x ∈ l, 0 ≤ x ∧ x < 256
theorem rd_at (l : List Int) (i : Nat) (h : i < l.length) : rd l (i : Int) = l[i] := by simp [rd, List.getD_eq_getElem?_getD, h]
theorem or_byte (acc c : Int) (ha : 0 ≤ acc) (hc : 0 ≤ c ∧ c < 256) : Go.bits .or .u64 (IntKind.u64.wrap (acc * 256)) (IntKind.u64.wrap c) = (acc * 256 + c) % 18446744073709551616 := by
  rw [IntKind.wrap_u64, IntKind.wrap_u64, bits_join .u64 64 (by decide) wraps_u64 8] <;> omega
theorem get_l0 (l : List Int) (hl : Octets l) (hm : l.length ≤ 9223372036854775807) (d : Nat) : ∀ (k : Nat) (i : Nat) (acc : Int), 0 ≤ acc → acc < 18446744073709551616 → i + d = l.length → d < k →
    octets_Get.l0 k acc l (l.length : Int) (i : Int) = some (getF acc (l.drop i) % 4611686018427387904) := by
  induction d with
  | zero =>
    intro k i acc h0 h1 hd hk
    obtain ⟨k, rfl⟩ : ∃ m, k = m + 1 := ⟨k - 1, by omega⟩
    simp only [octets_Get.l0]
    rw [if_neg (by omega), List.drop_of_length_le (by omega)]
    have e := bits_mask .u64 64 (by decide) wraps_u64 62 (by decide) acc h0 h1
    rw [show ((2 : Int) ^ 62 - 1) = 4611686018427387903 by decide, show ((2 : Int) ^ 62) = 4611686018427387904 by decide] at e
    rw [e]
    simp only [getF, List.foldl_nil, Option.some.injEq]
    unfold wrap64
    omega
  | succ d ih =>
    intro k i acc h0 h1 hd hk
    obtain ⟨k, rfl⟩ : ∃ m, k = m + 1 := ⟨k - 1, by omega⟩
    have hi : i < l.length := by omega
    have hr := hl _ (List.getElem_mem hi)
    simp only [octets_Get.l0]
    rw [if_pos (by omega), if_pos (by omega), if_pos (by omega), rd_at l i hi, or_byte acc _ h0 hr, show wrap64 ((i : Int) + 1) = ((i + 1 : Nat) : Int) by unfold wrap64; omega]
    rw [ih k (i + 1) _ (by omega) (by omega) (by omega) (by omega), List.drop_eq_getElem_cons hi]
    rfl
theorem get_f (l : List Int) (hl : Octets l) (hm : l.length ≤ 9223372036854775807) (k : Nat) (hk : l.length < k) : octets_Get.f k l = some (getF 0 l % 4611686018427387904) := by
  have := get_l0 l hl hm l.length k 0 0 (by omega) (by omega) (by omega) hk
  simpa [octets_Get.f] using this
theorem putL_octets (u : Int) : ∀ s, Octets (putL u s)
  | 0 => by intro x hx; simp [putL] at hx
  | s + 1 => by
    intro x hx
    rcases List.mem_cons.1 hx with rfl | hx
    · constructor <;> omega
    · exact putL_octets u s x hx
theorem mod_pow_step (n s : Nat) : (n : Int) % 256 ^ (s + 1) = (n : Int) % 256 ^ s + 256 ^ s * ((n : Int) / 256 ^ s % 256) := by
  have h := @Nat.mod_mul (256 ^ s) 256 n
  rw [← Nat.pow_succ] at h
  have h3 : ((n % 256 ^ (s + 1) : Nat) : Int) = ((n % 256 ^ s + 256 ^ s * (n / 256 ^ s % 256) : Nat) : Int) := by rw [h]
  simpa only [Int.natCast_emod, Int.natCast_pow, Int.natCast_add, Int.natCast_mul, Int.natCast_ediv, Int.cast_ofNat_Int] using h3
theorem getF_put (u : Int) (hu : 0 ≤ u) : ∀ (s : Nat) (acc : Int), getF acc (putL u s) % 18446744073709551616 = (acc * 256 ^ s + u % 256 ^ s) % 18446744073709551616
  | 0, acc => by simp [putL, getF, Int.emod_one]
  | s + 1, acc => by
    have ih := getF_put u hu s ((acc * 256 + u / 256 ^ s % 256) % 18446744073709551616)
    have e : getF acc (putL u (s + 1)) = getF ((acc * 256 + u / 256 ^ s % 256) % 18446744073709551616) (putL u s) := rfl
    rw [e, ih]
    have h2 : u % 256 ^ (s + 1) = u % 256 ^ s + 256 ^ s * (u / 256 ^ s % 256) := by
      obtain ⟨n, rfl⟩ := Int.eq_ofNat_of_zero_le hu
      exact mod_pow_step n s
    rw [h2, Int.add_emod, Int.mul_emod, Int.emod_emod, ← Int.mul_emod, ← Int.add_emod]
    congr 1
    rw [Int.pow_succ, Int.add_mul, Int.mul_assoc, Int.mul_comm 256 ((256 : Int) ^ s), Int.mul_comm (u / 256 ^ s % 256)]
    omega
theorem getF_putL (u : Int) (hu : 0 ≤ u) (s : Nat) : getF 0 (putL u s) = (u % 256 ^ s) % 18446744073709551616 := by
  have h := getF_put u hu s 0
  have hr := getF_range (putL u s) 0 (by omega) (by omega)
  rw [Int.emod_eq_of_lt hr.1 hr.2] at h
  simpa using h

/-- Three octets from a place on, as a number: how long a record is. -/
def lenAt (b : List Int) (at_ : Nat) : Int := getF 0 ((b.take (at_ + 3)).drop at_) % 4611686018427387904
theorem lenAt_nonneg (b : List Int) (at_ : Nat) : 0 ≤ lenAt b at_ := by unfold lenAt; omega
theorem octets_cut (b : List Int) (h : Octets b) (lo hi : Nat) : Octets ((b.take hi).drop lo) := fun x hx => h x (List.mem_of_mem_take (List.mem_of_mem_drop hx))
theorem lenAt_get (b : List Int) (hO : Octets b) (at_ : Nat) (h : at_ + 3 ≤ b.length) : octets_Get.f 4 ((b.take (at_ + 3)).drop at_) = some (lenAt b at_) := by
  have hl : ((b.take (at_ + 3)).drop at_).length = 3 := by rw [List.length_drop, List.length_take]; omega
  exact get_f _ (octets_cut b hO _ _) (by omega) 4 (by omega)
end Go.Proofs.Ytfdpbdaekfdnjaa.X
/- journal.frames: the iterator over records that are whole: its contract, and what comes. -/
namespace Go.Proofs.Ytfdpbdaekfdnjaa.X
open Go.RowKit Go.Shelf Go.Proofs.YtfdpbdaekfdnjaaW.PrintWords Go.Proofs.YtfdpbdaekfdnjaaW.PrintLast Go.Proofs.YtfdpbdaekfdnjaaW.PrintMore
set_option linter.unusedVariables false
set_option linter.unusedSimpArgs false
attribute [local go_sem] Oper.semAt_some

/-- The records that are whole, from a place on: where each begins, and how long it is. -/
def scanN (b : List Int) : Nat → Nat → List (Nat × Nat)
  | 0, _ => []
  | k + 1, at_ => if at_ + 3 ≤ b.length then (if 16384 < (lenAt b at_).toNat ∨ b.length < at_ + 3 + (lenAt b at_).toNat then [] else (at_ + 3, (lenAt b at_).toNat) :: scanN b k (at_ + 3 + (lenAt b at_).toNat)) else []
abbrev Piece (b : List Int) := {x : Nat × Nat // x.1 + x.2 ≤ b.length}
/-- A part of the octets, as a slice. -/
def cutA (A : Option Addr) (c lo : Nat) : Option Addr := if c = lo then A else A.map (·.add (lo * 1))
def cutV (A : Option Addr) (c lo n : Nat) : Value := .slice (cutA A c lo) n (c - lo)
theorem cut_run (A : Option Addr) (len c lo n : Nat) (h : lo + n ≤ len) (hc : len ≤ c) (y x : Int) (hy : y = (lo : Int)) (hx : x = ((lo + n : Nat) : Int)) :
    ∀ W : World, (Instr.slice 22 (.slice A len c) (some (.int .i64 y)) (some (.int .i64 x)) none).run Try.prog W = .ok (cutV A c lo n) W := by
  obtain ⟨i0, hi0, _, hsz, _⟩ := info_parts info5
  intro W
  subst hx
  subst hy
  have := cut_mid (P := Try.prog) 22 5 .i64 .i64 Try.underlying22 hi0 1 hsz A len c (lo : Int) ((lo + n : Nat) : Int) (by omega) (by omega) (by omega) hc W
  rw [this]
  simp only [Int.toNat_natCast, cutV, cutA]
  rw [show lo + n - lo = n by omega]
theorem cut_C {W : World} {A : Option Addr} {c : Nat} {b : List Int} (hC : Kd.C (Kd.int .u8) W A b.length b) (hc : b.length ≤ c) (lo n : Nat) (h : lo + n ≤ b.length) :
    Kd.C (Kd.int .u8) W (cutA A c lo) n ((b.take (lo + n)).drop lo) := by
  have := Kd.C_mid (lo := lo) (hi := lo + n) hC (by omega) h hc
  have e : ((b.take (lo + n)).drop lo).length = n := by rw [List.length_drop, List.length_take]; omega
  rw [e] at this
  exact this

/-- What has come when d rounds at most are still to come, from the place at on. -/
def CameF (b : List Int) (d at_ : Nat) (pre : List (Piece b)) : Prop :=
  pre.map (·.1) ++ scanN b d at_ = scanN b (b.length + 1) 0 ∧ b.length < at_ + d ∧ at_ ≤ b.length ∧ pre.length ≤ at_ ∧ ((pre.getLast?.map (fun x => x.1.1 + x.1.2)).getD 0) = at_
theorem CameF.start (b : List Int) : CameF b (b.length + 1) 0 [] := ⟨rfl, by omega, by omega, by simp, rfl⟩
theorem CameF.step {b : List Int} {d at_ n : Nat} {pre : List (Piece b)} (h : CameF b (d + 1) at_ pre) (h3 : at_ + 3 + n ≤ b.length) (hn : (lenAt b at_).toNat = n) (hs : n ≤ 16384) (hx : at_ + 3 + n ≤ b.length) :
    CameF b d (at_ + 3 + n) (pre ++ [⟨(at_ + 3, n), hx⟩]) := by
  obtain ⟨h1, h2, h4, h5, h6⟩ := h
  rw [scanN, if_pos (by omega), hn, if_neg (by omega)] at h1
  refine ⟨by rw [List.map_append, List.append_assoc]; exact h1, by omega, by omega, by simp; omega, by simp⟩
theorem CameF.end1 {b : List Int} {d at_ : Nat} {pre : List (Piece b)} (h : CameF b (d + 1) at_ pre) (h3 : ¬ at_ + 3 ≤ b.length) : pre.map (·.1) = scanN b (b.length + 1) 0 := by
  have h1 := h.1
  rwa [scanN, if_neg h3, List.append_nil] at h1
theorem CameF.end2 {b : List Int} {d at_ : Nat} {pre : List (Piece b)} (h : CameF b (d + 1) at_ pre) (h3 : 16384 < (lenAt b at_).toNat ∨ b.length < at_ + 3 + (lenAt b at_).toNat) : pre.map (·.1) = scanN b (b.length + 1) 0 := by
  have h1 := h.1
  by_cases h5 : at_ + 3 ≤ b.length
  · rwa [scanN, if_pos h5, if_pos h3, List.append_nil] at h1
  · rwa [scanN, if_neg h5, List.append_nil] at h1
theorem get_cut {W : World} {A : Option Addr} {c : Nat} {b : List Int} (hC : Kd.C (Kd.int .u8) W A b.length b) (hc : b.length ≤ c) (hO : Octets b) (at_ : Nat) (h : at_ + 3 ≤ b.length) (m : Nat) (hm : lenAt b at_ = (m : Int)) :
    Calls Try.prog 57 #[cutV A c at_ 3] W fun e w' => e = .returned (.int .i64 (m : Int)) ∧ Drawn0 W w' := by
  have hl : ((b.take (at_ + 3)).drop at_).length = 3 := by rw [List.length_drop, List.length_take]; omega
  have := octets_Get.calls 4 (cutA A c at_) (c - at_) ((b.take (at_ + 3)).drop at_) (lenAt b at_) W (by rw [hl]; exact cut_C hC hc at_ 3 h) (by omega) (lenAt_get b hO at_ h)
  rw [hl, hm] at this
  exact this

/-- The octets and their box are as they were. -/
def KeepsRow (Bs : Nat) (A : Option Addr) (b : List Int) (W W' : World) : Prop :=
  (∀ v, W.cell? ⟨Bs, 0, none⟩ = some v → W'.cell? ⟨Bs, 0, none⟩ = some v) ∧ (Kd.C (Kd.int .u8) W A b.length b → Kd.C (Kd.int .u8) W' A b.length b)
theorem KeepsRow.trans {Bs : Nat} {A : Option Addr} {b : List Int} {X Y Z : World} (h : KeepsRow Bs A b X Y) (k : KeepsRow Bs A b Y Z) : KeepsRow Bs A b X Z := ⟨fun v hv => k.1 v (h.1 v hv), fun hC => k.2 (h.2 hC)⟩
theorem KeepsRow.of_cells {Bs : Nat} {A : Option Addr} {b : List Int} {W W' : World} (h : ∀ p v, W.cell? p = some v → W'.cell? p = some v) : KeepsRow Bs A b W W' :=
  ⟨fun v hv => h _ v hv, fun hC => by
    have hr := Kd.reads_of_C (d := (0 : Int)) (h1 := fun _ => rfl) hC
    refine Kd.C_of_reads (d := (0 : Int)) (h1 := fun _ => rfl) ⟨hr.1, hr.2.1, fun hn => ?_⟩
    obtain ⟨ad, e, hc⟩ := hr.2.2 hn
    exact ⟨ad, e, fun j hj => h _ _ (hc j hj)⟩⟩
theorem KeepsRow.of_grown {Bs : Nat} {A : Option Addr} {b : List Int} {W W' : World} {row : Option Nat} (hg : W.grownBy W' row) (hr : ∀ r, row = some r → ∃ o : Obj, W.heap[r]? = some o ∧ o.isCells = false) : KeepsRow Bs A b W W' :=
  .of_cells (fun p v hv => cell_kept hv hg hr)
theorem KeepsRow.drewN {Bs : Nat} {A : Option Addr} {b : List Int} (W : World) (n : Nat) : KeepsRow Bs A b W (W.drewN n) := .of_cells (fun p v hv => hv)

set_option maxRecDepth 100000 in
set_option maxHeartbeats 40000000 in
theorem frames1_in (F : Fence) (n : Nat) (h56 : F.fn 56) (h57 : F.fn 57) (hF : F = Fence.wide) (hro : F.round = none) (hn : 1 ≤ n) (l Bs : Nat) (A : Option Addr) (c : Nat) (b : List Int) (hO : Octets b) (hlen : b.length ≤ 1000000000000) (hc : b.length ≤ c) (J Jx : List (Piece b) → World → Prop)
    (hY : ∀ pre x W, J pre W → pre.length < b.length + 1 → YieldAt F (n - 1) Try.prog l #[cutV A c x.1.1 x.1.2, .int .i64 ((x.1.1 + x.1.2 : Nat) : Int)] W fun e W' =>
      (e = .returned (.bool true) ∧ J (pre ++ [x]) W' ∧ KeepsRow Bs A b W W') ∨ (e = .returned (.bool false) ∧ Jx (pre ++ [x]) W'))
    (W : World) (hBs : W.cell? ⟨Bs, 0, none⟩ = some (.slice A b.length c)) (hC : Kd.C (Kd.int .u8) W A b.length b) (hJ : ∀ s w w', J s w → w.grownBy w' none → J s w') (h0 : J [] W) :
    CallsIn F n Try.prog 56 #[.func (.yield l) #[] #[], .pointer (some ⟨Bs, 0, none⟩)] W fun e W' => (∃ v, e = .returned v) ∧
      ((∃ ys : List (Piece b), ys.map (·.1) = scanN b (b.length + 1) 0 ∧ J ys W') ∨ (∃ pre, True ∧ Jx pre W')) := by
  subst hF
  refine callsIn_of_wp Try.func56 rfl h56 ?_ hro
  simp only [Try.ntmps56, List.size_toArray, List.length_cons, List.length_nil, Nat.reduceAdd, Nat.reduceSub, Array.replicate_succ, Array.replicate_zero, List.push_toArray, List.append_toArray, List.nil_append, List.cons_append]
  gi_wp2
  gi_loopw [3] (fun i wr => ∃ (d at_ : Nat) (pre : List (Piece b)), i = .int .i64 (at_ : Int) ∧ CameF b (d + 1) at_ pre ∧ J pre wr ∧ KeepsRow Bs A b W wr)
    (fun i _ => (b.length : Nat) + 1 - (intOf i).toNat)
  case atStart => exact ⟨b.length, 0, [], rfl, CameF.start b, h0, ⟨fun _ h => h, fun h => h⟩⟩
  case round =>
    obtain ⟨d, at_, pre, rfl, hcame, hJs, hnx⟩ := hrel
    have hb1 := hnx.1 _ hBs
    have hC1 := hnx.2 hC
    have hle := hcame.2.2.1
    have e1 : wrap64 ((b.length : Int) - (at_ : Int)) = (b.length : Int) - at_ := wrap64_id _ (by omega) (by omega)
    by_cases h3 : at_ + 3 ≤ b.length
    · have c1 : decide ((b.length : Int) - (at_ : Int) ≥ 3) = true := decide_eq_true (by omega)
      have c2 : decide (3 ≤ (b.length : Int) - (at_ : Int)) = true := decide_eq_true (by omega)
      have e2 : wrap64 ((at_ : Int) + 3) = (at_ : Int) + 3 := wrap64_id _ (by omega) (by omega)
      have hcut := cut_run A b.length c at_ 3 h3 hc (at_ : Int) ((at_ : Int) + 3) rfl (by omega)
      obtain ⟨m, hm⟩ := Int.eq_ofNat_of_zero_le (lenAt_nonneg b at_)
      have hmn : (lenAt b at_).toNat = m := by rw [hm]; rfl
      have HM := Lib.hid hm
      have HMN := Lib.hid hmn
      clear hm hmn
      have hJd : ∀ k, J pre (wr.drewN k) := fun k => hJ _ _ _ hJs ⟨rfl, rfl, rfl, Nat.le_refl _, fun _ _ _ => rfl⟩
      by_cases h4 : 16384 < m
      · have c3 : decide ((m : Int) > 16384) = true := decide_eq_true (by omega)
        have c4 : decide (16384 < (m : Int)) = true := decide_eq_true (by omega)
        have c5 : decide (16384 < m) = true := decide_eq_true h4
        have hen := hcame.end2 (.inl (by rw [HMN.out]; exact h4))
        have HEN := Lib.hid hen
        clear hen h4
        gi_wp2_with (gi_at_call 57; (with_reducible refine (callsIn_wide.2 (get_cut hC1 hc hO at_ h3 m HM.out)).mono ?_); rintro e w1 ⟨rfl, ⟨nd, rfl⟩⟩)
        refine bodyPost_ret (results_none rfl _ _ _) rfl ?_
        exact ⟨⟨_, rfl⟩, .inl ⟨pre, HEN.out, hJd nd⟩⟩
      · have c3 : decide ((m : Int) > 16384) = false := decide_eq_false (by omega)
        have c4 : decide (16384 < (m : Int)) = false := decide_eq_false (by omega)
        have c5 : decide (16384 < m) = false := decide_eq_false h4
        have e3 : wrap64 ((b.length : Int) - (at_ : Int) - 3) = (b.length : Int) - at_ - 3 := wrap64_id _ (by omega) (by omega)
        by_cases h5 : b.length < at_ + 3 + m
        · have c6 : decide ((m : Int) > (b.length : Int) - at_ - 3) = true := decide_eq_true (by omega)
          have c7 : decide ((b.length : Int) - at_ - 3 < (m : Int)) = true := decide_eq_true (by omega)
          have hen := hcame.end2 (.inr (by rw [HMN.out]; exact h5))
          have HEN := Lib.hid hen
          clear hen h4 h5
          gi_wp2_with (gi_at_call 57; (with_reducible refine (callsIn_wide.2 (get_cut hC1 hc hO at_ h3 m HM.out)).mono ?_); rintro e w1 ⟨rfl, ⟨nd, rfl⟩⟩)
          refine bodyPost_ret (results_none rfl _ _ _) rfl ?_
          exact ⟨⟨_, rfl⟩, .inl ⟨pre, HEN.out, hJd nd⟩⟩
        · have c6 : decide ((m : Int) > (b.length : Int) - at_ - 3) = false := decide_eq_false (by omega)
          have c7 : decide ((b.length : Int) - at_ - 3 < (m : Int)) = false := decide_eq_false (by omega)
          have hx : at_ + 3 + m ≤ b.length := by omega
          have e4 : wrap64 (3 + (m : Int)) = 3 + (m : Int) := wrap64_id _ (by omega) (by omega)
          have e5 : wrap64 ((at_ : Int) + (3 + (m : Int))) = (at_ : Int) + (3 + (m : Int)) := wrap64_id _ (by omega) (by omega)
          have e6 : wrap64 ((at_ : Int) + (3 + (m : Int)) - (m : Int)) = (at_ : Int) + (3 + (m : Int)) - (m : Int) := wrap64_id _ (by omega) (by omega)
          have hcut2 := cut_run A b.length c (at_ + 3) m hx hc ((at_ : Int) + (3 + (m : Int)) - (m : Int)) ((at_ : Int) + (3 + (m : Int))) (by omega) (by omega)
          have e8 : (((at_ + 3 + m : Nat)) : Int) = (at_ : Int) + (3 + (m : Int)) := by omega
          have E8 := Lib.hid e8
          clear e8
          have hst := hcame.step hx HMN.out (by omega) hx
          have hlt : pre.length < b.length + 1 := by have := hcame.2.2.2.1; omega
          have HST := Lib.hid hst
          have HX := Lib.hid hx
          clear hst h4 h5
          gi_wp2_with (gi_at_call 57; ((with_reducible refine (callsIn_wide.2 (get_cut hC1 hc hO at_ h3 m HM.out)).mono ?_); rintro e w1 ⟨rfl, hd⟩; obtain ⟨nd, hnd⟩ := hd; have hJ1 : J pre w1 := (by rw [hnd]; exact hJd nd); have hk1 : KeepsRow Bs A b wr w1 := (by rw [hnd]; exact KeepsRow.drewN wr nd); have hb2 : w1.cell? ⟨Bs, 0, none⟩ = some (.slice A b.length c) := hk1.1 _ hb1; clear hnd; have hYY := hY pre ⟨(at_ + 3, m), HX.out⟩ w1 hJ1 hlt; (try dsimp only at hYY); rw [E8.out] at hYY; obtain ⟨fn, tmps, assign, body, hy, hR⟩ := hYY; (try dsimp only at hy)))
          refine hR.mono ?_
          rintro e W3 (⟨rfl, hJ3, hk3⟩ | ⟨rfl, hJx3⟩)
          · gi_wp2
            obtain ⟨d1, rfl⟩ : ∃ d1, d = d1 + 1 := ⟨d - 1, by have := HST.out.2.1; have := HST.out.2.2.1; omega⟩
            go_roundw
            case rel => exact ⟨d1, _, _, congrArg (Value.int .i64) E8.out.symm, HST.out, hJ3, (hnx.trans hk1).trans hk3⟩
            case measure => simp [intOf]; omega
          · gi_wp2
            refine bodyPost_ret (results_none rfl _ _ _) rfl ?_
            exact ⟨⟨_, rfl⟩, .inr ⟨_, trivial, hJx3⟩⟩
    · have c1 : decide ((b.length : Int) - (at_ : Int) ≥ 3) = false := decide_eq_false (by omega)
      have c2 : decide (3 ≤ (b.length : Int) - (at_ : Int)) = false := decide_eq_false (by omega)
      have hen := hcame.end1 h3
      have HEN := Lib.hid hen
      clear hen h3
      gi_wp2
      go_end0
      exact ⟨⟨_, rfl⟩, .inl ⟨pre, HEN.out, hJs⟩⟩
end Go.Proofs.Ytfdpbdaekfdnjaa.X
/- journal.Scan: records that are whole, each in memory of its own, and where they end. -/
namespace Go.Proofs.Ytfdpbdaekfdnjaa.X
open Go.RowKit Go.Shelf Go.Proofs.YtfdpbdaekfdnjaaW.PrintWords Go.Proofs.YtfdpbdaekfdnjaaW.PrintLast Go.Proofs.YtfdpbdaekfdnjaaW.PrintMore
set_option linter.unusedVariables false
set_option linter.unusedSimpArgs false
attribute [local go_sem] Oper.semAt_some

def pieceL (b : List Int) (x : Nat × Nat) : List Int := (b.take (x.1 + x.2)).drop x.1
def scanL (b : List Int) : List (List Int) := (scanN b (b.length + 1) 0).map (pieceL b)
def endN (l : List (Nat × Nat)) : Nat := (l.getLast?.map (fun x => x.1 + x.2)).getD 0
def scanEnd (b : List Int) : Nat := endN (scanN b (b.length + 1) 0)

theorem frames_in (F : Fence) (n : Nat) (h44 : F.fn 44) (hro : F.round = none) (A : Option Addr) (len c : Nat) (w : World) :
    CallsIn F n Try.prog 44 #[.slice A len c] w fun e w' => e = .returned (.func (.func 56) #[] #[.pointer (some ⟨w.heap.size, 0, none⟩)]) ∧ w' = w.alloc (.cells #[.slice A len c] 22) := by
  refine callsIn_of_wp Try.func44 rfl h44 ?_ hro
  simp only [Try.ntmps44, List.size_toArray, List.length_cons, List.length_nil, Nat.reduceAdd, Nat.reduceSub, Array.replicate_succ, Array.replicate_zero, List.push_toArray, List.append_toArray, List.nil_append, List.cons_append]
  gi_wp2
  go_ret
  exact ⟨rfl, rfl⟩

/-- An append inside a fence, by what it comes to. -/
theorem stepIn_append {F : Fence} {n : Nat} {P : Program} {o : Oper} {a : Act} {Q : Exit → Act → World → Prop} {K : Act → World → Prop} {W w1 : World} {t : TypeId} (s x : Operand) (hop : o.op = Op.call { callee := Callee.builtin Builtin.append, args := #[s, x], argTypes := #[t, t] })
    (v xv v1 : Value) (hs : a.eval s = v) (hx : a.eval x = xv) (hrun : (Builtin.append_ #[t, t] o.type #[v, xv]).run P W = .ok v1 w1) (h : K (a.put o.dst v1) w1) : Oper.wpIn F n P o a W K Q := by
  unfold Oper.wpIn
  refine ⟨?_, ?_⟩
  · simp [Oper.about, hop, resolve, Target.leads, Sem.run_pure]
  · rw [Oper.semAt_plain F _ _ (by rw [hop]; intro c hc'; cases hc')]
    simp [execOp, hop, resolve, invoke, builtin, hs, hx, hrun, Result.andThen]
    exact h
/-- One row more behind rows of one's own. -/
theorem rows_push {W : World} {Z : Nat} {sv : Value} {rows : List (List Int)} {v2 : Value} {x : List Int} (hR : Kd.R (Kd.slice 5 (Kd.int .u8)) 22 W Z (fun k => Z ≤ k) sv rows)
    (hx : Kd.R (Kd.int .u8) 5 W Z (fun k => Z ≤ k ∧ some k ≠ sv.ownBlock) v2 x) (hZ : Z ≤ W.heap.size) (hl : rows.length ≤ 1000000000000) :
    ∃ v1 w1, (Builtin.append_ #[33, 33] 33 #[sv, .slice (some ⟨W.heap.size, 0, none⟩) 1 1]).run Try.prog (W.alloc (.cells #[v2] 22)) = .ok v1 w1 ∧
      Kd.R (Kd.slice 5 (Kd.int .u8)) 22 w1 Z (fun k => Z ≤ k) v1 (rows ++ [x]) ∧ (W.alloc (.cells #[v2] 22)).grownBy w1 sv.ownBlock := by
  obtain ⟨i0, hi0, hz0, hsz, hby⟩ := info_parts info22
  have hR' := Kd.R_alloc hR (.cells #[v2] 22)
  have hx' := Kd.R_alloc hx (.cells #[v2] 22)
  obtain ⟨h0, inner, hown, hr⟩ := hR'
  have h1c : v2.oneCell' = true := by
    obtain ⟨A2, c2, rfl⟩ := Kd.R_slice hx
    rfl
  obtain ⟨v1, w1, hrun, hown1, hg1, _, hat1⟩ := run_append_own_at (P := Try.prog) (w := W.alloc (.cells #[v2] 22)) Z 33 33 22 i0 (.slice none 0 0) 1 24 Try.underlying33 hi0 hz0 hsz hby rfl (by omega) sv rows.length inner hown ⟨W.heap.size, 0, none⟩ 1 1 [v2] rfl (cell_one_new _ _ _) (by simpa using h1c) (by unfold maxLen; omega) (by omega) (by rw [World.size_alloc]; omega)
  refine ⟨v1, w1, hrun, ?_, hg1⟩
  refine Kd.R_appended (okp := fun k => Z ≤ k ∧ some k ≠ sv.ownBlock) h0 hr ⟨v2, rfl, hx'⟩ (fun k hk => hk) (fun k hk => by rw [World.size_alloc] at hk; omega) hown1 hg1 ?_
  rcases hat1 with h | h
  · exact .inl h
  · exact .inr ⟨_, h, Nat.le_refl _⟩

/-- A way on that neither panics nor jumps. -/
def Calm (K : Act → World → Prop) : Exit → Act → World → Prop
  | .normal, a, w => K a w
  | _, _, _ => False
theorem wpIn_cut {F : Fence} {n : Nat} {P : Program} {c : Code} {Q : Exit → Act → World → Prop} {a : Act} {w : World} (S : Act → World → Prop) (h : c.wpIn F n P (Calm S) a w) (hk : ∀ a w, S a w → Q .normal a w) : c.wpIn F n P Q a w :=
  wpIn_mono h (fun e a w he => by cases e <;> first | exact hk _ _ he | exact he.elim)
theorem wpIn_calm {F : Fence} {n : Nat} {P : Program} {c : Code} {Q : Exit → Act → World → Prop} {a : Act} {w : World} (h : c.wpIn F n P (Calm (Q .normal)) a w) : c.wpIn F n P Q a w :=
  wpIn_mono h (fun e a w he => by cases e <;> first | exact he | exact he.elim)
theorem clone_cut {W : World} {A : Option Addr} {c : Nat} {b : List Int} (hC : Kd.C (Kd.int .u8) W A b.length b) (hc : b.length ≤ c) (hl : b.length ≤ 100000000000) (x : Piece b) :
    Calls Try.prog 40 #[cutV A c x.1.1 x.1.2] W fun e w' => ∃ v0_ : Value, e = .returned v0_ ∧ Kd.R (Kd.int .u8) 5 w' W.heap.size (fun _ => True) v0_ (pieceL b x.1) ∧ Below W.heap.size W w' := by
  have hx := x.2
  have hlen : (pieceL b x.1).length = x.1.2 := by rw [pieceL, List.length_drop, List.length_take]; omega
  have := cloneB_calls (cutA A c x.1.1) (c - x.1.1) (pieceL b x.1) W (by rw [hlen]; exact cut_C hC hc _ _ hx) (by omega) (by omega)
  rw [hlen] at this
  exact this
/-- What one round has left untouched. -/
structure BodyOut (w W : World) (sv : Value) (w3 : World) : Prop where
  size : W.heap.size ≤ w3.heap.size
  same : ∀ k, k < W.heap.size → some k ≠ sv.ownBlock → w3.heap[k]? = W.heap[k]?
  below : Below w.heap.size w w3
theorem body_out {w W w2 w3 : World} {Z : Nat} {sv : Value} {o : Obj} (hB : Below w.heap.size w W) (hb2 : Below W.drew.heap.size W.drew w2) (hg : (w2.alloc o).grownBy w3 sv.ownBlock) (hZ : ∀ k, sv.ownBlock = some k → Z ≤ k) (hz : w.heap.size ≤ Z) : BodyOut w W sv w3 := by
  have hB2 : Below w.heap.size w w2 := below_step (below_drew hB) hb2
  have hB3 : Below w.heap.size w (w2.alloc o) := below_alloc hB2 o
  have h2 : W.heap.size ≤ w2.heap.size := hb2.size
  have h3 := hg.size
  rw [World.size_alloc] at h3
  refine ⟨by omega, fun k hk hne => ?_, pw_below_grown hB3 _ hB3.size hg (fun k hk => Nat.le_trans hz (hZ k hk))⟩
  rw [hg.block k (by rw [World.size_alloc]; omega) hne, Below.heap_alloc _ _ _ (by omega)]
  exact hb2.block k hk

/-- What the loop over the records keeps. -/
structure ScanInv (w : World) (Z : Nat) (rows : List (List Int)) (e : Nat) (W : World) : Prop where
  out : ∃ sv, W.heap[w.heap.size]? = some (.cells #[sv] 33 (0, 0)) ∧ Kd.R (Kd.slice 5 (Kd.int .u8)) 22 W Z (fun k => Z ≤ k) sv rows
  end_ : W.heap[w.heap.size + 1]? = some (.cells #[.int .i64 (e : Int)] 3 (0, 0))
  size : Z ≤ W.heap.size
  box : w.heap.size + 2 < Z
theorem ScanInv.grown {w : World} {Z : Nat} {rows : List (List Int)} {e : Nat} {W W' : World} {row : Option Nat} (h : ScanInv w Z rows e W) (hg : W.grownBy W' row) (hr : ∀ r, row = some r → ∃ o : Obj, W.heap[r]? = some o ∧ o.isCells = false) : ScanInv w Z rows e W' := by
  obtain ⟨sv, hb, hR⟩ := h.out
  refine ⟨⟨sv, blk_own hb hg hr, ?_⟩, blk_own h.end_ hg hr, Nat.le_trans h.size hg.size, h.box⟩
  refine Kd.R_mono (Kd.R_grown (Kd.R_bound hR) hg (fun k hk e_ => ?_)) (fun _ hk => hk.1)
  obtain ⟨_, _, _, q, _, cells, hc⟩ := hk
  obtain ⟨o, ho, hcl⟩ := hr k e_.symm
  rw [hc] at ho
  cases ho
  cases hcl

set_option maxRecDepth 100000 in
set_option maxHeartbeats 40000000 in
theorem scan_calls (A : Option Addr) (c : Nat) (b : List Int) (w : World) (hC : Kd.C (Kd.int .u8) w A b.length b) (hc : b.length ≤ c) (hO : Octets b) (hlen : b.length ≤ 100000000000) :
    Calls Try.prog 31 #[.slice A b.length c] w fun e w' => ∃ v : Value, e = .returned (.tuple #[v, .int .i64 (scanEnd b : Int)]) ∧ Kd.R (Kd.slice 5 (Kd.int .u8)) 22 w' w.heap.size (fun _ => True) v (scanL b) ∧ Below w.heap.size w w' := by
  refine callsIn_wide (n := 5).1 ?_
  have hro : Fence.wide.round = none := rfl
  have hn1 : 1 ≤ 5 := by omega
  have h44 : Fence.wide.fn 44 := trivial
  have h56 : Fence.wide.fn 56 := trivial
  have h57 : Fence.wide.fn 57 := trivial
  refine callsIn_of_wp_marks Try.func31 rfl trivial ?_ hro
  simp only [Try.ntmps31, List.size_toArray, List.length_cons, List.length_nil, Nat.reduceAdd, Nat.reduceSub, Array.replicate_succ, Array.replicate_zero, List.push_toArray, List.append_toArray, List.nil_append, List.cons_append]
  gi_wp2_with (gi_at_call 44; (with_reducible refine (frames_in Fence.wide 4 h44 hro _ _ _ _).mono ?_); rintro e w1 ⟨rfl, rfl⟩)
  obtain ⟨W0, hW0⟩ : ∃ W0, ((w.alloc (Obj.cells #[Value.slice none 0 0] 33)).alloc (Obj.cells #[Value.int IntKind.i64 0] 3)).alloc (Obj.cells #[Value.slice A b.length c] 22) = W0 := ⟨_, rfl⟩
  rw [hW0]
  have hsz : W0.heap.size = w.heap.size + 3 := by rw [← hW0]; simp
  have hB0 : Below w.heap.size w W0 := by rw [← hW0]; exact below_alloc (below_alloc (below_alloc (Below.refl _ _) _) _) _
  have g1 : W0.heap[w.heap.size]? = some (.cells #[.slice none 0 0] 33 (0, 0)) := by rw [← hW0]; exact blk_alloc (blk_alloc (blk_new _ _) _) _
  have g2 : W0.heap[w.heap.size + 1]? = some (.cells #[.int .i64 0] 3 (0, 0)) := by
    rw [← hW0]
    have := blk_new (w.alloc (Obj.cells #[Value.slice none 0 0] 33)) (Obj.cells #[Value.int IntKind.i64 0] 3)
    rw [World.size_alloc] at this
    exact blk_alloc this _
  have g3 : W0.heap[w.heap.size + 2]? = some (.cells #[.slice A b.length c] 22 (0, 0)) := by
    rw [← hW0]
    have := blk_new ((w.alloc (Obj.cells #[Value.slice none 0 0] 33)).alloc (Obj.cells #[Value.int IntKind.i64 0] 3)) (Obj.cells #[Value.slice A b.length c] 22)
    simpa using this
  have hI0 : ScanInv w W0.heap.size [] 0 W0 := ⟨⟨_, g1, Kd.R_nil _ _ _ _ _⟩, g2, Nat.le_refl _, by omega⟩
  have hC0 := Kd.C_below hC hB0
  clear hW0 g1 g2
  rw [show w.heap.size + 1 + 1 = w.heap.size + 2 from rfl]
  have hmix : Try.prog.follows .mixedOrders = true := by kernel_rfl
  refine wpIn_rangeFunc_ownG hro hn1 (gf := 56) (lb := #[.pointer (some ⟨w.heap.size + 2, 0, none⟩)]) rfl h56 (enters_of Try.func56 (by kernel_rfl) rfl)
    (encs := fun x : Piece b => #[cutV A c x.1.1 x.1.2, Value.int .i64 ((x.1.1 + x.1.2 : Nat) : Int)]) (Kp := KeepsRow (w.heap.size + 2) A b) (S := fun ys => ys.map (·.1) = scanN b (b.length + 1) 0) (Sp := fun _ => True) (N := b.length + 1) (w0 := W0) ?seq ?kt ?kb (Below.refl _ _) (fun _ => rfl)
    (fun pre W => ScanInv w W0.heap.size (pre.map (fun x => pieceL b x.1)) (endN (pre.map (·.1))) W ∧ Below w.heap.size w W)
    (fun _ _ _ => False)
    ?own (fun _ _ _ _ _ hs _ _ => hs) ⟨hI0, hB0⟩
    (fun x => { tmps := #[Value.slice A b.length c, undef, Value.slice none 0 0, Value.int IntKind.i64 0,
          Value.pointer (some { block := w.heap.size, off := 0 }),
          Value.pointer (some { block := w.heap.size + 1, off := 0 }), cutV A c x.1.1 x.1.2, Value.int .i64 ((x.1.1 + x.1.2 : Nat) : Int), Value.slice A b.length c,
          Value.func (Fn.func 56) #[] #[Value.pointer (some { block := w.heap.size + 2, off := 0 })], cutV A c x.1.1 x.1.2, Value.int .i64 ((x.1.1 + x.1.2 : Nat) : Int),
          undef, undef, undef, undef, undef, undef, undef, undef], defers := [] }) ?assign ?body ?done ?stop
  case seq =>
    intro l J Jx W hW hJ _ hY h0
    have f1 : W.heap[w.heap.size + 2]? = W0.heap[w.heap.size + 2]? := hW.block _ (by omega)
    exact frames1_in Fence.wide 4 h56 h57 rfl hro (by omega) l (w.heap.size + 2) A c b hO (by omega) hc J Jx hY W ((blk_cell (f1.trans g3) 0).trans rfl) (Kd.C_below hC0 hW) (fun s w w' hs hg => hJ s w w' none hs hg (fun r e => by cases e)) h0
  case kt => exact fun h k => h.trans k
  case kb =>
    intro W l o o' hl ho hcl hw
    exact KeepsRow.of_grown (grownBy_putObj' W l o') (fun r e => by cases e; exact ⟨o, ho, hcl⟩)
  case own =>
    exact OwnFrom.and (Own.from (fun s_ A' B' row hs hg hr => hs.grown hg hr) _) (ownFrom_below (Nat.le_refl _) (by omega))
  case assign =>
    intro l x W K hK
    gi_wp2
    exact hK
  case body =>
    rintro l pre x W ⟨hI, hB⟩ hN
    obtain ⟨sv, hsv, hR⟩ := hI.out
    have hlt : w.heap.size < W.heap.size := by have := hI.size; have := hI.box; omega
    have c1 : W.drew.cell? ⟨w.heap.size, 0, none⟩ = some sv := (blk_cell hsv 0).trans rfl
    have hCW : Kd.C (Kd.int .u8) W.drew A b.length b := Kd.C_drew (Kd.C_below hC hB)
    have hRd := Kd.R_drew hR
    have hZW : W0.heap.size ≤ W.drew.heap.size := hI.size
    have hrl : (pre.map (fun x => pieceL b x.1)).length ≤ 1000000000000 := by rw [List.length_map]; omega
    have hown0 : ∀ k, sv.ownBlock = some k → W0.heap.size ≤ k := fun k hk => hR.1 k hk
    have hne : some w.heap.size ≠ sv.ownBlock := fun e => by have := hown0 _ e.symm; have := hI.box; omega
    have hfr : ∀ k, W.drew.heap.size ≤ k → W0.heap.size ≤ k ∧ some k ≠ sv.ownBlock := fun k hk => ⟨Nat.le_trans hZW hk, fun e => by
      obtain ⟨_, inner, ho, _⟩ := hR
      have := own_lt ho k e.symm
      exact absurd this (Nat.not_lt.2 hk)⟩
    have hI2 := Lib.hid hI
    gi_wp2
    refine wpIn_cut (fun a' w' => ∃ (v2 v3 : Value) (z : Nat) (w3 : World), a' = { tmps := #[Value.slice A b.length c, undef, Value.slice none 0 0, Value.int IntKind.i64 0, Value.pointer (some { block := w.heap.size, off := 0 }), Value.pointer (some { block := w.heap.size + 1, off := 0 }), cutV A c x.1.1 x.1.2, Value.int .i64 ((x.1.1 + x.1.2 : Nat) : Int), Value.slice A b.length c, Value.func (Fn.func 56) #[] #[Value.pointer (some { block := w.heap.size + 2, off := 0 })], cutV A c x.1.1 x.1.2, Value.int .i64 ((x.1.1 + x.1.2 : Nat) : Int), sv, cutV A c x.1.1 x.1.2, v2, Value.slice (some ⟨z, 0, none⟩) 1 1, v3, undef, undef, undef], defers := [] } ∧ w' = w3.setCell ⟨w.heap.size, 0, none⟩ v3 ∧ Kd.R (Kd.slice 5 (Kd.int .u8)) 22 w3 W0.heap.size (fun k => W0.heap.size ≤ k) v3 (pre.map (fun x => pieceL b x.1) ++ [pieceL b x.1]) ∧ BodyOut w W sv w3) ?_ ?_
    · refine wpIn_region_any hmix ?_
      (try (change wpAnyIn _ _ _ _ _ _ _ _ _ (World.drew _)))
      clear hI
      refine wpAnyIn_ready (rs := [0, 1]) (by kernel_rfl) (by simp) ?_
      refine AllReadyIn.cons rfl (fun K hK => ?_) (AllReadyIn.cons rfl (fun K hK => ?_) AllReadyIn.nil)
      · go_simp
        refine hK _ _ ?_
        clear hK K
        (try simp only [Act.put, List.setIfInBounds_toArray, List.set_cons_zero, List.set_cons_succ])
        refine wpAnyIn_ready (rs := [1]) (by kernel_rfl) (by simp) ?_
        refine AllReadyIn.cons rfl (fun K hK => ?_) AllReadyIn.nil
        go_simp
        refine hK _ _ ?_
        clear hK K
        (try simp only [Act.put, List.setIfInBounds_toArray, List.set_cons_zero, List.set_cons_succ])
        refine wpAnyIn_ready (rs := [2]) (by kernel_rfl) (by simp) ?_
        refine AllReadyIn.cons rfl (fun K hK => ?_) AllReadyIn.nil
        go_simp
        refine ⟨trivial, ?_⟩
        refine (CallsIn.inRound l (callsIn_wide.2 (clone_cut hCW hc hlen x))).mono ?_
        rintro e w2 ⟨v2, rfl, hR2, hb2⟩
        obtain ⟨A2, cap2, rfl⟩ := Kd.R_slice hR2
        dsimp only
        have c2 : w2.cell? ⟨w.heap.size, 0, none⟩ = some sv := (hb2.cell (p := ⟨w.heap.size, 0, none⟩) hlt).trans c1
        have c3 : (w2.alloc (.cells #[.slice A2 (pieceL b x.1).length cap2] 22)).cell? ⟨w.heap.size, 0, none⟩ = some sv := ((below_alloc (Below.refl _ w2) (.cells #[.slice A2 (pieceL b x.1).length cap2] 22)).cell (p := ⟨w.heap.size, 0, none⟩) (Nat.lt_of_lt_of_le hlt hb2.size)).trans c2
        refine hK _ _ ?_
        clear hK K
        (try simp only [Act.put, List.setIfInBounds_toArray, List.set_cons_zero, List.set_cons_succ])
        refine wpAnyIn_ready (rs := [3]) (by kernel_rfl) (by simp) ?_
        refine AllReadyIn.cons rfl (fun K hK => ?_) AllReadyIn.nil
        go_simp
        refine hK _ _ ?_
        clear hK K
        (try simp only [Act.put, List.setIfInBounds_toArray, List.set_cons_zero, List.set_cons_succ])
        refine wpAnyIn_ready (rs := [4]) (by kernel_rfl) (by simp) ?_
        refine AllReadyIn.cons rfl (fun K hK => ?_) AllReadyIn.nil
        obtain ⟨v3, w3, hrun, hR3, hg3⟩ := rows_push (Kd.R_below hRd hb2) (Kd.R_lower (Kd.R_mono (Kd.R_bound hR2) (fun k hk => hfr k hk.2.1)) hZW) (Nat.le_trans hZW hb2.size) hrl
        obtain ⟨A3, cap3, rfl⟩ := Kd.R_slice hR3
        have hbo := body_out hB hb2 hg3 hown0 (by omega)
        have g4 : w3.heap[w.heap.size]? = some (.cells #[sv] 33 (0, 0)) := (hbo.same _ hlt hne).trans hsv
        have c4 : w3.cell? ⟨w.heap.size, 0, none⟩ = some sv := (blk_cell g4 0).trans rfl
        have f4 := blk_frozen g4 0
        have HBO := Lib.hid hbo
        have HR3 := Lib.hid hR3
        clear hbo hR3 g4 hg3 c2 c3 hR2
        rw [if_pos (by rfl)]
        refine stepIn_append (.tmp 12) (.tmp 15) rfl sv (.slice (some ⟨w2.heap.size, 0, none⟩) 1 1) _ rfl rfl hrun ?_
        clear hrun
        refine hK _ _ ?_
        clear hK K
        (try simp only [Act.put, List.setIfInBounds_toArray, List.set_cons_zero, List.set_cons_succ])
        refine wpAnyIn_ready (rs := [5]) (by kernel_rfl) (by simp) ?_
        refine AllReadyIn.cons rfl (fun K hK => ?_) AllReadyIn.nil
        go_simp
        refine hK _ _ ?_
        clear hK K
        (try simp only [Act.put, List.setIfInBounds_toArray, List.set_cons_zero, List.set_cons_succ])
        refine wpAnyIn_done (by kernel_rfl) ?_ _
        exact ⟨_, _, w2.heap.size, w3, rfl, rfl, (by have := HR3.out; simpa only [List.length_append, List.length_map, List.length_cons, List.length_nil, Nat.zero_add] using this), HBO.out⟩
      · go_simp
        refine hK _ _ ?_
        clear hK K
        (try simp only [Act.put, List.setIfInBounds_toArray, List.set_cons_zero, List.set_cons_succ])
        refine wpAnyIn_ready (rs := [0, 2]) (by kernel_rfl) (by simp) ?_
        refine AllReadyIn.cons rfl (fun K hK => ?_) (AllReadyIn.cons rfl (fun K hK => ?_) AllReadyIn.nil)
        · go_simp
          refine hK _ _ ?_
          clear hK K
          (try simp only [Act.put, List.setIfInBounds_toArray, List.set_cons_zero, List.set_cons_succ])
          refine wpAnyIn_ready (rs := [2]) (by kernel_rfl) (by simp) ?_
          refine AllReadyIn.cons rfl (fun K hK => ?_) AllReadyIn.nil
          go_simp
          refine ⟨trivial, ?_⟩
          refine (CallsIn.inRound l (callsIn_wide.2 (clone_cut hCW hc hlen x))).mono ?_
          rintro e w2 ⟨v2, rfl, hR2, hb2⟩
          obtain ⟨A2, cap2, rfl⟩ := Kd.R_slice hR2
          dsimp only
          have c2 : w2.cell? ⟨w.heap.size, 0, none⟩ = some sv := (hb2.cell (p := ⟨w.heap.size, 0, none⟩) hlt).trans c1
          have c3 : (w2.alloc (.cells #[.slice A2 (pieceL b x.1).length cap2] 22)).cell? ⟨w.heap.size, 0, none⟩ = some sv := ((below_alloc (Below.refl _ w2) (.cells #[.slice A2 (pieceL b x.1).length cap2] 22)).cell (p := ⟨w.heap.size, 0, none⟩) (Nat.lt_of_lt_of_le hlt hb2.size)).trans c2
          refine hK _ _ ?_
          clear hK K
          (try simp only [Act.put, List.setIfInBounds_toArray, List.set_cons_zero, List.set_cons_succ])
          refine wpAnyIn_ready (rs := [3]) (by kernel_rfl) (by simp) ?_
          refine AllReadyIn.cons rfl (fun K hK => ?_) AllReadyIn.nil
          go_simp
          refine hK _ _ ?_
          clear hK K
          (try simp only [Act.put, List.setIfInBounds_toArray, List.set_cons_zero, List.set_cons_succ])
          refine wpAnyIn_ready (rs := [4]) (by kernel_rfl) (by simp) ?_
          refine AllReadyIn.cons rfl (fun K hK => ?_) AllReadyIn.nil
          obtain ⟨v3, w3, hrun, hR3, hg3⟩ := rows_push (Kd.R_below hRd hb2) (Kd.R_lower (Kd.R_mono (Kd.R_bound hR2) (fun k hk => hfr k hk.2.1)) hZW) (Nat.le_trans hZW hb2.size) hrl
          obtain ⟨A3, cap3, rfl⟩ := Kd.R_slice hR3
          have hbo := body_out hB hb2 hg3 hown0 (by omega)
          have g4 : w3.heap[w.heap.size]? = some (.cells #[sv] 33 (0, 0)) := (hbo.same _ hlt hne).trans hsv
          have c4 : w3.cell? ⟨w.heap.size, 0, none⟩ = some sv := (blk_cell g4 0).trans rfl
          have f4 := blk_frozen g4 0
          have HBO := Lib.hid hbo
          have HR3 := Lib.hid hR3
          clear hbo hR3 g4 hg3 c2 c3 hR2
          rw [if_pos (by rfl)]
          refine stepIn_append (.tmp 12) (.tmp 15) rfl sv (.slice (some ⟨w2.heap.size, 0, none⟩) 1 1) _ rfl rfl hrun ?_
          clear hrun
          refine hK _ _ ?_
          clear hK K
          (try simp only [Act.put, List.setIfInBounds_toArray, List.set_cons_zero, List.set_cons_succ])
          refine wpAnyIn_ready (rs := [5]) (by kernel_rfl) (by simp) ?_
          refine AllReadyIn.cons rfl (fun K hK => ?_) AllReadyIn.nil
          go_simp
          refine hK _ _ ?_
          clear hK K
          (try simp only [Act.put, List.setIfInBounds_toArray, List.set_cons_zero, List.set_cons_succ])
          refine wpAnyIn_done (by kernel_rfl) ?_ _
          exact ⟨_, _, w2.heap.size, w3, rfl, rfl, (by have := HR3.out; simpa only [List.length_append, List.length_map, List.length_cons, List.length_nil, Nat.zero_add] using this), HBO.out⟩
        · go_simp
          refine ⟨trivial, ?_⟩
          refine (CallsIn.inRound l (callsIn_wide.2 (clone_cut hCW hc hlen x))).mono ?_
          rintro e w2 ⟨v2, rfl, hR2, hb2⟩
          obtain ⟨A2, cap2, rfl⟩ := Kd.R_slice hR2
          dsimp only
          have c2 : w2.cell? ⟨w.heap.size, 0, none⟩ = some sv := (hb2.cell (p := ⟨w.heap.size, 0, none⟩) hlt).trans c1
          have c3 : (w2.alloc (.cells #[.slice A2 (pieceL b x.1).length cap2] 22)).cell? ⟨w.heap.size, 0, none⟩ = some sv := ((below_alloc (Below.refl _ w2) (.cells #[.slice A2 (pieceL b x.1).length cap2] 22)).cell (p := ⟨w.heap.size, 0, none⟩) (Nat.lt_of_lt_of_le hlt hb2.size)).trans c2
          refine hK _ _ ?_
          clear hK K
          (try simp only [Act.put, List.setIfInBounds_toArray, List.set_cons_zero, List.set_cons_succ])
          refine wpAnyIn_ready (rs := [0, 3]) (by kernel_rfl) (by simp) ?_
          refine AllReadyIn.cons rfl (fun K hK => ?_) (AllReadyIn.cons rfl (fun K hK => ?_) AllReadyIn.nil)
          · go_simp
            refine hK _ _ ?_
            clear hK K
            (try simp only [Act.put, List.setIfInBounds_toArray, List.set_cons_zero, List.set_cons_succ])
            refine wpAnyIn_ready (rs := [3]) (by kernel_rfl) (by simp) ?_
            refine AllReadyIn.cons rfl (fun K hK => ?_) AllReadyIn.nil
            go_simp
            refine hK _ _ ?_
            clear hK K
            (try simp only [Act.put, List.setIfInBounds_toArray, List.set_cons_zero, List.set_cons_succ])
            refine wpAnyIn_ready (rs := [4]) (by kernel_rfl) (by simp) ?_
            refine AllReadyIn.cons rfl (fun K hK => ?_) AllReadyIn.nil
            obtain ⟨v3, w3, hrun, hR3, hg3⟩ := rows_push (Kd.R_below hRd hb2) (Kd.R_lower (Kd.R_mono (Kd.R_bound hR2) (fun k hk => hfr k hk.2.1)) hZW) (Nat.le_trans hZW hb2.size) hrl
            obtain ⟨A3, cap3, rfl⟩ := Kd.R_slice hR3
            have hbo := body_out hB hb2 hg3 hown0 (by omega)
            have g4 : w3.heap[w.heap.size]? = some (.cells #[sv] 33 (0, 0)) := (hbo.same _ hlt hne).trans hsv
            have c4 : w3.cell? ⟨w.heap.size, 0, none⟩ = some sv := (blk_cell g4 0).trans rfl
            have f4 := blk_frozen g4 0
            have HBO := Lib.hid hbo
            have HR3 := Lib.hid hR3
            clear hbo hR3 g4 hg3 c2 c3 hR2
            rw [if_pos (by rfl)]
            refine stepIn_append (.tmp 12) (.tmp 15) rfl sv (.slice (some ⟨w2.heap.size, 0, none⟩) 1 1) _ rfl rfl hrun ?_
            clear hrun
            refine hK _ _ ?_
            clear hK K
            (try simp only [Act.put, List.setIfInBounds_toArray, List.set_cons_zero, List.set_cons_succ])
            refine wpAnyIn_ready (rs := [5]) (by kernel_rfl) (by simp) ?_
            refine AllReadyIn.cons rfl (fun K hK => ?_) AllReadyIn.nil
            go_simp
            refine hK _ _ ?_
            clear hK K
            (try simp only [Act.put, List.setIfInBounds_toArray, List.set_cons_zero, List.set_cons_succ])
            refine wpAnyIn_done (by kernel_rfl) ?_ _
            exact ⟨_, _, w2.heap.size, w3, rfl, rfl, (by have := HR3.out; simpa only [List.length_append, List.length_map, List.length_cons, List.length_nil, Nat.zero_add] using this), HBO.out⟩
          · go_simp
            refine hK _ _ ?_
            clear hK K
            (try simp only [Act.put, List.setIfInBounds_toArray, List.set_cons_zero, List.set_cons_succ])
            refine wpAnyIn_ready (rs := [0]) (by kernel_rfl) (by simp) ?_
            refine AllReadyIn.cons rfl (fun K hK => ?_) AllReadyIn.nil
            go_simp
            refine hK _ _ ?_
            clear hK K
            (try simp only [Act.put, List.setIfInBounds_toArray, List.set_cons_zero, List.set_cons_succ])
            refine wpAnyIn_ready (rs := [4]) (by kernel_rfl) (by simp) ?_
            refine AllReadyIn.cons rfl (fun K hK => ?_) AllReadyIn.nil
            obtain ⟨v3, w3, hrun, hR3, hg3⟩ := rows_push (Kd.R_below hRd hb2) (Kd.R_lower (Kd.R_mono (Kd.R_bound hR2) (fun k hk => hfr k hk.2.1)) hZW) (Nat.le_trans hZW hb2.size) hrl
            obtain ⟨A3, cap3, rfl⟩ := Kd.R_slice hR3
            have hbo := body_out hB hb2 hg3 hown0 (by omega)
            have g4 : w3.heap[w.heap.size]? = some (.cells #[sv] 33 (0, 0)) := (hbo.same _ hlt hne).trans hsv
            have c4 : w3.cell? ⟨w.heap.size, 0, none⟩ = some sv := (blk_cell g4 0).trans rfl
            have f4 := blk_frozen g4 0
            have HBO := Lib.hid hbo
            have HR3 := Lib.hid hR3
            clear hbo hR3 g4 hg3 c2 c3 hR2
            rw [if_pos (by rfl)]
            refine stepIn_append (.tmp 12) (.tmp 15) rfl sv (.slice (some ⟨w2.heap.size, 0, none⟩) 1 1) _ rfl rfl hrun ?_
            clear hrun
            refine hK _ _ ?_
            clear hK K
            (try simp only [Act.put, List.setIfInBounds_toArray, List.set_cons_zero, List.set_cons_succ])
            refine wpAnyIn_ready (rs := [5]) (by kernel_rfl) (by simp) ?_
            refine AllReadyIn.cons rfl (fun K hK => ?_) AllReadyIn.nil
            go_simp
            refine hK _ _ ?_
            clear hK K
            (try simp only [Act.put, List.setIfInBounds_toArray, List.set_cons_zero, List.set_cons_succ])
            refine wpAnyIn_done (by kernel_rfl) ?_ _
            exact ⟨_, _, w2.heap.size, w3, rfl, rfl, (by have := HR3.out; simpa only [List.length_append, List.length_map, List.length_cons, List.length_nil, Nat.zero_add] using this), HBO.out⟩
    rintro _ _ ⟨v2, v3, z, w3, rfl, rfl, hR3, hbo⟩
    have hI := hI2.out
    have hsv2 := own_typed (hR.2.choose_spec.1)
    have hlt2 : w.heap.size + 1 < W.heap.size := by have := hI.size; have := hI.box; omega
    have hlt3 : w.heap.size + 2 < W.heap.size := by have := hI.size; have := hI.box; omega
    have hne2 : some (w.heap.size + 1) ≠ sv.ownBlock := fun e => by have := hown0 _ e.symm; have := hI.box; omega
    have hne3 : some (w.heap.size + 2) ≠ sv.ownBlock := fun e => by have := hown0 _ e.symm; have := hI.box; omega
    have g4 : w3.heap[w.heap.size]? = some (.cells #[sv] 33 (0, 0)) := (hbo.same _ hlt hne).trans hsv
    have g5 : w3.heap[w.heap.size + 1]? = some (.cells #[.int .i64 (endN (pre.map (·.1)) : Int)] 3 (0, 0)) := (hbo.same _ hlt2 hne2).trans hI.end_
    have k5 := blk_far (p := ⟨w.heap.size, 0, none⟩) g5 (by dsimp only; omega) v3
    have c5 : (w3.setCell ⟨w.heap.size, 0, none⟩ v3).cell? ⟨w.heap.size + 1, 0, none⟩ = some (.int .i64 (endN (pre.map (·.1)) : Int)) := (blk_cell k5 0).trans rfl
    have f5 := blk_frozen k5 0
    have k4 := blk_set g4 0 v3
    have HK5 := Lib.hid k5
    have HK4 := Lib.hid k4
    have hko : KeepsOthers W w3 := ⟨hbo.size, fun k o hk ho => by
      have hkl : k < W.heap.size := by
        rcases Nat.lt_or_ge k W.heap.size with h | h
        · exact h
        · rw [Array.getElem?_eq_none h] at hk; cases hk
      rw [hbo.same k hkl (fun e => by obtain ⟨cells, hc⟩ := hsv2 k e.symm; rw [hc] at hk; cases hk; cases ho)]
      exact hk⟩
    have HKO := Lib.hid hko
    clear hko k4 k5 g4 g5 hsv2 hI
    gi_wp2
    have hBf : Below w.heap.size w ((w3.setCell ⟨w.heap.size, 0, none⟩ v3).setCell ⟨w.heap.size + 1, 0, none⟩ (Value.int .i64 ((x.1.1 + x.1.2 : Nat) : Int))) := below_set (below_set hbo.below (Nat.le_refl _)) (by omega)
    refine ⟨((HKO.out.trans (KeepsOthers.setCell _ _ _)).trans (KeepsOthers.setCell _ _ _)).from _, ⟨fun v hv => ?_, fun _ => Kd.C_below hC hBf⟩, ⟨⟨v3, ?_, ?_⟩, ?_, ?_, hI2.out.box⟩, hBf⟩
    · rw [← hv]
      refine World.cell?_of_block (a := ⟨w.heap.size + 2, 0, none⟩) ?_
      rw [Below.heap_setCell _ _ _ _ (by dsimp only; omega), Below.heap_setCell _ _ _ _ (by dsimp only; omega)]
      exact hbo.same _ hlt3 hne3
    · exact blk_far HK4.out (by dsimp only; omega) _
    · have hz := hI2.out.box
      rw [List.map_append]
      exact Kd.R_far (Kd.R_far hR3 (fun k hk e => by dsimp only at e; omega) _) (fun k hk e => by dsimp only at e; omega) _
    · have := blk_set HK5.out 0 (Value.int .i64 ((x.1.1 + x.1.2 : Nat) : Int))
      rw [show endN ((pre ++ [x]).map (·.1)) = x.1.1 + x.1.2 by simp [endN]]
      exact this
    · have := hbo.size
      have := hI2.out.size
      simp [World.setCell]
      omega
  case done =>
    rintro D ys W hD hys ⟨hI, hB⟩ hK
    obtain ⟨sv, hsv, hR⟩ := hI.out
    have c1 : W.cell? ⟨w.heap.size, 0, none⟩ = some sv := (blk_cell hsv 0).trans rfl
    have c2 : W.cell? ⟨w.heap.size + 1, 0, none⟩ = some (.int .i64 (endN (ys.map (·.1)) : Int)) := (blk_cell hI.end_ 0).trans rfl
    have HR := Lib.hid hR
    have HI := Lib.hid hI
    have HY := Lib.hid hys
    clear hR hI hsv hys
    gi_wp2
    refine wpIn_calm ?_
    gi_region
    all_goals simp only [Calm]
    all_goals (have hKd : W.drew.heap[D]? = some (.deferred (some [])) := hK)
    all_goals gi_wp2
    all_goals (
      refine ⟨by simp, .inl ⟨_, _, rfl, run_takeDeferred hKd, ?_⟩⟩
      have hgp : W.drew.grownBy (W.drew.putObj D (.deferred none)) (some D) := grownBy_putObj' _ _ _
      have hgr : ∀ r, some D = some r → ∃ o : Obj, W.drew.heap[r]? = some o ∧ o.isCells = false := fun r e => by cases e; exact ⟨_, hKd, rfl⟩
      have hId : ScanInv w W0.heap.size (ys.map (fun x => pieceL b x.1)) (endN (ys.map (·.1))) W.drew := HI.out.grown (row := none) ⟨rfl, rfl, rfl, Nat.le_refl _, fun _ _ _ => rfl⟩ (fun r e => by cases e)
      have hRd : Kd.R (Kd.slice 5 (Kd.int .u8)) 22 (W.drew.putObj D (.deferred none)) W0.heap.size (fun k => W0.heap.size ≤ k) sv (ys.map (fun x => pieceL b x.1)) := by
        refine Kd.R_mono (Kd.R_grown (Kd.R_bound (Kd.R_drew HR.out)) hgp (fun k hk e_ => ?_)) (fun _ hk => hk.1)
        obtain ⟨_, _, _, q, _, cells, hc⟩ := hk
        obtain ⟨o, ho, hcl⟩ := hgr k e_.symm
        rw [hc] at ho
        cases ho
        cases hcl
      have e1 : ys.map (fun x => pieceL b x.1) = scanL b := by rw [scanL, ← HY.out, List.map_map]; rfl
      have e2 : endN (ys.map (·.1)) = scanEnd b := by rw [scanEnd, ← HY.out]
      rw [e1] at hRd
      rw [e2]
      refine ⟨_, results_tmp2 rfl _ _ _, sv, rfl, Kd.R_lower (Kd.R_mono hRd (fun _ _ => trivial)) (by omega), ?_⟩
      exact hB.drew.trans (belowK_b (w := w) (Nat.le_refl _) W.drew D _ _ (by omega) hKd rfl rfl))
  case stop =>
    rintro D c' pre W _ _ h _
    exact h.elim
end Go.Proofs.Ytfdpbdaekfdnjaa.X
/- Frames, cut anywhere: the records that are whole come back. -/
namespace Go.Proofs.Ytfdpbdaekfdnjaa.X
open Go.RowKit Go.Proofs.YtfdpbdaekfdnjaaW.PrintWords Go.Proofs.YtfdpbdaekfdnjaaW.PrintLast Go.Proofs.YtfdpbdaekfdnjaaW.PrintMore
set_option linter.unusedVariables false
set_option linter.unusedSimpArgs false

/-- How many records more there is room for up to m. -/
def fits (m : Nat) : Nat → List (List Int) → Nat
  | _, [] => 0
  | at_, x :: r => if at_ + 3 + x.length ≤ m then fits m (at_ + 3 + x.length) r + 1 else 0
theorem fits_le (m : Nat) : ∀ (l : List (List Int)) (at_ : Nat), fits m at_ l ≤ l.length
  | [], _ => Nat.le_refl _
  | x :: r, at_ => by
    rw [fits]
    split
    · have := fits_le m r (at_ + 3 + x.length)
      rw [List.length_cons]
      omega
    · omega
theorem framesL_cons (x : List Int) (r : List (List Int)) : framesL (x :: r) = frameL x ++ framesL r := by simp [framesL]
theorem framesL_nil : framesL [] = [] := rfl
theorem fits_end (m : Nat) : ∀ (l : List (List Int)) (at_ : Nat), at_ ≤ m → at_ + (framesL (l.take (fits m at_ l))).length ≤ m
  | [], at_, h => by simpa [fits, framesL_nil] using h
  | x :: r, at_, h => by
    rw [fits]
    split
    · rename_i hc
      have := fits_end m r (at_ + 3 + x.length) hc
      rw [List.take_succ_cons, framesL_cons, List.length_append, frameL_len]
      omega
    · simpa [framesL_nil] using h
theorem fits_ge (m : Nat) : ∀ (p r : List (List Int)) (at_ : Nat), at_ + (framesL p).length ≤ m → p.length ≤ fits m at_ (p ++ r)
  | [], _, _, _ => Nat.zero_le _
  | x :: p, r, at_, h => by
    rw [framesL_cons, List.length_append, frameL_len] at h
    rw [List.cons_append, fits, if_pos (by omega), List.length_cons]
    have := fits_ge m p r (at_ + 3 + x.length) (by omega)
    omega
theorem framesL_len_ge (l : List (List Int)) : l.length ≤ (framesL l).length := by
  induction l with
  | nil => exact Nat.zero_le _
  | cons x l ih => rw [framesL_cons, List.length_append, frameL_len, List.length_cons]; omega
theorem lenAt_frames (l p r : List (List Int)) (x : List Int) (hl : l = p ++ x :: r) (hx : x.length ≤ 16384) (m : Nat) (hm : (framesL p).length + 3 ≤ m) : lenAt ((framesL l).take m) (framesL p).length = (x.length : Int) := by
  have e : framesL l = (framesL p ++ putL (x.length : Int) 3) ++ (x ++ framesL r) := by
    rw [hl, framesL_append, framesL_cons, frameL]
    simp [List.append_assoc]
  unfold lenAt
  rw [List.take_take, Nat.min_eq_left hm, e, List.take_left' (by rw [List.length_append, putL_len]), List.drop_left' rfl, getF_putL _ (by omega)]
  omega
theorem piece_frames (l p r : List (List Int)) (x : List Int) (hl : l = p ++ x :: r) (m : Nat) (hm : (framesL p).length + 3 + x.length ≤ m) : pieceL ((framesL l).take m) ((framesL p).length + 3, x.length) = x := by
  have e : framesL l = ((framesL p ++ putL (x.length : Int) 3) ++ x) ++ framesL r := by
    rw [hl, framesL_append, framesL_cons, frameL]
    simp [List.append_assoc]
  unfold pieceL
  dsimp only
  rw [List.take_take, Nat.min_eq_left hm, e, List.take_left' (by rw [List.length_append, List.length_append, putL_len]), List.drop_left' (by rw [List.length_append, putL_len])]
theorem scanN_frames (l : List (List Int)) (hl : ∀ x ∈ l, x.length ≤ 16384) (m : Nat) (hm : m ≤ (framesL l).length) : ∀ (r p : List (List Int)) (k : Nat), l = p ++ r → fits m (framesL p).length r < k → (framesL p).length ≤ m →
    (scanN ((framesL l).take m) k (framesL p).length).map (pieceL ((framesL l).take m)) = r.take (fits m (framesL p).length r) ∧
    (fits m (framesL p).length r ≠ 0 → endN (scanN ((framesL l).take m) k (framesL p).length) = (framesL p).length + (framesL (r.take (fits m (framesL p).length r))).length) ∧
    (fits m (framesL p).length r = 0 → scanN ((framesL l).take m) k (framesL p).length = [])
  | [], p, k, he, hk, hp => by
    obtain ⟨k, rfl⟩ : ∃ j, k = j + 1 := ⟨k - 1, by omega⟩
    rw [List.append_nil] at he
    have hb : ((framesL l).take m).length = m := by rw [List.length_take]; omega
    have : scanN ((framesL l).take m) (k + 1) (framesL p).length = [] := by
      rw [scanN, if_neg (by rw [hb, ← he]; omega)]
    rw [this]
    exact ⟨rfl, fun h => absurd rfl h, fun _ => rfl⟩
  | x :: r, p, k, he, hk, hp => by
    obtain ⟨k, rfl⟩ : ∃ j, k = j + 1 := ⟨k - 1, by omega⟩
    have hb : ((framesL l).take m).length = m := by rw [List.length_take]; omega
    have hx : x.length ≤ 16384 := hl x (by rw [he]; simp)
    rw [scanN, hb, fits]
    by_cases h3 : (framesL p).length + 3 ≤ m
    · have hn : (lenAt ((framesL l).take m) (framesL p).length).toNat = x.length := by rw [lenAt_frames l p r x he hx m h3]; rfl
      rw [if_pos h3, hn]
      by_cases h4 : (framesL p).length + 3 + x.length ≤ m
      · have e2 : (framesL (p ++ [x])).length = (framesL p).length + 3 + x.length := by rw [framesL_snoc, List.length_append, frameL_len]; omega
        rw [fits, if_pos h4] at hk
        have ih := scanN_frames l hl m hm r (p ++ [x]) k (by rw [he]; simp) (by rw [e2]; omega) (by omega)
        rw [e2] at ih
        rw [if_neg (by omega), if_pos h4, List.map_cons, List.take_succ_cons, piece_frames l p r x he m h4, ih.1]
        refine ⟨rfl, fun _ => ?_, fun h => absurd h (by omega)⟩
        rw [framesL_cons, List.length_append, frameL_len]
        by_cases hz : fits m ((framesL p).length + 3 + x.length) r = 0
        · rw [ih.2.2 hz, hz, List.take_zero, framesL_nil]
          simp only [endN, List.getLast?_singleton, Option.map_some, Option.getD_some, List.length_nil]
          omega
        · have h1 := ih.2.1 hz
          have hne : scanN ((framesL l).take m) k ((framesL p).length + 3 + x.length) ≠ [] := by
            intro e
            have := ih.1
            rw [e, List.map_nil] at this
            have h7 := congrArg List.length this
            rw [List.length_nil, List.length_take] at h7
            have := fits_le m r ((framesL p).length + 3 + x.length)
            omega
          obtain ⟨y, ys, hy⟩ := List.exists_cons_of_ne_nil hne
          rw [hy] at h1 ⊢
          have : endN (((framesL p).length + 3, x.length) :: y :: ys) = endN (y :: ys) := by simp [endN, List.getLast?_cons_cons]
          rw [this, h1]
          omega
      · rw [if_pos (by omega), if_neg h4]
        exact ⟨rfl, fun h => absurd rfl h, fun _ => rfl⟩
    · rw [if_neg h3, if_neg (by omega)]
      exact ⟨rfl, fun h => absurd rfl h, fun _ => rfl⟩
/-- What is whole of frames that are cut. -/
theorem scan_frames (l : List (List Int)) (hl : ∀ x ∈ l, x.length ≤ 16384) (m : Nat) (hm : m ≤ (framesL l).length) :
    scanL ((framesL l).take m) = l.take (fits m 0 l) ∧ scanEnd ((framesL l).take m) = (framesL (l.take (fits m 0 l))).length := by
  have hb : ((framesL l).take m).length = m := by rw [List.length_take]; omega
  have hk : fits m 0 l < m + 1 := by
    have h1 := fits_end m l 0 (Nat.zero_le _)
    have h2 := framesL_len_ge (l.take (fits m 0 l))
    rw [List.length_take, Nat.min_eq_left (fits_le m l 0)] at h2
    omega
  have h := scanN_frames l hl m hm l [] (m + 1) rfl hk (Nat.zero_le _)
  rw [framesL_nil, List.length_nil] at h
  refine ⟨by rw [scanL, hb]; exact h.1, ?_⟩
  rw [scanEnd, hb]
  by_cases hz : fits m 0 l = 0
  · rw [h.2.2 hz, hz]
    rfl
  · rw [h.2.1 hz]
    omega
/-- Nothing is cut. -/
theorem scan_all (l : List (List Int)) (hl : ∀ x ∈ l, x.length ≤ 16384) : scanL (framesL l) = l ∧ scanEnd (framesL l) = (framesL l).length := by
  have h := scan_frames l hl (framesL l).length (Nat.le_refl _)
  have hf : fits (framesL l).length 0 l = l.length := by
    have h1 := fits_ge (framesL l).length l [] 0 (by omega)
    rw [List.append_nil] at h1
    have := fits_le (framesL l).length l 0
    omega
  rw [List.take_length, hf, List.take_length] at h
  exact h
theorem frames_octets (l : List (List Int)) (h : ∀ x ∈ l, Octets x) : Octets (framesL l) := by
  induction l with
  | nil => intro x hx; cases hx
  | cons y l ih =>
    intro x hx
    rw [framesL_cons, frameL] at hx
    rcases List.mem_append.1 hx with hx | hx
    · rcases List.mem_append.1 hx with hx | hx
      · exact putL_octets _ 3 x hx
      · exact h y (by simp) x hx
    · exact ih (fun z hz => h z (by simp [hz])) x hx
end Go.Proofs.Ytfdpbdaekfdnjaa.X
/- mootplain.Lists of one list of rows, told twice: true. -/
namespace Go.Proofs.Ytfdpbdaekfdnjaa.X
open Go.RowKit Go.Proofs.YtfdpbdaekfdnjaaW.PrintWords Go.Proofs.YtfdpbdaekfdnjaaW.PrintLast Go.Proofs.YtfdpbdaekfdnjaaW.PrintMore
set_option linter.unusedVariables false
set_option linter.unusedSimpArgs false
set_option maxRecDepth 100000 in
set_option maxHeartbeats 40000000 in
theorem lists_same (A0 A1 : Option Addr) (c0 c1 : Nat) (l : List (List Int)) (w : World) (hC0 : Kd.C (Kd.slice 5 (Kd.int .u8)) w A0 l.length l) (hC1 : Kd.C (Kd.slice 5 (Kd.int .u8)) w A1 l.length l) (hl : l.length ≤ 4611686018427387904) :
    Calls Try.prog 27 #[.slice A0 l.length c0, .slice A1 l.length c1] w fun e w' => e = .returned (.bool true) ∧ Drawn0 w w' := by
  have HC0 := Lib.hid hC0
  have HC1 := Lib.hid hC1
  clear hC0 hC1
  go_enter Try.func27, Try.ntmps27
  go_wp2
  go_loopg [5] (l.length + 1) (fun kq v5 w' => ∃ i : Nat, v5 = .int .i64 (i : Int) ∧ Hid (i ≤ l.length) ∧ Hid (kq + i = l.length + 1) ∧ Hid (∃ n, w' = w.drewN n))
  case atStart => exact ⟨0, rfl, Lib.hid (Nat.zero_le _), Lib.hid rfl, Lib.hid ⟨0, rfl⟩⟩
  case round =>
    obtain ⟨i, rfl, hi, hk8, hW⟩ := hrel
    obtain ⟨n, rfl⟩ := hW.out
    by_cases ci : i < l.length
    · have d1 : decide ((i : Int) < (l.length : Int)) = true := decide_eq_true (by omega)
      have d2 : decide (i < l.length) = true := decide_eq_true ci
      have p0 : (0 ≤ (i : Int)) = True := eq_true (by omega)
      have p1 : ((i : Int) < (l.length : Int)) = True := eq_true (by omega)
      have q1 : (i < l.length) = True := eq_true ci
      obtain ⟨ad0, A2, c2, rfl, hx0, hl0, hi0⟩ := at_L1 HC0.out i (by omega) (by omega)
      obtain ⟨ad1, A3, c3, rfl, hx1, hl1, hi1⟩ := at_L1 HC1.out i (by omega) (by omega)
      rw [Int.toNat_natCast] at hx0 hx1
      obtain ⟨b, hb⟩ : ∃ b, rd_L1 l (i : Int) = b := ⟨_, rfl⟩
      rw [hb] at hx0 hx1 hi0 hi1
      have s0 : ∀ k, (convert 22 9 (.slice A2 b.length c2)).run Try.prog (w.drewN k) = .ok (.string (strOfNums b)) (w.drewN k) := fun k => Kd.C_string (P := Try.prog) Try.underlying22 Try.underlying5 Try.underlying9 (c := c2) (Kd.C_drewN hi0 k)
      have s1 : ∀ k, (convert 22 9 (.slice A3 b.length c3)).run Try.prog (w.drewN k) = .ok (.string (strOfNums b)) (w.drewN k) := fun k => Kd.C_string (P := Try.prog) Try.underlying22 Try.underlying5 Try.underlying9 (c := c3) (Kd.C_drewN hi1 k)
      clear hl0 hl1 hi0 hi1 hb
      have CI := Lib.hid ci
      clear ci
      go_wp2
      go_quiet (fail)
      go_wp2
      obtain ⟨k1, rfl⟩ : ∃ k1, gk = k1 + 1 := ⟨gk - 1, by have := hk8.out; have := CI.out; omega⟩
      go_roundg k1
      case measure => omega
      case rel => exact ⟨i + 1, congrArg (Value.int .i64) (by have := CI.out; rw [wrap64_id _ (by omega) (by omega)]; rfl), Lib.hid CI.out, Lib.hid (by have := hk8.out; omega), Lib.hid ⟨_, rfl⟩⟩
    · have d1 : decide ((i : Int) < (l.length : Int)) = false := decide_eq_false (by omega)
      have d2 : decide (i < l.length) = false := decide_eq_false ci
      go_wp2
      go_ret
      exact ⟨rfl, ⟨n, rfl⟩⟩
end Go.Proofs.Ytfdpbdaekfdnjaa.X
/- The law JournalParts, walked. -/
namespace Go.Proofs.Ytfdpbdaekfdnjaa.X
open Go.RowKit Go.Proofs.YtfdpbdaekfdnjaaW.PrintWords Go.Proofs.YtfdpbdaekfdnjaaW.PrintLast Go.Proofs.YtfdpbdaekfdnjaaW.PrintMore
set_option linter.unusedVariables false
set_option linter.unusedSimpArgs false
theorem wpAnyH_mono {P : Program} {md : Region.Mode} {ops : Array Oper} {Q : Exit → Act → World → Prop} {S S' : World → Prop} (hs : ∀ w, S' w → S w) :
    ∀ {fuel : Nat} {listed : Array Bool} {a : Act} {w : World}, wpAnyH P md ops Q S' fuel listed a w → wpAnyH P md ops Q S fuel listed a w
  | 0, _, _, _, h => h
  | fuel + 1, _, _, _, h => ⟨h.1, fun i hi => wpOp_mono (fun _ _ h' => ⟨hs _ h'.1, wpAnyH_mono hs h'.2⟩) (h.2 i hi)⟩
theorem quiet_below {w w' : World} (h : Drawn0 w w') : Below w.heap.size w w' := by
  obtain ⟨n, rfl⟩ := h
  exact pw_below_drewN (Below.refl _ _) _
theorem framesL_len_eq (l : List (List Int)) : (framesL l).length = 3 * l.length + tot l := by
  induction l with
  | nil => simp [framesL, tot]
  | cons b l ih => rw [framesL_cons, List.length_append, ih, frameL_len, tot_cons, List.length_cons]; omega
theorem new_dk (W : World) : Calls Try.prog 15 #[.int .i64 262144] W fun e w' => e = .returned (.pointer (some ⟨W.heap.size, 0, none⟩)) ∧ Dk w' W.heap.size W.heap.size (.slice none 0 0) [] 0 262144 ∧ Below W.heap.size W w' := by
  refine (new_calls W 262144 262144 (by decide)).mono ?_
  rintro e w' ⟨rfl, hd, hb⟩
  exact ⟨rfl, ⟨hd, Nat.le_refl _, by omega, by omega, by simp⟩, hb⟩
/-- The first one that is too long. -/
theorem first_long (P : Nat → Prop) (hP : ∀ i, P i ∨ ¬ P i) : ∀ n : Nat, (∀ i, i < n → P i) ∨ ∃ m, m < n ∧ ¬ P m ∧ ∀ i, i < m → P i
  | 0 => .inl (fun i hi => absurd hi (Nat.not_lt_zero _))
  | n + 1 => by
    rcases first_long P hP n with h | ⟨m, h1, h2, h3⟩
    · rcases hP n with hn | hn
      · refine .inl (fun i hi => ?_)
        rcases Nat.lt_or_ge i n with h4 | h4
        · exact h i h4
        · obtain rfl : i = n := by omega
          exact hn
      · exact .inr ⟨n, by omega, hn, h⟩
    · exact .inr ⟨m, by omega, h2, h3⟩
theorem rd_all {l : List (List Int)} (h : ∀ i, i < l.length → (rd_L1 l (i : Int)).length ≤ 16384) : ∀ x ∈ l, x.length ≤ 16384 := by
  intro x hx
  obtain ⟨i, hi, rfl⟩ := List.getElem_of_mem hx
  have := h i hi
  rwa [rdL2_at l i hi] at this
/-- A disk beside one that is written. -/
theorem Dk.beside {W W1 : World} {base g g' : Nat} {v v' v1 : Value} {xs : List Int} {sure : Nat} {room : Int} (h : Dk W base g v xs sure room) (hs : Step W W1 g' v' v1) (hap : ∀ k, Own g v k → ¬ Own g' v' k) : Dk W1 base g v xs sure room :=
  ⟨h.d.move (hs.t.block _ (h.own g (.inl rfl)).2 (hap g (.inl rfl))) (fun k hk => hs.t.block _ (h.own k (.inr hk)).2 (hap k (.inr hk))), h.hs, h.r0, h.r1, h.hx⟩
def mootlaw13_JournalParts.f (l0 : List (List Int)) : Option Bool := if (∀ y ∈ l0, ∀ x ∈ y, 0 ≤ x ∧ x < 256) ∧ l0.length ≤ 1048576 ∧ tot l0 ≤ 1048576 then some true else none
theorem parts_cond {l0 : List (List Int)} {r : Bool} (h : mootlaw13_JournalParts.f l0 = some r) : r = true ∧ (∀ y ∈ l0, Octets y) ∧ l0.length ≤ 1048576 ∧ tot l0 ≤ 1048576 := by
  unfold mootlaw13_JournalParts.f at h
  split at h
  · rename_i hc
    exact ⟨(Option.some.inj h).symm, hc⟩
  · cases h
theorem apart_new {ga gb : Nat} (h : ga < gb) : ∀ k, Own gb (.slice none 0 0) k → ¬ Own ga (.slice none 0 0) k := fun k hk ho => by
  rcases hk with rfl | hk
  · rcases ho with rfl | ho
    · omega
    · simp [Value.ownBlock] at ho
  · simp [Value.ownBlock] at hk
section
variable {w w3 : World} {A0 : Option Addr} {l0 : List (List Int)}
theorem par_C (hr0 : Kd.C (Kd.slice 5 (Kd.int .u8)) w A0 l0.length l0) (hB : Below w.heap.size w w3) {base g : Nat} {v : Value} {xs : List Int} {sure : Nat} {room : Int} (h : Dk w3 base g v xs sure room) (hb : w.heap.size ≤ base) :
    ∀ W1, Touch (Own g v) w3 W1 → Kd.C (Kd.slice 5 (Kd.int .u8)) W1 A0 l0.length l0 := fun W1 ht => Kd.C_below hr0 (ht.below hB (fun k hk => Nat.le_trans hb (h.own k hk).1))
theorem lit_C {Ai : Option Addr} {ci : Nat} {x : List Int} {wr : World} (hx : Kd.C (Kd.int .u8) w Ai x.length x) (hc : x.length ≤ ci) (hB : Below w.heap.size w wr) {base g : Nat} {v : Value} {xs : List Int} {sure : Nat} {room : Int} (h : Dk wr base g v xs sure room) (hb : w.heap.size ≤ base) :
    ∀ W1, Touch (Own g v) (wr.alloc (.cells #[.slice Ai x.length ci] 22)) W1 → Kd.C (Kd.slice 5 (Kd.int .u8)) W1 (some ⟨wr.heap.size, 0, none⟩) [x].length [x] := fun W1 ht => by
  have hB1 : Below w.heap.size w W1 := ht.below (below_alloc hB _) (fun k hk => Nat.le_trans hb (h.own k hk).1)
  have hn : ¬ Own g v wr.heap.size := fun ho => by have := (h.own _ ho).2; omega
  have hk : W1.heap[wr.heap.size]? = some (.cells #[.slice Ai x.length ci] 22 (0, 0)) := (ht.block _ (by rw [World.size_alloc]; omega) hn).trans (blk_new _ _)
  exact one_C ((blk_cell hk 0).trans rfl) hc (Kd.C_below hx hB1)
end
set_option maxRecDepth 100000 in
set_option maxHeartbeats 40000000 in
theorem mootlaw13_JournalParts.calls (A0 : Option Addr) (c0 : Nat) (l0 : List (List Int)) (r : Bool) (w : World) (hr0 : Kd.C (Kd.slice 5 (Kd.int .u8)) w A0 l0.length l0) (hc0 : l0.length ≤ c0) (h : mootlaw13_JournalParts.f l0 = some r) :
    Calls Try.prog 11 #[.slice A0 l0.length c0] w fun e w' => e = .returned (.bool r) ∧ Below w.heap.size w w' := by
  obtain ⟨rfl, hO, hlen, htot⟩ := parts_cond h
  clear h
  have hfl := framesL_len_eq l0
  have HFB : Hid ((framesL l0).length ≤ 4194304) := Lib.hid (by omega)
  have HLL : Hid (l0.length ≤ 1048576) := Lib.hid hlen
  have HR0 := Lib.hid hr0
  have HO := Lib.hid hO
  clear hfl hlen htot hr0 hO
  rcases first_long (fun i => (rd_L1 l0 (i : Int)).length ≤ 16384) (fun i => Nat.lt_or_ge 16384 (rd_L1 l0 (i : Int)).length |>.symm.imp (fun h => h) (fun h => by omega)) l0.length with hall | ⟨m, hm, hlong, hpre⟩
  · have HALL := Lib.hid hall
    clear hall
    by_cases hroom : (262144 : Int) < (framesL l0).length
    · have HROOM := Lib.hid hroom
      clear hroom
      go_enter Try.func11, Try.ntmps11
      go_wp2_with (first | (go_at_call 33; (with_reducible refine (alive13_calls _).mono ?_); rintro e w1 ⟨rfl, hb1⟩) | (go_at_call 15; have hbx := hb1; (with_reducible refine (new_dk _).mono ?_); rintro e w2 ⟨rfl, ha2, hb2⟩; have HB2 := Lib.hid (below_step hbx hb2); have HZ := Lib.hid hbx.size; clear hb1 hbx) | (go_at_call 15; have hax := ha2; (with_reducible refine (new_dk _).mono ?_); rintro e w3 ⟨rfl, hbk, hb3⟩; have HA := Lib.hid (hax.below hb3); have HBK := Lib.hid hbk; have HB3 := Lib.hid (below_step HB2.out hb3); have HZ2 := Lib.hid HB2.out.size; have HAP : Hid (∀ k, Own w2.heap.size (.slice none 0 0) k → ¬ Own w1.heap.size (.slice none 0 0) k) := Lib.hid (apart_new (hax.own _ (.inl rfl)).2); clear ha2 hax hbk hb3 hb2) | (go_at_call 22; (with_reducible refine (dk_write HA.out A0 c0 l0 (par_C HR0.out HB3.out HA.out HZ.out) (by have := HLL.out; omega) l0.length (Nat.le_refl _) HALL.out (fun h => absurd h (Nat.lt_irrefl _)) (Nat.lt_of_le_of_lt (framesL_take_le _ _) (by have := HFB.out; omega)) 17 [] (fun h => absurd h (Nat.lt_irrefl _)) (fun _ _ => ⟨rfl, rfl⟩) (fun _ h => absurd h (by have := HROOM.out; simp only [List.length_nil]; omega))).mono ?_); rintro e w4 ⟨rfl, va, ha4, hs4⟩; have HB4 := Lib.hid (hs4.t.below HB3.out (fun k hk => Nat.le_trans HZ.out (HA.out.own k hk).1)); clear hs4) | (go_at_call 29; (with_reducible refine (size_calls _ _ _ _ _ _ _ ha4.d).mono ?_); rintro e w5 ⟨rfl, rfl⟩))
      go_ret
      exact ⟨rfl, HB4.out⟩
    · have HROOM : Hid (((framesL l0).length : Int) ≤ 262144) := Lib.hid (by omega)
      clear hroom
      go_enter Try.func11, Try.ntmps11
      go_wp2_with (first | (go_at_call 33; (with_reducible refine (alive13_calls _).mono ?_); rintro e w1 ⟨rfl, hb1⟩) | (go_at_call 15; have hbx := hb1; (with_reducible refine (new_dk _).mono ?_); rintro e w2 ⟨rfl, ha2, hb2⟩; have HB2 := Lib.hid (below_step hbx hb2); have HZ := Lib.hid hbx.size; clear hb1 hbx) | (go_at_call 15; have hax := ha2; (with_reducible refine (new_dk _).mono ?_); rintro e w3 ⟨rfl, hbk, hb3⟩; have HA := Lib.hid (hax.below hb3); have HBK := Lib.hid hbk; have HB3 := Lib.hid (below_step HB2.out hb3); have HZ2 := Lib.hid HB2.out.size; have HAP : Hid (∀ k, Own w2.heap.size (.slice none 0 0) k → ¬ Own w1.heap.size (.slice none 0 0) k) := Lib.hid (apart_new (hax.own _ (.inl rfl)).2); clear ha2 hax hbk hb3 hb2) | (go_at_call 22; (with_reducible refine (dk_write HA.out A0 c0 l0 (par_C HR0.out HB3.out HA.out HZ.out) (by have := HLL.out; omega) l0.length (Nat.le_refl _) HALL.out (fun h => absurd h (Nat.lt_irrefl _)) (Nat.lt_of_le_of_lt (framesL_take_le _ _) (by have := HFB.out; omega)) 0 (framesL l0) (fun h => absurd h (Nat.lt_irrefl _)) (fun _ h => absurd h (by have := HROOM.out; simp only [List.length_nil]; omega)) (fun _ _ => ⟨rfl, rfl⟩)).mono ?_); rintro e w4 ⟨rfl, va, ha4, hs4⟩; have HA4 := Lib.hid ha4; have HB4 := Lib.hid (hs4.t.below HB3.out (fun k hk => Nat.le_trans HZ.out (HA.out.own k hk).1)); have HBK4 := Lib.hid (HBK.out.beside hs4 HAP.out); have HAT := Lib.hid hs4.at_; have HS43 := Lib.hid hs4.t.size; clear hs4 ha4))
      have hap0 : ∀ k, Own w2.heap.size (.slice none 0 0) k → ¬ Own w1.heap.size va k := fun k hk ho => by
        have hk1 := (HBK.out.own k hk)
        rcases ho with rfl | ho
        · exact HAP.out _ hk (.inl rfl)
        · rcases HAT.out with e | ⟨b, e, hb⟩
          · exact HAP.out _ hk (.inr (e ▸ ho))
          · rw [e] at ho
            obtain rfl := Option.some.inj ho
            omega
      have HAP0 := Lib.hid hap0
      clear hap0
      go_loopg [6] (l0.length + 1) (fun kq v6 w' => ∃ (i : Nat) (vb : Value), v6 = .int .i64 (i : Int) ∧ Hid (i ≤ l0.length) ∧ Hid (kq + i = l0.length + 1) ∧ Hid (Dk w' w2.heap.size w2.heap.size vb (framesL (l0.take i)) 0 262144) ∧ Hid (Dk w' w1.heap.size w1.heap.size va (framesL l0) 0 262144) ∧ Hid (Below w.heap.size w w') ∧ Hid (∀ k, Own w2.heap.size vb k → ¬ Own w1.heap.size va k))
      case atStart => exact ⟨0, _, rfl, Lib.hid (Nat.zero_le _), Lib.hid rfl, HBK4, HA4, HB4, HAP0⟩
      case round =>
        obtain ⟨i, vb, rfl, hi, hk8, HBF, HAF, BWF, HAPR⟩ := hrel
        by_cases ci : i < l0.length
        · have d1 : decide ((i : Int) < (l0.length : Int)) = true := decide_eq_true (by omega)
          have d2 : decide (i < l0.length) = true := decide_eq_true ci
          have p0 : (0 ≤ (i : Int)) = True := eq_true (by omega)
          have p1 : ((i : Int) < (l0.length : Int)) = True := eq_true (by omega)
          have q1 : (i < l0.length) = True := eq_true ci
          obtain ⟨ad, A1, c1_, rfl, hx, hl1, hi1⟩ := at_L1 HR0.out i (by omega) (by omega)
          rw [Int.toNat_natCast] at hx
          replace hx := (BWF.out.cell (World.block_lt_of_cell? w _ hx)).trans hx
          have hbl := HALL.out i ci
          have hnx := framesL_next l0 i ci
          have htk := framesL_take_le l0 (i + 1)
          obtain ⟨b, hb⟩ : ∃ b, rd_L1 l0 (i : Int) = b := ⟨_, rfl⟩
          rw [hb] at hx hl1 hi1 hbl hnx
          have hf1 : framesL [b] = frameL b := by simp [framesL]
          have HI1 := Lib.hid hi1
          have HL1 := Lib.hid hl1
          have HBL := Lib.hid hbl
          have HF1 : Hid (framesL (l0.take i) ++ framesL [b] = framesL (l0.take (i + 1))) := Lib.hid (by rw [hf1, hnx])
          have HRM : Hid (((framesL (l0.take i)).length : Int) + (framesL [b]).length ≤ 262144) := Lib.hid (by have h1 := congrArg List.length hnx; rw [List.length_append, ← hf1] at h1; have := HROOM.out; omega)
          have CI := Lib.hid ci
          clear hl1 hi1 hbl hnx htk hb hf1 ci
          go_wp2_with (go_at_call 22; refine (dk_write (HBF.out.below (below_alloc (Below.refl _ _) _)) (some ⟨wr.heap.size, 0, none⟩) 1 [b] (lit_C HI1.out HL1.out BWF.out HBF.out HZ2.out) (by simp) 1 (by simp) (fun j hj => by obtain rfl : j = 0 := (by omega); exact HBL.out) (fun h => absurd h (by simp)) (by have := HRM.out; simp only [List.take_succ_cons, List.take_zero]; omega) 0 (framesL (l0.take (i + 1))) (fun h => absurd h (by simp)) (fun _ h => absurd h (by have := HRM.out; omega)) (fun _ _ => ⟨rfl, HF1.out.symm⟩)).mono ?_; rintro e w5 ⟨rfl, vb5, hb5, hs5⟩)
          have hown5 := (HBF.out.below (below_alloc (Below.refl _ wr) (.cells #[.slice A1 b.length c1_] 22))).own
          have HB5 : Below w.heap.size w w5 := hs5.t.below (below_alloc BWF.out _) (fun k hk => Nat.le_trans HZ2.out (hown5 k hk).1)
          have HA5 := (HAF.out.below (below_alloc (Below.refl _ wr) (.cells #[.slice A1 b.length c1_] 22))).beside hs5 (fun k hk ho => HAPR.out k ho hk)
          have hap5 : ∀ k, Own w2.heap.size vb5 k → ¬ Own w1.heap.size va k := fun k hk ho => by
            have hk1 := (HAF.out.own k ho)
            rcases hk with rfl | hk
            · exact HAPR.out _ (.inl rfl) ho
            · rcases hs5.at_ with e | ⟨b', e, hb'⟩
              · exact HAPR.out _ (.inr (e ▸ hk)) ho
              · rw [e] at hk
                obtain rfl := Option.some.inj hk
                rw [World.size_alloc] at hb'
                omega
          have G1 := Lib.hid hb5
          have G2 := Lib.hid HA5
          have G3 := Lib.hid HB5
          have G4 := Lib.hid hap5
          clear hb5 HA5 HB5 hap5 hown5 hs5
          obtain ⟨k1, rfl⟩ : ∃ k1, gk = k1 + 1 := ⟨gk - 1, by have := hk8.out; have := CI.out; omega⟩
          go_roundg k1
          case measure => omega
          case rel => exact ⟨i + 1, vb5, congrArg (Value.int .i64) (by have := CI.out; have := HLL.out; rw [wrap64_id _ (by omega) (by omega)]; rfl), Lib.hid CI.out, Lib.hid (by have := hk8.out; omega), G1, G2, G3, G4⟩
        · have d1 : decide ((i : Int) < (l0.length : Int)) = false := decide_eq_false (by omega)
          have d2 : decide (i < l0.length) = false := decide_eq_false ci
          obtain rfl : i = l0.length := by have := hi.out; omega
          rw [List.take_length] at HBF
          obtain ⟨hs1, hs2⟩ := scan_all l0 (rd_all HALL.out)
          have HS1 := Lib.hid hs1
          have HS2 := Lib.hid hs2
          have HFO := Lib.hid (frames_octets l0 HO.out)
          clear hs1 hs2 ci
          go_wp2_with (first | (go_at_call 19; (with_reducible refine (read_calls _ _ _ _ _ _ _ HBF.out.d (by have := HFB.out; omega)).mono ?_); rintro e w5 ⟨v5, rfl, ho, hb⟩; obtain ⟨A5, c5, rfl⟩ := Kd.R_slice ho; have C5 := Lib.hid (Kd.R_reads' ho).2.2; have N5 := Lib.hid (Kd.R_reads' ho).2.1; have HBF5 := Lib.hid (HBF.out.below hb); have HAF5 := Lib.hid (HAF.out.below hb); have BWF5 := Lib.hid (below_step BWF.out hb); clear ho hb) | (go_at_call 31; (with_reducible refine (scan_calls A5 c5 (framesL l0) _ C5.out N5.out HFO.out (by have := HFB.out; omega)).mono ?_); rw [HS1.out, HS2.out]; rintro e w6 ⟨v6, rfl, hR6, hb6⟩; obtain ⟨A7, c7, rfl⟩ := Kd.R_slice hR6; have CXF := Lib.hid (Kd.R_reads' hR6).2.2; have HBF := Lib.hid (HBF5.out.below hb6); have HAF := Lib.hid (HAF5.out.below hb6); have BWF := Lib.hid (below_step BWF5.out hb6); clear hR6 hb6 HBF5 HAF5 BWF5))
          refine wp_region_noPanic ?_
          refine wp_region_held_drew (S := (fun w' => True)) (by kernel_rfl) trivial (fun hHeld => ?_)
          have DA := Lib.hid (HAF.out.below (below_drew (Below.refl _ _)))
          have DB := Lib.hid (HBF.out.below (below_drew (Below.refl _ _)))
          have CX := Lib.hid (Kd.C_drew CXF.out)
          have BW := Lib.hid (below_drew BWF.out)
          refine wpAnyH_take (i := 0) (oi := ({ dst := some 41, op := Go.Op.move (Go.Operand.tmp 3), type := 24, pos := "law.go:116", after := #[], guard := none } : Oper)) (v := ?_) rfl (by kernel_rfl) (by kernel_rfl) (by kernel_rfl) (fun _ _ _ h => h) (Or.inl ⟨by rfl, ?_⟩) (by assumption) ?_
          rotate_left
          · (intro w' hSw; try dsimp only at hSw)
            go_simp <;> with_reducible rfl
          try simp only [Act.put, List.setIfInBounds_toArray, List.set_cons_zero, List.set_cons_succ]
          refine wpAnyH_take (i := 3) (oi := ({ dst := some 44, op := Go.Op.move (Go.Operand.tmp 4), type := 24, pos := "law.go:116", after := #[], guard := none } : Oper)) (v := ?_) rfl (by kernel_rfl) (by kernel_rfl) (by kernel_rfl) (fun _ _ _ h => h) (Or.inl ⟨by rfl, ?_⟩) (by assumption) ?_
          rotate_left
          · (intro w' hSw; try dsimp only at hSw)
            go_simp <;> with_reducible rfl
          try simp only [Act.put, List.setIfInBounds_toArray, List.set_cons_zero, List.set_cons_succ]
          refine wpAnyH_ready (rs := [1]) (by kernel_rfl) (by simp) ?_
          refine AllReadyH.cons (o := ({ dst := some 42, op := Go.Op.call { callee := Go.Callee.value (Go.Operand.func 19), args := #[Go.Operand.tmp 41], argTypes := #[24] }, type := 22, pos := "law.go:116", after := #[{ on := 0, ground := Go.Ground.data }], guard := none } : Oper)) rfl (fun K hK => ?_) AllReadyH.nil
          go_simp
          go_at_call 19
          (with_reducible refine (read_calls _ _ _ _ _ _ _ DA.out.d (by have := HFB.out; omega)).mono ?_)
          rintro e w5 ⟨v5, rfl, ho, hb⟩
          obtain ⟨A5, c5, rfl⟩ := Kd.R_slice ho
          have C5 := Lib.hid (Kd.R_reads' ho).2.2
          clear ho
          have DA := Lib.hid (DA.out.below hb)
          have DB := Lib.hid (DB.out.below hb)
          have CX := Lib.hid (Kd.C_below CX.out hb)
          have BW := Lib.hid (below_step BW.out hb)
          clear hb
          clear hHeld
          go_wp2_with fail
          refine hK.out _ _ trivial (fun hHeld => ?_)
          clear hK K
          try simp only [Act.put, List.setIfInBounds_toArray, List.set_cons_zero, List.set_cons_succ]
          refine wpAnyH_mono (S' := (fun w' => (True) ∧ ((convert 22 9 (.slice A5 (framesL l0).length c5)).run Try.prog w' = .ok (.string (strOfNums (framesL l0))) w'))) (fun _ h => h.1) ?_
          replace hHeld := And.intro hHeld (Kd.C_string (P := Try.prog) Try.underlying22 Try.underlying5 Try.underlying9 (c := c5) C5.out)
          refine wpAnyH_take (i := 2) (oi := ({ dst := some 43, op := Go.Op.convert 22 9 (Go.Operand.tmp 42), type := 9, pos := "law.go:116", after := #[{ on := 1, ground := Go.Ground.data }], guard := none } : Oper)) (v := ?_) rfl (by kernel_rfl) (by kernel_rfl) (by kernel_rfl) (fun _ _ _ h => h) (Or.inl ⟨by rfl, ?_⟩) (by assumption) ?_
          rotate_left
          · (intro w' hSw; try dsimp only at hSw)
            obtain ⟨s0, s1⟩ := hSw
            go_simp <;> with_reducible rfl
          try simp only [Act.put, List.setIfInBounds_toArray, List.set_cons_zero, List.set_cons_succ]
          refine wpAnyH_ready (rs := [4]) (by kernel_rfl) (by simp) ?_
          refine AllReadyH.cons (o := ({ dst := some 45, op := Go.Op.call { callee := Go.Callee.value (Go.Operand.func 19), args := #[Go.Operand.tmp 44], argTypes := #[24] }, type := 22, pos := "law.go:116", after := #[{ on := 3, ground := Go.Ground.data }, { on := 1, ground := Go.Ground.chain }], guard := none } : Oper)) rfl (fun K hK => ?_) AllReadyH.nil
          go_simp
          go_at_call 19
          (with_reducible refine (read_calls _ _ _ _ _ _ _ DB.out.d (by have := HFB.out; omega)).mono ?_)
          rintro e w6 ⟨v6, rfl, ho, hb⟩
          obtain ⟨A6, c6, rfl⟩ := Kd.R_slice ho
          have C6 := Lib.hid (Kd.R_reads' ho).2.2
          clear ho
          have C5 := Lib.hid (Kd.C_below C5.out hb)
          have DA := Lib.hid (DA.out.below hb)
          have DB := Lib.hid (DB.out.below hb)
          have CX := Lib.hid (Kd.C_below CX.out hb)
          have BW := Lib.hid (below_step BW.out hb)
          clear hb
          clear hHeld
          go_wp2_with fail
          refine hK.out _ _ ⟨trivial, (Kd.C_string (P := Try.prog) Try.underlying22 Try.underlying5 Try.underlying9 (c := c5) C5.out)⟩ (fun hHeld => ?_)
          clear hK K
          try simp only [Act.put, List.setIfInBounds_toArray, List.set_cons_zero, List.set_cons_succ]
          refine wpAnyH_mono (S' := (fun w' => ((True) ∧ ((convert 22 9 (.slice A5 (framesL l0).length c5)).run Try.prog w' = .ok (.string (strOfNums (framesL l0))) w')) ∧ ((convert 22 9 (.slice A6 (framesL l0).length c6)).run Try.prog w' = .ok (.string (strOfNums (framesL l0))) w'))) (fun _ h => h.1) ?_
          replace hHeld := And.intro hHeld (Kd.C_string (P := Try.prog) Try.underlying22 Try.underlying5 Try.underlying9 (c := c6) C6.out)
          refine wpAnyH_take (i := 5) (oi := ({ dst := some 46, op := Go.Op.convert 22 9 (Go.Operand.tmp 45), type := 9, pos := "law.go:116", after := #[{ on := 4, ground := Go.Ground.data }], guard := none } : Oper)) (v := ?_) rfl (by kernel_rfl) (by kernel_rfl) (by kernel_rfl) (fun _ _ _ h => h) (Or.inl ⟨by rfl, ?_⟩) (by assumption) ?_
          rotate_left
          · (intro w' hSw; try dsimp only at hSw)
            obtain ⟨⟨s0, s1⟩, s2⟩ := hSw
            go_simp <;> with_reducible rfl
          try simp only [Act.put, List.setIfInBounds_toArray, List.set_cons_zero, List.set_cons_succ]
          refine wpAnyH_take (i := 6) (oi := ({ dst := some 47, op := Go.Op.binOp Go.BinOp.eql 9 (Go.Operand.tmp 43) (Go.Operand.tmp 46) 9, type := 4, pos := "law.go:116", after := #[{ on := 2, ground := Go.Ground.data }, { on := 5, ground := Go.Ground.data }], guard := none } : Oper)) (v := ?_) rfl (by kernel_rfl) (by kernel_rfl) (by kernel_rfl) (fun _ _ _ h => h) (Or.inl ⟨by rfl, ?_⟩) (by assumption) ?_
          rotate_left
          · (intro w' hSw; try dsimp only at hSw)
            obtain ⟨⟨s0, s1⟩, s2⟩ := hSw
            go_simp <;> with_reducible rfl
          try simp only [Act.put, List.setIfInBounds_toArray, List.set_cons_zero, List.set_cons_succ]
          refine wpAnyH_take (i := 7) (oi := ({ dst := some 48, op := Go.Op.move (Go.Operand.tmp 47), type := 4, pos := "law.go:116", after := #[{ on := 6, ground := Go.Ground.data }, { on := 4, ground := Go.Ground.chain }], guard := none } : Oper)) (v := ?_) rfl (by kernel_rfl) (by kernel_rfl) (by kernel_rfl) (fun _ _ _ h => h) (Or.inl ⟨by rfl, ?_⟩) (by assumption) ?_
          rotate_left
          · (intro w' hSw; try dsimp only at hSw)
            obtain ⟨⟨s0, s1⟩, s2⟩ := hSw
            go_simp <;> with_reducible rfl
          try simp only [Act.put, List.setIfInBounds_toArray, List.set_cons_zero, List.set_cons_succ]
          refine wpAnyH_take (i := 8) (oi := ({ dst := some 49, op := Go.Op.move (Go.Operand.tmp 7), type := 33, pos := "law.go:116", after := #[{ on := 7, ground := Go.Ground.guard }], guard := some (7, true) } : Oper)) (v := ?_) rfl (by kernel_rfl) (by kernel_rfl) (by kernel_rfl) (fun _ _ _ h => h) (Or.inl ⟨by rfl, ?_⟩) (by assumption) ?_
          rotate_left
          · (intro w' hSw; try dsimp only at hSw)
            obtain ⟨⟨s0, s1⟩, s2⟩ := hSw
            go_simp <;> with_reducible rfl
          try simp only [Act.put, List.setIfInBounds_toArray, List.set_cons_zero, List.set_cons_succ]
          refine wpAnyH_take (i := 9) (oi := ({ dst := some 50, op := Go.Op.move (Go.Operand.tmp 0), type := 33, pos := "law.go:116", after := #[{ on := 7, ground := Go.Ground.guard }], guard := some (7, true) } : Oper)) (v := ?_) rfl (by kernel_rfl) (by kernel_rfl) (by kernel_rfl) (fun _ _ _ h => h) (Or.inl ⟨by rfl, ?_⟩) (by assumption) ?_
          rotate_left
          · (intro w' hSw; try dsimp only at hSw)
            obtain ⟨⟨s0, s1⟩, s2⟩ := hSw
            go_simp <;> with_reducible rfl
          try simp only [Act.put, List.setIfInBounds_toArray, List.set_cons_zero, List.set_cons_succ]
          refine wpAnyH_ready (rs := [10]) (by kernel_rfl) (by simp) ?_
          refine AllReadyH.cons (o := ({ dst := some 51, op := Go.Op.call { callee := Go.Callee.value (Go.Operand.func 27), args := #[Go.Operand.tmp 49, Go.Operand.tmp 50], argTypes := #[33, 33] }, type := 4, pos := "law.go:116", after := #[{ on := 8, ground := Go.Ground.data }, { on := 9, ground := Go.Ground.data }, { on := 7, ground := Go.Ground.chain }, { on := 7, ground := Go.Ground.guard }], guard := some (7, true) } : Oper)) rfl (fun K hK => ?_) AllReadyH.nil
          go_simp
          go_at_call 27
          (with_reducible refine (lists_same _ A0 _ c0 l0 _ CX.out (Kd.C_below HR0.out BW.out) (by have := HLL.out; omega)).mono ?_)
          rintro e w7 ⟨rfl, hq⟩
          have hb := quiet_below hq
          clear hq
          have C5 := Lib.hid (Kd.C_below C5.out hb)
          have C6 := Lib.hid (Kd.C_below C6.out hb)
          have DA := Lib.hid (DA.out.below hb)
          have DB := Lib.hid (DB.out.below hb)
          have CX := Lib.hid (Kd.C_below CX.out hb)
          have BW := Lib.hid (below_step BW.out hb)
          clear hb
          clear hHeld
          go_wp2_with fail
          refine hK.out _ _ ⟨⟨trivial, (Kd.C_string (P := Try.prog) Try.underlying22 Try.underlying5 Try.underlying9 (c := c5) C5.out)⟩, (Kd.C_string (P := Try.prog) Try.underlying22 Try.underlying5 Try.underlying9 (c := c6) C6.out)⟩ (fun hHeld => ?_)
          clear hK K
          try simp only [Act.put, List.setIfInBounds_toArray, List.set_cons_zero, List.set_cons_succ]
          refine wpAnyH_take (i := 11) (oi := ({ dst := some 52, op := Go.Op.pick (Go.Operand.tmp 48) (Go.Operand.tmp 51) (Go.Operand.const (Go.Value.bool false)), type := 4, pos := "law.go:116", after := #[{ on := 7, ground := Go.Ground.data }, { on := 10, ground := Go.Ground.data }], guard := none } : Oper)) (v := ?_) rfl (by kernel_rfl) (by kernel_rfl) (by kernel_rfl) (fun _ _ _ h => h) (Or.inl ⟨by rfl, ?_⟩) (by assumption) ?_
          rotate_left
          · (intro w' hSw; try dsimp only at hSw)
            obtain ⟨⟨s0, s1⟩, s2⟩ := hSw
            go_simp <;> with_reducible rfl
          try simp only [Act.put, List.setIfInBounds_toArray, List.set_cons_zero, List.set_cons_succ]
          refine wpAnyH_take (i := 12) (oi := ({ dst := some 53, op := Go.Op.move (Go.Operand.tmp 52), type := 4, pos := "law.go:116", after := #[{ on := 11, ground := Go.Ground.data }, { on := 10, ground := Go.Ground.chain }], guard := none } : Oper)) (v := ?_) rfl (by kernel_rfl) (by kernel_rfl) (by kernel_rfl) (fun _ _ _ h => h) (Or.inl ⟨by rfl, ?_⟩) (by assumption) ?_
          rotate_left
          · (intro w' hSw; try dsimp only at hSw)
            obtain ⟨⟨s0, s1⟩, s2⟩ := hSw
            go_simp <;> with_reducible rfl
          try simp only [Act.put, List.setIfInBounds_toArray, List.set_cons_zero, List.set_cons_succ]
          refine wpAnyH_take (i := 13) (oi := ({ dst := some 54, op := Go.Op.move (Go.Operand.tmp 8), type := 3, pos := "law.go:116", after := #[{ on := 12, ground := Go.Ground.guard }], guard := some (12, true) } : Oper)) (v := ?_) rfl (by kernel_rfl) (by kernel_rfl) (by kernel_rfl) (fun _ _ _ h => h) (Or.inl ⟨by rfl, ?_⟩) (by assumption) ?_
          rotate_left
          · (intro w' hSw; try dsimp only at hSw)
            obtain ⟨⟨s0, s1⟩, s2⟩ := hSw
            go_simp <;> with_reducible rfl
          try simp only [Act.put, List.setIfInBounds_toArray, List.set_cons_zero, List.set_cons_succ]
          refine wpAnyH_take (i := 14) (oi := ({ dst := some 55, op := Go.Op.move (Go.Operand.tmp 3), type := 24, pos := "law.go:116", after := #[{ on := 12, ground := Go.Ground.guard }], guard := some (12, true) } : Oper)) (v := ?_) rfl (by kernel_rfl) (by kernel_rfl) (by kernel_rfl) (fun _ _ _ h => h) (Or.inl ⟨by rfl, ?_⟩) (by assumption) ?_
          rotate_left
          · (intro w' hSw; try dsimp only at hSw)
            obtain ⟨⟨s0, s1⟩, s2⟩ := hSw
            go_simp <;> with_reducible rfl
          try simp only [Act.put, List.setIfInBounds_toArray, List.set_cons_zero, List.set_cons_succ]
          refine wpAnyH_ready (rs := [15]) (by kernel_rfl) (by simp) ?_
          refine AllReadyH.cons (o := ({ dst := some 56, op := Go.Op.call { callee := Go.Callee.value (Go.Operand.func 29), args := #[Go.Operand.tmp 55], argTypes := #[24] }, type := 3, pos := "law.go:116", after := #[{ on := 14, ground := Go.Ground.data }, { on := 12, ground := Go.Ground.chain }, { on := 12, ground := Go.Ground.guard }], guard := some (12, true) } : Oper)) rfl (fun K hK => ?_) AllReadyH.nil
          go_simp
          go_at_call 29
          (with_reducible refine (size_calls _ _ _ _ _ _ _ DA.out.d).mono ?_)
          rintro e w8 ⟨rfl, rfl⟩
          clear hHeld
          go_wp2_with fail
          refine hK.out _ _ ⟨⟨trivial, (Kd.C_string (P := Try.prog) Try.underlying22 Try.underlying5 Try.underlying9 (c := c5) C5.out)⟩, (Kd.C_string (P := Try.prog) Try.underlying22 Try.underlying5 Try.underlying9 (c := c6) C6.out)⟩ (fun hHeld => ?_)
          clear hK K
          try simp only [Act.put, List.setIfInBounds_toArray, List.set_cons_zero, List.set_cons_succ]
          refine wpAnyH_take (i := 16) (oi := ({ dst := some 57, op := Go.Op.binOp Go.BinOp.eql 3 (Go.Operand.tmp 54) (Go.Operand.tmp 56) 3, type := 4, pos := "law.go:116", after := #[{ on := 13, ground := Go.Ground.data }, { on := 15, ground := Go.Ground.data }, { on := 12, ground := Go.Ground.guard }], guard := some (12, true) } : Oper)) (v := ?_) rfl (by kernel_rfl) (by kernel_rfl) (by kernel_rfl) (fun _ _ _ h => h) (Or.inl ⟨by rfl, ?_⟩) (by assumption) ?_
          rotate_left
          · (intro w' hSw; try dsimp only at hSw)
            obtain ⟨⟨s0, s1⟩, s2⟩ := hSw
            go_simp <;> with_reducible rfl
          try simp only [Act.put, List.setIfInBounds_toArray, List.set_cons_zero, List.set_cons_succ]
          refine wpAnyH_take (i := 17) (oi := ({ dst := some 58, op := Go.Op.pick (Go.Operand.tmp 53) (Go.Operand.tmp 57) (Go.Operand.const (Go.Value.bool false)), type := 4, pos := "law.go:116", after := #[{ on := 12, ground := Go.Ground.data }, { on := 16, ground := Go.Ground.data }], guard := none } : Oper)) (v := ?_) rfl (by kernel_rfl) (by kernel_rfl) (by kernel_rfl) (fun _ _ _ h => h) (Or.inl ⟨by rfl, ?_⟩) (by assumption) ?_
          rotate_left
          · (intro w' hSw; try dsimp only at hSw)
            obtain ⟨⟨s0, s1⟩, s2⟩ := hSw
            go_simp <;> with_reducible rfl
          try simp only [Act.put, List.setIfInBounds_toArray, List.set_cons_zero, List.set_cons_succ]
          refine wpAnyH_take (i := 18) (oi := ({ dst := some 2, op := Go.Op.assign (Go.Operand.tmp 58), type := 4, pos := "law.go:116", after := #[{ on := 17, ground := Go.Ground.data }, { on := 15, ground := Go.Ground.chain }, { on := 0, ground := Go.Ground.phase }, { on := 1, ground := Go.Ground.phase }, { on := 2, ground := Go.Ground.phase }, { on := 3, ground := Go.Ground.phase }, { on := 4, ground := Go.Ground.phase }, { on := 5, ground := Go.Ground.phase }, { on := 6, ground := Go.Ground.phase }, { on := 7, ground := Go.Ground.phase }, { on := 8, ground := Go.Ground.phase }, { on := 9, ground := Go.Ground.phase }, { on := 10, ground := Go.Ground.phase }, { on := 11, ground := Go.Ground.phase }, { on := 12, ground := Go.Ground.phase }, { on := 13, ground := Go.Ground.phase }, { on := 14, ground := Go.Ground.phase }, { on := 15, ground := Go.Ground.phase }, { on := 16, ground := Go.Ground.phase }, { on := 17, ground := Go.Ground.phase }], guard := none } : Oper)) (v := ?_) rfl (by kernel_rfl) (by kernel_rfl) (by kernel_rfl) (fun _ _ _ h => h) (Or.inl ⟨by rfl, ?_⟩) (by assumption) ?_
          rotate_left
          · (intro w' hSw; try dsimp only at hSw)
            obtain ⟨⟨s0, s1⟩, s2⟩ := hSw
            go_simp <;> with_reducible rfl
          try simp only [Act.put, List.setIfInBounds_toArray, List.set_cons_zero, List.set_cons_succ]
          refine wpAnyH_done (by kernel_rfl) ?_ _
          refine NoPanic.normal ?_
          go_wp2
          go_ret
          exact ⟨rfl, BW.out⟩
  · have HM := Lib.hid hm
    have HLONG : Hid (16384 < (rd_L1 l0 (m : Int)).length) := Lib.hid (by omega)
    have HPRE := Lib.hid hpre
    clear hm hlong hpre
    go_enter Try.func11, Try.ntmps11
    go_wp2_with (first | (go_at_call 33; (with_reducible refine (alive13_calls _).mono ?_); rintro e w1 ⟨rfl, hb1⟩) | (go_at_call 15; have hbx := hb1; (with_reducible refine (new_dk _).mono ?_); rintro e w2 ⟨rfl, ha2, hb2⟩; have HB2 := Lib.hid (below_step hbx hb2); have HZ := Lib.hid hbx.size; clear hb1 hbx) | (go_at_call 15; have hax := ha2; (with_reducible refine (new_dk _).mono ?_); rintro e w3 ⟨rfl, hbk, hb3⟩; have HA := Lib.hid (hax.below hb3); have HBK := Lib.hid hbk; have HB3 := Lib.hid (below_step HB2.out hb3); have HZ2 := Lib.hid HB2.out.size; have HAP : Hid (∀ k, Own w2.heap.size (.slice none 0 0) k → ¬ Own w1.heap.size (.slice none 0 0) k) := Lib.hid (apart_new (hax.own _ (.inl rfl)).2); clear ha2 hax hbk hb3 hb2) | (go_at_call 22; (with_reducible refine (dk_write HA.out A0 c0 l0 (par_C HR0.out HB3.out HA.out HZ.out) (by have := HLL.out; omega) m (Nat.le_of_lt HM.out) HPRE.out (fun _ => HLONG.out) (Nat.lt_of_le_of_lt (framesL_take_le _ _) (by have := HFB.out; omega)) 5 [] (fun _ => ⟨rfl, rfl⟩) (fun h => absurd h (Nat.ne_of_lt HM.out)) (fun h => absurd h (Nat.ne_of_lt HM.out))).mono ?_); rintro e w4 ⟨rfl, va, ha4, hs4⟩; have HB4 := Lib.hid (hs4.t.below HB3.out (fun k hk => Nat.le_trans HZ.out (HA.out.own k hk).1)); clear hs4) | (go_at_call 29; (with_reducible refine (size_calls _ _ _ _ _ _ _ ha4.d).mono ?_); rintro e w5 ⟨rfl, rfl⟩))
    go_ret
    exact ⟨rfl, HB4.out⟩
end Go.Proofs.Ytfdpbdaekfdnjaa.X
/- Disk and journal calls by what they touch: Flush, Crash, Recover. -/
namespace Go.Proofs.Ytfdpbdaekfdnjaa.X
open Go.RowKit Go.Proofs.YtfdpbdaekfdnjaaW.PrintWords Go.Proofs.YtfdpbdaekfdnjaaW.PrintLast Go.Proofs.YtfdpbdaekfdnjaaW.PrintMore
set_option linter.unusedVariables false
set_option linter.unusedSimpArgs false
theorem Touch.own {W W' : World} {g : Nat} (v : Value) (h : Touch (· = g) W W') : Touch (Own g v) W W' := ⟨h.os, h.tape, h.output, h.size, fun k hk hn => h.block k hk (fun e => hn (.inl e))⟩
theorem dk_flush {W : World} {base g : Nat} {v : Value} {xs : List Int} {sure : Nat} {room : Int} (h : Dk W base g v xs sure room) :
    Calls Try.prog 17 #[.pointer (some ⟨g, 0, none⟩)] W fun e w' => e = .returned (.int .i64 ((xs.length : Int) - sure)) ∧ Dk w' base g v xs xs.length room ∧ Step W w' g v v := by
  refine (flush_calls W base g v xs sure room h.d h.hs).mono ?_
  rintro e w' ⟨rfl, hd, ht⟩
  exact ⟨rfl, ⟨hd, Nat.le_refl _, h.r0, h.r1, h.hx⟩, ⟨ht.own v, .inl rfl⟩⟩
theorem dk_crash {W : World} {base g : Nat} {v : Value} {xs : List Int} {sure : Nat} {room : Int} (h : Dk W base g v xs sure room) (keep : Int) (m : Nat) (hm : sure + keepN keep xs.length sure = m) :
    Calls Try.prog 18 #[.pointer (some ⟨g, 0, none⟩), .int .i64 keep] W fun e w' => e = .returned (.tuple #[]) ∧ ∃ v', Dk w' base g v' (xs.take m) m room ∧ Step W w' g v v' := by
  have hk := keepN_le keep xs.length sure h.hs
  refine (crash_calls W base g v xs sure room keep h.d h.hs).mono ?_
  rintro e w' ⟨rfl, v1, hd1, ht, hat⟩
  rw [hm] at hd1 hk
  have hx := h.hx
  exact ⟨rfl, v1, ⟨hd1, by rw [List.length_take]; omega, h.r0, h.r1, by rw [List.length_take]; omega⟩, ⟨ht.own v, .inl hat⟩⟩
set_option maxRecDepth 100000 in
set_option maxHeartbeats 40000000 in
theorem dk_recover {W : World} {base g : Nat} {v : Value} {xs : List Int} {sure : Nat} {room : Int} (h : Dk W base g v xs sure room) (hO : Octets xs) (hE : scanEnd xs ≤ xs.length) :
    Calls Try.prog 26 #[.pointer (some ⟨g, 0, none⟩)] W fun e w' => ∃ A c v' Z, e = .returned (.tuple #[.slice A (scanL xs).length c, .int .i64 0]) ∧ (scanL xs).length ≤ c ∧ Kd.F (Kd.slice 5 (Kd.int .u8)) w' (fun k => Z ≤ k) A (scanL xs).length (scanL xs) ∧ (∀ k, Own g v' k → k < Z) ∧
      Dk w' base g v' (xs.take (scanEnd xs)) (scanEnd xs) room ∧ Step W w' g v v' := by
  have hx0 := h.hx
  have hr1 := h.r1
  have HO := Lib.hid hO
  have HE := Lib.hid hE
  have HX : Hid (xs.length ≤ 262144) := Lib.hid (by omega)
  have hx1 : Hid ((0 : Int) ≤ (scanEnd xs : Int) ∧ (scanEnd xs : Int) ≤ xs.length) := Lib.hid ⟨by omega, by omega⟩
  clear hO hE hr1
  go_enter Try.func26, Try.ntmps26
  go_wp2_with (first | (go_at_call 16; refine (dk_append h none 0 [] (Kd.C_nil _ _) 0 xs (fun hh => absurd hh (by simp only [List.length_nil]; omega)) (fun _ => ⟨rfl, by simp⟩)).mono ?_; rintro e w1 ⟨rfl, v1, h1, hs1⟩; have H1 := Lib.hid h1; have S1 := Lib.hid hs1; clear h1 hs1) | (go_at_call 19; (with_reducible refine (read_calls _ _ _ _ _ _ _ H1.out.d (by have := HX.out; omega)).mono ?_); rintro e w2 ⟨v2, rfl, ho, hb⟩; obtain ⟨A2, c2, rfl⟩ := Kd.R_slice ho; have C2 := Lib.hid (Kd.R_reads' ho).2.2; have N2 := Lib.hid (Kd.R_reads' ho).2.1; have B2 := Lib.hid hb; clear ho hb) | (go_at_call 31; (with_reducible refine (scan_calls A2 c2 xs _ C2.out N2.out HO.out (by have := HX.out; omega)).mono ?_); rintro e w3 ⟨v3, rfl, hR3, hb3⟩; obtain ⟨A3, c3, rfl⟩ := Kd.R_slice hR3; have R3 := Lib.hid hR3; have B3 := Lib.hid hb3; have H3 := Lib.hid ((H1.out.below B2.out).below hb3); clear hR3 hb3) | (go_at_call 28; (with_reducible refine (cut_calls _ _ _ _ _ _ _ (scanEnd xs : Int) H3.out.d).mono ?_); rintro e w4 ⟨_, h4⟩; obtain ⟨rfl, v4, hd4, ht4, ha4⟩ := h4 hx1.out))
  go_ret2
  have hg : ∀ k, Own g v1 k → k < w2.heap.size := fun k hk => Nat.lt_of_lt_of_le (H1.out.own k hk).2 B2.out.size
  rw [Int.toNat_natCast] at hd4
  refine ⟨A3, c3, v4, w2.heap.size, rfl, (Kd.R_reads' R3.out).2.1, ?_, fun k hk => ?_, ⟨hd4, ?_, H1.out.r0, H1.out.r1, ?_⟩, ?_⟩
  · refine Kd.F_step (Kd.F_mono (Kd.R_F (Kd.R_bound R3.out)) (fun k hk => hk.2.1)) (fun k hk hlt => ht4.block k hlt (fun e => ?_))
    have := hg k (.inl e)
    omega
  · rcases hk with hk | hk
    · exact hg k (.inl hk)
    · exact hg k (.inr (ha4 ▸ hk))
  · rw [List.length_take]; have := HE.out; omega
  · rw [List.length_take]; have := HE.out; omega
  · exact (((S1.out.below B2.out).below B3.out)).trans ⟨ht4.own v1, .inl ha4⟩
/-- Rows in blocks of one stretch, beside a disk. -/
def Beside (Z Z2 g : Nat) (v : Value) : Prop := ∀ k, Own g v k → ¬ (Z ≤ k ∧ k < Z2)
theorem Beside.step {Z Z2 g : Nat} {v v' : Value} {W W' : World} (h : Beside Z Z2 g v) (hs : Step W W' g v v') (hz : Z2 ≤ W.heap.size) : Beside Z Z2 g v' := fun k hk => by
  rcases hk with hk | hk
  · exact h k (.inl hk)
  · rcases hs.at_ with e | ⟨b, e, hb⟩
    · exact h k (.inr (e ▸ hk))
    · rw [e] at hk
      obtain rfl := Option.some.inj hk
      omega
theorem F_beside {Z Z2 g : Nat} {v : Value} {W W' : World} {A : Option Addr} {n : Nat} {xs : List (List Int)} (hF : Kd.F (Kd.slice 5 (Kd.int .u8)) W (fun k => Z ≤ k ∧ k < Z2) A n xs) (h : Beside Z Z2 g v) (ht : Touch (Own g v) W W') : Kd.F (Kd.slice 5 (Kd.int .u8)) W' (fun k => Z ≤ k ∧ k < Z2) A n xs :=
  Kd.F_step hF (fun k hk hlt => ht.block k hlt (fun ho => h k ho hk))
end Go.Proofs.Ytfdpbdaekfdnjaa.X
