/- Texts of this session joined into one: HMake, HGrow, X0, XF57, XF54, XF42, HBack, HPut, XF30, HArr, HCloneB, HDisk, HDiskW, HDiskA, HConv, HDS, HFrame, QGet, HKind, HRev, HDead, HWrite, HWriteG, HSieve, HIndex, HFirsts. -/
import Derived.Test.YtfdpbdaekfdnjaaWWords
import Derived.Test.YtfdpbdaekfdnjaaProg
import Derived.Test.YtfdpbdaekfdnjaaWLast
import Derived.Test.YtfdpbdaekfdnjaaWZeros
import Derived.Tactics2
import Derived.WalkKit
import Derived.Deep.DeepMust
import Derived.Below
import Derived.Deep.Draws
import Derived.Deep.AppendLies
import Derived.Maps.AppendAt
import Derived.OwnWalk
import Derived.Laws.BytesArg
import Derived.Laws.MakeOwn
import Derived.Laws.OwnMore
import Derived.Deep.OwnRows
import Derived.Tactics
import Derived.Lib.ConvBytes
import Derived.Laws.Slices
import Derived.KernelRfl
import Derived.RowKit3
import Derived.Deep.LoopGhost
import Derived.Deep.QuietTactic
import Derived.BigQuiet
import Derived.WideLaws
import Derived.Deep.DeepCutAuto
import Derived.Deep.CutBlock
import Derived.Deep.RegionHeld3
import Derived.Laws.Rows
import Derived.Lib.AppendStr
import Derived.ArgAppend
import Derived.Laws.IdiomCopy
import Derived.OrdersHeld
import Derived.Laws.BitsLemmas
import Derived.RowKit
import Derived.Test.YtfdpbdaekfdnjaaWTab
import Derived.Test.YtfdpbdaekfdnjaaWFour
import Derived.Test.YtfdpbdaekfdnjaaWQPut
import Derived.Test.YtfdpbdaekfdnjaaWApart
import Derived.Test.YtfdpbdaekfdnjaaWArr
import Derived.Test.YtfdpbdaekfdnjaaWFoot
import Derived.Test.YtfdpbdaekfdnjaaWKept
import Derived.Test.YtfdpbdaekfdnjaaWShare
import Derived.Test.YtfdpbdaekfdnjaaWN
import Derived.Test.YtfdpbdaekfdnjaaWFootNe
import Derived.Test.YtfdpbdaekfdnjaaWAt
import Derived.Test.YtfdpbdaekfdnjaaWEqStruct
import Derived.Test.YtfdpbdaekfdnjaaWRepsOne
import Derived.Test.YtfdpbdaekfdnjaaWInv
import Derived.Test.YtfdpbdaekfdnjaaWInvWords
import Derived.Test.YtfdpbdaekfdnjaaWGuard
import Derived.Test.YtfdpbdaekfdnjaaWNEv
import Derived.Test.YtfdpbdaekfdnjaaWMore
import Derived.RangeFuncBox
import Derived.RangeFuncNested
import Derived.RangeFuncLeaves
import Derived.Shelf.Abstract
import Derived.OwnWalkIn
import Derived.TacticsInMore
import Derived.LoopNIn
import Derived.LoopIn
import Derived.Lib.Hide
import Derived.Deep.MidRow
import Derived.Deep.WholeRow
import Derived.WalkSpells
import Derived.Lib.SliceRun
import Derived.StillTailTactics
import Derived.Deep.Cut
import Derived.OpenShut
/- A row of a capacity of its own, made empty. -/
namespace Go.Proofs.Ytfdpbdaekfdnjaa.X
open Go.RowKit Go.Proofs.YtfdpbdaekfdnjaaW.PrintWords
set_option linter.unusedVariables false
section
variable {P : Program} {ops : Array Oper} {rest : List Oper} {o : Oper} {a : Act} {Q : Exit → Act → World → Prop}
/-- make([]T, 0, n): no element, room for n. -/
theorem Kd.R_makecap {w0 W : World} (d : Kd Int) (base e : Nat) (hgd : o.guard = none) {N : Tmp} (hd : o.dst = some N) (t : TypeId) (x y : Operand) (ho : o.op = .makeSlice t x y) (n : Int) (hx : a.eval x = .int .i64 0) (hy : a.eval y = .int .i64 n)
    (ht : P.underlying t = some (.slice e)) (z : Value) (bytes : Nat) (hinfo : (P.info? e).map (fun i => (i.zero, i.size, i.bytes)) = some (some z, 1, bytes)) (hz : z.cells.size = 1) (_hs0 : 0 < 1) (hb0 : 0 < bytes)
    (z0 : Int) {ok okp : Nat → Prop} (_hzero : 0 = 0) (hok : ∀ k, okp k → ok k) (hfresh : ok W.heap.size) (h0 : 0 ≤ n) (hl : n.toNat * bytes ≤ 281474976710656) (HB : Below base w0 W) (hbase : base ≤ W.heap.size)
    (h : ∀ v1 w1, (Kd.int .u8).R e w1 base ok v1 (List.replicate 0 z0) → Below base w0 w1 → W.grownBy w1 none → (∃ b, v1.ownBlock = some b ∧ W.heap.size ≤ b) → wpList P ops Q rest (a.put o.dst v1) w1) : wpList P ops Q (o :: rest) a W := by
  obtain ⟨m, rfl⟩ := Int.eq_ofNat_of_zero_le h0
  simp only [Int.toNat_natCast] at hl
  obtain ⟨i0, hi, hzz⟩ := Option.map_eq_some_iff.1 hinfo
  simp only [Prod.mk.injEq] at hzz
  obtain ⟨hz0, hz1, hz2⟩ := hzz
  have hm : m ≤ 281474976710656 := Nat.le_trans (Nat.le_mul_of_pos_right _ hb0) hl
  have hr := run_make (P := P) W t e i0 z ht hi hz0 .i64 .i64 0 (m : Int) (by omega) (by omega)
    (by
      have h3 : ((i0.bytes * m : Nat) : Int) ≤ 281474976710656 := by rw [hz2, Nat.mul_comm]; omega
      rwa [Int.natCast_mul] at h3) (by omega)
  simp only [Int.toNat_natCast, Int.toNat_zero] at hr
  rw [hz1, Nat.mul_one] at hr
  refine Kd.event_run hgd (v := .slice (some ⟨W.heap.size, 0, none⟩) 0 m) (w1 := W.alloc (.cells (madeCells z.cells m) e)) (by simp [execOp, ho, hx, hy, hr]) (h _ _ (Kd.R_of_own (enc := Value.int .u8) ⟨by simp [encs], .inr ⟨W.heap.size, m, madeCells z.cells m, rfl, hbase, blk_new _ _, Nat.zero_le _, by simp only [maxLen]; omega, by simp [madeCells], by simp [encs]⟩⟩ (fun k hk => ?_)) (HB.alloc hbase _) (World.grownBy_alloc W _ none) ⟨W.heap.size, by simp [Value.ownBlock], Nat.le_refl _⟩)
  have : W.heap.size = k := by simpa [Value.ownBlock] using hk
  subst this
  exact hfresh
end
end Go.Proofs.Ytfdpbdaekfdnjaa.X
/- slices.Grow of no slice: an empty row with room. -/
namespace Go.Proofs.Ytfdpbdaekfdnjaa.X
open Go.RowKit Go.Proofs.YtfdpbdaekfdnjaaW.PrintWords Go.Proofs.YtfdpbdaekfdnjaaW.PrintLast
set_option linter.unusedVariables false
set_option linter.unusedSimpArgs false
theorem info5' : (Try.prog.info? 5).map (fun i => (i.zero, i.size, i.bytes)) = some (some (.int .u8 0), 1, 1) := by kernel_rfl

set_option maxRecDepth 100000 in
set_option maxHeartbeats 4000000 in
theorem grow_nil (n : Int) (h0 : 0 ≤ n) (hn : n.toNat ≤ 140737488355328) (w : World) :
    Calls Try.prog 65 #[.slice none 0 0, .int .i64 n] w fun e w' => ∃ v, e = .returned v ∧ Kd.R (Kd.int .u8) 5 w' w.heap.size (fun _ => True) v (List.replicate 0 0) ∧ Below w.heap.size w w' := by
  have hw : wrap64 (n - wrap64 (0 - 0)) = n := by unfold wrap64; omega
  by_cases hz : 0 < n
  · have c0 : decide (n < 0) = false := decide_eq_false (by omega)
    have c1 : decide (n > 0) = true := decide_eq_true hz
    go_enter Try.func65, Try.ntmps65
    go_wp2_with ((with_reducible refine gate_dst (N := 22) rfl ?_); go_must (refine Kd.R_append_zeros (Kd.int .u8) w.heap.size rfl _ _ 22 3 5 (.int .u8 0) 1 rfl Try.underlying22 Try.underlying3 info5' rfl (by decide) (by decide) (.slice none 0 0) ([] : List Int) 0 n (fun _ => True) rfl rfl rfl (fun _ _ => trivial) (Kd.R_nil _ _ _ _ _) h0 (Below.refl _ _) (Nat.le_refl _) (by simpa using hn) ?_; intro v1 w1 ho hb hg hat; obtain ⟨A, c, rfl⟩ := Kd.R_slice ho; obtain ⟨i0, hi0, _, hsz, _⟩ := info_parts info5'; have hcut := cut_to (P := Try.prog) 22 5 .i64 Try.underlying22 hi0 A _ c 0 (by omega) (Int.natCast_nonneg _) (Kd.R_reads' ho).2.1; have ht := Kd.R_take (m := 0) ho (Nat.zero_le _); clear ho))
    go_ret
    exact ⟨_, rfl, ht, hb⟩
  · obtain rfl : n = 0 := by omega
    go_enter Try.func65, Try.ntmps65
    go_wp2
    go_ret
    exact ⟨_, rfl, Kd.R_nil _ _ _ _ _, Below.refl _ _⟩
section
variable {ops : Array Oper} {rest : List Oper} {o : Oper} {a : Act} {Q : Exit → Act → World → Prop}
/-- slices.Grow of no slice, as one step of a walk. -/
theorem Kd.R_grow {w0 W : World} (d : Kd Int) (base e : Nat) (hgd : o.guard = none) {N : Tmp} (hd : o.dst = some N) (t : TypeId) (x y : Operand) (ho : o.op = .call { callee := .value (.func 65), args := #[x, y], argTypes := #[22, 3] }) (n : Int) (hx : a.eval x = .slice none 0 0) (hy : a.eval y = .int .i64 n)
    (ht : Try.prog.underlying t = some (.slice e)) (z : Value) (bytes : Nat) (hinfo : (Try.prog.info? e).map (fun i => (i.zero, i.size, i.bytes)) = some (some z, 1, bytes)) (hz : z.cells.size = 1) (hs0 : 0 < 1) (hb0 : 0 < bytes)
    (z0 : Int) {ok okp : Nat → Prop} (_hzero : 0 = 0) (hok : ∀ k, okp k → ok k) (hfresh : ok W.heap.size) (h0 : 0 ≤ n) (hl : n.toNat * bytes ≤ 140737488355328) (HB : Below base w0 W) (hbase : base ≤ W.heap.size)
    (h : ∀ v1 w1, (Kd.int .u8).R 5 w1 base (fun _ => True) v1 (List.replicate 0 0) → Below base w0 w1 → True → True → wpList Try.prog ops Q rest (a.put o.dst v1) w1) : wpList Try.prog ops Q (o :: rest) a W := by
  have hb1 : n.toNat ≤ 140737488355328 := Nat.le_trans (Nat.le_mul_of_pos_right _ hb0) hl
  refine goesL_ (some N) hd hgd (f := 65) Try.func65 (by kernel_rfl) rfl #[.slice none 0 0, .int .i64 n] ho (by simp [hx, hy]) ?_
  refine (grow_nil n h0 hb1 W).mono ?_
  rintro e w' ⟨v, rfl, hr, hb⟩
  refine ⟨_, rfl, ?_⟩
  rw [← hd]
  exact h _ _ (Kd.R_lower hr hbase) (below_then HB hbase hb) trivial trivial
end
end Go.Proofs.Ytfdpbdaekfdnjaa.X
-- Written by a program of this session (a turn of the kit's print with contracts by hand). Not trusted: Lean checks it.
namespace Go.Proofs.Ytfdpbdaekfdnjaa.X
open Go.RowKit Go.Proofs.YtfdpbdaekfdnjaaW.PrintWords Go.Proofs.YtfdpbdaekfdnjaaW.PrintLast Go.Proofs.YtfdpbdaekfdnjaaW.PrintMore
attribute [local go_sem] max2_int min2_int max_two min_two max_three min_three max_four min_four   -- for this text's walks alone
set_option linter.unusedVariables false
set_option linter.unusedSimpArgs false



def errW : Option Int → Value
  | none => .nilIface
  | some c => .iface 0 (.int .i64 c)
theorem errW_none : errW none = .nilIface := rfl
theorem errW_some (c : Int) : errW (some c) = .iface 0 (.int .i64 c) := rfl

theorem info5 : (Try.prog.info? 5).map (fun i => (i.zero, i.size, i.bytes)) = some (some (.int .u8 0), 1, 1) := by kernel_rfl
theorem info22 : (Try.prog.info? 22).map (fun i => (i.zero, i.size, i.bytes)) = some (some (.slice none 0 0), 1, 24) := by kernel_rfl
-- the values' own types
def rd_L1 (xs : List (List Int)) (i : Int) : (List Int) := xs.getD i.toNat ([] : List Int)
theorem at_L1 {w : World} {A : Option Addr} {n : Nat} {xs : List (List Int)} (h : Kd.C (Kd.slice 5 (Kd.int .u8)) w A n xs) (i : Int) (h0 : 0 ≤ i) (h1 : i < n) : ∃ ad A0 c0, A = some ad ∧ w.cell? (ad.add i.toNat) = some (.slice A0 (rd_L1 xs i).length c0) ∧ (rd_L1 xs i).length ≤ c0 ∧ (Kd.int .u8).C w A0 (rd_L1 xs i).length (rd_L1 xs i) := by
  obtain ⟨ad, c, e, _, hK, hc0⟩ := Kd.C_get h ([] : List Int) i h0 h1
  have hc : ∀ j u, c[j]? = some u → w.cell? (ad.add (i.toNat * 1 + j)) = some u := hc0
  obtain ⟨A0, c0, rfl, l0, g0⟩ := hK
  exact ⟨ad, A0, c0, e, by have hq := hc 0 _ rfl; rwa [Nat.mul_one, Nat.add_zero] at hq, l0, g0⟩

def rd_L3 (xs : List (List (List Int))) (i : Int) : (List (List Int)) := xs.getD i.toNat ([] : List (List Int))
theorem at_L3 {w : World} {A : Option Addr} {n : Nat} {xs : List (List (List Int))} (h : Kd.C (Kd.slice 22 (Kd.slice 5 (Kd.int .u8))) w A n xs) (i : Int) (h0 : 0 ≤ i) (h1 : i < n) : ∃ ad A0 c0, A = some ad ∧ w.cell? (ad.add i.toNat) = some (.slice A0 (rd_L3 xs i).length c0) ∧ (rd_L3 xs i).length ≤ c0 ∧ (Kd.slice 5 (Kd.int .u8)).C w A0 (rd_L3 xs i).length (rd_L3 xs i) := by
  obtain ⟨ad, c, e, _, hK, hc0⟩ := Kd.C_get h ([] : List (List Int)) i h0 h1
  have hc : ∀ j u, c[j]? = some u → w.cell? (ad.add (i.toNat * 1 + j)) = some u := hc0
  obtain ⟨A0, c0, rfl, l0, g0⟩ := hK
  exact ⟨ad, A0, c0, e, by have hq := hc 0 _ rfl; rwa [Nat.mul_one, Nat.add_zero] at hq, l0, g0⟩

end Go.Proofs.Ytfdpbdaekfdnjaa.X
-- Written by a program of this session (a turn of the kit's print with contracts by hand). Not trusted: Lean checks it.
namespace Go.Proofs.Ytfdpbdaekfdnjaa.X
open Go.RowKit Go.Proofs.YtfdpbdaekfdnjaaW.PrintWords Go.Proofs.YtfdpbdaekfdnjaaW.PrintLast Go.Proofs.YtfdpbdaekfdnjaaW.PrintMore
attribute [local go_sem] max2_int min2_int max_two min_two max_three min_three max_four min_four   -- for this text's walks alone
set_option linter.unusedVariables false
set_option linter.unusedSimpArgs false

/-! ### octets_Get: function 57 -/
def octets_Get.l0 : Nat → Int → List Int → Int → Int → Option (Int)
  | 0, _, _, _, _ => none
  | k + 1, x3, x6, x7, x8 => if x8 < x7 then (if 0 ≤ x8 then (if x8 < (x6.length : Int) then (octets_Get.l0 k (Go.bits .or .u64 (IntKind.u64.wrap (x3 * 256)) (IntKind.u64.wrap (rd x6 x8))) x6 x7 (wrap64 (x8 + 1))) else (none)) else (none)) else (some (wrap64 (Go.bits .and .u64 x3 4611686018427387903)))
def octets_Get.f (k : Nat) (l0 : List Int) : Option (Int) := octets_Get.l0 k 0 l0 (l0.length : Int) 0
theorem octets_Get.mono_l : ∀ k, (∀ y0 y1 y2 y3, LeO (octets_Get.l0 k y0 y1 y2 y3) (octets_Get.l0 (k + 1) y0 y1 y2 y3))
  | 0 => fun _ _ _ _ r h => by simp [octets_Get.l0] at h
  | k + 1 => by
    have ih0 := octets_Get.mono_l k
    · intro y0 y1 y2 y3
      unfold octets_Get.l0
      repeat' first
      | (with_reducible exact ih0 _ _ _ _)
      | (with_reducible exact LeO.refl _)
      | (with_reducible exact LeO.none _)
      | (with_reducible refine LeO.ite ?_ ?_)
      | (with_reducible refine LeO.bind ?_ (fun _ => ?_))
      | exact ih0 _ _ _ _
      | exact LeO.none _
      | refine LeO.ite ?_ ?_
      | refine LeO.bind ?_ (fun _ => ?_)
theorem octets_Get.mono : ∀ a0 k, LeO (octets_Get.f k a0) (octets_Get.f (k + 1) a0) := by
  intro a0 k
  have ih0 := octets_Get.mono_l k
  unfold octets_Get.f
  repeat' first
      | (with_reducible exact ih0 _ _ _ _)
      | (with_reducible exact LeO.refl _)
      | (with_reducible exact LeO.none _)
      | (with_reducible refine LeO.ite ?_ ?_)
      | (with_reducible refine LeO.bind ?_ (fun _ => ?_))
      | exact ih0 _ _ _ _
      | exact LeO.none _
      | refine LeO.ite ?_ ?_
      | refine LeO.bind ?_ (fun _ => ?_)
set_option maxHeartbeats 8000000 in
set_option maxRecDepth 100000 in
theorem octets_Get.calls (k : Nat) (A0 : Option Addr) (c0 : Nat) (l0 : List Int) (r : Int) (w : World) (hr0 : Kd.C (Kd.int .u8) w A0 l0.length l0) (hc0 : l0.length ≤ c0) (h : octets_Get.f k l0 = some r) :
    Calls Try.prog 57 #[.slice A0 l0.length c0] w fun e w' => e = .returned (.int .i64 r) ∧ Drawn0 w w' := by
  have HR0 := Aside0.mk hr0
  have HC0 := Aside0.mk hc0
  clear hr0 hc0
  have H : (octets_Get.l0 k 0 l0 (l0.length : Int) 0) = some r := h
  clear h
  have H' := Aside0.mk H
  clear H
  go_enter Try.func57, Try.ntmps57
  go_wp2
  go_loopg [3, 8] k (fun kq v3 v8 w' => ∃ (x3_1 : Int) (x8_1 : Int), v3 = .int .u64 x3_1 ∧ v8 = .int .i64 x8_1 ∧ Aside0 (octets_Get.l0 kq x3_1 l0 (l0.length : Int) x8_1 = some r) ∧ Aside0 (kq ≤ k) ∧ Drawn0 w w')
  case atStart => exact ⟨(0), (0), (by first | rfl | (simp; done) | (simp [*]; done)), (by first | rfl | (simp; done) | (simp [*]; done)), H', ⟨Nat.le_refl _⟩, by repeat (first | exact Drawn0.refl _ | apply Drawn0.step)⟩
  case round =>
    clear H'
    obtain ⟨x3_1, x8_1, rfl, rfl, HA, HK1, ⟨m1, rfl⟩⟩ := hrel
    cases gk with
    | zero => exact absurd HA.out (by simp [octets_Get.l0])
    | succ k1 =>
      have H := HA.out
      clear HA
      simp only [octets_Get.l0] at H
      by_cases c2 : x8_1 < (l0.length : Int)
      · rw [if_pos c2] at H
        have c2b0 : decide (x8_1 < (l0.length : Int)) = true := decide_eq_true c2
        clear c2
        by_cases c3 : 0 ≤ x8_1
        · rw [if_pos c3] at H
          have c3b0 : decide (0 ≤ x8_1) = true := decide_eq_true c3
          clear c3
          by_cases c4 : x8_1 < (l0.length : Int)
          · rw [if_pos c4] at H
            have c4b0 : decide (x8_1 < (l0.length : Int)) = true := decide_eq_true c4
            clear c4
            have H' := Aside0.mk H
            clear H
            have p190 : 0 ≤ (x8_1 : Int) := of_decide_eq_true (by first | (with_reducible assumption) | assumption)
            have q190 : x8_1 < (l0.length : Int) := of_decide_eq_true (by first | (with_reducible assumption) | assumption)
            obtain ⟨ad190, e190, hx190_0⟩ := Kd.at_int HR0.out x8_1 p190 q190
            cases e190
            replace p190 := eq_true p190
            replace q190 := eq_true q190
            go_wp2
            go_roundg k1
            case measure => have := HK1.out; omega
            case rel => exact ⟨(Go.bits .or .u64 (IntKind.u64.wrap (x3_1 * 256)) (IntKind.u64.wrap (rd l0 x8_1))), (wrap64 (x8_1 + 1)), (by first | rfl | (simp; done) | (simp [*]; done)), (by first | rfl | (simp; done) | (simp [*]; done)), H', ⟨by have := HK1.out; omega⟩, by repeat (first | exact Drawn0.refl _ | apply Drawn0.step)⟩
          · rw [if_neg c4] at H
            exact absurd H (by simp)
        · rw [if_neg c3] at H
          exact absurd H (by simp)
      · rw [if_neg c2] at H
        have c2b0 : decide (x8_1 < (l0.length : Int)) = false := decide_eq_false c2
        clear c2
        obtain rfl := Option.some.inj H
        go_wp2
        go_ret
        exact ⟨by first | rfl | (simp; done) | (simp [*]; done), by repeat (first | exact Drawn0.refl _ | apply Drawn0.step)⟩

end Go.Proofs.Ytfdpbdaekfdnjaa.X
-- Written by a program of this session (a turn of the kit's print with contracts by hand). Not trusted: Lean checks it.
namespace Go.Proofs.Ytfdpbdaekfdnjaa.X
open Go.RowKit Go.Proofs.YtfdpbdaekfdnjaaW.PrintWords Go.Proofs.YtfdpbdaekfdnjaaW.PrintLast Go.Proofs.YtfdpbdaekfdnjaaW.PrintMore
attribute [local go_sem] max2_int min2_int max_two min_two max_three min_three max_four min_four   -- for this text's walks alone
set_option linter.unusedVariables false
set_option linter.unusedSimpArgs false

/-! ### slices_Concat_byte_byte: function 54 -/
mutual
def slices_Concat_byte_byte.l0 : Nat → List (List Int) → Int → List (List Int) → Int → Int → Option (List Int)
  | 0, _, _, _, _, _ => none
  | k + 1, x0, x3, x9, x10, x11 => if x11 < x10 then (if 0 ≤ x11 then (if x11 < (x9.length : Int) then (if (wrap64 (x3 + ((rd_L1 x9 x11).length : Int))) < 0 then (none) else (slices_Concat_byte_byte.l0 k x0 (wrap64 (x3 + ((rd_L1 x9 x11).length : Int))) x9 x10 (wrap64 (x11 + 1)))) else (none)) else (none)) else (if 0 ≤ x3 then (if (x3 : Int).toNat ≤ 140737488355328 then (slices_Concat_byte_byte.l1 k ((List.replicate 0 0)) x0 (x0.length : Int) 0) else (none)) else (none))
def slices_Concat_byte_byte.l1 : Nat → List Int → List (List Int) → Int → Int → Option (List Int)
  | 0, _, _, _, _ => none
  | k + 1, x6, x25, x26, x27 => if x27 < x26 then (if 0 ≤ x27 then (if x27 < (x25.length : Int) then (if x6.length + (rd_L1 x25 x27).length < 140737488355328 then (slices_Concat_byte_byte.l1 k (x6 ++ (rd_L1 x25 x27)) x25 x26 (wrap64 (x27 + 1))) else (none)) else (none)) else (none)) else (some x6)
end
def slices_Concat_byte_byte.f (k : Nat) (l0 : List (List Int)) : Option (List Int) := slices_Concat_byte_byte.l0 k l0 0 l0 (l0.length : Int) 0
theorem slices_Concat_byte_byte.mono_l : ∀ k, (∀ y0 y1 y2 y3 y4, LeO (slices_Concat_byte_byte.l0 k y0 y1 y2 y3 y4) (slices_Concat_byte_byte.l0 (k + 1) y0 y1 y2 y3 y4)) ∧ (∀ y0 y1 y2 y3, LeO (slices_Concat_byte_byte.l1 k y0 y1 y2 y3) (slices_Concat_byte_byte.l1 (k + 1) y0 y1 y2 y3))
  | 0 => ⟨fun _ _ _ _ _ r h => by simp [slices_Concat_byte_byte.l0] at h, fun _ _ _ _ r h => by simp [slices_Concat_byte_byte.l1] at h⟩
  | k + 1 => by
    obtain ⟨ih0, ih1⟩ := slices_Concat_byte_byte.mono_l k
    refine ⟨?_, ?_⟩
    · intro y0 y1 y2 y3 y4
      unfold slices_Concat_byte_byte.l0
      repeat' first
      | (with_reducible exact ih0 _ _ _ _ _)
      | (with_reducible exact ih1 _ _ _ _)
      | (with_reducible exact LeO.refl _)
      | (with_reducible exact LeO.none _)
      | (with_reducible refine LeO.ite ?_ ?_)
      | (with_reducible refine LeO.bind ?_ (fun _ => ?_))
      | exact ih0 _ _ _ _ _
      | exact ih1 _ _ _ _
      | exact LeO.none _
      | refine LeO.ite ?_ ?_
      | refine LeO.bind ?_ (fun _ => ?_)
    · intro y0 y1 y2 y3
      unfold slices_Concat_byte_byte.l1
      repeat' first
      | (with_reducible exact ih0 _ _ _ _ _)
      | (with_reducible exact ih1 _ _ _ _)
      | (with_reducible exact LeO.refl _)
      | (with_reducible exact LeO.none _)
      | (with_reducible refine LeO.ite ?_ ?_)
      | (with_reducible refine LeO.bind ?_ (fun _ => ?_))
      | exact ih0 _ _ _ _ _
      | exact ih1 _ _ _ _
      | exact LeO.none _
      | refine LeO.ite ?_ ?_
      | refine LeO.bind ?_ (fun _ => ?_)
theorem slices_Concat_byte_byte.mono : ∀ a0 k, LeO (slices_Concat_byte_byte.f k a0) (slices_Concat_byte_byte.f (k + 1) a0) := by
  intro a0 k
  obtain ⟨ih0, ih1⟩ := slices_Concat_byte_byte.mono_l k
  unfold slices_Concat_byte_byte.f
  repeat' first
      | (with_reducible exact ih0 _ _ _ _ _)
      | (with_reducible exact ih1 _ _ _ _)
      | (with_reducible exact LeO.refl _)
      | (with_reducible exact LeO.none _)
      | (with_reducible refine LeO.ite ?_ ?_)
      | (with_reducible refine LeO.bind ?_ (fun _ => ?_))
      | exact ih0 _ _ _ _ _
      | exact ih1 _ _ _ _
      | exact LeO.none _
      | refine LeO.ite ?_ ?_
      | refine LeO.bind ?_ (fun _ => ?_)
set_option maxHeartbeats 8000000 in
set_option maxRecDepth 100000 in
theorem slices_Concat_byte_byte.calls (k : Nat) (A0 : Option Addr) (c0 : Nat) (l0 : List (List Int)) (r : List Int) (w : World) (hr0 : Kd.C (Kd.slice 5 (Kd.int .u8)) w A0 l0.length l0) (hc0 : l0.length ≤ c0) (h : slices_Concat_byte_byte.f k l0 = some r) :
    Calls Try.prog 54 #[.slice A0 l0.length c0] w fun e w' => ∃ v0_ : Value, e = .returned (v0_) ∧ Kd.R (Kd.int .u8) 5 w' w.heap.size (fun _ => True) v0_ r ∧ Below w.heap.size w w' := by
  have HR0 := Aside0.mk hr0
  have HC0 := Aside0.mk hc0
  clear hr0 hc0
  have HB := Aside0.mk (Below.refl w.heap.size w)
  have H : (slices_Concat_byte_byte.l0 k l0 0 l0 (l0.length : Int) 0) = some r := h
  clear h
  have H' := Aside0.mk H
  clear H
  go_enter Try.func54, Try.ntmps54
  go_wp2
  go_loopg [3, 11] k (fun kq v3 v11 w' => ∃ (x3_1 : Int) (x11_1 : Int), v3 = .int .i64 x3_1 ∧ v11 = .int .i64 x11_1 ∧ Aside0 (slices_Concat_byte_byte.l0 kq l0 x3_1 l0 (l0.length : Int) x11_1 = some r) ∧ Aside0 (kq ≤ k) ∧ Aside0 (Below w.heap.size w w'))
  case atStart => exact ⟨(0), (0), (by first | rfl | (simp; done) | (simp [*]; done)), (by first | rfl | (simp; done) | (simp [*]; done)), H', ⟨Nat.le_refl _⟩, ⟨by repeat (first | (with_reducible first | exact HB.out | apply below_alloc | apply pw_below_drewN | apply below_drew1) | exact HB.out)⟩⟩
  case round =>
    clear H'
    obtain ⟨x3_1, x11_1, rfl, rfl, HA, HK1, HB⟩ := hrel
    cases gk with
    | zero => exact absurd HA.out (by simp [slices_Concat_byte_byte.l0])
    | succ k1 =>
      have H := HA.out
      clear HA
      simp only [slices_Concat_byte_byte.l0] at H
      by_cases c2 : x11_1 < (l0.length : Int)
      · rw [if_pos c2] at H
        have c2b0 : decide (x11_1 < (l0.length : Int)) = true := decide_eq_true c2
        clear c2
        by_cases c3 : 0 ≤ x11_1
        · rw [if_pos c3] at H
          have c3b0 : decide (0 ≤ x11_1) = true := decide_eq_true c3
          clear c3
          by_cases c4 : x11_1 < (l0.length : Int)
          · rw [if_pos c4] at H
            have c4b0 : decide (x11_1 < (l0.length : Int)) = true := decide_eq_true c4
            clear c4
            by_cases c5 : (wrap64 (x3_1 + ((rd_L1 l0 x11_1).length : Int))) < 0
            · rw [if_pos c5] at H
              exact absurd H (by simp)
            · rw [if_neg c5] at H
              have c5b0 : decide ((wrap64 (x3_1 + ((rd_L1 l0 x11_1).length : Int))) < 0) = false := decide_eq_false c5
              clear c5
              have H' := Aside0.mk H
              clear H
              have p113 : 0 ≤ (x11_1 : Int) := of_decide_eq_true (by first | (with_reducible assumption) | assumption)
              have q113 : x11_1 < (l0.length : Int) := of_decide_eq_true (by first | (with_reducible assumption) | assumption)
              obtain ⟨ad113, A113_0, c113_0, e113, hx113_0, hl113_0, hi113_0⟩ := at_L1 HR0.out x11_1 p113 q113
              cases e113
              replace hx113_0 := (HB.out.cell (World.block_lt_of_cell? w _ hx113_0)).trans hx113_0
              have HR113_0 := Aside0.mk hi113_0
              have HC113_0 := Aside0.mk hl113_0
              clear hi113_0 hl113_0
              replace p113 := eq_true p113
              replace q113 := eq_true q113
              go_wp2
              go_roundg k1
              case measure => have := HK1.out; omega
              case rel => exact ⟨(wrap64 (x3_1 + ((rd_L1 l0 x11_1).length : Int))), (wrap64 (x11_1 + 1)), (by first | rfl | (simp; done) | (simp [*]; done)), (by first | rfl | (simp; done) | (simp [*]; done)), H', ⟨by have := HK1.out; omega⟩, ⟨by repeat (first | (with_reducible first | exact HB.out | apply below_alloc | apply pw_below_drewN | apply below_drew1) | exact HB.out)⟩⟩
          · rw [if_neg c4] at H
            exact absurd H (by simp)
        · rw [if_neg c3] at H
          exact absurd H (by simp)
      · rw [if_neg c2] at H
        have c2b0 : decide (x11_1 < (l0.length : Int)) = false := decide_eq_false c2
        clear c2
        by_cases c6 : 0 ≤ x3_1
        · rw [if_pos c6] at H
          have c6b0 := eq_true c6
          have c6b1 : decide (0 ≤ x3_1) = true := decide_eq_true c6
          clear c6
          by_cases c7 : (x3_1 : Int).toNat ≤ 140737488355328
          · rw [if_pos c7] at H
            have c7b0 := eq_true c7
            have c7b1 : decide ((x3_1 : Int).toNat ≤ 140737488355328) = true := decide_eq_true c7
            clear c7
            obtain ⟨y114, hy114⟩ : ∃ y_ : List Int, y_ = ((List.replicate 0 0)) := ⟨_, rfl⟩
            replace H : (slices_Concat_byte_byte.l1 k1 y114 l0 (l0.length : Int) 0) = some r := by first | (rw [hy114]; with_reducible exact H) | (have H2_ := (Option.bind_some _ _).symm.trans H; rw [hy114]; with_reducible exact H2_) | (have H2_ := (Option.bind_some _ _).symm.trans H; with_reducible exact H2_) | with_reducible exact H | (rw [hy114]; exact H) | exact H
            have Ny114 := Aside0.mk hy114
            clear hy114
            have H' := Aside0.mk H
            clear H
            go_wp2_with (first | ((with_reducible refine gate_dst (N := 24) rfl ?_); refine Kd.R_grow (Kd.int .u8) _ 5 rfl (N := 24) rfl 22 _ _ rfl x3_1 rfl rfl Try.underlying22 (.int .u8 0) 1 info5 rfl (by decide) (by omega) 0 (ok := fun _ => True) (okp := fun _ => True) rfl (fun _ hk => hk) trivial (of_decide_eq_true (by first | (with_reducible assumption) | assumption)) (Nat.le_trans (Nat.mul_le_mul_right _ (of_decide_eq_true (by first | (with_reducible assumption) | assumption) : x3_1.toNat ≤ 140737488355328)) (by omega)) (Below.refl _ _) (Nat.le_refl _) ?_; intro v115 w8 ho9 hb hg_ hnew_; clear hg_ hnew_; (first | rw [← Ny114.out] at ho9 | (simp only [Int.reduceToNat] at ho9; rw [← Ny114.out] at ho9)); have n0_ := Aside0.mk (Kd.R_lower ho9 (below_size (by repeat (first | (with_reducible first | exact HB.out | apply below_alloc | apply pw_below_drewN | apply below_drew1) | exact HB.out)))); have n1_ := Aside0.mk (below_step (by repeat (first | (with_reducible first | exact HB.out | apply below_alloc | apply pw_below_drewN | apply below_drew1) | exact HB.out)) hb); clear HB; have HO116 := n0_; have HB := n1_; clear n0_ n1_; clear hb ho9))
            go_loopg [6, 27] k1 (fun kq v6 v27 w' => ∃ (x6_2 : List Int) (x27_2 : Int), v27 = .int .i64 x27_2 ∧ Aside0 (slices_Concat_byte_byte.l1 kq x6_2 l0 (l0.length : Int) x27_2 = some r) ∧ Aside0 (kq ≤ k1) ∧ Aside0 (Kd.R (Kd.int .u8) 5 w' w.heap.size (fun _ => True) v6 x6_2) ∧ Aside0 (Below w.heap.size w w'))
            case atStart => exact ⟨(y114), (0), (by first | rfl | (simp; done) | (simp [*]; done)), H', ⟨Nat.le_refl _⟩, ⟨by (with_reducible repeat (first | apply Kd.R_alloc | apply Kd.R_drewN | apply Kd.R_drew)); exact HO116.out⟩, ⟨by repeat (first | (with_reducible first | exact HB.out | apply below_alloc | apply pw_below_drewN | apply below_drew1) | exact HB.out)⟩⟩
            case round =>
              clear H'
              try clear c1
              try clear p1
              try clear q1
              try clear hx1
              try clear c2
              try clear c2b0
              try clear p2
              try clear c3
              try clear c3b0
              try clear c4
              try clear c4b0
              try clear c5
              try clear c5b0
              try clear c6
              try clear c6b0
              try clear c6b1
              try clear p6
              try clear c7
              try clear c7b0
              try clear c7b1
              try clear hx113_0
              try clear p113
              try clear q113
              obtain ⟨x6_2, x27_2, rfl, HA, HK2, HO_6, HB⟩ := hrel
              cases gk with
              | zero => exact absurd HA.out (by simp [slices_Concat_byte_byte.l1])
              | succ k2 =>
                have H := HA.out
                clear HA
                simp only [slices_Concat_byte_byte.l1] at H
                by_cases c10 : x27_2 < (l0.length : Int)
                · rw [if_pos c10] at H
                  have c10b0 : decide (x27_2 < (l0.length : Int)) = true := decide_eq_true c10
                  clear c10
                  by_cases c11 : 0 ≤ x27_2
                  · rw [if_pos c11] at H
                    have c11b0 : decide (0 ≤ x27_2) = true := decide_eq_true c11
                    clear c11
                    by_cases c12 : x27_2 < (l0.length : Int)
                    · rw [if_pos c12] at H
                      have c12b0 : decide (x27_2 < (l0.length : Int)) = true := decide_eq_true c12
                      clear c12
                      by_cases c13 : x6_2.length + (rd_L1 l0 x27_2).length < 140737488355328
                      · rw [if_pos c13] at H
                        have LMc13 := Aside0.mk c13
                        clear c13
                        obtain ⟨y118, hy118⟩ : ∃ y_ : List Int, y_ = (x6_2 ++ (rd_L1 l0 x27_2)) := ⟨_, rfl⟩
                        replace H : (slices_Concat_byte_byte.l1 k2 y118 l0 (l0.length : Int) (wrap64 (x27_2 + 1))) = some r := by first | (rw [hy118]; with_reducible exact H) | (have H2_ := (Option.bind_some _ _).symm.trans H; rw [hy118]; with_reducible exact H2_) | (have H2_ := (Option.bind_some _ _).symm.trans H; with_reducible exact H2_) | with_reducible exact H | (rw [hy118]; exact H) | exact H
                        have Ny118 := Aside0.mk hy118
                        clear hy118
                        have H' := Aside0.mk H
                        clear H
                        have p117 : 0 ≤ (x27_2 : Int) := of_decide_eq_true (by first | (with_reducible assumption) | assumption)
                        have q117 : x27_2 < (l0.length : Int) := of_decide_eq_true (by first | (with_reducible assumption) | assumption)
                        obtain ⟨ad117, A117_0, c117_0, e117, hx117_0, hl117_0, hi117_0⟩ := at_L1 HR0.out x27_2 p117 q117
                        cases e117
                        replace hx117_0 := (HB.out.cell (World.block_lt_of_cell? w _ hx117_0)).trans hx117_0
                        have HR117_0 := Aside0.mk hi117_0
                        have HC117_0 := Aside0.mk hl117_0
                        clear hi117_0 hl117_0
                        replace p117 := eq_true p117
                        replace q117 := eq_true q117
                        go_wp2_with (first | ((with_reducible refine gate_builtin (b := .append) (xs := #[.tmp 31, .tmp 32]) rfl ?_); at_builtin; refine Kd.R_append_rows (Kd.int .u8) (w0 := w) w.heap.size rfl (.tmp 31) (.tmp 32) 22 5 (.int .u8 0) 1 rfl Try.underlying22 info5 rfl (by decide) (by omega) u6 x6_2 (rd_L1 l0 x27_2) _ _ _ (fun _ => True) (fun _ => False) rfl rfl ?aO ?aR (fun _ _ h => h) (fun _ h => h.elim) ?aF ?aB ?aS ?aL ?_; (case aR => repeat (first | exact (Kd.C_below HR117_0.out HB.out) | (with_reducible refine Kd.C_alloc ?_ _) | (with_reducible refine Kd.C_drewN ?_ _) | (with_reducible refine Kd.C_drew ?_))); (case aB => exact (by repeat (first | (with_reducible first | exact HB.out | apply below_alloc | apply pw_below_drewN | apply below_drew1) | exact HB.out))); (case aF => exact (fun _ _ => trivial)); (case aO => exact (by (with_reducible repeat (first | apply Kd.R_alloc | apply Kd.R_drewN | apply Kd.R_drew)); exact HO_6.out)); (case aS => exact (below_size (by repeat (first | (with_reducible first | exact HB.out | apply below_alloc | apply pw_below_drewN | apply below_drew1) | exact HB.out)))); (case aL => have := LMc13.out; omega); intro v119 w14 ho hb hg hat; rw [← Ny118.out] at ho; have n0_ := Aside0.mk (hb); have n1_ := Aside0.mk (ho); clear HB; clear HO_6; have HB := n0_; have HO120 := n1_; clear n0_ n1_; clear ho hb hg hat))
                        go_roundg k2
                        case measure => have := HK1.out; have := HK2.out; omega
                        case rel => exact ⟨(y118), (wrap64 (x27_2 + 1)), (by first | rfl | (simp; done) | (simp [*]; done)), H', ⟨by have := HK1.out; have := HK2.out; omega⟩, ⟨by (with_reducible repeat (first | apply Kd.R_alloc | apply Kd.R_drewN | apply Kd.R_drew)); exact HO120.out⟩, ⟨by repeat (first | (with_reducible first | exact HB.out | apply below_alloc | apply pw_below_drewN | apply below_drew1) | exact HB.out)⟩⟩
                      · rw [if_neg c13] at H
                        exact absurd H (by simp)
                    · rw [if_neg c12] at H
                      exact absurd H (by simp)
                  · rw [if_neg c11] at H
                    exact absurd H (by simp)
                · rw [if_neg c10] at H
                  have c10b0 : decide (x27_2 < (l0.length : Int)) = false := decide_eq_false c10
                  clear c10
                  obtain rfl := Option.some.inj H
                  go_wp2
                  go_ret
                  exact ⟨_, by first | rfl | (simp [errW_none, errW_some] <;> rfl) | (simp [*, errW_none, errW_some] <;> rfl), by (with_reducible repeat (first | apply Kd.R_alloc | apply Kd.R_drewN | apply Kd.R_drew)); exact HO_6.out, by repeat (first | (with_reducible first | exact HB.out | apply below_alloc | apply pw_below_drewN | apply below_drew1) | exact HB.out)⟩
          · rw [if_neg c7] at H
            exact absurd H (by simp)
        · rw [if_neg c6] at H
          exact absurd H (by simp)

end Go.Proofs.Ytfdpbdaekfdnjaa.X
-- Written by a program of this session (a turn of the kit's print with contracts by hand). Not trusted: Lean checks it.
namespace Go.Proofs.Ytfdpbdaekfdnjaa.X
open Go.RowKit Go.Proofs.YtfdpbdaekfdnjaaW.PrintWords Go.Proofs.YtfdpbdaekfdnjaaW.PrintLast Go.Proofs.YtfdpbdaekfdnjaaW.PrintMore
attribute [local go_sem] max2_int min2_int max_two min_two max_three min_three max_four min_four   -- for this text's walks alone
set_option linter.unusedVariables false
set_option linter.unusedSimpArgs false

/-! ### octets_Join: function 42 -/
def octets_Join.f (k : Nat) (l0 : List (List Int)) : Option (List Int) := (slices_Concat_byte_byte.f k l0).bind fun t121 => (some t121)
theorem octets_Join.mono : ∀ a0 k, LeO (octets_Join.f k a0) (octets_Join.f (k + 1) a0) := by
  intro a0 k
  unfold octets_Join.f
  repeat' first
      | (with_reducible exact slices_Concat_byte_byte.mono _ _)
      | (with_reducible exact LeO.refl _)
      | (with_reducible exact LeO.none _)
      | (with_reducible refine LeO.ite ?_ ?_)
      | (with_reducible refine LeO.bind ?_ (fun _ => ?_))
      | exact slices_Concat_byte_byte.mono _ _
      | exact LeO.none _
      | refine LeO.ite ?_ ?_
      | refine LeO.bind ?_ (fun _ => ?_)
set_option maxHeartbeats 8000000 in
set_option maxRecDepth 100000 in
theorem octets_Join.calls (k : Nat) (A0 : Option Addr) (c0 : Nat) (l0 : List (List Int)) (r : List Int) (w : World) (hr0 : Kd.C (Kd.slice 5 (Kd.int .u8)) w A0 l0.length l0) (hc0 : l0.length ≤ c0) (h : octets_Join.f k l0 = some r) :
    Calls Try.prog 42 #[.slice A0 l0.length c0] w fun e w' => ∃ v0_ : Value, e = .returned (v0_) ∧ Kd.R (Kd.int .u8) 5 w' w.heap.size (fun _ => True) v0_ r ∧ Below w.heap.size w w' := by
  have HR0 := Aside0.mk hr0
  have HC0 := Aside0.mk hc0
  clear hr0 hc0
  have HB := Aside0.mk (Below.refl w.heap.size w)
  have H : ((slices_Concat_byte_byte.f k l0).bind fun t121 => (some t121)) = some r := h
  clear h
  replace H := Option.bind_eq_some_iff.mp H
  obtain ⟨t121, A20, H⟩ := H
  replace H : (some t121) = some r := H
  have A2 := Aside0.mk A20
  clear A20
  obtain rfl := Option.some.inj H
  go_enter Try.func42, Try.ntmps42
  go_wp2_with (first | ((with_reducible refine gate_callee (f := 54) rfl ?_); refine goesL_ (some 4) rfl rfl Try.func54 (by kernel_rfl) rfl #[.slice A0 l0.length c0] rfl (by (try simp only [List.map_toArray, List.map_cons, List.map_nil]); first | done | rfl | (simp only [List.length_drop, List.length_take]; rfl)) ?_; (with_reducible refine (slices_Concat_byte_byte.calls k _ _ l0 t121 _ ?side1 ?side2 A2.out).mono ?_); (case side1 => repeat (first | exact HR0.out | (with_reducible refine Kd.C_alloc ?_ _) | (with_reducible refine Kd.C_drewN ?_ _) | (with_reducible refine Kd.C_drew ?_))); (case side2 => exact HC0.out); rintro e w3 ⟨v122, rfl, ho0, hb⟩; refine ⟨_, rfl, ?_⟩; have n0_ := Aside0.mk (Kd.R_lower ho0 (below_size (by repeat (first | (with_reducible first | exact HB.out | apply below_alloc | apply pw_below_drewN | apply below_drew1) | exact HB.out)))); have n1_ := Aside0.mk (below_step (by repeat (first | (with_reducible first | exact HB.out | apply below_alloc | apply pw_below_drewN | apply below_drew1) | exact HB.out)) hb); clear HB; have HO123 := n0_; have HB := n1_; clear n0_ n1_; (try clear hb); (try clear hb2); (try clear hk); (try clear hi); (try clear ho0)))
  go_ret
  exact ⟨_, by first | rfl | (simp [errW_none, errW_some] <;> rfl) | (simp [*, errW_none, errW_some] <;> rfl), by (with_reducible repeat (first | apply Kd.R_alloc | apply Kd.R_drewN | apply Kd.R_drew)); exact HO123.out, by repeat (first | (with_reducible first | exact HB.out | apply below_alloc | apply pw_below_drewN | apply below_drew1) | exact HB.out)⟩

end Go.Proofs.Ytfdpbdaekfdnjaa.X
/- slices.Backward over octets: the iterator's contract, for a loop body that may write the octets. -/
namespace Go.Proofs.Ytfdpbdaekfdnjaa.X
open Go.RowKit Go.Shelf Go.Proofs.YtfdpbdaekfdnjaaW.PrintWords Go.Proofs.YtfdpbdaekfdnjaaW.PrintLast Go.Proofs.YtfdpbdaekfdnjaaW.PrintMore
set_option linter.unusedVariables false
set_option linter.unusedSimpArgs false
attribute [local go_sem] Oper.semAt_some

/-- The octets of a row are octets still, and its value's box is as it was. -/
def KeepsBytes (Bs b len : Nat) (W W' : World) : Prop :=
  (∀ v, W.cell? ⟨Bs, 0, none⟩ = some v → W'.cell? ⟨Bs, 0, none⟩ = some v) ∧ ∀ j, j < len → (∃ v, W.cell? ⟨b, j, none⟩ = some (.int .u8 v)) → ∃ v, W'.cell? ⟨b, j, none⟩ = some (.int .u8 v)
theorem KeepsBytes.trans {Bs b len : Nat} {X Y Z : World} (h : KeepsBytes Bs b len X Y) (k : KeepsBytes Bs b len Y Z) : KeepsBytes Bs b len X Z :=
  ⟨fun v hv => k.1 v (h.1 v hv), fun j hj hv => k.2 j hj (h.2 j hj hv)⟩

theorem KeepsBytes.of_grown {Bs b len : Nat} {W W' : World} {row : Option Nat} (hg : W.grownBy W' row) (hr : ∀ r, row = some r → ∃ o : Obj, W.heap[r]? = some o ∧ o.isCells = false) : KeepsBytes Bs b len W W' :=
  ⟨fun v hv => cell_kept hv hg hr, fun j hj ⟨v, hv⟩ => ⟨v, cell_kept hv hg hr⟩⟩

/-- What has come when d are still to come. -/
def Came (len d : Nat) (ys : List {x : Nat × Int // x.1 < len}) : Prop := ys.length + d = len ∧ ys.map (fun y => y.1.1) = (List.range len).reverse.take (len - d)
theorem Came.step {len m : Nat} {ys : List {x : Nat × Int // x.1 < len}} (h : Came len (m + 1) ys) (v : Int) (hm : m < len) : Came len m (ys ++ [⟨(m, v), hm⟩]) := by
  obtain ⟨h1, h2⟩ := h
  refine ⟨by simp; omega, ?_⟩
  rw [List.map_append, h2, show len - m = (len - (m + 1)) + 1 by omega, List.take_succ_eq_append_getElem (by simp; omega)]
  congr 1
  simp only [List.map_cons, List.map_nil, List.getElem_reverse, List.length_range, List.getElem_range]
  congr 1
  omega

set_option maxRecDepth 100000 in
set_option maxHeartbeats 2000000 in
theorem back1_in (F : Fence) (n : Nat) (h66 : F.fn 66) (hro : F.round = none) (hn : 1 ≤ n) (l Bs b len cap : Nat) (hlen : len ≤ 1000000) (J Jx : List {x : Nat × Int // x.1 < len} → World → Prop)
    (hY : ∀ pre x W, J pre W → pre.length < len → YieldAt F (n - 1) Try.prog l #[.int .i64 (x.1.1 : Int), .int .u8 x.1.2] W fun e W' =>
      (e = .returned (.bool true) ∧ J (pre ++ [x]) W' ∧ KeepsBytes Bs b len W W') ∨ (e = .returned (.bool false) ∧ Jx (pre ++ [x]) W'))
    (W : World) (hBs : W.cell? ⟨Bs, 0, none⟩ = some (.slice (some ⟨b, 0, none⟩) len cap)) (hc : ∀ j, j < len → ∃ v, W.cell? ⟨b, j, none⟩ = some (.int .u8 v)) (h0 : J [] W) :
    CallsIn F n Try.prog 66 #[.func (.yield l) #[] #[], .pointer (some ⟨Bs, 0, none⟩)] W fun e W' => (∃ v, e = .returned v) ∧
      ((∃ ys : List {x : Nat × Int // x.1 < len}, Came len 0 ys ∧ J ys W') ∨ (∃ pre, True ∧ Jx pre W')) := by
  refine callsIn_of_wp Try.func66 rfl h66 ?_ hro
  simp only [Try.ntmps66, List.size_toArray, List.length_cons, List.length_nil, Nat.reduceAdd, Nat.reduceSub, Array.replicate_succ, Array.replicate_zero, List.push_toArray, List.append_toArray, List.nil_append, List.cons_append]
  gi_wp2
  gi_loopw [3] (fun i wr => ∃ (d : Nat) (ys : List {x : Nat × Int // x.1 < len}), d ≤ len ∧ i = .int .i64 ((d : Int) - 1) ∧ Came len d ys ∧ J ys wr ∧ KeepsBytes Bs b len W wr)
    (fun i _ => (intOf i + 1).toNat)
  case atStart => exact ⟨len, [], Nat.le_refl _, rfl, ⟨by simp, by simp⟩, h0, ⟨fun _ h => h, fun _ _ h => h⟩⟩
  case round =>
    obtain ⟨d, ys, hd, rfl, hys, hJs, hnx⟩ := hrel
    have hb1 := hnx.1 _ hBs
    rcases d with _ | m
    · gi_wp2
      go_end0
      exact ⟨⟨_, rfl⟩, .inl ⟨_, hys, hJs⟩⟩
    · have hml : m < len := hd
      obtain ⟨v, hv⟩ := hnx.2 m hml (hc _ hml)
      obtain ⟨fn, tmps, assign, body, hy, hR⟩ := hY ys ⟨(m, v), hml⟩ wr hJs (by have := hys.1; omega)
      dsimp only at hy
      rw [show (((m + 1 : Nat) : Int) - 1) = (m : Int) by omega]
      gi_wp2
      refine hR.mono ?_
      rintro e W3 (⟨rfl, hJ3, hk3⟩ | ⟨rfl, hJx3⟩)
      · gi_wp2
        go_roundw
        case rel => exact ⟨m, _, by omega, rfl, hys.step v hml, hJ3, hnx.trans hk3⟩
        case measure => simp [intOf]
      · gi_wp2
        refine bodyPost_ret (results_none rfl _ _ _) rfl ?_
        exact ⟨⟨_, rfl⟩, .inr ⟨_, trivial, hJx3⟩⟩
end Go.Proofs.Ytfdpbdaekfdnjaa.X
/- octets.Put: a number in so many octets. -/
namespace Go.Proofs.Ytfdpbdaekfdnjaa.X
open Go.RowKit Go.Shelf Go.Proofs.YtfdpbdaekfdnjaaW.PrintWords Go.Proofs.YtfdpbdaekfdnjaaW.PrintLast Go.Proofs.YtfdpbdaekfdnjaaW.PrintMore
set_option linter.unusedVariables false
set_option linter.unusedSimpArgs false
attribute [local go_sem] Oper.semAt_some max2_int min2_int max_two min_two max_three min_three max_four min_four

theorem back_in (F : Fence) (n : Nat) (h55 : F.fn 55) (hro : F.round = none) (a : Option Addr) (len cap : Nat) (w : World) :
    CallsIn F n Try.prog 55 #[.slice a len cap] w fun e w' => e = .returned (.func (.func 66) #[] #[.pointer (some ⟨w.heap.size, 0, none⟩)]) ∧ w' = w.alloc (.cells #[.slice a len cap] 22) := by
  refine callsIn_of_wp Try.func55 rfl h55 ?_ hro
  simp only [Try.ntmps55, List.size_toArray, List.length_cons, List.length_nil, Nat.reduceAdd, Nat.reduceSub, Array.replicate_succ, Array.replicate_zero, List.push_toArray, List.append_toArray, List.nil_append, List.cons_append]
  gi_wp2
  go_ret
  exact ⟨rfl, rfl⟩

/-- The lowest octets of a number, the highest first. -/
def putL (u : Int) : Nat → List Int
  | 0 => []
  | k + 1 => (u / 256 ^ k % 256) :: putL u k
def octets_Put.f (a0 : Int) (a1 : Int) : Option (List Int) := some (putL (IntKind.u64.wrap a0) (mn (mx a1 0) 8).toNat)

def pstp (st : List Int × Int) (i : Nat) : List Int × Int := (st.1.set i (st.2 % 256), st.2 / 256)

theorem blk_own {W W' : World} {g : Nat} {t : TypeId} {cs : Array Value} {row : Option Nat} (h : W.heap[g]? = some (.cells cs t (0, 0))) (hg : W.grownBy W' row) (hr : ∀ r, row = some r → ∃ o : Obj, W.heap[r]? = some o ∧ o.isCells = false) : W'.heap[g]? = some (.cells cs t (0, 0)) :=
  blk_grown h hg (fun e => by obtain ⟨o, ho, hc⟩ := hr g e.symm; rw [h] at ho; cases ho; cases hc)

def putF (s : Nat) (u : Int) (is : List Nat) : List Int × Int := is.foldl pstp (List.replicate s 0, u)
theorem putF_snoc (s : Nat) (u : Int) (is : List Nat) (i : Nat) : putF s u (is ++ [i]) = pstp (putF s u is) i := by simp [putF]
theorem foldl_pstp (is : List Nat) : ∀ st : List Int × Int, (is.foldl pstp st).1.length = st.1.length ∧ (0 ≤ st.2 → st.2 < 18446744073709551616 → 0 ≤ (is.foldl pstp st).2 ∧ (is.foldl pstp st).2 < 18446744073709551616) := by
  induction is with
  | nil => intro st; exact ⟨rfl, fun a b => ⟨a, b⟩⟩
  | cons i is ih =>
    intro st
    obtain ⟨h1, h2⟩ := ih (pstp st i)
    refine ⟨by rw [List.foldl_cons, h1]; simp [pstp], fun a b => ?_⟩
    rw [List.foldl_cons]
    exact h2 (by simp only [pstp]; omega) (by simp only [pstp]; omega)
theorem putF_len (s : Nat) (u : Int) (is : List Nat) : (putF s u is).1.length = s := by unfold putF; rw [(foldl_pstp is _).1]; simp
theorem putF_nonneg (s : Nat) (u : Int) (hu : 0 ≤ u ∧ u < 18446744073709551616) (is : List Nat) : 0 ≤ (putF s u is).2 ∧ (putF s u is).2 < 18446744073709551616 := (foldl_pstp is _).2 hu.1 hu.2
/-- From the last place on to the first one: the octets. -/
theorem putF_all (s : Nat) (u : Int) : ∀ k, k ≤ s → putF s u (((List.range s).reverse).take k) = (List.replicate (s - k) 0 ++ putL u k, u / 256 ^ k) := by
  intro k
  induction k with
  | zero => intro _; simp [putF, putL]
  | succ k ih =>
    intro hk
    rw [List.take_succ_eq_append_getElem (by simp; omega), putF_snoc, ih (by omega)]
    simp only [pstp, List.getElem_reverse, List.length_range, List.getElem_range, putL]
    have e1 : s - k = (s - (k + 1)) + 1 := by omega
    have e2 : s - 1 - k = s - (k + 1) := by omega
    refine Prod.ext ?_ ?_
    · simp only [e2]
      rw [e1, List.replicate_succ', List.append_assoc, List.set_append_right _ _ (by simp)]
      simp
    · simp only
      rw [Int.pow_succ, Int.ediv_ediv_of_nonneg (by exact Int.pow_nonneg (by omega))]
theorem putF_end (s : Nat) (u : Int) (ys : List {x : Nat × Int // x.1 < s}) (h : Came s 0 ys) : (putF s u (ys.map (fun y => y.1.1))).1 = putL u s := by
  rw [h.2, Nat.sub_zero, putF_all s u s (Nat.le_refl _)]
  simp

/-- What the loop over the octets keeps. -/
structure PutInv (w : World) (s : Nat) (u : Int) (is : List Nat) (W : World) : Prop where
  row : W.heap[w.heap.size]? = some (.cells (nums .u8 (putF s u is).1).toArray 5 (0, 0))
  box : W.heap[w.heap.size + 1]? = some (.cells #[.slice (some ⟨w.heap.size, 0, none⟩) s s] 22 (0, 0))
  num : W.heap[w.heap.size + 1 + 1]? = some (.cells #[.int .u64 (putF s u is).2] 66 (0, 0))
  seq : W.heap[w.heap.size + 1 + 1 + 1]? = some (.cells #[.slice (some ⟨w.heap.size, 0, none⟩) s s] 22 (0, 0))

theorem putL_len (u : Int) : ∀ s, (putL u s).length = s
  | 0 => rfl
  | s + 1 => by simp [putL, putL_len u s]
theorem R_of_blk {W : World} {g e base cap : Nat} {k : IntKind} {ok : Nat → Prop} {xs : List Int} (h : W.heap[g]? = some (.cells (nums k xs).toArray e (0, 0))) (hb : base ≤ g) (hc : xs.length = cap) (hm : cap ≤ 9223372036854775807) (hok : ∀ k, ok k) :
    Kd.R (Kd.int k) e W base ok (.slice (some ⟨g, 0, none⟩) xs.length cap) xs := by
  subst hc
  refine Kd.R_of_own (enc := Value.int k) ⟨by simp [encs], .inr ⟨g, xs.length, _, rfl, hb, h, Nat.le_refl _, by simpa [maxLen] using hm, by simp [nums], ?_⟩⟩ (fun k _ => hok k)
  simp [nums, encs, List.take_of_length_le]

theorem nums_set (k : IntKind) (xs : List Int) (i : Nat) (x : Int) : (nums k xs).toArray.setIfInBounds i (.int k x) = (nums k (xs.set i x)).toArray := by
  simp [nums, List.map_set]
theorem PutInv.step {w : World} {s : Nat} {u : Int} {is : List Nat} {W : World} (h : PutInv w s u is W) (i : Nat) :
    PutInv w s u (is ++ [i]) ((W.setCell ⟨w.heap.size, i, none⟩ (.int .u8 ((putF s u is).2 % 256))).setCell ⟨w.heap.size + 1 + 1, 0, none⟩ (.int .u64 ((putF s u is).2 / 256))) := by
  rw [show w.heap.size + 1 + 1 = w.heap.size + 2 from rfl]
  refine ⟨?_, ?_, ?_, ?_⟩
  · refine blk_far ?_ (by dsimp only; omega) _
    rw [putF_snoc, pstp, ← nums_set]
    exact blk_set h.row i _
  · exact blk_far (blk_far h.box (by dsimp only; omega) _) (by dsimp only; omega) _
  · rw [putF_snoc, pstp]
    exact blk_set (blk_far h.num (by dsimp only; omega) _) 0 _
  · exact blk_far (blk_far h.seq (by dsimp only; omega) _) (by dsimp only; omega) _
theorem PutInv.bytes {w : World} {s : Nat} {u : Int} {is : List Nat} {W : World} (h : PutInv w s u is W) (j : Nat) (hj : j < s) : W.cell? ⟨w.heap.size, j, none⟩ = some (.int .u8 ((putF s u is).1[j]?.getD 0)) := by
  have hl0 := putF_len s u is
  rw [blk_cell h.row]
  simp only [nums, List.getElem?_toArray, List.getElem?_map]
  rw [List.getElem?_eq_getElem (by omega)]
  rfl

set_option maxRecDepth 100000 in
set_option maxHeartbeats 4000000 in
theorem octets_Put.calls (a0 : Int) (a1 : Int) (r : List Int) (w : World) (h : octets_Put.f a0 a1 = some r) :
    Calls Try.prog 43 #[.int .i64 a0, .int .i64 a1] w fun e w' => ∃ v0_ : Value, e = .returned (v0_) ∧ Kd.R (Kd.int .u8) 5 w' w.heap.size (fun _ => True) v0_ r ∧ Below w.heap.size w w' := by
  obtain ⟨m1, he1⟩ : ∃ m1 : Int, (if a1 < 0 then 0 else a1) = m1 := ⟨_, rfl⟩
  have hm0 : 0 ≤ m1 := by rw [← he1]; split <;> omega
  obtain ⟨s, he2, hs8⟩ : ∃ s : Nat, (if 8 < m1 then 8 else m1) = (s : Int) ∧ s ≤ 8 := ⟨(if 8 < m1 then 8 else m1).toNat, by split <;> omega, by split <;> omega⟩
  obtain rfl : putL (IntKind.u64.wrap a0) s = r := by
    have e : mn (mx a1 0) 8 = (s : Int) := by rw [← he2, ← he1]; unfold mn mx; rfl
    simpa [octets_Put.f, e] using h
  clear h
  have hmk := print_make (P := Try.prog) 22 5 .u8 1 Try.underlying22 info5 (by omega) s (by omega)
  refine callsIn_wide (n := 5).1 ?_
  have hro : Fence.wide.round = none := rfl
  have h1 : 1 ≤ 5 := by omega
  have h55 : Fence.wide.fn 55 := trivial
  have h66 : Fence.wide.fn 66 := trivial
  refine callsIn_of_wp_marks Try.func43 rfl trivial ?_ hro
  simp only [Try.ntmps43, List.size_toArray, List.length_cons, List.length_nil, Nat.reduceAdd, Nat.reduceSub, Array.replicate_succ, Array.replicate_zero, List.push_toArray, List.append_toArray, List.nil_append, List.cons_append]
  gi_wp2_with (gi_at_call 55; refine (back_in Fence.wide 4 h55 hro _ _ _ _).mono ?_; rintro e w' ⟨rfl, rfl⟩)
  obtain ⟨W0, hW0⟩ : ∃ W0, ((((w.alloc (Obj.cells (madeCells #[Value.int IntKind.u8 0] s) 5)).alloc (Obj.cells #[Value.slice (some { block := w.heap.size, off := 0 }) s s] 22)).alloc (Obj.cells #[Value.int IntKind.u64 (IntKind.u64.wrap a0)] 66)).alloc (Obj.cells #[Value.slice (some { block := w.heap.size, off := 0 }) s s] 22)) = W0 := ⟨_, rfl⟩
  rw [hW0]
  have hsz : W0.heap.size = w.heap.size + 4 := by rw [← hW0]; simp
  have hmc : madeCells #[Value.int IntKind.u8 0] s = (nums .u8 (List.replicate s 0)).toArray := by
    apply Array.ext'
    apply List.ext_getElem
    · simp [nums, madeCells]
    · intro i h1 h2
      simp [nums, madeCells, Nat.mod_one]
  have hI0 : PutInv w s (IntKind.u64.wrap a0) [] W0 := by
    rw [← hW0]
    have b0 := blk_new w (Obj.cells (madeCells #[Value.int IntKind.u8 0] s) 5)
    have b1 := blk_new (w.alloc (Obj.cells (madeCells #[Value.int IntKind.u8 0] s) 5)) (Obj.cells #[Value.slice (some { block := w.heap.size, off := 0 }) s s] 22)
    have b2 := blk_new ((w.alloc (Obj.cells (madeCells #[Value.int IntKind.u8 0] s) 5)).alloc (Obj.cells #[Value.slice (some { block := w.heap.size, off := 0 }) s s] 22)) (Obj.cells #[Value.int IntKind.u64 (IntKind.u64.wrap a0)] 66)
    have b3 := blk_new (((w.alloc (Obj.cells (madeCells #[Value.int IntKind.u8 0] s) 5)).alloc (Obj.cells #[Value.slice (some { block := w.heap.size, off := 0 }) s s] 22)).alloc (Obj.cells #[Value.int IntKind.u64 (IntKind.u64.wrap a0)] 66)) (Obj.cells #[Value.slice (some { block := w.heap.size, off := 0 }) s s] 22)
    simp only [World.size_alloc] at b1 b2 b3
    exact ⟨by rw [hmc] at b0 ⊢; exact blk_alloc (blk_alloc (blk_alloc b0 _) _) _, blk_alloc (blk_alloc b1 _) _, blk_alloc b2 _, b3⟩
  have hB0 : Below w.heap.size w W0 := by rw [← hW0]; exact below_alloc (below_alloc (below_alloc (below_alloc (Below.refl _ _) _) _) _) _
  have hu : 0 ≤ IntKind.u64.wrap a0 ∧ IntKind.u64.wrap a0 < 18446744073709551616 := by rw [IntKind.wrap_u64]; omega
  obtain ⟨u0, hu0⟩ : ∃ u0, IntKind.u64.wrap a0 = u0 := ⟨_, rfl⟩
  rw [hu0] at hI0 hu ⊢
  have HU := Lib.hid hu0
  clear hW0 he1 he2 hmk hmc hu0
  refine wpIn_rangeFunc_ownG hro h1 (gf := 66) (lb := #[.pointer (some ⟨w.heap.size + 1 + 1 + 1, 0, none⟩)]) rfl h66 (enters_of Try.func66 (by kernel_rfl) rfl)
    (encs := fun x : {x : Nat × Int // x.1 < s} => #[Value.int .i64 (x.1.1 : Int), Value.int .u8 x.1.2]) (Kp := KeepsBytes (w.heap.size + 1 + 1 + 1) w.heap.size s) (S := Came s 0) (Sp := fun _ => True) (N := s) (w0 := W0) ?seq ?kt ?kb (Below.refl _ _) (fun _ => rfl)
    (fun pre W => PutInv w s u0 (pre.map (fun y => y.1.1)) W ∧ Below w.heap.size w W)
    (fun _ _ _ => False)
    ?own (fun _ _ _ _ _ hs _ _ => hs) ⟨hI0, hB0⟩
    (fun x => { tmps := #[Value.int IntKind.i64 a0, Value.int IntKind.i64 a1, undef, undef, Value.slice none 0 0,
          Value.pointer (some { block := w.heap.size + 1, off := 0 }),
          Value.pointer (some { block := w.heap.size + 1 + 1, off := 0 }), Value.int .i64 (x.1.1 : Int), Value.int IntKind.i64 a1,
          Value.int IntKind.i64 m1, Value.int IntKind.i64 ↑s, Value.slice (some { block := w.heap.size, off := 0 }) s s,
          Value.int IntKind.i64 a0, Value.int IntKind.u64 u0,
          Value.slice (some { block := w.heap.size, off := 0 }) s s,
          Value.func (Fn.func 66) #[] #[Value.pointer (some { block := w.heap.size + 1 + 1 + 1, off := 0 })], Value.int .i64 (x.1.1 : Int),
          Value.int .u8 x.1.2, undef, undef, undef, undef, undef, undef, undef, undef], defers := [] }) ?assign ?body ?done ?stop
  case seq =>
    intro l J Jx W hW _ _ hY h0
    have e1 := hW.cell (p := ⟨w.heap.size + 1 + 1 + 1, 0, none⟩) (by simp [hsz])
    have e2 : ∀ j, j < s → ∃ v, W.cell? ⟨w.heap.size, j, none⟩ = some (.int .u8 v) := fun j hj => by
      rw [hW.cell (p := ⟨w.heap.size, j, none⟩) (by simp [hsz]), blk_cell hI0.row]
      have hl := putF_len s u0 []
      exact ⟨_, by simp only [nums, List.getElem?_toArray, List.getElem?_map]; rw [List.getElem?_eq_getElem (by simp only [List.map_nil] at *; omega)]; rfl⟩
    exact back1_in Fence.wide 4 h66 hro (by omega) l _ _ s s (by omega) J Jx hY W (e1.trans (blk_cell hI0.seq 0)) e2 h0
  case kt => exact fun h k => h.trans k
  case kb =>
    intro W l o o' hl ho hc hw
    exact KeepsBytes.of_grown (grownBy_putObj' W l o') (fun r e => by cases e; exact ⟨o, ho, hc⟩)
  case own =>
    exact OwnFrom.and (Own.from (fun s_ A B row hs hg hr => ⟨blk_own hs.row hg hr, blk_own hs.box hg hr, blk_own hs.num hg hr, blk_own hs.seq hg hr⟩) _) (ownFrom_below (Nat.le_refl _) (by omega))
  case assign =>
    intro l x W K hK
    gi_wp2
    exact hK
  case body =>
    rintro l pre ⟨⟨i, v⟩, hx⟩ W ⟨hI, hB⟩ _
    dsimp only at hx ⊢
    have hn0 := putF_nonneg s u0 hu (pre.map (fun y => y.1.1))
    have hl0 := putF_len s u0 (pre.map (fun y => y.1.1))
    have hi := hI.step i
    have hkb : KeepsBytes (w.heap.size + 1 + 1 + 1) w.heap.size s W ((W.setCell ⟨w.heap.size, i, none⟩ (.int .u8 ((putF s u0 (pre.map (fun y => y.1.1))).2 % 256))).setCell ⟨w.heap.size + 1 + 1, 0, none⟩ (.int .u64 ((putF s u0 (pre.map (fun y => y.1.1))).2 / 256))) :=
      ⟨fun v hv => by rw [blk_cell hI.seq] at hv; rw [blk_cell hi.seq]; exact hv, fun j hj _ => ⟨_, hi.bytes j hj⟩⟩
    have HI := Lib.hid hi
    have HKB := Lib.hid hkb
    clear hi hkb
    have c0 := hI.bytes i hx
    have f0 := blk_frozen hI.row i
    have c1 := blk_cell hI.box 0
    have c2 := blk_cell hI.num 0
    have f2 := blk_frozen hI.num 0
    generalize hst : putF s u0 (pre.map (fun y => y.1.1)) = st at *
    clear hst
    obtain ⟨L, u⟩ := st
    dsimp only at *
    gi_wp2
    refine ⟨((KeepsOthers.setCell _ _ _).trans (KeepsOthers.setCell _ _ _)).from _, HKB.out, ?_, below_set (below_set hB (Nat.le_refl _)) (by omega)⟩
    simpa using HI.out
  case done =>
    rintro D ys W hD hys ⟨hI, hB⟩ hK
    have hend := putF_end s u0 ys hys
    have hrow := hI.row
    rw [hend] at hrow
    have c1 := blk_cell hI.box 0
    have HR := Lib.hid hrow
    clear hrow hend
    gi_wp2
    refine ⟨by simp, .inl ⟨_, _, rfl, run_takeDeferred hK, ?_⟩⟩
    refine ⟨_, results_tmp rfl _ _ _, _, rfl, ?_, hB.trans (belowK_b (w := w) (Nat.le_refl _) W D _ _ (by omega) hK rfl rfl)⟩
    have hput : (W.putObj D (.deferred none)).heap[w.heap.size]? = some (.cells (nums .u8 (putL u0 s)).toArray 5 (0, 0)) := blk_own HR.out (grownBy_putObj' W D _) (fun r e => by cases e; exact ⟨_, hK, rfl⟩)
    have hlen : (putL u0 s).length = s := putL_len u0 s
    have := R_of_blk (k := .u8) (e := 5) (ok := fun _ => True) (base := w.heap.size) hput (Nat.le_refl _) (cap := s) (by omega) (by omega) (fun _ => trivial)
    rw [hlen] at this
    rw [HU.out]
    exact this
  case stop =>
    rintro D c pre W _ _ h _
    exact h.elim
end Go.Proofs.Ytfdpbdaekfdnjaa.X
-- Written by a program of this session (a turn of the kit's print with contracts by hand). Not trusted: Lean checks it.
namespace Go.Proofs.Ytfdpbdaekfdnjaa.X
open Go.RowKit Go.Proofs.YtfdpbdaekfdnjaaW.PrintWords Go.Proofs.YtfdpbdaekfdnjaaW.PrintLast Go.Proofs.YtfdpbdaekfdnjaaW.PrintMore
attribute [local go_sem] max2_int min2_int max_two min_two max_three min_three max_four min_four   -- for this text's walks alone
set_option linter.unusedVariables false
set_option linter.unusedSimpArgs false

/-! ### journal_Frame: function 30 -/
def journal_Frame.f (k : Nat) (l0 : List Int) : Option (List Int × Int) := if (l0.length : Int) > 16384 then (some (([] : List Int), 5)) else ((octets_Put.f (l0.length : Int) 3).bind fun t124 => ((octets_Join.f k (([t124, l0] : List (List Int)))).bind fun t130 => (some (t130, 0))))
theorem journal_Frame.mono : ∀ a0 k, LeO (journal_Frame.f k a0) (journal_Frame.f (k + 1) a0) := by
  intro a0 k
  unfold journal_Frame.f
  repeat' first
      | (with_reducible exact octets_Join.mono _ _)
      | (with_reducible exact LeO.refl _)
      | (with_reducible exact LeO.none _)
      | (with_reducible refine LeO.ite ?_ ?_)
      | (with_reducible refine LeO.bind ?_ (fun _ => ?_))
      | exact octets_Join.mono _ _
      | exact LeO.none _
      | refine LeO.ite ?_ ?_
      | refine LeO.bind ?_ (fun _ => ?_)
set_option maxHeartbeats 8000000 in
set_option maxRecDepth 100000 in
theorem journal_Frame.calls (k : Nat) (P0_ : Nat → Prop) (A0 : Option Addr) (c0 : Nat) (l0 : List Int) (r1 : List Int) (r2 : Int) (w : World) (hs0 : Kd.V (Kd.int .u8) 5 w w.heap.size (fun k_ => P0_ k_) (.slice A0 l0.length c0) l0) (h : journal_Frame.f k l0 = some (r1, r2)) :
    Calls Try.prog 30 #[.slice A0 l0.length c0] w fun e w' => ∃ v0_ : Value, e = .returned (.tuple #[v0_, .int .i64 r2]) ∧ Kd.R (Kd.int .u8) 5 w' w.heap.size (fun k_ => (w.heap.size ≤ k_)) v0_ r1 ∧ Below w.heap.size w w' := by
  have HO0 := Aside0.mk (show Kd.V (Kd.int .u8) 5 w w.heap.size (fun k_ => (P0_ k_ ∨ w.heap.size ≤ k_)) (.slice A0 l0.length c0) l0 from Kd.V_mono hs0 (fun k_ hk => .inl hk))
  have HB := Aside0.mk (Below.refl w.heap.size w)
  have H : (if (l0.length : Int) > 16384 then (some (([] : List Int), 5)) else ((octets_Put.f (l0.length : Int) 3).bind fun t124 => ((octets_Join.f k (([t124, l0] : List (List Int)))).bind fun t130 => (some (t130, 0))))) = some (r1, r2) := h
  clear h
  by_cases c2 : (l0.length : Int) > 16384
  · rw [if_pos c2] at H
    have c2b0 : decide (16384 < (l0.length : Int)) = true := decide_eq_true c2
    have c2b1 : decide (16384 < l0.length) = true := decide_eq_true (by omega)
    clear c2
    simp only [Option.some.injEq, Prod.mk.injEq] at H
    obtain ⟨rfl, rfl⟩ := H
    go_enter Try.func30, Try.ntmps30
    go_wp2
    go_ret2
    exact ⟨_, by first | rfl | (simp [errW_none, errW_some] <;> rfl) | (simp [*, errW_none, errW_some] <;> rfl), by first | exact Kd.R_nil _ _ _ _ _ | exact Kd.N_nil _ _ _ _ _ | exact Kd.V_nil _ _ _ _ _ | exact Kd.Q_nil _ _ _ _ _ | exact Kd.S_nil _ _ _ _ _, by repeat (first | (with_reducible first | exact HB.out | apply below_alloc | apply pw_below_drewN | apply below_drew1) | exact HB.out)⟩
  · rw [if_neg c2] at H
    have c2b0 : decide (16384 < (l0.length : Int)) = false := decide_eq_false c2
    have c2b1 : decide (16384 < l0.length) = false := decide_eq_false (by omega)
    clear c2
    replace H := Option.bind_eq_some_iff.mp H
    obtain ⟨t124, A30, H⟩ := H
    replace H : ((octets_Join.f k (([t124, l0] : List (List Int)))).bind fun t130 => (some (t130, 0))) = some (r1, r2) := H
    have A3 := Aside0.mk A30
    clear A30
    obtain ⟨y127, hy127⟩ : ∃ y_ : List (List Int), y_ = (([t124, l0] : List (List Int))) := ⟨_, rfl⟩
    replace H : ((octets_Join.f k y127).bind fun t130 => (some (t130, 0))) = some (r1, r2) := by first | (rw [hy127]; with_reducible exact H) | (have H2_ := (Option.bind_some _ _).symm.trans H; rw [hy127]; with_reducible exact H2_) | (have H2_ := (Option.bind_some _ _).symm.trans H; with_reducible exact H2_) | with_reducible exact H | (rw [hy127]; exact H) | exact H
    have Ny127 := Aside0.mk hy127
    clear hy127
    replace H := Option.bind_eq_some_iff.mp H
    obtain ⟨t130, A40, H⟩ := H
    replace H : (some (t130, 0)) = some (r1, r2) := H
    have A4 := Aside0.mk A40
    clear A40
    simp only [Option.some.injEq, Prod.mk.injEq] at H
    obtain ⟨rfl, rfl⟩ := H
    go_enter Try.func30, Try.ntmps30
    go_wp2_with (first | ((with_reducible refine gate_callee (f := 43) rfl ?_); refine goesL_ (some 9) rfl rfl Try.func43 (by kernel_rfl) rfl #[.int .i64 (l0.length : Int), .int .i64 3] rfl (by (try simp only [List.map_toArray, List.map_cons, List.map_nil]); first | done | rfl | (simp only [List.length_drop, List.length_take]; rfl)) ?_; (with_reducible refine (octets_Put.calls (l0.length : Int) 3 t124 _ A3.out).mono ?_); rintro e w5 ⟨v125, rfl, ho0, hb⟩; refine ⟨_, rfl, ?_⟩; have n0_ := Aside0.mk (Kd.V_elder' (by (with_reducible repeat (first | apply Kd.V_alloc | apply Kd.V_drewN | apply Kd.V_drew)); exact HO0.out) (Kd.R_base ho0) hb); have n1_ := Aside0.mk (Kd.R_lower (Kd.R_newM (M := fun k_ => (w.heap.size ≤ k_)) ho0 (below_size (by repeat (first | (with_reducible first | exact HB.out | apply below_alloc | apply pw_below_drewN | apply below_drew1) | exact HB.out))) (fun k_ h_ => h_)) (below_size (by repeat (first | (with_reducible first | exact HB.out | apply below_alloc | apply pw_below_drewN | apply below_drew1) | exact HB.out)))); have n2_ := Aside0.mk (below_step (by repeat (first | (with_reducible first | exact HB.out | apply below_alloc | apply pw_below_drewN | apply below_drew1) | exact HB.out)) hb); clear HO0; clear HB; have HO0 := n0_; have HO126 := n1_; have HB := n2_; clear n0_ n1_ n2_; (try clear hb); (try clear hb2); (try clear hk); (try clear hi); (try clear ho0); obtain ⟨Ao6, co6, eo6⟩ := Kd.R_slice HO126.out; subst eo6) | ((with_reducible refine gate_dst (N := 11) rfl ?_); refine Kd.N_lit (Kd.slice 5 (Kd.int .u8)) _ 22 ?hg (N' := 11) ?hd (xs := ([t124, l0] : List (List Int))) (inner := [.slice Ao6 t124.length co6, .slice A0 l0.length c0]) (ok := (fun k_ => (P0_ k_ ∨ w.heap.size ≤ k_))) (okp := (fun k_ => (P0_ k_ ∨ w.heap.size ≤ k_))) ?hr ?hp (fun _ hk => hk) ((show ∀ k_, w5.heap.size ≤ k_ → (fun k_ => (P0_ k_ ∨ w.heap.size ≤ k_)) k_ from fun k_ hk => (.inr (Nat.le_trans (below_size (by repeat (first | (with_reducible first | exact HB.out | apply below_alloc | apply pw_below_drewN | apply below_drew1) | exact HB.out))) hk))) _ (Nat.le_refl _)) (Below.refl _ _) (Nat.le_refl _) (by simp) ?_; (case hd => rfl); (case hg => rfl); (case hr => first | (go_simp; done) | (go_simp; rfl)); (case hp => exact (Reps.one (show Kd.FK (Kd.slice 5 (Kd.int .u8)) _ _ t124 [.slice Ao6 t124.length co6] from (Kd.FK_slice_mk (Kd.R_reads' (Kd.R_mono (ok' := (fun k_ => (P0_ k_ ∨ w.heap.size ≤ k_))) (HO126.out) (fun k_ hk => (.inr (hk.1))))).2.1 (Kd.R_F (Kd.R_mono (ok' := (fun k_ => (P0_ k_ ∨ w.heap.size ≤ k_))) (HO126.out) (fun k_ hk => (.inr (hk.1))))))) (Reps.one (show Kd.FK (Kd.slice 5 (Kd.int .u8)) _ _ l0 [.slice A0 l0.length c0] from (Kd.FK_slice_mk (Kd.V_reads' (Kd.V_mono (ok' := (fun k_ => (P0_ k_ ∨ w.heap.size ≤ k_))) (HO0.out) (fun k_ hk => hk.1))).2.1 (Kd.V_F (Kd.V_mono (ok' := (fun k_ => (P0_ k_ ∨ w.heap.size ≤ k_))) (HO0.out) (fun k_ hk => hk.1))))) (Reps.none _ _)))); intro v128 w7 ho8 hb hg_ hnew_; clear hg_ hnew_; (first | rw [← Ny127.out] at ho8 | (simp only [Int.reduceToNat] at ho8; rw [← Ny127.out] at ho8)); have n0_ := Aside0.mk (Kd.V_elder' (by (with_reducible repeat (first | apply Kd.V_alloc | apply Kd.V_drewN | apply Kd.V_drew)); exact HO0.out) (Kd.N_base ho8) hb); have n1_ := Aside0.mk (Kd.N_lower ho8 (below_size (by repeat (first | (with_reducible first | exact HB.out | apply below_alloc | apply pw_below_drewN | apply below_drew1) | exact HB.out)))); have n2_ := Aside0.mk (below_step (by repeat (first | (with_reducible first | exact HB.out | apply below_alloc | apply pw_below_drewN | apply below_drew1) | exact HB.out)) hb); clear HO0; clear HB; clear HO126; have HO0 := n0_; have HO129 := n1_; have HB := n2_; clear n0_ n1_ n2_; clear hb ho8; obtain ⟨Ao9, co9, eo9⟩ := Kd.N_slice HO129.out; subst eo9) | ((with_reducible refine gate_callee (f := 42) rfl ?_); refine goesL_ (some 12) rfl rfl Try.func42 (by kernel_rfl) rfl #[.slice Ao9 y127.length co9] rfl (by (try simp only [List.map_toArray, List.map_cons, List.map_nil]); first | done | rfl | (simp only [List.length_drop, List.length_take]; rfl)) ?_; (with_reducible refine (octets_Join.calls k _ _ y127 t130 _ ?side1 ?side2 A4.out).mono ?_); (case side1 => repeat (first | exact (Kd.N_reads' HO129.out).2.2 | (with_reducible refine Kd.C_alloc ?_ _) | (with_reducible refine Kd.C_drewN ?_ _) | (with_reducible refine Kd.C_drew ?_))); (case side2 => exact (Kd.N_reads' HO129.out).2.1); rintro e w10 ⟨v131, rfl, ho0, hb⟩; refine ⟨_, rfl, ?_⟩; have n0_ := Aside0.mk (Kd.V_elder' (by (with_reducible repeat (first | apply Kd.V_alloc | apply Kd.V_drewN | apply Kd.V_drew)); exact HO0.out) (Kd.R_base ho0) hb); have n1_ := Aside0.mk (Kd.N_elder' (by (with_reducible repeat (first | apply Kd.N_alloc | apply Kd.N_drewN | apply Kd.N_drew)); exact HO129.out) (Kd.R_base ho0) hb); have n2_ := Aside0.mk (Kd.R_lower (Kd.R_newM (M := fun k_ => (w.heap.size ≤ k_)) ho0 (below_size (by repeat (first | (with_reducible first | exact HB.out | apply below_alloc | apply pw_below_drewN | apply below_drew1) | exact HB.out))) (fun k_ h_ => h_)) (below_size (by repeat (first | (with_reducible first | exact HB.out | apply below_alloc | apply pw_below_drewN | apply below_drew1) | exact HB.out)))); have n3_ := Aside0.mk (below_step (by repeat (first | (with_reducible first | exact HB.out | apply below_alloc | apply pw_below_drewN | apply below_drew1) | exact HB.out)) hb); clear HO0; clear HO129; clear HB; have HO0 := n0_; have HO129 := n1_; have HO132 := n2_; have HB := n3_; clear n0_ n1_ n2_ n3_; (try clear hb); (try clear hb2); (try clear hk); (try clear hi); (try clear ho0)))
    go_ret2
    exact ⟨_, by first | rfl | (simp [errW_none, errW_some] <;> rfl) | (simp [*, errW_none, errW_some] <;> rfl), by (with_reducible repeat (first | apply Kd.R_alloc | apply Kd.R_drewN | apply Kd.R_drew)); exact Kd.R_mono HO132.out (fun _ hk => hk.1), by repeat (first | (with_reducible first | exact HB.out | apply below_alloc | apply pw_below_drewN | apply below_drew1) | exact HB.out)⟩

end Go.Proofs.Ytfdpbdaekfdnjaa.X
/- Whole structs and arrays in a block: made, stored, read. -/
namespace Go.Proofs.Ytfdpbdaekfdnjaa.X
open Go.RowKit Go.Proofs.YtfdpbdaekfdnjaaW.PrintWords Go.Proofs.YtfdpbdaekfdnjaaW.PrintLast Go.Proofs.YtfdpbdaekfdnjaaW.PrintMore
set_option linter.unusedVariables false
set_option linter.unusedSimpArgs false

/-- Another array in block g, and no other block turned. -/
structure Stored (g : Nat) (t : TypeId) (cs : Array Value) (w w1 : World) : Prop where
  at_ : w1.heap[g]? = some (.cells cs t (0, 0))
  size : w1.heap.size = w.heap.size
  far : ∀ i, i ≠ g → w1.heap[i]? = w.heap[i]?
  below : ∀ (v : World), Below v.heap.size v w → v.heap.size ≤ g → Below v.heap.size v w1
section
variable {P : Program} {ops : Array Oper} {rest : List Oper} {o : Oper} {a : Act} {Q : Exit → Act → World → Prop}
theorem setCells_stored (g : Nat) (t : TypeId) : ∀ (vs : List Value) (i : Nat) (w : World) (pre suf : List Value), w.heap[g]? = some (.cells (pre ++ suf).toArray t (0, 0)) → pre.length = i → vs.length = suf.length →
    Stored g t (pre ++ vs).toArray w (w.setCells g i vs)
  | [], i, w, pre, suf, h, hp, hl => by
    have : suf = [] := List.length_eq_zero_iff.1 (by simpa using hl.symm)
    subst this
    exact ⟨h, rfl, fun _ _ => rfl, fun v hb _ => hb⟩
  | v :: vs, i, w, pre, suf, h, hp, hl => by
    match suf, hl with
    | s :: suf, hl =>
    have h1 := blk_put (cs' := ((pre ++ [v]) ++ suf).toArray) h i v (by
      subst hp
      simp [List.set_append_right])
    have ih := setCells_stored g t vs (i + 1) (w.setCell ⟨g, i, none⟩ v) (pre ++ [v]) suf h1 (by simp [hp]) (by simpa using hl)
    rw [World.setCells]
    refine ⟨by have := ih.at_; simpa using this, ih.size.trans (World.size_setCell _ _ _), fun j hj => (ih.far j hj).trans ?_, fun u hb hg => ih.below u (by exact hb.setCell hg _) hg⟩
    exact Below.heap_setCell w ⟨g, i, none⟩ v j hj
/-- A whole array stored. -/
theorem store_ev {W : World} (hgd : o.guard = none) (hd : o.dst = none) (ty : TypeId) (x y : Operand) (ho : o.op = .store ty x y) (g : Nat) (cs cells : Array Value) (hx : a.eval x = .pointer (some ⟨g, 0, none⟩)) (hy : a.eval y = .agg cells)
    (hg : W.heap[g]? = some (.cells cs ty (0, 0))) (hs : cs.size = cells.size) (hi : (P.info? ty).map (·.size) = some cells.size) (h1 : cells.all (·.oneCell') = true)
    (h : ∀ w1, Stored g ty cells W w1 → wpList P ops Q rest a w1) : wpList P ops Q (o :: rest) a W := by
  refine wpList_store_mid hgd ty x y ho g 0 cells hx hy (fun j hj => ?_) hi h1 ?_
  · rw [Nat.zero_add, blk_cell hg, blk_frozen hg]
    exact ⟨by rw [Array.getElem?_eq_getElem (by omega)]; rfl, rfl⟩
  · rw [hd]
    have := setCells_stored g ty cells.toList 0 W [] cs.toList (by simpa using hg) rfl (by simpa using hs.symm)
    exact h _ (by simpa using this)
/-- An array of parts that are told. -/
theorem build_ev {W : World} (hgd : o.guard = none) {N : Tmp} (hd : o.dst = some N) (t : TypeId) (parts : Array (Nat × Operand)) (ho : o.op = .build t parts) (cells : Array Value) (hb : P.built t (parts.map fun (i, x) => (i, a.eval x)).toList = some cells)
    (h : wpList P ops Q rest (a.put (some N) (.agg cells)) W) : wpList P ops Q (o :: rest) a W := by
  refine wpList_build hgd t parts ho (by rw [hb]; rfl) ?_
  rw [hb, hd]
  exact h
/-- A whole array read. -/
theorem load_ev {W : World} (hgd : o.guard = none) {N : Tmp} (hd : o.dst = some N) (ty : TypeId) (x : Operand) (ho : o.op = .load ty x) (g : Nat) (cs : Array Value) (d : TypeDesc) (hx : a.eval x = .pointer (some ⟨g, 0, none⟩))
    (hg : W.heap[g]? = some (.cells cs ty (0, 0))) (hu : P.underlying ty = some d) (hd2 : d.isRow = true) (hi : (P.info? ty).map (·.size) = some cs.size)
    (h : wpList P ops Q rest (a.put (some N) (.agg cs)) W) : wpList P ops Q (o :: rest) a W := by
  refine wpList_load_mid hgd ty x ho g 0 hx cs.toList d (fun j v hv => ?_) hu hd2 (by simpa using hi) ?_
  · rw [Nat.zero_add, blk_cell hg]
    simpa using hv
  · rw [hd]
    simpa using h
end
theorem gen_world {P : Program} {c : Code} {Q : Exit → Act → World → Prop} {a : Act} {w0 w : World} (hd : Drawn0 w0 w) (h : ∀ W, Drawn0 w0 W → Code.wp P c Q a W) : Code.wp P c Q a w := h w hd
theorem run_alloc (P : Program) (t : TypeId) (cs : Array Value) (n : Nat) (h : (P.info? t).map (fun i => (i.zero, i.size)) = some (some (.agg cs), n)) (eval : Operand → Value) (o : Oper) (ho : o.op = .alloc t) (W : World) :
    (execOp eval o).run P W = .ok (.value (.pointer (some ⟨W.heap.size, 0, none⟩))) (W.alloc (.cells cs t (0, 0))) := by
  have hz := (zero_of_info h).1
  unfold execOp
  simp [ho, Instr.alloc, hz, newVar, newRow, Value.cells]
end Go.Proofs.Ytfdpbdaekfdnjaa.X
/- slices.Clone of octets. -/
namespace Go.Proofs.Ytfdpbdaekfdnjaa.X
open Go.RowKit Go.Proofs.YtfdpbdaekfdnjaaW.PrintWords Go.Proofs.YtfdpbdaekfdnjaaW.PrintLast Go.Proofs.YtfdpbdaekfdnjaaW.PrintMore
set_option linter.unusedVariables false
set_option linter.unusedSimpArgs false

def slices_Clone_byte_byte.f (l0 : List Int) : Option (List Int) := if l0.length ≤ 140737488355328 then some l0 else none
set_option maxRecDepth 100000 in
set_option maxHeartbeats 4000000 in
theorem cloneB_calls (A0 : Option Addr) (c0 : Nat) (l0 : List Int) (w : World) (hr0 : Kd.C (Kd.int .u8) w A0 l0.length l0) (hc0 : l0.length ≤ c0) (hl : l0.length ≤ 140737488355328) :
    Calls Try.prog 40 #[.slice A0 l0.length c0] w fun e w' => ∃ v : Value, e = .returned v ∧ Kd.R (Kd.int .u8) 5 w' w.heap.size (fun _ => True) v l0 ∧ Below w.heap.size w w' := by
  have HR0 := Lib.hid hr0
  have HL := Lib.hid hl
  cases A0 with
  | none =>
    have h0 : l0 = [] := by
      rcases Nat.eq_zero_or_pos l0.length with h0 | h0
      · exact List.eq_nil_of_length_eq_zero h0
      · obtain ⟨ad, e, _⟩ := hr0.2.2 h0
        cases e
    subst h0
    clear hr0 hl
    have hq : ∀ W : World, (binOp .eql 22 (.slice none ([] : List Int).length c0) (.slice none 0 0)).run Try.prog W = .ok (.bool true) W := fun W => Lib.run_eql_slice_nil W 22 5 none _ _ _ _ Try.underlying22
    simp only [List.length_nil] at hq
    go_enter Try.func40, Try.ntmps40
    go_wp2
    go_ret
    exact ⟨_, rfl, Kd.R_nil _ _ _ _ _, Below.refl _ _⟩
  | some ad =>
    clear hr0 hl
    have hq : ∀ W : World, (binOp .eql 22 (.slice (some ad) l0.length c0) (.slice none 0 0)).run Try.prog W = .ok (.bool false) W := fun W => Lib.run_eql_slice_nil W 22 5 (some ad) _ _ _ _ Try.underlying22
    go_enter Try.func40, Try.ntmps40
    go_wp2_with (first | ((with_reducible refine gate_dst (N := 5) rfl ?_); refine Kd.R_lit (Kd.int .u8) _ 5 ?hg (N := 5) ?hd (xs := ([] : List Int)) (inner := []) (ok := fun _ => True) (okp := fun _ => True) ?hr ?hp (fun _ hk => hk) trivial (Below.refl _ _) (Nat.le_refl _) (by simp) ?_; (case hd => rfl); (case hg => rfl); (case hr => first | (go_simp; done) | (go_simp; rfl)); (case hp => exact Reps.none _ _); intro v5 w1 ho hb hg_ hnew_; clear hg_ hnew_) | ((with_reducible refine gate_builtin (b := .append) (xs := #[.tmp 5, .tmp 6]) rfl ?_); at_builtin; refine Kd.R_append_rows (Kd.int .u8) (w0 := w) w.heap.size rfl (.tmp 5) (.tmp 6) 22 5 _ 1 rfl Try.underlying22 info5 rfl (by decide) (by decide) v5 [] l0 (some ad) l0.length c0 (fun _ => True) (fun _ => False) rfl rfl ho (Kd.C_below HR0.out hb) (fun x cs hp => hp) (fun _ hk => hk.elim) (fun _ _ => trivial) hb hb.size (by have := HL.out; simpa using this) ?_; intro v1 w2 hR2 hb2 hg2 hat2))
    go_ret
    exact ⟨_, rfl, by simpa using hR2, hb2⟩
theorem slices_Clone_byte_byte.calls (A0 : Option Addr) (c0 : Nat) (l0 : List Int) (r : List Int) (w : World) (hr0 : Kd.C (Kd.int .u8) w A0 l0.length l0) (hc0 : l0.length ≤ c0) (h : slices_Clone_byte_byte.f l0 = some r) :
    Calls Try.prog 40 #[.slice A0 l0.length c0] w fun e w' => ∃ v0_ : Value, e = .returned (v0_) ∧ Kd.R (Kd.int .u8) 5 w' w.heap.size (fun _ => True) v0_ r ∧ Below w.heap.size w w' := by
  unfold slices_Clone_byte_byte.f at h
  by_cases hl : l0.length ≤ 140737488355328
  · rw [if_pos hl] at h
    cases h
    exact cloneB_calls A0 c0 l0 w hr0 hc0 hl
  · rw [if_neg hl] at h
    cases h
end Go.Proofs.Ytfdpbdaekfdnjaa.X
/- Disks: what lies in memory, and the calls that only read. -/
namespace Go.Proofs.Ytfdpbdaekfdnjaa.X
open Go.RowKit Go.Proofs.YtfdpbdaekfdnjaaW.PrintWords Go.Proofs.YtfdpbdaekfdnjaaW.PrintLast Go.Proofs.YtfdpbdaekfdnjaaW.PrintMore
set_option linter.unusedVariables false
set_option linter.unusedSimpArgs false

/-- Octets of one's own, in a block that may be longer than the slice's capacity. -/
def DRow (W : World) (base : Nat) (v : Value) (xs : List Int) : Prop :=
  (v = .slice none 0 0 ∧ xs = []) ∨ ∃ g cap cur, v = .slice (some ⟨g, 0, none⟩) xs.length cap ∧ base ≤ g ∧ W.heap[g]? = some (.cells cur 5 (0, 0)) ∧ xs.length ≤ cap ∧ cap ≤ cur.size ∧ cap ≤ maxLen ∧ cur.toList.take xs.length = nums .u8 xs
section
variable {W W1 : World} {base : Nat} {v : Value} {xs : List Int}
theorem DRow.nil (W : World) (base : Nat) : DRow W base (.slice none 0 0) [] := .inl ⟨rfl, rfl⟩
theorem DRow.slice (h : DRow W base v xs) : ∃ A c, v = .slice A xs.length c ∧ xs.length ≤ c := by
  rcases h with ⟨rfl, rfl⟩ | ⟨g, cap, cur, rfl, _, _, hc, _⟩
  · exact ⟨none, 0, rfl, Nat.le_refl _⟩
  · exact ⟨_, _, rfl, hc⟩
theorem DRow.move (h : DRow W base v xs) (hm : ∀ k, v.ownBlock = some k → W1.heap[k]? = W.heap[k]?) : DRow W1 base v xs := by
  rcases h with h | ⟨g, cap, cur, rfl, hb, hh, r⟩
  · exact .inl h
  · exact .inr ⟨g, cap, cur, rfl, hb, (hm g rfl).trans hh, r⟩
theorem DRow.lt (h : DRow W base v xs) : ∀ k, v.ownBlock = some k → base ≤ k ∧ k < W.heap.size := by
  intro k hk
  rcases h with ⟨rfl, _⟩ | ⟨g, cap, cur, rfl, hb, hh, _⟩
  · simp [Value.ownBlock] at hk
  · have : g = k := by simpa [Value.ownBlock] using hk
    subst this
    exact ⟨hb, blk_lt hh⟩
theorem DRow.lower (h : DRow W base v xs) {base' : Nat} (hb : base' ≤ base) : DRow W base' v xs := by
  rcases h with h | ⟨g, cap, cur, e, hg, r⟩
  · exact .inl h
  · exact .inr ⟨g, cap, cur, e, Nat.le_trans hb hg, r⟩
theorem DRow.row {A : Option Addr} {n c : Nat} (h : DRow W base (.slice A n c) xs) : xs.length = n ∧ Kd.C (Kd.int .u8) W A n xs := by
  rcases h with ⟨e, rfl⟩ | ⟨g, cap, cur, e, hb, hh, hc, hcs, hm, ht⟩
  · injection e with e1 e2 e3
    subst e1 e2
    exact ⟨rfl, Kd.C_nil _ _⟩
  · injection e with e1 e2 e3
    subst e1 e2
    refine ⟨rfl, Kd.C_of_reads (d := (0 : Int)) (h1 := fun _ => rfl) ⟨rfl, by unfold maxLen at hm; omega, fun _ => ⟨_, rfl, fun j hj => ?_⟩⟩⟩
    rw [show (⟨g, 0, none⟩ : Addr).add j = ⟨g, j, none⟩ by simp only [Addr.add]; split <;> simp_all, blk_cell hh]
    have e4 : (cur.toList.take xs.length)[j]? = (nums .u8 xs)[j]? := by rw [ht]
    rw [List.getElem?_take_of_lt hj] at e4
    rw [← Array.getElem?_toList, e4]
    simp [nums, List.getD_eq_getElem?_getD, hj]
theorem DRow.take {A : Option Addr} {n c m : Nat} (h : DRow W base (.slice A n c) xs) (hm : m ≤ n) : DRow W base (.slice A m c) (xs.take m) := by
  rcases h with ⟨e, rfl⟩ | ⟨g, cap, cur, e, hb, hh, hc, hcs, hml, ht⟩
  · injection e with e1 e2 e3
    subst e1 e2 e3
    obtain rfl : m = 0 := by omega
    exact .inl ⟨rfl, rfl⟩
  · injection e with e1 e2 e3
    subst e1 e2 e3
    have hl : (xs.take m).length = m := by rw [List.length_take]; omega
    refine .inr ⟨g, c, cur, by rw [hl], hb, hh, by omega, hcs, hml, ?_⟩
    rw [hl]
    have : (cur.toList.take xs.length).take m = (nums .u8 xs).take m := by rw [ht]
    rw [List.take_take, Nat.min_eq_left hm] at this
    rw [this]
    simp [nums, List.map_take]
theorem DRow.cut {A : Option Addr} {n c m : Nat} (h : DRow W base (.slice A n c) xs) (hm : m ≤ n) : DRow W base (.slice A m m) (xs.take m) := by
  rcases h.take hm with ⟨e, e2⟩ | ⟨g, cap, cur, e, hb, hh, hc, hcs, hml, ht⟩
  · injection e with e1 e3 e4
    subst e1 e3
    exact .inl ⟨rfl, e2⟩
  · injection e with e1 e3 e4
    subst e1
    exact .inr ⟨g, m, cur, by rw [← e3], hb, hh, by omega, by omega, by omega, ht⟩
theorem DRow.of_R {ok : Nat → Prop} (h : Kd.R (Kd.int .u8) 5 W base ok v xs) : DRow W base v xs := by
  have ho := Kd.own_of_R h
  have hr := (Kd.R_reads h)
  rcases ho.2 with ⟨rfl, h0⟩ | ⟨g, cap, cur, rfl, hg, hh, hc, hm, hs, ht⟩
  · exact .inl ⟨rfl, List.eq_nil_of_length_eq_zero h0⟩
  · exact .inr ⟨g, cap, cur, rfl, hg, hh, hc, by rw [hs]; omega, hm, by simpa [nums, encs] using ht⟩
end
/-- A disk. -/
structure DiskAt (W : World) (base g : Nat) (v : Value) (xs : List Int) (sure room : Int) : Prop where
  blk : W.heap[g]? = some (.cells #[v, .int .i64 sure, .int .i64 room, .bool true] 49 (0, 0))
  row : DRow W base v xs
  ge : base ≤ g
  ne : ∀ k, v.ownBlock = some k → k ≠ g
/-- Only blocks of S are turned. -/
structure Touch (S : Nat → Prop) (W W1 : World) : Prop where
  os : W1.os = W.os
  tape : W1.tape = W.tape
  output : W1.output = W.output
  size : W.heap.size ≤ W1.heap.size
  block : ∀ k, k < W.heap.size → ¬ S k → W1.heap[k]? = W.heap[k]?
theorem DiskAt.move {W W1 : World} {base g : Nat} {v : Value} {xs : List Int} {sure room : Int} (h : DiskAt W base g v xs sure room) (hg : W1.heap[g]? = W.heap[g]?) (hm : ∀ k, v.ownBlock = some k → W1.heap[k]? = W.heap[k]?) : DiskAt W1 base g v xs sure room :=
  ⟨hg.trans h.blk, h.row.move hm, h.ge, h.ne⟩
theorem DiskAt.below {W W1 : World} {base g : Nat} {v : Value} {xs : List Int} {sure room : Int} (h : DiskAt W base g v xs sure room) (hb : Below W.heap.size W W1) : DiskAt W1 base g v xs sure room :=
  h.move (hb.block _ (blk_lt h.blk)) (fun k hk => hb.block _ (h.row.lt k hk).2)

set_option maxRecDepth 100000 in
set_option maxHeartbeats 4000000 in
theorem is_calls (W : World) (base g : Nat) (v : Value) (xs : List Int) (sure room : Int) (h : DiskAt W base g v xs sure room) :
    Calls Try.prog 39 #[.pointer (some ⟨g, 0, none⟩)] W fun e w' => e = .returned (.bool true) ∧ W = w' := by
  have f3 := blk_cell h.blk 3
  go_enter Try.func39, Try.ntmps39
  go_wp2
  go_ret
  exact ⟨rfl, rfl⟩
set_option maxRecDepth 100000 in
set_option maxHeartbeats 4000000 in
theorem size_calls (W : World) (base g : Nat) (v : Value) (xs : List Int) (sure room : Int) (h : DiskAt W base g v xs sure room) :
    Calls Try.prog 29 #[.pointer (some ⟨g, 0, none⟩)] W fun e w' => e = .returned (.int .i64 xs.length) ∧ W = w' := by
  obtain ⟨A, c, rfl, hc⟩ := h.row.slice
  have f0 := blk_cell h.blk 0
  go_enter Try.func29, Try.ntmps29
  go_wp2_with (go_at_call 39; (with_reducible refine (is_calls _ _ _ _ _ _ _ h).mono ?_); rintro e w' ⟨rfl, rfl⟩)
  go_ret
  exact ⟨rfl, rfl⟩
set_option maxRecDepth 100000 in
set_option maxHeartbeats 4000000 in
theorem loose_calls (W : World) (base g : Nat) (v : Value) (xs : List Int) (sure : Nat) (room : Int) (h : DiskAt W base g v xs sure room) (hs : sure ≤ xs.length) :
    Calls Try.prog 20 #[.pointer (some ⟨g, 0, none⟩)] W fun e w' => e = .returned (.int .i64 ((xs.length : Int) - sure)) ∧ Drawn0 W w' := by
  obtain ⟨A, c, rfl, hc⟩ := h.row.slice
  have hm := Kd.C_max h.row.row.2
  have f0 := blk_cell h.blk 0
  have f1 := blk_cell h.blk 1
  have b0 : (0 : Int) ≤ (xs.length : Int) - sure := by omega
  have b1 : ((xs.length : Int) - sure) ≤ 9223372036854775807 := by omega
  have e1 : IntKind.i64.wrap ((xs.length : Int) - sure) = (xs.length : Int) - sure := by rw [IntKind.wrap_i64]; omega
  go_enter Try.func20, Try.ntmps20
  go_wp2_with (go_at_call 39; (with_reducible refine (is_calls _ _ _ _ _ _ _ h).mono ?_); rintro e w' ⟨rfl, rfl⟩)
  go_quiet (fail)
  go_wp2
  go_ret
  exact ⟨rfl, ⟨_, rfl⟩⟩
end Go.Proofs.Ytfdpbdaekfdnjaa.X
/- Disks: the calls that make or turn one. -/
namespace Go.Proofs.Ytfdpbdaekfdnjaa.X
open Go.RowKit Go.Proofs.YtfdpbdaekfdnjaaW.PrintWords Go.Proofs.YtfdpbdaekfdnjaaW.PrintLast Go.Proofs.YtfdpbdaekfdnjaaW.PrintMore
set_option linter.unusedVariables false
set_option linter.unusedSimpArgs false

theorem Touch.refl (S : Nat → Prop) (W : World) : Touch S W W := ⟨rfl, rfl, rfl, Nat.le_refl _, fun _ _ _ => rfl⟩
theorem Touch.set {S : Nat → Prop} {W W1 : World} {g : Nat} (h : Touch S W W1) (hg : S g) (o : Nat) (x : Value) : Touch S W (W1.setCell ⟨g, o, none⟩ x) :=
  ⟨h.os, h.tape, h.output, by rw [World.size_setCell]; exact h.size, fun k hk hn => (Below.heap_setCell W1 ⟨g, o, none⟩ x k (fun e => hn (by rw [e]; exact hg))).trans (h.block k hk hn)⟩
theorem Touch.drewN {S : Nat → Prop} {W W1 : World} (h : Touch S W W1) (n : Nat) : Touch S W (W1.drewN n) := ⟨h.os, h.tape, h.output, h.size, h.block⟩
theorem Touch.below {S : Nat → Prop} {W W1 w : World} (h : Touch S W W1) (hb : Below w.heap.size w W) (hS : ∀ k, S k → w.heap.size ≤ k) : Below w.heap.size w W1 :=
  ⟨h.os.trans hb.os, h.tape.trans hb.tape, h.output.trans hb.output, Nat.le_trans hb.size h.size, fun k hk => (h.block k (Nat.lt_of_lt_of_le hk hb.size) (fun hs => by have := hS k hs; omega)).trans (hb.block k hk)⟩
set_option maxRecDepth 100000 in
set_option maxHeartbeats 4000000 in
theorem new_calls (w : World) (room r : Int) (hr : mn (mx room 0) 262144 = r) :
    Calls Try.prog 15 #[.int .i64 room] w fun e w' => e = .returned (.pointer (some ⟨w.heap.size, 0, none⟩)) ∧ DiskAt w' w.heap.size w.heap.size (.slice none 0 0) [] 0 r ∧ Below w.heap.size w w' := by
  unfold mn mx at hr
  have HR := Lib.hid hr
  clear hr
  go_enter Try.func15, Try.ntmps15
  go_wp2
  all_goals go_ret
  all_goals (refine ⟨rfl, ⟨?_, DRow.nil _ _, Nat.le_refl _, by simp [Value.ownBlock]⟩, below_alloc (Below.refl _ _) _⟩)
  all_goals (have := HR.out; (first | (rw [← this]; exact blk_new _ _) | (rw [show r = 262144 by (repeat' split at this) <;> omega]; exact blk_new _ _) | (rw [show r = 0 by (repeat' split at this) <;> omega]; exact blk_new _ _) | (rw [show r = room by (repeat' split at this) <;> omega]; exact blk_new _ _)))
set_option maxRecDepth 100000 in
set_option maxHeartbeats 4000000 in
theorem read_calls (W : World) (base g : Nat) (v : Value) (xs : List Int) (sure room : Int) (h : DiskAt W base g v xs sure room) (hl : xs.length ≤ 140737488355328) :
    Calls Try.prog 19 #[.pointer (some ⟨g, 0, none⟩)] W fun e w' => ∃ v1, e = .returned v1 ∧ Kd.R (Kd.int .u8) 5 w' W.heap.size (fun _ => True) v1 xs ∧ Below W.heap.size W w' := by
  obtain ⟨A, c, rfl, hc⟩ := h.row.slice
  have f0 := blk_cell h.blk 0
  go_enter Try.func19, Try.ntmps19
  go_wp2_with (first | (go_at_call 39; (with_reducible refine (is_calls _ _ _ _ _ _ _ h).mono ?_); rintro e w' ⟨rfl, rfl⟩) | (go_at_call 40; go_must ((with_reducible refine (cloneB_calls A c xs _ h.row.row.2 hc hl).mono ?_); rintro e w1 ⟨v1, rfl, ho, hb⟩)))
  go_ret
  exact ⟨_, rfl, ho, hb⟩
set_option maxRecDepth 100000 in
set_option maxHeartbeats 4000000 in
theorem flush_calls (W : World) (base g : Nat) (v : Value) (xs : List Int) (sure : Nat) (room : Int) (h : DiskAt W base g v xs sure room) (hs : sure ≤ xs.length) :
    Calls Try.prog 17 #[.pointer (some ⟨g, 0, none⟩)] W fun e w' => e = .returned (.int .i64 ((xs.length : Int) - sure)) ∧ DiskAt w' base g v xs xs.length room ∧ Touch (· = g) W w' := by
  obtain ⟨A, c, rfl, hc⟩ := h.row.slice
  have h2 : ∀ n, DiskAt (W.drewN n) base g (.slice A xs.length c) xs sure room := fun n => h.move rfl (fun _ _ => rfl)
  have f0 := blk_cell h.blk 0
  have f1 := blk_cell h.blk 1
  have fr1 := blk_frozen h.blk 1
  have H := Lib.hid h
  have H2 := Lib.hid h2
  clear h2 h
  go_enter Try.func17, Try.ntmps17
  go_wp2_with (first | (go_at_call 20; (with_reducible refine (loose_calls _ _ _ _ _ _ _ H.out hs).mono ?_); rintro e w' ⟨rfl, ⟨n, rfl⟩⟩) | (go_at_call 39; (with_reducible refine (is_calls _ _ _ _ _ _ _ (H2.out _)).mono ?_); rintro e w' ⟨rfl, rfl⟩))
  go_ret
  refine ⟨rfl, ⟨?_, (H.out.row.move (W1 := W.drewN n) (fun _ _ => rfl)).move (fun k hk => Below.heap_setCell _ _ _ _ (H.out.ne k hk)), H.out.ge, H.out.ne⟩, ((Touch.refl (fun x => x = g) W).drewN n).set (S := fun x => x = g) rfl _ _⟩
  have hb : (W.drewN n).heap[g]? = some (.cells #[.slice A xs.length c, .int .i64 sure, .int .i64 room, .bool true] 49 (0, 0)) := H.out.blk
  exact blk_put hb 1 _ rfl
theorem own_slice (A : Option Addr) (n c n' c' : Nat) : (Value.slice A n c).ownBlock = (Value.slice A n' c').ownBlock := by cases A <;> rfl
theorem mix : Try.prog.follows .mixedOrders = true := by kernel_rfl
theorem info_5 : ∃ i, Try.prog.info? 5 = some i ∧ i.size = 1 := by
  obtain ⟨i, hi, _, hs, _⟩ := info_parts info5
  exact ⟨i, hi, hs⟩
/-- How many of the loose ones stay. -/
def keepN (keep : Int) (n sure : Nat) : Nat := (mn (mx keep 0) ((n : Int) - sure)).toNat
theorem keepN_le (keep : Int) (n sure : Nat) (h : sure ≤ n) : sure + keepN keep n sure ≤ n := by
  unfold keepN mn mx
  (repeat' split) <;> omega
set_option maxRecDepth 100000 in
set_option maxHeartbeats 4000000 in
theorem crash_calls (W : World) (base g : Nat) (v : Value) (xs : List Int) (sure : Nat) (room keep : Int) (h : DiskAt W base g v xs sure room) (hs : sure ≤ xs.length) :
    Calls Try.prog 18 #[.pointer (some ⟨g, 0, none⟩), .int .i64 keep] W fun e w' => e = .returned (.tuple #[]) ∧ ∃ v1, DiskAt w' base g v1 (xs.take (sure + keepN keep xs.length sure)) (sure + keepN keep xs.length sure : Nat) room ∧ Touch (· = g) W w' ∧ v1.ownBlock = v.ownBlock := by
  obtain ⟨A, c, rfl, hc⟩ := h.row.slice
  have hm := Kd.C_max h.row.row.2
  obtain ⟨m, hmm⟩ : ∃ m, sure + keepN keep xs.length sure = m := ⟨_, rfl⟩
  have hml : m ≤ xs.length := by rw [← hmm]; exact keepN_le _ _ _ hs
  rw [hmm]
  unfold keepN mn mx at hmm
  have f0 := blk_cell h.blk 0
  have f1 := blk_cell h.blk 1
  have fr1 := blk_frozen h.blk 1
  have e1 : IntKind.i64.wrap ((xs.length : Int) - sure) = (xs.length : Int) - sure := by rw [IntKind.wrap_i64]; omega
  have e2 : IntKind.i64.wrap ((sure : Int) + if (xs.length : Int) - sure < if keep < 0 then 0 else keep then (xs.length : Int) - sure else if keep < 0 then 0 else keep) = (m : Int) := by
    rw [IntKind.wrap_i64]
    (repeat' split at hmm) <;> (repeat' split) <;> omega
  obtain ⟨i5, hi5, hs5⟩ := info_5
  have hto := cut_to (P := Try.prog) 22 5 .i64 Try.underlying22 hi5 A xs.length c (m : Int) (by omega) (by omega) hc
  rw [Int.toNat_natCast] at hto
  have H := Lib.hid h
  have HML := Lib.hid hml
  clear h hmm hi5 hs5
  go_enter Try.func18, Try.ntmps18
  go_wp2_with (go_at_call 39; (with_reducible refine (is_calls _ _ _ _ _ _ _ H.out).mono ?_); rintro e w' ⟨rfl, rfl⟩)
  go_still_tail 20, mix
  clear e2
  generalize (if keep < 0 then (0 : Int) else keep) = q1
  generalize (if (xs.length : Int) - sure < q1 then (xs.length : Int) - sure else q1) = q2
  go_wp2
  obtain ⟨W2, hW2⟩ : ∃ W2, (W.setCell ⟨g, 1, none⟩ (.int .i64 m)).drew = W2 := ⟨_, rfl⟩
  have hb1 : (W.setCell ⟨g, 1, none⟩ (.int .i64 m)).heap[g]? = some (.cells #[.slice A xs.length c, .int .i64 m, .int .i64 room, .bool true] 49 (0, 0)) := blk_put H.out.blk 1 _ rfl
  have hb2 : W2.heap[g]? = some (.cells #[.slice A xs.length c, .int .i64 m, .int .i64 room, .bool true] 49 (0, 0)) := by rw [← hW2]; exact hb1
  have hr1 : DRow (W.setCell ⟨g, 1, none⟩ (.int .i64 m)) base (.slice A xs.length c) xs := H.out.row.move (fun k hk => Below.heap_setCell _ _ _ _ (H.out.ne k hk))
  have hr2 : DRow W2 base (.slice A xs.length c) xs := by rw [← hW2]; exact hr1.move (fun k hk => rfl)
  have ht1 : Touch (fun x => x = g) W (W.setCell ⟨g, 1, none⟩ (.int .i64 m)) := (Touch.refl (fun x => x = g) W).set (S := fun x => x = g) rfl _ _
  have ht2 : Touch (fun x => x = g) W W2 := by rw [← hW2]; exact ht1.drewN 1
  rw [hW2]
  clear f0 f1 fr1
  have f0 := blk_cell hb2 0
  have f1 := blk_cell hb2 1
  have fr0 := blk_frozen hb2 0
  have HB2 := Lib.hid hb2
  have HR2 := Lib.hid hr2
  have HT2 := Lib.hid ht2
  clear hW2 hb1 hb2 hr1 hr2 ht1 ht2
  go_still_tail 12, mix
  clear hto
  go_wp2
  go_end0
  refine ⟨rfl, .slice A m c, ⟨?_, ?_, H.out.ge, fun k hk => H.out.ne k ((own_slice A xs.length c m c).trans hk)⟩, ?_, own_slice A m c xs.length c⟩
  · have := blk_put HB2.out 0 (.slice A m c) rfl
    exact this
  · have h1 : DRow (W2.setCell ⟨g, 0, none⟩ (.slice A m c)) base (.slice A xs.length c) xs := HR2.out.move (fun k hk => Below.heap_setCell _ _ _ _ (H.out.ne k hk))
    exact h1.take HML.out
  · exact (HT2.out.set (S := fun x => x = g) rfl 0 (.slice A m c)).drewN 1
set_option maxRecDepth 100000 in
set_option maxHeartbeats 4000000 in
theorem cut_calls (W : World) (base g : Nat) (v : Value) (xs : List Int) (sure : Nat) (room size : Int) (h : DiskAt W base g v xs sure room) :
    Calls Try.prog 28 #[.pointer (some ⟨g, 0, none⟩), .int .i64 size] W fun e w' => (¬ (0 ≤ size ∧ size ≤ xs.length) → e = .returned (.int .i64 4) ∧ W = w') ∧ (0 ≤ size ∧ size ≤ xs.length → e = .returned (.int .i64 0) ∧ ∃ v1, DiskAt w' base g v1 (xs.take size.toNat) size room ∧ Touch (· = g) W w' ∧ v1.ownBlock = v.ownBlock) := by
  obtain ⟨A, c, rfl, hc⟩ := h.row.slice
  have f0 := blk_cell h.blk 0
  have fr0 := blk_frozen h.blk 0
  have f1 := blk_cell h.blk 1
  have fr1 := blk_frozen h.blk 1
  have H := Lib.hid h
  clear h
  by_cases hs : 0 ≤ size ∧ size ≤ xs.length
  · obtain ⟨s0, s1⟩ := hs
    obtain ⟨m, rfl⟩ := Int.eq_ofNat_of_zero_le s0
    have hml : m ≤ xs.length := by omega
    have c1 : decide ((m : Int) < 0) = false := decide_eq_false (by omega)
    have c2 : decide ((m : Int) > (xs.length : Int)) = false := decide_eq_false (by omega)
    have c3 : decide (xs.length < m) = false := decide_eq_false (by omega)
    have hmc : m ≤ c := by omega
    have HML := Lib.hid hml
    clear hml s1
    go_enter Try.func28, Try.ntmps28
    go_wp2_with (go_at_call 39; (with_reducible refine (is_calls _ _ _ _ _ _ _ H.out).mono ?_); rintro e w' ⟨rfl, rfl⟩)
    go_ret
    refine ⟨fun hn => absurd ⟨by omega, by have := HML.out; omega⟩ hn, fun _ => ⟨rfl, .slice A m m, ⟨?_, ?_, H.out.ge, fun k hk => H.out.ne k ((own_slice A xs.length c m m).trans hk)⟩, ?_, own_slice A m m xs.length c⟩⟩
    · exact blk_put (blk_put H.out.blk 0 (.slice A m m) rfl) 1 (.int .i64 (m : Int)) rfl
    · rw [Int.toNat_natCast]
      have h1 : DRow ((W.setCell ⟨g, 0, none⟩ (.slice A m m)).setCell ⟨g, 1, none⟩ (.int .i64 (m : Int))) base (.slice A xs.length c) xs := (H.out.row.move (fun k hk => Below.heap_setCell W ⟨g, 0, none⟩ (.slice A m m) k (H.out.ne k hk))).move (fun k hk => Below.heap_setCell _ _ _ _ (H.out.ne k hk))
      exact h1.cut HML.out
    · exact ((Touch.refl (fun x => x = g) W).set (S := fun x => x = g) rfl 0 (.slice A m m)).set (S := fun x => x = g) rfl 1 (.int .i64 (m : Int))
  · by_cases h1 : size < 0
    · have HS := Lib.hid hs
      have c1 : decide (size < 0) = true := decide_eq_true h1
      clear hs
      go_enter Try.func28, Try.ntmps28
      go_wp2_with (go_at_call 39; (with_reducible refine (is_calls _ _ _ _ _ _ _ H.out).mono ?_); rintro e w' ⟨rfl, rfl⟩)
      go_ret
      exact ⟨fun _ => ⟨rfl, rfl⟩, fun hh => absurd hh HS.out⟩
    · have h2 : (xs.length : Int) < size := by omega
      have HS := Lib.hid hs
      have c1 : decide (size < 0) = false := decide_eq_false h1
      have c2 : decide (size > (xs.length : Int)) = true := decide_eq_true h2
      clear hs
      go_enter Try.func28, Try.ntmps28
      go_wp2_with (go_at_call 39; (with_reducible refine (is_calls _ _ _ _ _ _ _ H.out).mono ?_); rintro e w' ⟨rfl, rfl⟩)
      go_ret
      exact ⟨fun _ => ⟨rfl, rfl⟩, fun hh => absurd hh HS.out⟩
end Go.Proofs.Ytfdpbdaekfdnjaa.X
/- Disks: octets more. -/
namespace Go.Proofs.Ytfdpbdaekfdnjaa.X
open Go.RowKit Go.Proofs.YtfdpbdaekfdnjaaW.PrintWords Go.Proofs.YtfdpbdaekfdnjaaW.PrintLast Go.Proofs.YtfdpbdaekfdnjaaW.PrintMore
set_option linter.unusedVariables false
set_option linter.unusedSimpArgs false

/-- Cells in the midst of a block stored. -/
theorem setCells_mid (g : Nat) (t : TypeId) : ∀ (vs : List Value) (i : Nat) (w : World) (pre mid suf : List Value), w.heap[g]? = some (.cells (pre ++ (mid ++ suf)).toArray t (0, 0)) → pre.length = i → vs.length = mid.length →
    (w.setCells g i vs).heap[g]? = some (.cells (pre ++ (vs ++ suf)).toArray t (0, 0)) ∧ w.grownBy (w.setCells g i vs) (some g)
  | [], i, w, pre, mid, suf, h, hp, hl => by
    have : mid = [] := List.length_eq_zero_iff.1 (by simpa using hl.symm)
    subst this
    exact ⟨h, World.grownBy.refl w _⟩
  | v :: vs, i, w, pre, mid, suf, h, hp, hl => by
    match mid, hl with
    | s :: mid, hl =>
    have h1 := blk_put (cs' := ((pre ++ [v]) ++ (mid ++ suf)).toArray) h i v (by
      subst hp
      simp [List.set_append_right])
    obtain ⟨a1, a2⟩ := setCells_mid g t vs (i + 1) (w.setCell ⟨g, i, none⟩ v) (pre ++ [v]) mid suf h1 (by simp [hp]) (by simpa using hl)
    rw [World.setCells]
    refine ⟨by simpa using a1, ⟨a2.os, a2.tape, a2.output, by have := a2.size; rwa [World.size_setCell] at this, fun k hk hn => ?_⟩⟩
    have hkg : k ≠ g := fun e => hn (by rw [e])
    exact (a2.block k (by rw [World.size_setCell]; exact hk) hn).trans (Below.heap_setCell w ⟨g, i, none⟩ v k hkg)
section
variable {ops : Array Oper} {rest : List Oper} {o : Oper} {a : Act} {Q : Exit → Act → World → Prop}
theorem drow_append {W : World} (hgd : o.guard = none) (s x : Operand) (ho : o.op = .call { callee := .builtin .append, args := #[s, x], argTypes := #[22, 22] }) (base : Nat) (v : Value) (xs ys : List Int) (A : Option Addr) (c : Nat) (hs : a.eval s = v) (hx : a.eval x = .slice A ys.length c)
    (hD : DRow W base v xs) (hC : Kd.C (Kd.int .u8) W A ys.length ys) (hl : xs.length + ys.length ≤ 140737488355328) (hb : base ≤ W.heap.size)
    (h : ∀ v1 w1, DRow w1 base v1 (xs ++ ys) → W.grownBy w1 v.ownBlock → (v1.ownBlock = v.ownBlock ∨ ∃ b, v1.ownBlock = some b ∧ W.heap.size ≤ b) → wpList Try.prog ops Q rest (a.put o.dst v1) w1) : wpList Try.prog ops Q (o :: rest) a W := by
  obtain ⟨i5, hi, hz0, hz1, hz2⟩ := info_parts info5
  rcases hD with ⟨rfl, rfl⟩ | ⟨g, cap, cur, rfl, hbg, hh, hnc, hcs, hcm, ht⟩
  · refine Kd.R_append_rows (Kd.int .u8) (w0 := W) W.heap.size hgd s x 22 5 (.int .u8 0) 1 ho Try.underlying22 info5 rfl (by decide) (by decide) (.slice none 0 0) [] ys A ys.length c (fun _ => True) (fun _ => False) hs hx (Kd.R_nil _ _ _ _ _) hC (fun x cs hp => hp) (fun _ hk => hk.elim) (fun _ _ => trivial) (Below.refl _ _) (Nat.le_refl _) (by simpa using hl) ?_
    intro v1 w1 hR hb1 hg hat
    exact h v1 w1 ((DRow.of_R hR).lower hb) hg hat
  · cases A with
    | none =>
      have h0 : ys = [] := by
        rcases Nat.eq_zero_or_pos ys.length with h0 | h0
        · exact List.eq_nil_of_length_eq_zero h0
        · obtain ⟨ad, e, _⟩ := hC.2.2 h0
          cases e
      subst h0
      have hrun : (Builtin.append_ #[22, 22] o.type #[.slice (some ⟨g, 0, none⟩) xs.length cap, .slice none 0 c]).run Try.prog W = .ok (.slice (some ⟨g, 0, none⟩) xs.length cap) W := by
        simp [Builtin.append_, run_underlying Try.underlying22, sizeOf, typeInfo, hi, Builtin.lenOf, Builtin.firstCells, hnc, storeCells]
      refine Kd.event_run hgd (v := .slice (some ⟨g, 0, none⟩) xs.length cap) (w1 := W) ?_ (h _ _ (by rw [List.append_nil]; exact .inr ⟨g, cap, cur, rfl, hbg, hh, hnc, hcs, hcm, ht⟩) (World.grownBy.refl W _) (.inl rfl))
      simp only [List.length_nil] at hx
      simp [execOp, ho, resolve, invoke, builtin, hs, hx, hrun, Result.andThen]
    | some ad =>
      have hrd := Kd.reads_of_C (d := (0 : Int)) (h1 := fun _ => rfl) hC
      have hold : ∀ j u, (nums .u8 xs)[j]? = some u → W.cell? ⟨g, 0 + j, none⟩ = some u := fun j u hj => by
        rw [Nat.zero_add, blk_cell hh, ← Array.getElem?_toList]
        have hj2 : j < xs.length := by
          have := (List.getElem?_eq_some_iff.1 hj).1
          simpa [nums] using this
        rw [← ht, List.getElem?_take_of_lt hj2] at hj
        exact hj
      refine wpList_append_arg W hgd s x 22 ho 5 i5 (.int .u8 0) 1 1 Try.underlying22 hi hz0 hz1 hz2 rfl (by decide) g 0 xs.length cap (nums .u8 xs) hs (by simp [nums]) hold ad ys.length c (nums .u8 ys) hx (by simp [nums]) (fun j u hj => ?_) (fun u hu => ?_) (fun hr j hj => ?_) (by unfold maxLen at *; omega) (by omega) (fun hr => ?_) (fun hg v' w' hown hgr => ?_)
      · have hj2 : j < ys.length := by
          have := (List.getElem?_eq_some_iff.1 hj).1
          simpa [nums] using this
        obtain ⟨ad', e, hc⟩ := hrd.2.2 (by omega)
        cases e
        rw [hc j hj2]
        simpa [nums, hj2, List.getD_eq_getElem?_getD] using hj
      · simp only [nums, List.mem_map] at hu
        obtain ⟨q, _, rfl⟩ := hu
        rfl
      · have hj2 : j < ys.length := by simpa [nums] using hj
        refine ⟨?_, blk_frozen hh _⟩
        rw [blk_cell hh, Array.getElem?_eq_getElem (by omega)]
        rfl
      · have hcl : cur.toList.length = cur.size := by simp
        have hsplit : cur.toList = nums .u8 xs ++ ((cur.toList.drop xs.length).take ys.length ++ (cur.toList.drop xs.length).drop ys.length) := by
          rw [List.take_append_drop, ← ht, List.take_append_drop]
        have hh' : W.heap[g]? = some (.cells (nums .u8 xs ++ ((cur.toList.drop xs.length).take ys.length ++ (cur.toList.drop xs.length).drop ys.length)).toArray 5 (0, 0)) := by
          rw [← hsplit]
          simpa using hh
        obtain ⟨h1, h2⟩ := setCells_mid g 5 (nums .u8 ys) (0 + xs.length * 1) W _ _ _ hh' (by simp [nums]) (by simp [nums]; omega)
        refine h _ _ (.inr ⟨g, cap, _, by rw [List.length_append], hbg, h1, by rw [List.length_append]; exact hr, ?_, hcm, ?_⟩) h2 (.inl rfl)
        · simp [nums]
          omega
        · rw [List.toList_toArray, ← List.append_assoc, List.take_left' (by simp [nums])]
          simp [nums]
      · rcases hown.2 with ⟨_, h0⟩ | ⟨g', cap', cur', rfl, hg', hh', hc', hm', hs', ht'⟩
        · omega
        · refine h _ w' (.inr ⟨g', cap', cur', by rw [List.length_append], Nat.le_trans hb hg', hh', by rw [List.length_append]; exact hc', by rw [hs']; omega, hm', ?_⟩) ⟨hgr.os, hgr.tape, hgr.output, hgr.size, fun k hk hn => hgr.block k hk (by simp)⟩ (.inr ⟨g', rfl, hg'⟩)
          rw [List.length_append]
          simpa [nums] using ht'
end
set_option maxRecDepth 100000 in
set_option maxHeartbeats 4000000 in
theorem append_calls (W : World) (base g : Nat) (v : Value) (xs : List Int) (sure room : Int) (A1 : Option Addr) (c1 : Nat) (ys : List Int) (h : DiskAt W base g v xs sure room) (hC : Kd.C (Kd.int .u8) W A1 ys.length ys) (hr0 : 0 ≤ room) (hr1 : room ≤ 1000000) (hx : xs.length ≤ room) :
    Calls Try.prog 16 #[.pointer (some ⟨g, 0, none⟩), .slice A1 ys.length c1] W fun e w' => (room < (xs.length : Int) + ys.length → e = .returned (.int .i64 17) ∧ Drawn0 W w') ∧ ((xs.length : Int) + ys.length ≤ room → e = .returned (.int .i64 0) ∧ ∃ v1, DiskAt w' base g v1 (xs ++ ys) sure room ∧ Touch (fun k => k = g ∨ v.ownBlock = some k) W w' ∧ (v1.ownBlock = v.ownBlock ∨ ∃ b, v1.ownBlock = some b ∧ W.heap.size ≤ b)) := by
  obtain ⟨A, c, rfl, hc⟩ := h.row.slice
  have hm := Kd.C_max hC
  have f0 := blk_cell h.blk 0
  have f2 := blk_cell h.blk 2
  have H := Lib.hid h
  have HC := Lib.hid hC
  have e1 : IntKind.i64.wrap (room - (xs.length : Int)) = room - xs.length := by rw [IntKind.wrap_i64]; omega
  have e2 : wrap64 (room - (xs.length : Int)) = room - xs.length := by unfold wrap64; omega
  have HX := Lib.hid hx
  clear h hC
  by_cases hf : room < (xs.length : Int) + ys.length
  · have d1 : decide ((ys.length : Int) > room - xs.length) = true := decide_eq_true (by omega)
    have HF := Lib.hid hf
    clear hf hx
    go_enter Try.func16, Try.ntmps16
    go_wp2_with (go_at_call 39; (with_reducible refine (is_calls _ _ _ _ _ _ _ H.out).mono ?_); rintro e w' ⟨rfl, rfl⟩)
    go_quiet (fail)
    go_wp2
    go_ret
    exact ⟨fun _ => ⟨rfl, ⟨_, rfl⟩⟩, fun hh => absurd hh (by have := HF.out; omega)⟩
  · have d1 : decide ((ys.length : Int) > room - xs.length) = false := decide_eq_false (by omega)
    have HF := Lib.hid hf
    clear hf hx
    go_enter Try.func16, Try.ntmps16
    go_wp2_with (go_at_call 39; (with_reducible refine (is_calls _ _ _ _ _ _ _ H.out).mono ?_); rintro e w' ⟨rfl, rfl⟩)
    go_quiet (fail)
    go_wp2_with ((with_reducible refine gate_builtin (b := .append) (xs := #[.tmp 27, .tmp 28]) rfl ?_); at_builtin; refine drow_append rfl (.tmp 27) (.tmp 28) rfl base (.slice A xs.length c) xs ys A1 c1 rfl rfl (H.out.row.move (fun _ _ => rfl)) (Kd.C_drewN HC.out _) (by have := HF.out; omega) (Nat.le_trans H.out.ge (Nat.le_of_lt (blk_lt H.out.blk))) ?_; intro v1 w1 hD hg hat; obtain ⟨A2, c2, rfl, hc2⟩ := hD.slice; have hb1 : w1.heap[g]? = some (.cells #[.slice A xs.length c, .int .i64 sure, .int .i64 room, .bool true] 49 (0, 0)) := (hg.block g (blk_lt H.out.blk) (fun e => H.out.ne g e.symm rfl)).trans H.out.blk; have k0 := blk_cell hb1 0; have kr := blk_frozen hb1 0; have HG := Lib.hid hg; have HD := Lib.hid hD; have HAT := Lib.hid hat; have HB1 := Lib.hid hb1; clear hg hD hat hb1)
    go_ret
    have hD : DRow w1 base (.slice A2 (xs.length + ys.length) c2) (xs ++ ys) := by rw [← List.length_append]; exact HD.out
    have hAT := HAT.out
    rw [List.length_append] at hAT
    have hown : ∀ k, (Value.slice A2 (xs.length + ys.length) c2).ownBlock = some k → k ≠ g := fun k hk => by
      rcases hAT with h1 | ⟨b, h1, h2⟩
      · exact H.out.ne k (h1 ▸ hk)
      · rw [h1] at hk
        obtain rfl := Option.some.inj hk
        have h3 : g < W.heap.size := blk_lt H.out.blk
        have h4 : W.heap.size ≤ b := h2
        omega
    refine ⟨fun hh => absurd hh (by have := HF.out; omega), fun _ => ⟨rfl, .slice A2 (xs.length + ys.length) c2, ⟨blk_put HB1.out 0 (.slice A2 (xs.length + ys.length) c2) rfl, hD.move (fun k hk => Below.heap_setCell _ _ _ _ (hown k hk)), H.out.ge, hown⟩, ?_, hAT⟩⟩
    have ht : Touch (fun k => k = g ∨ (Value.slice A xs.length c).ownBlock = some k) W w1 := ⟨HG.out.os, HG.out.tape, HG.out.output, HG.out.size, fun k hk hn => HG.out.block k hk (fun e => hn (.inr e.symm))⟩
    exact ht.set (S := fun k => k = g ∨ (Value.slice A xs.length c).ownBlock = some k) (.inl rfl) 0 (.slice A2 (xs.length + ys.length) c2)
end Go.Proofs.Ytfdpbdaekfdnjaa.X
/- Octets turned into octets: the block is marked behind its end, and reads as before. -/
namespace Go.Proofs.Ytfdpbdaekfdnjaa.X
open Go.RowKit Go.Proofs.YtfdpbdaekfdnjaaW.PrintWords Go.Proofs.YtfdpbdaekfdnjaaW.PrintLast Go.Proofs.YtfdpbdaekfdnjaaW.PrintMore
set_option linter.unusedVariables false
set_option linter.unusedSimpArgs false

/-- A block that is marked: what it reads stays. -/
structure Marked (g : Nat) (w w1 : World) : Prop where
  size : w1.heap.size = w.heap.size
  far : ∀ i, i ≠ g → w1.heap[i]? = w.heap[i]?
  cell : ∀ p, w1.cell? p = w.cell? p
  below : ∀ (v : World), Below v.heap.size v w → v.heap.size ≤ g → Below v.heap.size v w1
theorem freeze_marked (W : World) (g j : Nat) : Marked g W (W.freeze ⟨g, j, none⟩ 1) := by
  have hs : (W.freeze ⟨g, j, none⟩ 1).heap.size = W.heap.size := by simp [World.freeze]
  have hf : ∀ i, i ≠ g → (W.freeze ⟨g, j, none⟩ 1).heap[i]? = W.heap[i]? := fun i hi => by
    simp only [World.freeze, Nat.one_ne_zero, ↓reduceIte, Array.getElem?_modify]
    rw [if_neg (Ne.symm hi)]
  refine ⟨hs, hf, fun p => ?_, fun v hb hg => ⟨hb.os, hb.tape, hb.output, by rw [hs]; exact hb.size, fun i hi => (hf i (by omega)).trans (hb.block i hi)⟩⟩
  by_cases hp : p.block = g
  · simp only [World.cell?, World.freeze, Nat.one_ne_zero, ↓reduceIte, Array.getElem?_modify, hp]
    cases W.heap[g]? with
    | none => rfl
    | some o => cases o <;> rfl
  · simp only [World.cell?, hf _ hp]
theorem Marked.row {g : Nat} {W W1 : World} (h : Marked g W W1) {k : IntKind} {A : Option Addr} {n : Nat} {xs : List Int} (hC : Kd.C (Kd.int k) W A n xs) : Kd.C (Kd.int k) W1 A n xs := by
  have hr := Kd.reads_of_C (d := (0 : Int)) (h1 := fun _ => rfl) hC
  refine Kd.C_of_reads (d := (0 : Int)) (h1 := fun _ => rfl) ⟨hr.1, hr.2.1, fun hn => ?_⟩
  obtain ⟨ad, e, hc⟩ := hr.2.2 hn
  exact ⟨ad, e, fun j hj => (h.cell _).trans (hc j hj)⟩
section
variable {P : Program} {ops : Array Oper} {rest : List Oper} {o : Oper} {a : Act} {Q : Exit → Act → World → Prop}
/-- A conversion of octets to octets. -/
theorem conv_ev {W : World} (hgd : o.guard = none) {N : Tmp} (hd : o.dst = some N) (t e : TypeId) (x : Operand) (ho : o.op = .convert t t x) (ht : P.underlying t = some (.slice e)) (he : P.underlying e = some (.int .u8))
    (g n c : Nat) (hx : a.eval x = .slice (some ⟨g, 0, none⟩) n c) (cs : Array Value) (hg : W.heap[g]? = some (.cells cs e (0, 0)))
    (h : ∀ w1, Marked g W w1 → wpList P ops Q rest (a.put o.dst (.slice (some ⟨g, 0, none⟩) n c)) w1) : wpList P ops Q (o :: rest) a W := by
  refine Kd.event_run hgd (v := .slice (some ⟨g, 0, none⟩) n c) (w1 := W.freeze ⟨g, cs.size, none⟩ 1) ?_ (h _ (freeze_marked _ _ _))
  have hsh : W.shape? g = some (e, cs.size) := by simp [World.shape?, hg]
  have h1 := run_underlying ht W
  have h2 := run_underlying he W
  simp [execOp, ho, hx, convert, h1, h2, markStringish, hsh, Result.andThen]
end
theorem lit_block {k : IntKind} {e base : Nat} {ok : Nat → Prop} {w : World} {v : Value} {xs : List Int} (h : Kd.R (Kd.int k) e w base ok v xs) (hn : 0 < xs.length) :
    ∃ g cap cur, v = .slice (some ⟨g, 0, none⟩) xs.length cap ∧ base ≤ g ∧ w.heap[g]? = some (.cells cur e (0, 0)) ∧ xs.length ≤ cap ∧ Kd.C (Kd.int k) w (some ⟨g, 0, none⟩) xs.length xs := by
  obtain ⟨inner, ho⟩ := Kd.R_own h
  rcases ho.2 with ⟨hz, h0⟩ | ⟨g, cap, cur, rfl, hg, hh, r⟩
  · exact absurd h0 (by omega)
  · have := Kd.R_reads' h
    exact ⟨g, cap, cur, rfl, hg, hh, this.2.1, this.2.2⟩
end Go.Proofs.Ytfdpbdaekfdnjaa.X
/- One disk that a call has made: each call on it, as the laws use it. -/
namespace Go.Proofs.Ytfdpbdaekfdnjaa.X
open Go.RowKit Go.Proofs.YtfdpbdaekfdnjaaW.PrintWords Go.Proofs.YtfdpbdaekfdnjaaW.PrintLast Go.Proofs.YtfdpbdaekfdnjaaW.PrintMore
set_option linter.unusedVariables false
set_option linter.unusedSimpArgs false

structure DS (w W : World) (g : Nat) (xs : List Int) (sure : Nat) (room : Int) : Prop where
  d : ∃ v, DiskAt W w.heap.size g v xs sure room
  below : Below w.heap.size w W
  hs : sure ≤ xs.length
  r0 : 0 ≤ room
  r1 : room ≤ 262144
  hx : (xs.length : Int) ≤ room
theorem DS.step {w W W1 : World} {g : Nat} {xs : List Int} {sure : Nat} {room : Int} (h : DS w W g xs sure room) (hb : Below W.heap.size W W1) : DS w W1 g xs sure room := by
  obtain ⟨v, hd⟩ := h.d
  exact ⟨⟨v, hd.below hb⟩, below_step h.below hb, h.hs, h.r0, h.r1, h.hx⟩
theorem DS.drawn {w W W1 : World} {g : Nat} {xs : List Int} {sure : Nat} {room : Int} (h : DS w W g xs sure room) (hd : Drawn0 W W1) : DS w W1 g xs sure room := by
  obtain ⟨n, rfl⟩ := hd
  exact h.step (pw_below_drewN (Below.refl _ _) n)
theorem DS.new {w W : World} (hB : Below w.heap.size w W) (room r : Int) (hr : mn (mx room 0) 262144 = r) :
    Calls Try.prog 15 #[.int .i64 room] W fun e w' => e = .returned (.pointer (some ⟨W.heap.size, 0, none⟩)) ∧ DS w w' W.heap.size [] 0 r := by
  refine (new_calls W room r hr).mono ?_
  rintro e w' ⟨rfl, hd, hb⟩
  refine ⟨rfl, ⟨_, hd.blk, hd.row.lower hB.size, hB.size, hd.ne⟩, below_step hB hb, Nat.le_refl _, ?_, ?_, ?_⟩ <;> (rw [← hr]; unfold mn mx; (repeat' split) <;> first | omega | (simp; done) | (simp; omega))
theorem DS.append {w W : World} {g : Nat} {xs : List Int} {sure : Nat} {room : Int} (h : DS w W g xs sure room) (A1 : Option Addr) (c1 : Nat) (ys : List Int) (hC : Kd.C (Kd.int .u8) W A1 ys.length ys) (e0 : Int) (zs : List Int)
    (hno : room < (xs.length : Int) + ys.length → e0 = 17 ∧ zs = xs) (hyes : (xs.length : Int) + ys.length ≤ room → e0 = 0 ∧ zs = xs ++ ys) :
    Calls Try.prog 16 #[.pointer (some ⟨g, 0, none⟩), .slice A1 ys.length c1] W fun e w' => e = .returned (.int .i64 e0) ∧ DS w w' g zs sure room := by
  obtain ⟨v, hd⟩ := h.d
  refine (append_calls W w.heap.size g v xs sure room A1 c1 ys hd hC h.r0 (by have := h.r1; omega) h.hx).mono ?_
  rintro e w' ⟨h1, h2⟩
  by_cases c : room < (xs.length : Int) + ys.length
  · obtain ⟨rfl, rfl⟩ := hno c
    obtain ⟨rfl, hd1⟩ := h1 c
    exact ⟨rfl, h.drawn hd1⟩
  · obtain ⟨rfl, rfl⟩ := hyes (by omega)
    obtain ⟨rfl, v1, hd1, ht, _⟩ := h2 (by omega)
    refine ⟨rfl, ⟨v1, hd1⟩, ht.below h.below (fun k hk => ?_), by have := h.hs; rw [List.length_append]; omega, h.r0, h.r1, by rw [List.length_append]; omega⟩
    rcases hk with rfl | hk
    · exact hd.ge
    · exact (hd.row.lt k hk).1
theorem DS.flush {w W : World} {g : Nat} {xs : List Int} {sure : Nat} {room : Int} (h : DS w W g xs sure room) :
    Calls Try.prog 17 #[.pointer (some ⟨g, 0, none⟩)] W fun e w' => e = .returned (.int .i64 ((xs.length : Int) - sure)) ∧ DS w w' g xs xs.length room := by
  obtain ⟨v, hd⟩ := h.d
  refine (flush_calls W w.heap.size g v xs sure room hd h.hs).mono ?_
  rintro e w' ⟨rfl, hd1, ht⟩
  exact ⟨rfl, ⟨v, hd1⟩, ht.below h.below (fun k hk => by rw [hk]; exact hd.ge), Nat.le_refl _, h.r0, h.r1, h.hx⟩
theorem DS.crash {w W : World} {g : Nat} {xs : List Int} {sure : Nat} {room : Int} (h : DS w W g xs sure room) (keep : Int) (m : Nat) (hm : sure + keepN keep xs.length sure = m) :
    Calls Try.prog 18 #[.pointer (some ⟨g, 0, none⟩), .int .i64 keep] W fun e w' => e = .returned (.tuple #[]) ∧ DS w w' g (xs.take m) m room := by
  obtain ⟨v, hd⟩ := h.d
  have hk := keepN_le keep xs.length sure h.hs
  refine (crash_calls W w.heap.size g v xs sure room keep hd h.hs).mono ?_
  rintro e w' ⟨rfl, v1, hd1, ht, _⟩
  rw [hm] at hd1 hk
  have hx := h.hx
  exact ⟨rfl, ⟨v1, hd1⟩, ht.below h.below (fun k hk => by rw [hk]; exact hd.ge), by rw [List.length_take]; omega, h.r0, h.r1, by rw [List.length_take]; omega⟩
theorem DS.read {w W : World} {g : Nat} {xs : List Int} {sure : Nat} {room : Int} (h : DS w W g xs sure room) :
    Calls Try.prog 19 #[.pointer (some ⟨g, 0, none⟩)] W fun e w' => ∃ A c, e = .returned (.slice A xs.length c) ∧ xs.length ≤ c ∧ Kd.C (Kd.int .u8) w' A xs.length xs ∧ DS w w' g xs sure room ∧ Below W.heap.size W w' := by
  obtain ⟨v, hd⟩ := h.d
  refine (read_calls W w.heap.size g v xs sure room hd (by have := h.hx; have := h.r1; omega)).mono ?_
  rintro e w' ⟨v1, rfl, hR, hb⟩
  obtain ⟨A, c, rfl⟩ := Kd.R_slice hR
  exact ⟨A, c, rfl, (Kd.R_reads' hR).2.1, (Kd.R_reads' hR).2.2, h.step hb, hb⟩
theorem DS.loose {w W : World} {g : Nat} {xs : List Int} {sure : Nat} {room : Int} (h : DS w W g xs sure room) :
    Calls Try.prog 20 #[.pointer (some ⟨g, 0, none⟩)] W fun e w' => e = .returned (.int .i64 ((xs.length : Int) - sure)) ∧ DS w w' g xs sure room ∧ Drawn0 W w' := by
  obtain ⟨v, hd⟩ := h.d
  refine (loose_calls W w.heap.size g v xs sure room hd h.hs).mono ?_
  rintro e w' ⟨rfl, hdr⟩
  exact ⟨rfl, h.drawn hdr, hdr⟩
theorem DS.size {w W : World} {g : Nat} {xs : List Int} {sure : Nat} {room : Int} (h : DS w W g xs sure room) :
    Calls Try.prog 29 #[.pointer (some ⟨g, 0, none⟩)] W fun e w' => e = .returned (.int .i64 xs.length) ∧ W = w' := by
  obtain ⟨v, hd⟩ := h.d
  exact size_calls W w.heap.size g v xs sure room hd
set_option maxRecDepth 100000 in
set_option maxHeartbeats 4000000 in
theorem alive12_calls (w : World) : Calls Try.prog 14 #[] w fun e w' => e = .returned (.bool true) ∧ Below w.heap.size w w' := by
  obtain ⟨p, hp⟩ : ∃ p : List Int, p = [97, 98] := ⟨_, rfl⟩
  obtain ⟨q, hq⟩ : ∃ q : List Int, q = [99, 100] := ⟨_, rfl⟩
  have HP := Lib.hid hp
  have HQ := Lib.hid hq
  obtain ⟨t, ht⟩ : ∃ t, (p ++ q).take 3 = t := ⟨_, rfl⟩
  have hts : strOfNums t = ⟨#[97, 98, 99]⟩ := by rw [← ht, hp, hq]; decide +kernel
  have hpl : p.length = 2 := by rw [hp]; rfl
  have hql : q.length = 2 := by rw [hq]; rfl
  have hm : p.length + keepN 1 (p ++ q).length p.length = 3 := by rw [hp, hq]; decide +kernel
  have hf : ((p.length : Int) - ((0 : Nat) : Int)) = 2 := by rw [hpl]; rfl
  have HT := Lib.hid ht
  have HPL := Lib.hid hpl
  have HQL := Lib.hid hql
  have HM := Lib.hid hm
  have HF := Lib.hid hf
  clear hp hq ht hpl hql hm hf
  go_enter Try.func14, Try.ntmps14
  go_wp2_with (first | (go_at_call 15; go_must ((with_reducible refine (DS.new (Below.refl _ w) 9 9 (by decide)).mono ?_); rintro e w1 ⟨rfl, h1⟩)) | ((with_reducible refine gate_dst (N := 7) rfl ?_); refine Kd.R_lit (Kd.int .u8) _ 5 ?hg (N := 7) ?hd (xs := ([97, 98] : List Int)) (inner := [.int .u8 97, .int .u8 98]) (ok := fun _ => True) (okp := fun _ => True) ?hr ?hp (fun _ hk => hk) trivial (Below.refl _ _) (Nat.le_refl _) (by simp) ?_; (case hd => rfl); (case hg => rfl); (case hr => first | (go_simp; done) | (go_simp; rfl)); (case hp => exact (Reps.one (show Kd.M (Kd.int .u8) _ _ _ 97 [.int .u8 97] from rfl) (Reps.one (show Kd.M (Kd.int .u8) _ _ _ 98 [.int .u8 98] from rfl) (Reps.none _ _)))); intro v7 w2 ho hb hg_ hnew_; clear hg_ hnew_; rw [← HP.out] at ho; obtain ⟨g, cap, cur, rfl, hgb, hgh, hcap, hC⟩ := lit_block ho (by rw [HP.out]; decide); clear ho) | ((with_reducible refine gate_dst (N := 8) rfl ?_); go_must (refine conv_ev rfl (N := 8) rfl 22 5 (.tmp 7) rfl Try.underlying22 Try.underlying5 g _ _ rfl cur hgh ?_; intro w3 hM; have h3 := h1.step (hM.below _ hb hgb); have C3 := hM.row hC; clear hM hb hgb hgh hC hcap)) | (go_at_call 16; (with_reducible refine (DS.append h3 _ _ p C3 0 p (fun h => absurd h (by have := HPL.out; simp only [List.length_nil]; omega)) (fun h => ⟨rfl, by simp⟩)).mono ?_); rintro e w4 ⟨rfl, h4⟩; clear h3 C3) | (go_at_call 17; have hfl := h4.flush; rw [HF.out] at hfl; (with_reducible refine hfl.mono ?_); rintro e w5 ⟨rfl, h5⟩; clear hfl h4) | ((with_reducible refine gate_dst (N := 13) rfl ?_); refine Kd.R_lit (Kd.int .u8) _ 5 ?hg (N := 13) ?hd (xs := ([99, 100] : List Int)) (inner := [.int .u8 99, .int .u8 100]) (ok := fun _ => True) (okp := fun _ => True) ?hr ?hp (fun _ hk => hk) trivial (Below.refl _ _) (Nat.le_refl _) (by simp) ?_; (case hd => rfl); (case hg => rfl); (case hr => first | (go_simp; done) | (go_simp; rfl)); (case hp => exact (Reps.one (show Kd.M (Kd.int .u8) _ _ _ 99 [.int .u8 99] from rfl) (Reps.one (show Kd.M (Kd.int .u8) _ _ _ 100 [.int .u8 100] from rfl) (Reps.none _ _)))); intro v13 w6 ho hb hg_ hnew_; clear hg_ hnew_; rw [← HQ.out] at ho; obtain ⟨g, cap, cur, rfl, hgb, hgh, hcap, hC⟩ := lit_block ho (by rw [HQ.out]; decide); clear ho) | ((with_reducible refine gate_dst (N := 14) rfl ?_); go_must (refine conv_ev rfl (N := 14) rfl 22 5 (.tmp 13) rfl Try.underlying22 Try.underlying5 g _ _ rfl cur hgh ?_; intro w7 hM; have h7 := h5.step (hM.below _ hb hgb); have C7 := hM.row hC; clear hM hb hgb hgh hC hcap h5)) | (go_at_call 16; (with_reducible refine (DS.append h7 _ _ q C7 0 (p ++ q) (fun h => absurd h (by have := HPL.out; have := HQL.out; omega)) (fun h => ⟨rfl, rfl⟩)).mono ?_); rintro e w8 ⟨rfl, h8⟩; clear h7 C7) | (go_at_call 18; (with_reducible refine (h8.crash 1 3 HM.out).mono ?_); rintro e w9 ⟨rfl, h9⟩; rw [HT.out] at h9) | (go_at_call 19; (with_reducible refine h9.read.mono ?_); rintro e w10 ⟨Ar, cr, rfl, hcr, hCr, h10, _⟩; have hcv := Kd.C_string (P := Try.prog) Try.underlying22 Try.underlying5 Try.underlying9 (c := cr) hCr; rw [hts] at hcv))
  go_ret
  exact ⟨rfl, h10.below⟩
end Go.Proofs.Ytfdpbdaekfdnjaa.X
/- A record's frame: what journal.Frame comes to. -/
namespace Go.Proofs.Ytfdpbdaekfdnjaa.X
open Go.RowKit Go.Proofs.YtfdpbdaekfdnjaaW.PrintWords Go.Proofs.YtfdpbdaekfdnjaaW.PrintLast Go.Proofs.YtfdpbdaekfdnjaaW.PrintMore
set_option linter.unusedVariables false
set_option linter.unusedSimpArgs false

theorem wrap64_id (x : Int) (h0 : -9223372036854775808 ≤ x) (h1 : x ≤ 9223372036854775807) : wrap64 x = x := by unfold wrap64; omega
/-- How many octets there are in all. -/
def tot (l : List (List Int)) : Nat := (l.map List.length).sum
theorem tot_cons (x : List Int) (l : List (List Int)) : tot (x :: l) = x.length + tot l := by simp [tot]
theorem tot_flatten (l : List (List Int)) : l.flatten.length = tot l := by simp [tot, List.length_flatten]
theorem rdL2_at (l : List (List Int)) (i : Nat) (h : i < l.length) : rd_L1 l (i : Int) = l[i] := by simp [rd_L1, List.getD_eq_getElem?_getD, h]
theorem concat_l1 (l : List (List Int)) (hl : l.length < 9223372036854775807) : ∀ (d k i : Nat) (acc : List Int), i + d = l.length → d < k → acc.length + tot (l.drop i) < 140737488355328 →
    slices_Concat_byte_byte.l1 k acc l (l.length : Int) (i : Int) = some (acc ++ (l.drop i).flatten)
  | 0, k, i, acc, hd, hk, ha => by
    obtain ⟨k, rfl⟩ : ∃ m, k = m + 1 := ⟨k - 1, by omega⟩
    rw [slices_Concat_byte_byte.l1, if_neg (by omega), List.drop_of_length_le (by omega)]
    simp
  | d + 1, k, i, acc, hd, hk, ha => by
    obtain ⟨k, rfl⟩ : ∃ m, k = m + 1 := ⟨k - 1, by omega⟩
    have hi : i < l.length := by omega
    have hs : wrap64 ((i : Int) + 1) = ((i + 1 : Nat) : Int) := by rw [wrap64_id _ (by omega) (by omega)]; rfl
    rw [List.drop_eq_getElem_cons hi, tot_cons] at ha
    rw [slices_Concat_byte_byte.l1, if_pos (by omega), if_pos (by omega), if_pos (by omega), rdL2_at l i hi, if_pos (by omega), hs]
    rw [concat_l1 l hl d k (i + 1) _ (by omega) (by omega) (by rw [List.length_append]; omega), List.append_assoc, List.drop_eq_getElem_cons hi]
    rfl
theorem concat_l0 (l : List (List Int)) (hl : l.length < 9223372036854775807) (ht : tot l < 140737488355328) : ∀ (d k i : Nat) (s : Int), i + d = l.length → d + l.length + 1 < k → 0 ≤ s → s + tot (l.drop i) = tot l →
    slices_Concat_byte_byte.l0 k l s l (l.length : Int) (i : Int) = some l.flatten
  | 0, k, i, s, hd, hk, h0, hs => by
    obtain ⟨k, rfl⟩ : ∃ m, k = m + 1 := ⟨k - 1, by omega⟩
    rw [List.drop_of_length_le (by omega)] at hs
    have : tot [] = 0 := rfl
    rw [slices_Concat_byte_byte.l0, if_neg (by omega), if_pos h0, if_pos (by omega)]
    have := concat_l1 l hl l.length k 0 [] (by omega) (by omega) (by simpa using ht)
    simpa using this
  | d + 1, k, i, s, hd, hk, h0, hs => by
    obtain ⟨k, rfl⟩ : ∃ m, k = m + 1 := ⟨k - 1, by omega⟩
    have hi : i < l.length := by omega
    have hw : wrap64 ((i : Int) + 1) = ((i + 1 : Nat) : Int) := by rw [wrap64_id _ (by omega) (by omega)]; rfl
    rw [List.drop_eq_getElem_cons hi, tot_cons] at hs
    have hw2 : wrap64 (s + (l[i].length : Int)) = s + (l[i].length : Int) := wrap64_id _ (by omega) (by omega)
    rw [slices_Concat_byte_byte.l0, if_pos (by omega), if_pos (by omega), if_pos (by omega), rdL2_at l i hi, hw2, if_neg (by omega), hw]
    exact concat_l0 l hl ht d k (i + 1) _ (by omega) (by omega) (by omega) (by omega)
theorem join_f (l : List (List Int)) (hl : l.length < 4611686018427387904) (ht : tot l < 140737488355328) (k : Nat) (hk : 2 * l.length + 2 ≤ k) : octets_Join.f k l = some l.flatten := by
  unfold octets_Join.f slices_Concat_byte_byte.f
  rw [show (0 : Int) = ((0 : Nat) : Int) from rfl]
  rw [concat_l0 l (by omega) ht l.length k 0 _ (by omega) (by omega) (by omega) (by simp), Option.bind_some]

/-- A record's frame: how long it is, and the record. -/
def frameL (l : List Int) : List Int := putL (l.length : Int) 3 ++ l
theorem frameL_len (l : List Int) : (frameL l).length = 3 + l.length := by simp [frameL, putL_len]
theorem frame_ok (l : List Int) (h : l.length ≤ 16384) : journal_Frame.f 6 l = some (frameL l, 0) := by
  have hp : octets_Put.f (l.length : Int) 3 = some (putL (l.length : Int) 3) := by
    have e1 : IntKind.u64.wrap (l.length : Int) = (l.length : Int) := by rw [IntKind.wrap_u64]; omega
    have e2 : (mn (mx 3 0) 8).toNat = 3 := by decide +kernel
    rw [octets_Put.f, e1, e2]
  have hj : octets_Join.f 6 [putL (l.length : Int) 3, l] = some (frameL l) := by
    rw [join_f _ (by simp) (by simp [tot, putL_len]; omega) 6 (by simp)]
    simp [frameL]
  rw [journal_Frame.f, if_neg (by omega), hp, Option.bind_some, hj, Option.bind_some]
theorem frame_long (l : List Int) (h : 16384 < l.length) : journal_Frame.f 6 l = some ([], 5) := by
  rw [journal_Frame.f, if_pos (by omega)]
theorem frame_calls (A : Option Addr) (c : Nat) (l : List Int) (w : World) (hC : Kd.C (Kd.int .u8) w A l.length l) (hc : l.length ≤ c) (h : l.length ≤ 16384) :
    Calls Try.prog 30 #[.slice A l.length c] w fun e w' => ∃ A1 c1, e = .returned (.tuple #[.slice A1 (frameL l).length c1, .int .i64 0]) ∧ (frameL l).length ≤ c1 ∧ Kd.C (Kd.int .u8) w' A1 (frameL l).length (frameL l) ∧ Below w.heap.size w w' := by
  refine (journal_Frame.calls 6 (fun k => k < w.heap.size) A c l (frameL l) 0 w (Kd.V_mk hc (Kd.C_F (Kd.heap_int .u8) hC)) (frame_ok l h)).mono ?_
  rintro e w' ⟨v, rfl, hr, hb⟩
  obtain ⟨A1, c1, rfl⟩ := Kd.R_slice hr
  exact ⟨A1, c1, rfl, (Kd.R_reads' hr).2.1, (Kd.R_reads' hr).2.2, hb⟩
theorem frame_calls_long (A : Option Addr) (c : Nat) (l : List Int) (w : World) (hC : Kd.C (Kd.int .u8) w A l.length l) (hc : l.length ≤ c) (h : 16384 < l.length) :
    Calls Try.prog 30 #[.slice A l.length c] w fun e w' => ∃ A1 c1, e = .returned (.tuple #[.slice A1 0 c1, .int .i64 5]) ∧ Kd.C (Kd.int .u8) w' A1 0 [] ∧ Below w.heap.size w w' := by
  refine (journal_Frame.calls 6 (fun k => k < w.heap.size) A c l [] 5 w (Kd.V_mk hc (Kd.C_F (Kd.heap_int .u8) hC)) (frame_long l h)).mono ?_
  rintro e w' ⟨v, rfl, hr, hb⟩
  obtain ⟨A1, c1, rfl⟩ := Kd.R_slice hr
  exact ⟨A1, c1, rfl, (Kd.R_reads' hr).2.2, hb⟩

set_option maxRecDepth 100000 in
set_option maxHeartbeats 4000000 in
theorem alive13_calls (w : World) : Calls Try.prog 33 #[] w fun e w' => e = .returned (.bool true) ∧ Below w.heap.size w w' := by
  obtain ⟨p, hp⟩ : ∃ p : List Int, p = [97] := ⟨_, rfl⟩
  have HP := Lib.hid hp
  have hpl : p.length = 1 := by rw [hp]; rfl
  obtain ⟨t, ht⟩ : ∃ t, frameL p = t := ⟨_, rfl⟩
  have hts : strOfNums t = ⟨#[0, 0, 1, 97]⟩ := by rw [← ht, hp]; decide +kernel
  have HT := Lib.hid ht
  have HPL := Lib.hid hpl
  clear hp ht hpl
  go_enter Try.func33, Try.ntmps33
  go_wp2_with (first | ((with_reducible refine gate_dst (N := 4) rfl ?_); refine Kd.R_lit (Kd.int .u8) _ 5 ?hg (N := 4) ?hd (xs := ([97] : List Int)) (inner := [.int .u8 97]) (ok := fun _ => True) (okp := fun _ => True) ?hr ?hp (fun _ hk => hk) trivial (Below.refl _ _) (Nat.le_refl _) (by simp) ?_; (case hd => rfl); (case hg => rfl); (case hr => first | (go_simp; done) | (go_simp; rfl)); (case hp => exact (Reps.one (show Kd.M (Kd.int .u8) _ _ _ 97 [.int .u8 97] from rfl) (Reps.none _ _))); intro v7 w2 ho hb hg_ hnew_; clear hg_ hnew_; rw [← HP.out] at ho; obtain ⟨g, cap, cur, rfl, hgb, hgh, hcap, hC⟩ := lit_block ho (by rw [HP.out]; decide); clear ho) | ((with_reducible refine gate_dst (N := 5) rfl ?_); refine conv_ev rfl rfl 22 5 (.tmp 4) rfl Try.underlying22 Try.underlying5 g p.length cap rfl cur hgh ?_; intro w3 hm; have hC3 := hm.row hC; have hb3 := hm.below _ hb hgb; clear hm hC hb hgb hgh) | (go_at_call 30; (with_reducible refine (frame_calls _ _ p _ hC3 hcap (by rw [HPL.out]; decide)).mono ?_); rintro e w4 ⟨A1, c1, rfl, hc1, hC4, hb4⟩; rw [HT.out] at hC4 hc1 ⊢; have s1 := Kd.C_string (P := Try.prog) Try.underlying22 Try.underlying5 Try.underlying9 (c := c1) hC4; rw [hts] at s1; have hB := Lib.hid (below_step hb3 hb4); clear hb3 hb4 hC4 hc1 hC3 hcap))
  go_ret
  exact ⟨rfl, hB.out⟩
end Go.Proofs.Ytfdpbdaekfdnjaa.X
/- Plain laws on octets as numbers: what Get comes to, and that it leads back from Put. -/
namespace Go.Proofs.Ytfdpbdaekfdnjaa.X
open Go.RowKit Go.Proofs.YtfdpbdaekfdnjaaW.PrintWords Go.Proofs.YtfdpbdaekfdnjaaW.PrintLast Go.Proofs.YtfdpbdaekfdnjaaW.PrintMore
set_option linter.unusedVariables false
set_option linter.unusedSimpArgs false

theorem wraps_u64 (n : Int) (h0 : 0 ≤ n) (h1 : n < 2 ^ 64) : IntKind.u64.wrap n = n := by rw [IntKind.wrap_u64]; omega
theorem wraps_u32 (n : Int) (h0 : 0 ≤ n) (h1 : n < 2 ^ 32) : IntKind.u32.wrap n = n := by rw [IntKind.wrap_u32]; omega
/-- Octets as a number, so many of its bits as a word has. -/
def getF (acc : Int) (l : List Int) : Int := l.foldl (fun u c => (u * 256 + c) % 18446744073709551616) acc
theorem getF_range (l : List Int) : ∀ acc : Int, 0 ≤ acc → acc < 18446744073709551616 → 0 ≤ getF acc l ∧ getF acc l < 18446744073709551616 := by
  induction l with
  | nil => intro acc a b; exact ⟨a, b⟩
  | cons c l ih => intro acc a b; exact ih _ (by dsimp only; omega) (by dsimp only; omega)
def Octets (l : List Int) : Prop := ∀ x ∈ l, 0 ≤ x ∧ x < 256
theorem rd_at (l : List Int) (i : Nat) (h : i < l.length) : rd l (i : Int) = l[i] := by simp [rd, List.getD_eq_getElem?_getD, h]
theorem or_byte (acc c : Int) (ha : 0 ≤ acc) (hc : 0 ≤ c ∧ c < 256) : Go.bits .or .u64 (IntKind.u64.wrap (acc * 256)) (IntKind.u64.wrap c) = (acc * 256 + c) % 18446744073709551616 := by
  rw [IntKind.wrap_u64, IntKind.wrap_u64, bits_join .u64 64 (by decide) wraps_u64 8] <;> omega
theorem get_l0 (l : List Int) (hl : Octets l) (hm : l.length ≤ 9223372036854775807) (d : Nat) : ∀ (k : Nat) (i : Nat) (acc : Int), 0 ≤ acc → acc < 18446744073709551616 → i + d = l.length → d < k →
    octets_Get.l0 k acc l (l.length : Int) (i : Int) = some (getF acc (l.drop i) % 4611686018427387904) := by
  induction d with
  | zero =>
    intro k i acc h0 h1 hd hk
    obtain ⟨k, rfl⟩ : ∃ m, k = m + 1 := ⟨k - 1, by omega⟩
    simp only [octets_Get.l0]
    rw [if_neg (by omega), List.drop_of_length_le (by omega)]
    have e := bits_mask .u64 64 (by decide) wraps_u64 62 (by decide) acc h0 h1
    rw [show ((2 : Int) ^ 62 - 1) = 4611686018427387903 by decide, show ((2 : Int) ^ 62) = 4611686018427387904 by decide] at e
    rw [e]
    simp only [getF, List.foldl_nil, Option.some.injEq]
    unfold wrap64
    omega
  | succ d ih =>
    intro k i acc h0 h1 hd hk
    obtain ⟨k, rfl⟩ : ∃ m, k = m + 1 := ⟨k - 1, by omega⟩
    have hi : i < l.length := by omega
    have hr := hl _ (List.getElem_mem hi)
    simp only [octets_Get.l0]
    rw [if_pos (by omega), if_pos (by omega), if_pos (by omega), rd_at l i hi, or_byte acc _ h0 hr, show wrap64 ((i : Int) + 1) = ((i + 1 : Nat) : Int) by unfold wrap64; omega]
    rw [ih k (i + 1) _ (by omega) (by omega) (by omega) (by omega), List.drop_eq_getElem_cons hi]
    rfl
theorem get_f (l : List Int) (hl : Octets l) (hm : l.length ≤ 9223372036854775807) (k : Nat) (hk : l.length < k) : octets_Get.f k l = some (getF 0 l % 4611686018427387904) := by
  have := get_l0 l hl hm l.length k 0 0 (by omega) (by omega) (by omega) hk
  simpa [octets_Get.f] using this
theorem putL_octets (u : Int) : ∀ s, Octets (putL u s)
  | 0 => by intro x hx; simp [putL] at hx
  | s + 1 => by
    intro x hx
    rcases List.mem_cons.1 hx with rfl | hx
    · constructor <;> omega
    · exact putL_octets u s x hx
theorem mod_pow_step (n s : Nat) : (n : Int) % 256 ^ (s + 1) = (n : Int) % 256 ^ s + 256 ^ s * ((n : Int) / 256 ^ s % 256) := by
  have h := @Nat.mod_mul (256 ^ s) 256 n
  rw [← Nat.pow_succ] at h
  have h3 : ((n % 256 ^ (s + 1) : Nat) : Int) = ((n % 256 ^ s + 256 ^ s * (n / 256 ^ s % 256) : Nat) : Int) := by rw [h]
  simpa only [Int.natCast_emod, Int.natCast_pow, Int.natCast_add, Int.natCast_mul, Int.natCast_ediv, Int.cast_ofNat_Int] using h3
theorem getF_put (u : Int) (hu : 0 ≤ u) : ∀ (s : Nat) (acc : Int), getF acc (putL u s) % 18446744073709551616 = (acc * 256 ^ s + u % 256 ^ s) % 18446744073709551616
  | 0, acc => by simp [putL, getF, Int.emod_one]
  | s + 1, acc => by
    have ih := getF_put u hu s ((acc * 256 + u / 256 ^ s % 256) % 18446744073709551616)
    have e : getF acc (putL u (s + 1)) = getF ((acc * 256 + u / 256 ^ s % 256) % 18446744073709551616) (putL u s) := rfl
    rw [e, ih]
    have h2 : u % 256 ^ (s + 1) = u % 256 ^ s + 256 ^ s * (u / 256 ^ s % 256) := by
      obtain ⟨n, rfl⟩ := Int.eq_ofNat_of_zero_le hu
      exact mod_pow_step n s
    rw [h2, Int.add_emod, Int.mul_emod, Int.emod_emod, ← Int.mul_emod, ← Int.add_emod]
    congr 1
    rw [Int.pow_succ, Int.add_mul, Int.mul_assoc, Int.mul_comm 256 ((256 : Int) ^ s), Int.mul_comm (u / 256 ^ s % 256)]
    omega
theorem getF_putL (u : Int) (hu : 0 ≤ u) (s : Nat) : getF 0 (putL u s) = (u % 256 ^ s) % 18446744073709551616 := by
  have h := getF_put u hu s 0
  have hr := getF_range (putL u s) 0 (by omega) (by omega)
  rw [Int.emod_eq_of_lt hr.1 hr.2] at h
  simpa using h

/-- Three octets from a place on, as a number: how long a record is. -/
def lenAt (b : List Int) (at_ : Nat) : Int := getF 0 ((b.take (at_ + 3)).drop at_) % 4611686018427387904
theorem lenAt_nonneg (b : List Int) (at_ : Nat) : 0 ≤ lenAt b at_ := by unfold lenAt; omega
theorem octets_cut (b : List Int) (h : Octets b) (lo hi : Nat) : Octets ((b.take hi).drop lo) := fun x hx => h x (List.mem_of_mem_take (List.mem_of_mem_drop hx))
theorem lenAt_get (b : List Int) (hO : Octets b) (at_ : Nat) (h : at_ + 3 ≤ b.length) : octets_Get.f 4 ((b.take (at_ + 3)).drop at_) = some (lenAt b at_) := by
  have hl : ((b.take (at_ + 3)).drop at_).length = 3 := by rw [List.length_drop, List.length_take]; omega
  exact get_f _ (octets_cut b hO _ _) (by omega) 4 (by omega)
end Go.Proofs.Ytfdpbdaekfdnjaa.X
/- compact.Kind: a record's kind, by pack's reader. -/
namespace Go.Proofs.Ytfdpbdaekfdnjaa.X
open Go.RowKit Go.Proofs.YtfdpbdaekfdnjaaW.PrintWords Go.Proofs.YtfdpbdaekfdnjaaW.PrintLast Go.Proofs.YtfdpbdaekfdnjaaW.PrintMore
set_option linter.unusedVariables false
set_option linter.unusedSimpArgs false

instance (b : List Int) : Decidable (Octets b) := by unfold Octets; infer_instance
/-- A record's kind: the number of its first six octets, if it is from 1 to 7; else none. -/
def kindN (b : List Int) : Nat := if b.length < 6 then 0 else if 7 < getF 0 (b.take 6) % 4611686018427387904 then 0 else (getF 0 (b.take 6) % 4611686018427387904).toNat
theorem kindN_le (b : List Int) : kindN b ≤ 7 := by
  unfold kindN
  split
  · omega
  · split <;> omega

theorem Touch.then_ {S : Nat → Prop} {W W1 W2 : World} (h : Touch S W W1) (k : Touch S W1 W2) : Touch S W W2 :=
  ⟨k.os.trans h.os, k.tape.trans h.tape, k.output.trans h.output, Nat.le_trans h.size k.size, fun i hi hn => (k.block i (Nat.lt_of_lt_of_le hi h.size) hn).trans (h.block i hi hn)⟩
set_option maxRecDepth 100000 in
set_option maxHeartbeats 4000000 in
theorem ready_calls (W : World) (g : Nat) (v : Value) (h : W.heap[g]? = some (.cells #[v, .int .i64 0, .bool true] 91 (0, 0))) :
    Calls Try.prog 62 #[.pointer (some ⟨g, 0, none⟩)] W fun e w' => e = .returned (.bool true) ∧ W = w' := by
  have f1 := blk_cell h 1
  have f2 := blk_cell h 2
  go_enter Try.func62, Try.ntmps62
  go_wp2
  go_ret
  exact ⟨rfl, rfl⟩
set_option maxRecDepth 100000 in
set_option maxHeartbeats 4000000 in
theorem stop_calls (W : World) (g : Nat) (v e0 : Value) (k : Int) (h : W.heap[g]? = some (.cells #[v, e0, .bool true] 91 (0, 0))) :
    Calls Try.prog 64 #[.pointer (some ⟨g, 0, none⟩), .int .i64 k] W fun e w' => e = .returned (.tuple #[]) ∧ w'.heap[g]? = some (.cells #[.slice none 0 0, .int .i64 k, .bool true] 91 (0, 0)) ∧ Touch (· = g) W w' := by
  have f0 := blk_cell h 0
  have f1 := blk_cell h 1
  have r0 := blk_frozen h 0
  have r1 := blk_frozen h 1
  have H := Lib.hid h
  clear h
  go_enter Try.func64, Try.ntmps64
  go_wp2
  refine bodyPost_end (results_none rfl _ _ _) rfl ?_
  exact ⟨rfl, blk_put (blk_put H.out 0 (.slice none 0 0) rfl) 1 (.int .i64 k) rfl, ((Touch.refl (fun x => x = g) W).set (S := fun x => x = g) rfl 0 (.slice none 0 0)).set (S := fun x => x = g) rfl 1 (.int .i64 k)⟩
set_option maxRecDepth 100000 in
set_option maxHeartbeats 4000000 in
theorem take_short (W : World) (g : Nat) (A : Option Addr) (n c : Nat) (hn : n < 6) (h : W.heap[g]? = some (.cells #[.slice A n c, .int .i64 0, .bool true] 91 (0, 0))) :
    Calls Try.prog 63 #[.pointer (some ⟨g, 0, none⟩), .int .i64 6] W fun e w' => e = .returned (.slice none 0 0) ∧ w'.heap[g]? = some (.cells #[.slice none 0 0, .int .i64 8, .bool true] 91 (0, 0)) ∧ Touch (· = g) W w' := by
  have f0 := blk_cell h 0
  have d0 : decide ((n : Int) < 6) = true := decide_eq_true (by omega)
  have d1 : decide (n < 6) = true := decide_eq_true hn
  have H := Lib.hid h
  clear h hn
  go_enter Try.func63, Try.ntmps63
  go_wp2_with (go_at_call 64; (with_reducible refine (stop_calls _ _ _ _ _ H.out).mono ?_); rintro e w1 ⟨rfl, h1, ht⟩)
  go_ret
  exact ⟨rfl, h1, ht⟩
set_option maxRecDepth 100000 in
set_option maxHeartbeats 4000000 in
theorem take_six (W : World) (g : Nat) (A : Option Addr) (n c : Nat) (hn : 6 ≤ n) (hc : n ≤ c) (h : W.heap[g]? = some (.cells #[.slice A n c, .int .i64 0, .bool true] 91 (0, 0))) :
    Calls Try.prog 63 #[.pointer (some ⟨g, 0, none⟩), .int .i64 6] W fun e w' => e = .returned (.slice A 6 6) ∧ ∃ v, w'.heap[g]? = some (.cells #[v, .int .i64 0, .bool true] 91 (0, 0)) ∧ Touch (· = g) W w' := by
  have f0 := blk_cell h 0
  have r0 := blk_frozen h 0
  have d0 : decide ((n : Int) < 6) = false := decide_eq_false (by omega)
  have d1 : decide (n < 6) = false := decide_eq_false (by omega)
  have hmc : 6 ≤ c := by omega
  have H := Lib.hid h
  obtain ⟨i0, hi0, _, hsz0, _⟩ := info_parts info5
  obtain ⟨A6, hcut⟩ : ∃ A6, ∀ W : World, (Instr.slice 22 (.slice A n c) (some (.int .i64 6)) none none).run Try.prog W = .ok (.slice A6 (n - 6) (c - 6)) W := ⟨_, cut_from (P := Try.prog) 22 5 .i64 Try.underlying22 hi0 1 hsz0 A n c 6 (by omega) (by omega)⟩
  clear h hi0 hsz0
  go_enter Try.func63, Try.ntmps63
  go_wp2
  go_ret
  exact ⟨rfl, _, blk_put H.out 0 _ rfl, (Touch.refl (fun x => x = g) W).set (S := fun x => x = g) rfl 0 _⟩
set_option maxRecDepth 100000 in
set_option maxHeartbeats 4000000 in
theorem num_calls (W : World) (g : Nat) (A : Option Addr) (c : Nat) (b : List Int) (hc : b.length ≤ c) (hO : Octets b) (hl : b.length ≤ 140737488355328) (hC : Kd.C (Kd.int .u8) W A b.length b) (hap : ∀ W1, Touch (· = g) W W1 → Kd.C (Kd.int .u8) W1 A b.length b) (h : W.heap[g]? = some (.cells #[.slice A b.length c, .int .i64 0, .bool true] 91 (0, 0))) :
    Calls Try.prog 51 #[.pointer (some ⟨g, 0, none⟩), .int .i64 7] W fun e w' => e = .returned (.int .i64 (kindN b : Int)) ∧ Touch (· = g) W w' := by
  have H := Lib.hid h
  have HAP := Lib.hid hap
  clear h hap hC
  by_cases hn : b.length < 6
  · have hk : kindN b = 0 := by rw [kindN, if_pos hn]
    rw [hk]
    have HN := Lib.hid hn
    clear hn hk
    have hg0 : octets_Get.f 4 [] = some 0 := by decide +kernel
    go_enter Try.func51, Try.ntmps51
    go_wp2_with (first | (go_at_call 62; (with_reducible refine (ready_calls _ _ _ H.out).mono ?_); rintro e w0 ⟨rfl, rfl⟩) | (go_at_call 63; (with_reducible refine (take_short _ _ _ _ _ HN.out H.out).mono ?_); rintro e w1 ⟨rfl, h1, ht⟩; have f1 := blk_cell h1 1) | (go_at_call 57; refine (octets_Get.calls 4 none 0 [] 0 _ (Kd.C_nil _ _) (Nat.le_refl _) hg0).mono ?_; rintro e w2 ⟨rfl, ⟨nd, rfl⟩⟩))
    go_ret
    exact ⟨rfl, ht.drewN nd⟩
  · have hl6 : (b.take 6).length = 6 := by rw [List.length_take]; omega
    obtain ⟨q, hq⟩ : ∃ q, b.take 6 = q := ⟨_, rfl⟩
    rw [hq] at hl6
    obtain ⟨x, hx⟩ : ∃ x, getF 0 q % 4611686018427387904 = x := ⟨_, rfl⟩
    have hx0 : 0 ≤ x := by rw [← hx]; omega
    have hOq : Octets q := by rw [← hq]; exact fun z hz => hO z (List.mem_of_mem_take hz)
    have hg0 : octets_Get.f 7 q = some x := by rw [get_f q hOq (by omega) 7 (by omega), hx]
    have hk : kindN b = if 7 < x then 0 else x.toNat := by rw [kindN, if_neg hn, hq, hx]
    have hCq : ∀ W1, Touch (· = g) W W1 → Kd.C (Kd.int .u8) W1 A 6 q := fun W1 ht => by
      have := Kd.C_take (m := 6) (HAP.out W1 ht) (by omega)
      rw [hq, hl6] at this
      exact this
    have HQ := Lib.hid hCq
    have H6 := Lib.hid hl6
    have HG := Lib.hid hg0
    have HB : Hid (6 ≤ b.length) := Lib.hid (by omega)
    clear hq hOq hg0 hCq hl6
    have hgq : ∀ W1, Touch (· = g) W W1 → Calls Try.prog 57 #[.slice A 6 6] W1 fun e w' => e = .returned (.int .i64 x) ∧ Drawn0 W1 w' := fun W1 ht => by
      have := octets_Get.calls 7 A 6 q x W1 (by rw [H6.out]; exact HQ.out W1 ht) (by rw [H6.out]; omega) HG.out
      rw [H6.out] at this
      exact this
    have HGQ := Lib.hid hgq
    clear hgq
    by_cases h7 : 7 < x
    · rw [hk, if_pos h7]
      have d1 : decide (x > 7) = true := decide_eq_true h7
      have d2 : decide (7 < x) = true := decide_eq_true h7
      clear hk hn hx h7
      by_cases hbig : 1099511627776 < x
      · have d3 : decide (x > 1099511627776) = true := decide_eq_true hbig
        have d4 : decide (1099511627776 < x) = true := decide_eq_true hbig
        clear hbig
        go_enter Try.func51, Try.ntmps51
        go_wp2_with (first | (go_at_call 62; (with_reducible refine (ready_calls _ _ _ H.out).mono ?_); rintro e w0 ⟨rfl, rfl⟩) | (go_at_call 63; (with_reducible refine (take_six _ _ _ _ _ HB.out hc H.out).mono ?_); rintro e w1 ⟨rfl, v1, h1, ht⟩; have f1 := blk_cell h1 1) | (go_at_call 57; (with_reducible refine (HGQ.out _ ht).mono ?_); rintro e w2 ⟨rfl, ⟨nd, rfl⟩⟩; have h2 : (w1.drewN nd).heap[g]? = some (.cells #[v1, .int .i64 0, .bool true] 91 (0, 0)) := h1) | (go_at_call 64; (with_reducible refine (stop_calls _ _ _ _ _ h2).mono ?_); rintro e w3 ⟨rfl, h3, ht3⟩; have f3 := blk_cell h3 1))
        go_ret
        exact ⟨rfl, (ht.drewN nd).then_ ht3⟩
      · have d3 : decide (x > 1099511627776) = false := decide_eq_false hbig
        have d4 : decide (1099511627776 < x) = false := decide_eq_false hbig
        clear hbig
        go_enter Try.func51, Try.ntmps51
        go_wp2_with (first | (go_at_call 62; (with_reducible refine (ready_calls _ _ _ H.out).mono ?_); rintro e w0 ⟨rfl, rfl⟩) | (go_at_call 63; (with_reducible refine (take_six _ _ _ _ _ HB.out hc H.out).mono ?_); rintro e w1 ⟨rfl, v1, h1, ht⟩; have f1 := blk_cell h1 1) | (go_at_call 57; (with_reducible refine (HGQ.out _ ht).mono ?_); rintro e w2 ⟨rfl, ⟨nd, rfl⟩⟩; have h2 : (w1.drewN nd).heap[g]? = some (.cells #[v1, .int .i64 0, .bool true] 91 (0, 0)) := h1) | (go_at_call 64; (with_reducible refine (stop_calls _ _ _ _ _ h2).mono ?_); rintro e w3 ⟨rfl, h3, ht3⟩; have f3 := blk_cell h3 1))
        go_ret
        exact ⟨rfl, (ht.drewN nd).then_ ht3⟩
    · rw [hk, if_neg h7, show ((x.toNat : Nat) : Int) = x by omega]
      have d1 : decide (x > 7) = false := decide_eq_false h7
      have d2 : decide (7 < x) = false := decide_eq_false h7
      have d3 : decide (x > 1099511627776) = false := decide_eq_false (by omega)
      have d4 : decide (1099511627776 < x) = false := decide_eq_false (by omega)
      clear hk hn hx h7
      go_enter Try.func51, Try.ntmps51
      go_wp2_with (first | (go_at_call 62; (with_reducible refine (ready_calls _ _ _ H.out).mono ?_); rintro e w0 ⟨rfl, rfl⟩) | (go_at_call 63; (with_reducible refine (take_six _ _ _ _ _ HB.out hc H.out).mono ?_); rintro e w1 ⟨rfl, v1, h1, ht⟩; have f1 := blk_cell h1 1) | (go_at_call 57; (with_reducible refine (HGQ.out _ ht).mono ?_); rintro e w2 ⟨rfl, ⟨nd, rfl⟩⟩))
      go_ret
      exact ⟨rfl, ht.drewN nd⟩
set_option maxRecDepth 100000 in
set_option maxHeartbeats 4000000 in
theorem kind_calls (A : Option Addr) (c : Nat) (b : List Int) (w : World) (hC : Kd.C (Kd.int .u8) w A b.length b) (hc : b.length ≤ c) (hO : Octets b) (hl : b.length ≤ 140737488355328) :
    Calls Try.prog 36 #[.slice A b.length c] w fun e w' => e = .returned (.int .i64 (kindN b : Int)) ∧ Below w.heap.size w w' := by
  have HC := Lib.hid hC
  have HO := Lib.hid hO
  clear hC hO
  have hopen : Calls Try.prog 50 #[.slice A b.length c] w fun e w' => ∃ A2 c2 g, e = .returned (.pointer (some ⟨g, 0, none⟩)) ∧ b.length ≤ c2 ∧ w.heap.size ≤ g ∧ w'.heap[g]? = some (.cells #[.slice A2 b.length c2, .int .i64 0, .bool true] 91 (0, 0)) ∧ Kd.C (Kd.int .u8) w' A2 b.length b ∧ (∀ W1, Touch (· = g) w' W1 → Kd.C (Kd.int .u8) W1 A2 b.length b) ∧ Below w.heap.size w w' := by
    go_enter Try.func50, Try.ntmps50
    go_wp2_with (go_at_call 40; (with_reducible refine (cloneB_calls A c b _ HC.out hc (by omega)).mono ?_); rintro e w1 ⟨v1, rfl, ho, hb⟩; obtain ⟨A2, c2, rfl⟩ := Kd.R_slice ho; have F2 := Lib.hid (Kd.C_F (Kd.heap_int .u8) (Kd.R_reads' ho).2.2); have N2 := Lib.hid (Kd.R_reads' ho).2.1; have B2 := Lib.hid hb; clear ho hb)
    go_ret
    refine ⟨A2, c2, _, rfl, N2.out, B2.out.size, blk_new _ _, Kd.F_now (Kd.F_alloc F2.out _), fun W1 ht => ?_, below_alloc B2.out _⟩
    exact Kd.F_now (Kd.F_step (Kd.F_alloc F2.out _) (fun k hk hlt => ht.block k hlt (fun e => by omega)))
  have HOP := Lib.hid hopen
  clear hopen
  go_enter Try.func36, Try.ntmps36
  go_wp2_with (first | (go_at_call 50; (with_reducible refine HOP.out.mono ?_); rintro e w1 ⟨A2, c2, g, rfl, hc2, hg, hh, hC2, hap, hb⟩; have K2 := Lib.hid hap; have B2 := Lib.hid hb; have HH := Lib.hid hh; have HG := Lib.hid hg; clear hap hb hh hg) | (go_at_call 51; (with_reducible refine (num_calls _ g A2 c2 b hc2 HO.out hl hC2 K2.out HH.out).mono ?_); rintro e w2 ⟨rfl, ht⟩))
  go_ret
  exact ⟨rfl, ht.below B2.out (fun k hk => by rw [hk]; exact HG.out)⟩
end Go.Proofs.Ytfdpbdaekfdnjaa.X
/- slices.Reverse of rows, in place. -/
namespace Go.Proofs.Ytfdpbdaekfdnjaa.X
open Go.RowKit Go.Proofs.YtfdpbdaekfdnjaaW.PrintWords Go.Proofs.YtfdpbdaekfdnjaaW.PrintLast Go.Proofs.YtfdpbdaekfdnjaaW.PrintMore
set_option linter.unusedVariables false
set_option linter.unusedSimpArgs false

/-- One cell stored over an element of one cell. -/
theorem rows_put {W : World} {base g n cap : Nat} {ok okp : Nat → Prop} {ys : List (List Int)} (hR : Kd.R (Kd.slice 5 (Kd.int .u8)) 22 W base ok (.slice (some ⟨g, 0, none⟩) n cap) ys) (i : Nat) (hi : i < n) {x : List Int} {v : Value}
    (hM : (Kd.slice 5 (Kd.int .u8)).M W base okp x [v]) (hok : ∀ k, okp k → ok k ∧ k ≠ g) :
    Kd.R (Kd.slice 5 (Kd.int .u8)) 22 (W.setCell ⟨g, i, none⟩ v) base ok (.slice (some ⟨g, 0, none⟩) n cap) (ys.set i x) ∧ W.grownBy (W.setCell ⟨g, i, none⟩ v) (some g) := by
  obtain ⟨c, hcl, _, hcc, _⟩ := Kd.R_elem hR ([] : List Int) (i : Int) (by omega) (by omega)
  have h1 : c.length = 1 := hcl
  have hs : Kd.sz (Kd.slice 5 (Kd.int .u8)) = 1 := rfl
  have h := Kd.R_seg hR (i : Int) (by omega) (by omega) (c := c) (seg := [v]) (j := 0) hcl hcc (by rw [hs]; simp) (x' := x) (okp := okp) (by
    rw [List.take_zero, List.nil_append, List.drop_of_length_le (by simp [h1]), List.append_nil]
    exact hM) hok
  rw [Int.toNat_natCast, hs, Nat.mul_one, Nat.add_zero] at h
  exact h
theorem rows_swap {W : World} {base g n cap : Nat} {ok : Nat → Prop} {ys : List (List Int)} (hR : Kd.R (Kd.slice 5 (Kd.int .u8)) 22 W base ok (.slice (some ⟨g, 0, none⟩) n cap) ys) (i j : Nat) (hi : i < n) (hj : j < n) (hij : i ≠ j) :
    ∃ (Ai Aj : Option Addr) (ni nj ci cj : Nat), W.cell? ⟨g, i, none⟩ = some (.slice Ai ni ci) ∧ W.cell? ⟨g, j, none⟩ = some (.slice Aj nj cj) ∧ (∀ k, W.frozen? ⟨g, k, none⟩ = false) ∧
      Kd.R (Kd.slice 5 (Kd.int .u8)) 22 ((W.setCell ⟨g, i, none⟩ (.slice Aj nj cj)).setCell ⟨g, j, none⟩ (.slice Ai ni ci)) base ok (.slice (some ⟨g, 0, none⟩) n cap) ((ys.set i (ys.getD j [])).set j (ys.getD i [])) ∧
      W.grownBy ((W.setCell ⟨g, i, none⟩ (.slice Aj nj cj)).setCell ⟨g, j, none⟩ (.slice Ai ni ci)) (some g) := by
  obtain ⟨c, hcl, hM, hcc, _⟩ := Kd.R_elem hR ([] : List Int) (i : Int) (by omega) (by omega)
  obtain ⟨c2, hcl2, hM2, hcc2, _⟩ := Kd.R_elem hR ([] : List Int) (j : Int) (by omega) (by omega)
  obtain ⟨v, rfl, hv⟩ := hM
  obtain ⟨v2, rfl, hv2⟩ := hM2
  obtain ⟨A, c, rfl⟩ := Kd.R_slice hv
  obtain ⟨A2, c2, rfl⟩ := Kd.R_slice hv2
  have h1 := hcc 0 _ rfl
  have h2 := hcc2 0 _ rfl
  have hs : Kd.sz (Kd.slice 5 (Kd.int .u8)) = 1 := rfl
  simp only [Int.toNat_natCast, hs, Nat.mul_one, Nat.add_zero] at h1 h2 hv hv2
  have hfr : ∀ k, W.frozen? ⟨g, k, none⟩ = false := fun k => by
    obtain ⟨inner, ho⟩ := Kd.R_own hR
    obtain ⟨cells, hc⟩ := own_typed ho g (by simp [Value.ownBlock])
    exact blk_frozen hc _
  obtain ⟨hR1, hg1⟩ := rows_put hR i hi (x := ys.getD j []) ⟨_, rfl, hv2⟩ (fun k hk => hk)
  obtain ⟨hR2, hg2⟩ := rows_put hR1 j hj (x := ys.getD i []) (v := .slice A (ys.getD i []).length c) ⟨_, rfl, Kd.R_grown (Kd.R_mono hv (ok' := fun k => ok k ∧ k ≠ g) (fun k hk => hk)) hg1 (fun k hk e => hk.2 (Option.some.inj e))⟩ (fun k hk => hk)
  exact ⟨A, A2, _, _, c, c2, h1, h2, hfr, hR2, World.grownBy.trans hg1 hg2⟩
/-- How far a list is turned. -/
structure Turned (l : List (List Int)) (i : Nat) (ys : List (List Int)) : Prop where
  len : ys.length = l.length
  at_ : ∀ m, m < l.length → ys.getD m [] = if m < i ∨ l.length - i ≤ m then l.getD (l.length - 1 - m) [] else l.getD m []
theorem Turned.start (l : List (List Int)) : Turned l 0 l := ⟨rfl, fun m hm => by rw [if_neg (by omega)]⟩
theorem Turned.step {l ys : List (List Int)} {i j : Nat} (h : Turned l i ys) (hj : j + i + 1 = l.length) (hij : i < j) : Turned l (i + 1) ((ys.set i (ys.getD j [])).set j (ys.getD i [])) := by
  refine ⟨by simp [h.len], fun m hm => ?_⟩
  have hl := h.len
  have h1 := h.at_ i (by omega)
  have h2 := h.at_ j (by omega)
  rw [if_neg (by omega)] at h1 h2
  simp only [List.getD_eq_getElem?_getD, List.getElem?_set, List.length_set] at h1 h2 ⊢
  by_cases e1 : j = m
  · subst e1
    rw [if_pos rfl, if_pos (by omega), Option.getD_some, h1, if_pos (by omega), show l.length - 1 - j = i by omega]
  · rw [if_neg e1]
    by_cases e2 : i = m
    · subst e2
      rw [if_pos rfl, if_pos (by omega), Option.getD_some, h2, if_pos (by omega), show l.length - 1 - i = j by omega]
    · rw [if_neg e2]
      have h3 := h.at_ m hm
      simp only [List.getD_eq_getElem?_getD] at h3
      rw [h3]
      by_cases e3 : m < i ∨ l.length - i ≤ m
      · rw [if_pos e3, if_pos (by omega)]
      · rw [if_neg e3, if_neg (by omega)]
theorem Turned.end_ {l ys : List (List Int)} {i : Nat} (h : Turned l i ys) (hi : l.length ≤ i + i + 1) : ys = l.reverse := by
  apply List.ext_getElem
  · rw [List.length_reverse, h.len]
  intro m h1 h2
  have hl := h.len
  have h3 := h.at_ m (by omega)
  simp only [List.getD_eq_getElem?_getD, List.getElem?_eq_getElem h1, Option.getD_some] at h3
  rw [h3, List.getElem_reverse]
  by_cases e : m < i ∨ l.length - i ≤ m
  · rw [if_pos e, List.getElem?_eq_getElem (by omega), Option.getD_some]
  · rw [if_neg e, List.getElem?_eq_getElem (by omega), Option.getD_some]
    congr 1
    omega
set_option maxRecDepth 100000 in
set_option maxHeartbeats 4000000 in
theorem reverse_calls (v : Value) (l : List (List Int)) (base : Nat) (ok : Nat → Prop) (w : World) (hr : Kd.R (Kd.slice 5 (Kd.int .u8)) 22 w base ok v l) :
    Calls Try.prog 48 #[v] w fun e w' => e = .returned (.tuple #[]) ∧ Kd.R (Kd.slice 5 (Kd.int .u8)) 22 w' base ok v l.reverse ∧ w.grownBy w' v.ownBlock := by
  obtain ⟨A, c, rfl⟩ := Kd.R_slice hr
  obtain ⟨_, hlc, hC⟩ := Kd.R_reads' hr
  have hmx := Kd.C_max hC
  have HMX := Lib.hid hmx
  have HR := Lib.hid hr
  have e0 : wrap64 ((l.length : Int) - 1) = (l.length : Int) - 1 := wrap64_id _ (by omega) (by omega)
  clear hr hC hlc hmx
  go_enter Try.func48, Try.ntmps48
  go_wp2
  go_loopg [2, 3] (l.length + 1) (fun kq v2 v3 w' => ∃ (i : Nat) (ys : List (List Int)), v2 = .int .i64 (i : Int) ∧ v3 = .int .i64 ((l.length : Int) - 1 - i) ∧ Hid (kq + i = l.length + 1 ∧ i ≤ l.length) ∧ Hid (Turned l i ys ∧ Kd.R (Kd.slice 5 (Kd.int .u8)) 22 w' base ok (.slice A l.length c) ys ∧ w.grownBy w' (Value.slice A l.length c).ownBlock))
  case atStart => exact ⟨0, l, rfl, congrArg (Value.int .i64) (by omega), Lib.hid ⟨rfl, Nat.zero_le _⟩, Lib.hid ⟨Turned.start l, HR.out, ⟨rfl, rfl, rfl, Nat.le_refl _, fun _ _ _ => rfl⟩⟩⟩
  case round =>
    obtain ⟨i, ys, rfl, rfl, hk, hI⟩ := hrel
    by_cases ci : (i : Int) < (l.length : Int) - 1 - i
    · have c1 : decide ((i : Int) < (l.length : Int) - 1 - i) = true := decide_eq_true ci
      obtain ⟨j, hj⟩ : ∃ j : Nat, j + i + 1 = l.length := ⟨l.length - 1 - i, by omega⟩
      have ej : (l.length : Int) - 1 - i = (j : Int) := by omega
      rw [ej] at c1 ⊢
      have hij : i < j := by omega
      obtain ⟨g, cp, hv, _⟩ := Kd.R_form hI.out.2.1 (by rw [hI.out.1.len]; omega)
      injection hv with hA hN hc
      clear hN
      subst hA hc
      obtain ⟨Ai, Aj, ni, nj, xi, xj, h1, h2, hfr, hR2, hg2⟩ := rows_swap hI.out.2.1 i j (by omega) (by omega) (by omega)
      have f1 := hfr i
      have f2 := hfr j
      have p0 : (0 ≤ (i : Int)) = True := eq_true (by omega)
      have p1 : ((i : Int) < (l.length : Int)) = True := eq_true (by omega)
      have p2 : (0 ≤ (j : Int)) = True := eq_true (by omega)
      have p3 : ((j : Int) < (l.length : Int)) = True := eq_true (by omega)
      have q1 : (i < l.length) = True := eq_true (by omega)
      have q3 : (j < l.length) = True := eq_true (by omega)
      have HR2 := Lib.hid hR2
      have HG2 := Lib.hid hg2
      have HJ := Lib.hid hj
      have HIJ := Lib.hid hij
      clear hR2 hg2 hfr ci ej hj hij
      go_wp2
      go_region
      all_goals
        go_wp2
        obtain ⟨k1, rfl⟩ : ∃ k1, gk = k1 + 1 := ⟨gk - 1, by have := hk.out; omega⟩
        go_roundg k1
        case measure => omega
        case rel => exact ⟨i + 1, _, congrArg (Value.int .i64) (by have := HJ.out; have := HMX.out; unfold wrap64; omega), congrArg (Value.int .i64) (by have := HJ.out; have := HMX.out; have := HIJ.out; unfold wrap64; omega), Lib.hid ⟨by have := hk.out; omega, by have := HJ.out; omega⟩, Lib.hid ⟨hI.out.1.step HJ.out HIJ.out, Kd.R_drew HR2.out, World.grownBy.trans hI.out.2.2 ⟨HG2.out.os, HG2.out.tape, HG2.out.output, HG2.out.size, HG2.out.block⟩⟩⟩
    · have c1 : decide ((i : Int) < (l.length : Int) - 1 - i) = false := decide_eq_false ci
      have he := hI.out.1.end_ (by omega)
      have HE := Lib.hid he
      clear he ci
      go_wp2
      refine bodyPost_end (results_none rfl _ _ _) rfl ?_
      exact ⟨rfl, by rw [← HE.out]; exact hI.out.2.1, hI.out.2.2⟩
end Go.Proofs.Ytfdpbdaekfdnjaa.X
/- A disk that nobody made: each call on it. -/
namespace Go.Proofs.Ytfdpbdaekfdnjaa.X
open Go.RowKit Go.Proofs.YtfdpbdaekfdnjaaW.PrintWords Go.Proofs.YtfdpbdaekfdnjaaW.PrintLast Go.Proofs.YtfdpbdaekfdnjaaW.PrintMore
set_option linter.unusedVariables false
set_option linter.unusedSimpArgs false
def Dead (W : World) (p : Option Addr) : Prop := p = none ∨ ∃ g, p = some ⟨g, 0, none⟩ ∧ W.heap[g]? = some (.cells #[.slice none 0 0, .int .i64 0, .int .i64 0, .bool false] 49 (0, 0))
section
variable (W : World) (p : Option Addr) (h : Dead W p)
include h
set_option maxRecDepth 100000 in
set_option maxHeartbeats 4000000 in
theorem isnt_calls : Calls Try.prog 39 #[.pointer p] W fun e w' => e = .returned (.bool false) ∧ W = w' := by
  rcases h with rfl | ⟨g, rfl, hh⟩
  · go_enter Try.func39, Try.ntmps39
    go_wp2
    go_ret
    exact ⟨rfl, rfl⟩
  · have f3 := blk_cell hh 3
    go_enter Try.func39, Try.ntmps39
    go_wp2
    go_ret
    exact ⟨rfl, rfl⟩
set_option maxRecDepth 100000 in
set_option maxHeartbeats 4000000 in
theorem dead_append (v : Value) : Calls Try.prog 16 #[.pointer p, v] W fun e w' => e = .returned (.int .i64 9) ∧ W = w' := by
  go_enter Try.func16, Try.ntmps16
  go_wp2_with (go_at_call 39; (with_reducible refine (isnt_calls _ _ h).mono ?_); rintro e w' ⟨rfl, rfl⟩)
  go_ret
  exact ⟨rfl, rfl⟩
set_option maxRecDepth 100000 in
set_option maxHeartbeats 4000000 in
theorem dead_loose : Calls Try.prog 20 #[.pointer p] W fun e w' => e = .returned (.int .i64 0) ∧ W = w' := by
  go_enter Try.func20, Try.ntmps20
  go_wp2_with (go_at_call 39; (with_reducible refine (isnt_calls _ _ h).mono ?_); rintro e w' ⟨rfl, rfl⟩)
  go_ret
  exact ⟨rfl, rfl⟩
set_option maxRecDepth 100000 in
set_option maxHeartbeats 4000000 in
theorem dead_flush : Calls Try.prog 17 #[.pointer p] W fun e w' => e = .returned (.int .i64 0) ∧ W = w' := by
  go_enter Try.func17, Try.ntmps17
  go_wp2_with (first | (go_at_call 20; (with_reducible refine (dead_loose _ _ h).mono ?_); rintro e w' ⟨rfl, rfl⟩) | (go_at_call 39; (with_reducible refine (isnt_calls _ _ h).mono ?_); rintro e w' ⟨rfl, rfl⟩))
  go_ret
  exact ⟨rfl, rfl⟩
set_option maxRecDepth 100000 in
set_option maxHeartbeats 4000000 in
theorem dead_crash (n : Int) : Calls Try.prog 18 #[.pointer p, .int .i64 n] W fun e w' => e = .returned (.tuple #[]) ∧ W = w' := by
  go_enter Try.func18, Try.ntmps18
  go_wp2_with (go_at_call 39; (with_reducible refine (isnt_calls _ _ h).mono ?_); rintro e w' ⟨rfl, rfl⟩)
  refine bodyPost_ret (results_none rfl _ _ _) rfl ?_
  exact ⟨rfl, rfl⟩
set_option maxRecDepth 100000 in
set_option maxHeartbeats 4000000 in
theorem dead_read : Calls Try.prog 19 #[.pointer p] W fun e w' => e = .returned (.slice none 0 0) ∧ W = w' := by
  go_enter Try.func19, Try.ntmps19
  go_wp2_with (go_at_call 39; (with_reducible refine (isnt_calls _ _ h).mono ?_); rintro e w' ⟨rfl, rfl⟩)
  go_ret
  exact ⟨rfl, rfl⟩
set_option maxRecDepth 100000 in
set_option maxHeartbeats 4000000 in
theorem dead_cut (n : Int) : Calls Try.prog 28 #[.pointer p, .int .i64 n] W fun e w' => e = .returned (.int .i64 9) ∧ W = w' := by
  go_enter Try.func28, Try.ntmps28
  go_wp2_with (go_at_call 39; (with_reducible refine (isnt_calls _ _ h).mono ?_); rintro e w' ⟨rfl, rfl⟩)
  go_ret
  exact ⟨rfl, rfl⟩
set_option maxRecDepth 100000 in
set_option maxHeartbeats 4000000 in
theorem dead_size : Calls Try.prog 29 #[.pointer p] W fun e w' => e = .returned (.int .i64 0) ∧ W = w' := by
  go_enter Try.func29, Try.ntmps29
  go_wp2_with (go_at_call 39; (with_reducible refine (isnt_calls _ _ h).mono ?_); rintro e w' ⟨rfl, rfl⟩)
  go_ret
  exact ⟨rfl, rfl⟩
end
end Go.Proofs.Ytfdpbdaekfdnjaa.X
/- journal.Write: records more, on a disk that a call has made, and on one that nobody made. -/
namespace Go.Proofs.Ytfdpbdaekfdnjaa.X
open Go.RowKit Go.Proofs.YtfdpbdaekfdnjaaW.PrintWords Go.Proofs.YtfdpbdaekfdnjaaW.PrintLast Go.Proofs.YtfdpbdaekfdnjaaW.PrintMore
set_option linter.unusedVariables false
set_option linter.unusedSimpArgs false

/-- All frames, one behind the other. -/
def framesL (l : List (List Int)) : List Int := (l.map frameL).flatten
theorem framesL_snoc (l : List (List Int)) (b : List Int) : framesL (l ++ [b]) = framesL l ++ frameL b := by simp [framesL]
theorem framesL_append (l m : List (List Int)) : framesL (l ++ m) = framesL l ++ framesL m := by simp [framesL]
theorem framesL_take_le (l : List (List Int)) (i : Nat) : (framesL (l.take i)).length ≤ (framesL l).length := by
  have h := framesL_append (l.take i) (l.drop i)
  rw [List.take_append_drop] at h
  rw [h, List.length_append]
  omega
theorem framesL_next (l : List (List Int)) (i : Nat) (h : i < l.length) : framesL (l.take (i + 1)) = framesL (l.take i) ++ frameL (rd_L1 l (i : Int)) := by
  rw [List.take_succ_eq_append_getElem h, framesL_snoc, rdL2_at l i h]

set_option maxRecDepth 100000 in
set_option maxHeartbeats 4000000 in
theorem write_calls {w W : World} {g : Nat} {xs : List Int} {sure : Nat} {room : Int} (h : DS w W g xs sure room) (A : Option Addr) (c : Nat) (l : List (List Int)) (hC : Kd.C (Kd.slice 5 (Kd.int .u8)) w A l.length l)
    (hl : l.length ≤ 4611686018427387904) (m : Nat) (hm : m ≤ l.length) (hpre : ∀ i, i < m → (rd_L1 l (i : Int)).length ≤ 16384) (hend : m < l.length → 16384 < (rd_L1 l (m : Int)).length) (ht : (framesL (l.take m)).length < 140737488355328)
    (e0 : Int) (zs : List Int) (hlong : m < l.length → e0 = 5 ∧ zs = xs) (hno : m = l.length → room < (xs.length : Int) + (framesL l).length → e0 = 17 ∧ zs = xs) (hyes : m = l.length → (xs.length : Int) + (framesL l).length ≤ room → e0 = 0 ∧ zs = xs ++ framesL l) :
    Calls Try.prog 22 #[.pointer (some ⟨g, 0, none⟩), .slice A l.length c] W fun e w' => e = .returned (.int .i64 e0) ∧ DS w w' g zs sure room := by
  have HC := Lib.hid hC
  have HPRE := Lib.hid hpre
  have HEND := Lib.hid hend
  have HT := Lib.hid ht
  have HLONG := Lib.hid hlong
  have HNO := Lib.hid hno
  have HYES := Lib.hid hyes
  have HM := Lib.hid hm
  have HLL := Lib.hid hl
  have hx0 := h.hx
  clear hC hpre hend ht hlong hno hyes hm hl
  go_enter Try.func22, Try.ntmps22
  go_wp2_with (go_at_call 16; refine (DS.append h none 0 [] (Kd.C_nil _ _) 0 xs (fun hh => absurd hh (by simp only [List.length_nil]; omega)) (fun _ => ⟨rfl, by simp⟩)).mono ?_; rintro e w1 ⟨rfl, h1⟩; have HC1 := Lib.hid (Kd.C_below HC.out h1.below))
  have H1 := Lib.hid h1
  clear h1 h hx0
  go_loopg [5, 15] (m + 1) (fun kq v5 v15 w' => ∃ i : Nat, v15 = .int .i64 (i : Int) ∧ Hid (i ≤ m) ∧ Hid (kq + i = m + 1) ∧ Hid (Kd.R (Kd.int .u8) 5 w' w1.heap.size (fun _ => True) v5 (framesL (l.take i))) ∧ Hid (Below w1.heap.size w1 w'))
  case atStart => exact ⟨0, rfl, Lib.hid (Nat.zero_le _), Lib.hid rfl, Lib.hid (Kd.R_nil _ _ _ _ _), Lib.hid (Below.refl _ _)⟩
  case round =>
    obtain ⟨i, rfl, hi, hk8, hR, hB⟩ := hrel
    by_cases ci : i < l.length
    · have c1 : decide ((i : Int) < (l.length : Int)) = true := decide_eq_true (by omega)
      have p0 : (0 ≤ (i : Int)) = True := eq_true (by omega)
      have p1 : ((i : Int) < (l.length : Int)) = True := eq_true (by omega)
      obtain ⟨ad, A1, c1_, rfl, hx, hl1, hi1⟩ := at_L1 HC1.out i (by omega) (by omega)
      rw [Int.toNat_natCast] at hx
      replace hx := (hB.out.cell (World.block_lt_of_cell? w1 _ hx)).trans hx
      have HCI := Lib.hid (Kd.C_below hi1 hB.out)
      have HLI := Lib.hid hl1
      clear hi1 hl1
      have CI := Lib.hid ci
      clear ci
      obtain ⟨b, hb⟩ : ∃ b, rd_L1 l (i : Int) = b := ⟨_, rfl⟩
      rw [hb] at hx HCI HLI
      have HBB := Lib.hid hb
      clear hb
      by_cases cm : i < m
      · have hbl : b.length ≤ 16384 := by rw [← HBB.out]; exact HPRE.out i cm
        have HBL := Lib.hid hbl
        have CM := Lib.hid cm
        clear hbl cm
        have hnx := framesL_next l i CI.out
        have htl : (framesL (l.take i) ++ frameL b).length < 140737488355328 := by
          rw [← HBB.out, ← hnx]
          have e : l.take (i + 1) = (l.take m).take (i + 1) := by rw [List.take_take, Nat.min_eq_left (by have := CM.out; omega)]
          rw [e]
          exact Nat.lt_of_le_of_lt (framesL_take_le _ _) HT.out
        rw [HBB.out] at hnx
        have HNX := Lib.hid hnx
        have HTL := Lib.hid htl
        clear hnx htl
        go_wp2_with (first | (go_at_call 30; (with_reducible refine (frame_calls _ _ b _ HCI.out HLI.out HBL.out).mono ?_); rintro e w2 ⟨A2, c2, rfl, hc2, hC2, hb2⟩; have HC2 := Lib.hid hC2; have HR2 := Lib.hid (Kd.R_below hR.out hb2); have HB2 := Lib.hid (below_step hB.out hb2); clear hC2 hb2) | ((with_reducible refine gate_builtin (b := .append) (xs := #[.tmp 27, .tmp 28]) rfl ?_); at_builtin; (refine Kd.R_append_rows (Kd.int .u8) (w0 := w1) w1.heap.size rfl (.tmp 27) (.tmp 28) 22 5 (.int .u8 0) 1 rfl Try.underlying22 info5 rfl (by decide) (by omega) u5 (framesL (l.take i)) (frameL b) _ _ _ (fun _ => True) (fun _ => False) rfl rfl HR2.out HC2.out (fun _ _ h => h) (fun _ h => h.elim) (fun _ _ => trivial) HB2.out (below_size HB2.out) ?aL ?_); (case aL => have := HTL.out; rw [List.length_append] at this; omega); intro v9 w3 ho hb hg hat; rw [← HNX.out] at ho; have HR3 := Lib.hid ho; have HB3 := Lib.hid hb; clear ho hb hg hat))
        obtain ⟨k1, rfl⟩ : ∃ k1, gk = k1 + 1 := ⟨gk - 1, by have := hk8.out; have := CM.out; omega⟩
        go_roundg k1
        case measure => omega
        case rel => exact ⟨i + 1, congrArg (Value.int .i64) (by have := CI.out; have := HLL.out; rw [wrap64_id _ (by omega) (by omega)]; rfl), Lib.hid CM.out, Lib.hid (by have := hk8.out; omega), Lib.hid HR3.out, Lib.hid HB3.out⟩
      · obtain rfl : i = m := by have := hi.out; omega
        have hbl : 16384 < b.length := by rw [← HBB.out]; exact HEND.out CI.out
        have HBL := Lib.hid hbl
        have hlg := HLONG.out CI.out
        clear hbl cm
        obtain ⟨rfl, rfl⟩ := hlg
        go_wp2_with (go_at_call 30; (with_reducible refine (frame_calls_long _ _ b _ HCI.out HLI.out HBL.out).mono ?_); rintro e w2 ⟨A2, c2, rfl, hC2, hb2⟩; have HB2 := Lib.hid (below_step hB.out hb2); clear hC2 hb2)
        go_ret
        exact ⟨rfl, H1.out.step HB2.out⟩
    · have c1 : decide ((i : Int) < (l.length : Int)) = false := decide_eq_false (by omega)
      have c2 : decide (i < l.length) = false := decide_eq_false ci
      have hie : i = l.length := by have := hi.out; have := HM.out; omega
      have hml : m = l.length := by have := hi.out; have := HM.out; omega
      have hn := HNO.out hml
      have hy := HYES.out hml
      have hRl := hR.out
      rw [hie, List.take_length] at hRl
      obtain ⟨A3, c3, rfl⟩ := Kd.R_slice hRl
      have HN := Lib.hid hn
      have HY := Lib.hid hy
      have HC3 := Lib.hid (Kd.R_reads' hRl).2.2
      clear hRl hn hy hie hml ci
      go_wp2_with (go_at_call 16; (refine (DS.append (H1.out.step hB.out) A3 c3 (framesL l) HC3.out e0 zs HN.out HY.out).mono ?_); rintro e w4 ⟨rfl, h4⟩)
      go_ret
      exact ⟨rfl, h4⟩
set_option maxRecDepth 100000 in
set_option maxHeartbeats 4000000 in
theorem dead_write (W : World) (p : Option Addr) (h : Dead W p) (v : Value) : Calls Try.prog 22 #[.pointer p, v] W fun e w' => e = .returned (.int .i64 9) ∧ W = w' := by
  go_enter Try.func22, Try.ntmps22
  go_wp2_with (go_at_call 16; refine (dead_append _ _ h _).mono ?_; rintro e w' ⟨rfl, rfl⟩)
  go_ret
  exact ⟨rfl, rfl⟩
set_option maxRecDepth 100000 in
set_option maxHeartbeats 4000000 in
theorem dead_recover (W : World) (p : Option Addr) (h : Dead W p) : Calls Try.prog 26 #[.pointer p] W fun e w' => e = .returned (.tuple #[.slice none 0 0, .int .i64 9]) ∧ W = w' := by
  go_enter Try.func26, Try.ntmps26
  go_wp2_with (go_at_call 16; refine (dead_append _ _ h _).mono ?_; rintro e w' ⟨rfl, rfl⟩)
  go_ret2
  exact ⟨rfl, rfl⟩
end Go.Proofs.Ytfdpbdaekfdnjaa.X
/- journal.Write on one disk beside others: what it touches. -/
namespace Go.Proofs.Ytfdpbdaekfdnjaa.X
open Go.RowKit Go.Proofs.YtfdpbdaekfdnjaaW.PrintWords Go.Proofs.YtfdpbdaekfdnjaaW.PrintLast Go.Proofs.YtfdpbdaekfdnjaaW.PrintMore
set_option linter.unusedVariables false
set_option linter.unusedSimpArgs false

/-- A disk, with what is known of its numbers. -/
structure Dk (W : World) (base g : Nat) (v : Value) (xs : List Int) (sure : Nat) (room : Int) : Prop where
  d : DiskAt W base g v xs sure room
  hs : sure ≤ xs.length
  r0 : 0 ≤ room
  r1 : room ≤ 262144
  hx : (xs.length : Int) ≤ room
def Own (g : Nat) (v : Value) (k : Nat) : Prop := k = g ∨ v.ownBlock = some k
/-- Only the disk's own blocks are turned, and its row is where it was, or in a block that is new. -/
structure Step (W W' : World) (g : Nat) (v v' : Value) : Prop where
  t : Touch (Own g v) W W'
  at_ : v'.ownBlock = v.ownBlock ∨ ∃ b, v'.ownBlock = some b ∧ W.heap.size ≤ b
theorem Touch.of_below {S : Nat → Prop} {W W' : World} (h : Below W.heap.size W W') : Touch S W W' := ⟨h.os, h.tape, h.output, h.size, fun k hk _ => h.block k hk⟩
theorem Step.refl (W : World) (g : Nat) (v : Value) : Step W W g v v := ⟨Touch.refl _ _, .inl rfl⟩
theorem Step.below {W W1 W2 : World} {g : Nat} {v v1 : Value} (h : Step W W1 g v v1) (hb : Below W1.heap.size W1 W2) : Step W W2 g v v1 :=
  ⟨⟨hb.os.trans h.t.os, hb.tape.trans h.t.tape, hb.output.trans h.t.output, Nat.le_trans h.t.size hb.size, fun k hk hn => (hb.block k (Nat.lt_of_lt_of_le hk h.t.size)).trans (h.t.block k hk hn)⟩, h.at_⟩
theorem Step.trans {W W1 W2 : World} {g : Nat} {v v1 v2 : Value} (h : Step W W1 g v v1) (k : Step W1 W2 g v1 v2) : Step W W2 g v v2 := by
  refine ⟨⟨k.t.os.trans h.t.os, k.t.tape.trans h.t.tape, k.t.output.trans h.t.output, Nat.le_trans h.t.size k.t.size, fun i hi hn => ?_⟩, ?_⟩
  · refine (k.t.block i (Nat.lt_of_lt_of_le hi h.t.size) (fun ho => ?_)).trans (h.t.block i hi hn)
    rcases ho with ho | ho
    · exact hn (.inl ho)
    · rcases h.at_ with e | ⟨b, e, hb⟩
      · exact hn (.inr (e ▸ ho))
      · rw [e] at ho
        obtain rfl := Option.some.inj ho
        omega
  · rcases k.at_ with e | ⟨b, e, hb⟩
    · rcases h.at_ with e2 | ⟨b, e2, hb⟩
      · exact .inl (e.trans e2)
      · exact .inr ⟨b, e.trans e2, hb⟩
    · exact .inr ⟨b, e, Nat.le_trans h.t.size hb⟩
theorem Dk.below {W W1 : World} {base g : Nat} {v : Value} {xs : List Int} {sure : Nat} {room : Int} (h : Dk W base g v xs sure room) (hb : Below W.heap.size W W1) : Dk W1 base g v xs sure room := ⟨h.d.below hb, h.hs, h.r0, h.r1, h.hx⟩
theorem Dk.own {W : World} {base g : Nat} {v : Value} {xs : List Int} {sure : Nat} {room : Int} (h : Dk W base g v xs sure room) : ∀ k, Own g v k → base ≤ k ∧ k < W.heap.size := fun k hk => by
  rcases hk with rfl | hk
  · exact ⟨h.d.ge, blk_lt h.d.blk⟩
  · exact h.d.row.lt k hk
theorem dk_append {W : World} {base g : Nat} {v : Value} {xs : List Int} {sure : Nat} {room : Int} (h : Dk W base g v xs sure room) (A1 : Option Addr) (c1 : Nat) (ys : List Int) (hC : Kd.C (Kd.int .u8) W A1 ys.length ys) (e0 : Int) (zs : List Int)
    (hno : room < (xs.length : Int) + ys.length → e0 = 17 ∧ zs = xs) (hyes : (xs.length : Int) + ys.length ≤ room → e0 = 0 ∧ zs = xs ++ ys) :
    Calls Try.prog 16 #[.pointer (some ⟨g, 0, none⟩), .slice A1 ys.length c1] W fun e w' => e = .returned (.int .i64 e0) ∧ ∃ v', Dk w' base g v' zs sure room ∧ Step W w' g v v' := by
  refine (append_calls W base g v xs sure room A1 c1 ys h.d hC h.r0 (by have := h.r1; omega) h.hx).mono ?_
  rintro e w' ⟨h1, h2⟩
  by_cases c : room < (xs.length : Int) + ys.length
  · obtain ⟨rfl, rfl⟩ := hno c
    obtain ⟨rfl, n, rfl⟩ := h1 c
    exact ⟨rfl, v, h.below (pw_below_drewN (Below.refl _ _) n), (Step.refl _ _ _).below (pw_below_drewN (Below.refl _ _) n)⟩
  · obtain ⟨rfl, rfl⟩ := hyes (by omega)
    obtain ⟨rfl, v1, hd1, ht, hat⟩ := h2 (by omega)
    exact ⟨rfl, v1, ⟨hd1, by have := h.hs; rw [List.length_append]; omega, h.r0, h.r1, by rw [List.length_append]; omega⟩, ⟨ht, hat⟩⟩

set_option maxRecDepth 100000 in
set_option maxHeartbeats 40000000 in
theorem dk_write {W : World} {base g : Nat} {v : Value} {xs : List Int} {sure : Nat} {room : Int} (h : Dk W base g v xs sure room) (A : Option Addr) (c : Nat) (l : List (List Int)) (hC : ∀ W1, Touch (Own g v) W W1 → Kd.C (Kd.slice 5 (Kd.int .u8)) W1 A l.length l)
    (hl : l.length ≤ 4611686018427387904) (m : Nat) (hm : m ≤ l.length) (hpre : ∀ i, i < m → (rd_L1 l (i : Int)).length ≤ 16384) (hend : m < l.length → 16384 < (rd_L1 l (m : Int)).length) (ht : (framesL (l.take m)).length < 140737488355328)
    (e0 : Int) (zs : List Int) (hlong : m < l.length → e0 = 5 ∧ zs = xs) (hno : m = l.length → room < (xs.length : Int) + (framesL l).length → e0 = 17 ∧ zs = xs) (hyes : m = l.length → (xs.length : Int) + (framesL l).length ≤ room → e0 = 0 ∧ zs = xs ++ framesL l) :
    Calls Try.prog 22 #[.pointer (some ⟨g, 0, none⟩), .slice A l.length c] W fun e w' => e = .returned (.int .i64 e0) ∧ ∃ v', Dk w' base g v' zs sure room ∧ Step W w' g v v' := by
  have HC := Lib.hid hC
  have HPRE := Lib.hid hpre
  have HEND := Lib.hid hend
  have HT := Lib.hid ht
  have HLONG := Lib.hid hlong
  have HNO := Lib.hid hno
  have HYES := Lib.hid hyes
  have HM := Lib.hid hm
  have HLL := Lib.hid hl
  have hx0 := h.hx
  clear hC hpre hend ht hlong hno hyes hm hl
  go_enter Try.func22, Try.ntmps22
  go_wp2_with (go_at_call 16; refine (dk_append h none 0 [] (Kd.C_nil _ _) 0 xs (fun hh => absurd hh (by simp only [List.length_nil]; omega)) (fun _ => ⟨rfl, by simp⟩)).mono ?_; rintro e w1 ⟨rfl, v1, h1, hs1⟩; have HC1 := Lib.hid (HC.out w1 hs1.t))
  have H1 := Lib.hid h1
  have HS1 := Lib.hid hs1
  clear h1 h hx0 hs1
  go_loopg [5, 15] (m + 1) (fun kq v5 v15 w' => ∃ i : Nat, v15 = .int .i64 (i : Int) ∧ Hid (i ≤ m) ∧ Hid (kq + i = m + 1) ∧ Hid (Kd.R (Kd.int .u8) 5 w' w1.heap.size (fun _ => True) v5 (framesL (l.take i))) ∧ Hid (Below w1.heap.size w1 w'))
  case atStart => exact ⟨0, rfl, Lib.hid (Nat.zero_le _), Lib.hid rfl, Lib.hid (Kd.R_nil _ _ _ _ _), Lib.hid (Below.refl _ _)⟩
  case round =>
    obtain ⟨i, rfl, hi, hk8, hR, hB⟩ := hrel
    by_cases ci : i < l.length
    · have c1 : decide ((i : Int) < (l.length : Int)) = true := decide_eq_true (by omega)
      have p0 : (0 ≤ (i : Int)) = True := eq_true (by omega)
      have p1 : ((i : Int) < (l.length : Int)) = True := eq_true (by omega)
      obtain ⟨ad, A1, c1_, rfl, hx, hl1, hi1⟩ := at_L1 HC1.out i (by omega) (by omega)
      rw [Int.toNat_natCast] at hx
      replace hx := (hB.out.cell (World.block_lt_of_cell? w1 _ hx)).trans hx
      have HCI := Lib.hid (Kd.C_below hi1 hB.out)
      have HLI := Lib.hid hl1
      clear hi1 hl1
      have CI := Lib.hid ci
      clear ci
      obtain ⟨b, hb⟩ : ∃ b, rd_L1 l (i : Int) = b := ⟨_, rfl⟩
      rw [hb] at hx HCI HLI
      have HBB := Lib.hid hb
      clear hb
      by_cases cm : i < m
      · have hbl : b.length ≤ 16384 := by rw [← HBB.out]; exact HPRE.out i cm
        have HBL := Lib.hid hbl
        have CM := Lib.hid cm
        clear hbl cm
        have hnx := framesL_next l i CI.out
        have htl : (framesL (l.take i) ++ frameL b).length < 140737488355328 := by
          rw [← HBB.out, ← hnx]
          have e : l.take (i + 1) = (l.take m).take (i + 1) := by rw [List.take_take, Nat.min_eq_left (by have := CM.out; omega)]
          rw [e]
          exact Nat.lt_of_le_of_lt (framesL_take_le _ _) HT.out
        rw [HBB.out] at hnx
        have HNX := Lib.hid hnx
        have HTL := Lib.hid htl
        clear hnx htl
        go_wp2_with (first | (go_at_call 30; (with_reducible refine (frame_calls _ _ b _ HCI.out HLI.out HBL.out).mono ?_); rintro e w2 ⟨A2, c2, rfl, hc2, hC2, hb2⟩; have HC2 := Lib.hid hC2; have HR2 := Lib.hid (Kd.R_below hR.out hb2); have HB2 := Lib.hid (below_step hB.out hb2); clear hC2 hb2) | ((with_reducible refine gate_builtin (b := .append) (xs := #[.tmp 27, .tmp 28]) rfl ?_); at_builtin; (refine Kd.R_append_rows (Kd.int .u8) (w0 := w1) w1.heap.size rfl (.tmp 27) (.tmp 28) 22 5 (.int .u8 0) 1 rfl Try.underlying22 info5 rfl (by decide) (by omega) u5 (framesL (l.take i)) (frameL b) _ _ _ (fun _ => True) (fun _ => False) rfl rfl HR2.out HC2.out (fun _ _ h => h) (fun _ h => h.elim) (fun _ _ => trivial) HB2.out (below_size HB2.out) ?aL ?_); (case aL => have := HTL.out; rw [List.length_append] at this; omega); intro v9 w3 ho hb hg hat; rw [← HNX.out] at ho; have HR3 := Lib.hid ho; have HB3 := Lib.hid hb; clear ho hb hg hat))
        obtain ⟨k1, rfl⟩ : ∃ k1, gk = k1 + 1 := ⟨gk - 1, by have := hk8.out; have := CM.out; omega⟩
        go_roundg k1
        case measure => omega
        case rel => exact ⟨i + 1, congrArg (Value.int .i64) (by have := CI.out; have := HLL.out; rw [wrap64_id _ (by omega) (by omega)]; rfl), Lib.hid CM.out, Lib.hid (by have := hk8.out; omega), Lib.hid HR3.out, Lib.hid HB3.out⟩
      · obtain rfl : i = m := by have := hi.out; omega
        have hbl : 16384 < b.length := by rw [← HBB.out]; exact HEND.out CI.out
        have HBL := Lib.hid hbl
        have hlg := HLONG.out CI.out
        clear hbl cm
        obtain ⟨rfl, rfl⟩ := hlg
        go_wp2_with (go_at_call 30; (with_reducible refine (frame_calls_long _ _ b _ HCI.out HLI.out HBL.out).mono ?_); rintro e w2 ⟨A2, c2, rfl, hC2, hb2⟩; have HB2 := Lib.hid (below_step hB.out hb2); clear hC2 hb2)
        go_ret
        exact ⟨rfl, v1, H1.out.below HB2.out, HS1.out.below HB2.out⟩
    · have c1 : decide ((i : Int) < (l.length : Int)) = false := decide_eq_false (by omega)
      have c2 : decide (i < l.length) = false := decide_eq_false ci
      have hie : i = l.length := by have := hi.out; have := HM.out; omega
      have hml : m = l.length := by have := hi.out; have := HM.out; omega
      have hn := HNO.out hml
      have hy := HYES.out hml
      have hRl := hR.out
      rw [hie, List.take_length] at hRl
      obtain ⟨A3, c3, rfl⟩ := Kd.R_slice hRl
      have HN := Lib.hid hn
      have HY := Lib.hid hy
      have HC3 := Lib.hid (Kd.R_reads' hRl).2.2
      clear hRl hn hy hie hml ci
      go_wp2_with (go_at_call 16; (refine (dk_append (H1.out.below hB.out) A3 c3 (framesL l) HC3.out e0 zs HN.out HY.out).mono ?_); rintro e w4 ⟨rfl, v4, h4, hs4⟩)
      go_ret
      exact ⟨rfl, v4, h4, (HS1.out.below hB.out).trans hs4⟩

/-- One row, told as a list of one. -/
theorem one_C {W : World} {K : Nat} {A : Option Addr} {c : Nat} {x : List Int} (hk : W.cell? ⟨K, 0, none⟩ = some (.slice A x.length c)) (hc : x.length ≤ c) (hC : Kd.C (Kd.int .u8) W A x.length x) : Kd.C (Kd.slice 5 (Kd.int .u8)) W (some ⟨K, 0, none⟩) 1 [x] := by
  refine ⟨rfl, by omega, fun _ => ⟨_, rfl, fun j p hj => ?_⟩⟩
  rcases j with _ | j
  · obtain rfl : x = p := by simpa using hj
    refine ⟨[.slice A x.length c], rfl, ⟨A, c, rfl, hc, hC⟩, fun i u hu => ?_⟩
    rcases i with _ | i
    · obtain rfl : Value.slice A x.length c = u := by simpa using hu
      rw [show ((⟨K, 0, none⟩ : Addr).add (0 * (Kd.slice 5 (Kd.int .u8)).sz + 0)) = ⟨K, 0, none⟩ by simp [Addr.add]]
      exact hk
    · simp at hu
  · simp at hj
end Go.Proofs.Ytfdpbdaekfdnjaa.X
/- compact.sieve.take: does a record count, of those that come from the end on? -/
namespace Go.Proofs.Ytfdpbdaekfdnjaa.X
open Go.RowKit Go.Proofs.YtfdpbdaekfdnjaaW.PrintWords Go.Proofs.YtfdpbdaekfdnjaaW.PrintLast Go.Proofs.YtfdpbdaekfdnjaaW.PrintMore
set_option linter.unusedVariables false
set_option linter.unusedSimpArgs false

/-- Does a record count, of those that come from the end on? ks: which kinds have been met. -/
def takeB (ks : List Bool) (b : List Int) : Bool := decide (kindN b ≠ 0) && (decide (kindN b = 6) || !ks.getD (kindN b) false)
/-- The kinds that have been met then. -/
def takeK (ks : List Bool) (b : List Int) : List Bool := if takeB ks b = true then ks.set (kindN b) true else ks
theorem takeK_len (ks : List Bool) (b : List Int) : (takeK ks b).length = ks.length := by unfold takeK; split <;> simp
/-- A sieve's cells. -/
def sieveC (ks : List Bool) (sv : Value) : Array Value := (ks.map Value.bool ++ [sv]).toArray
theorem sieveC_kind (ks : List Bool) (sv : Value) (hk : ks.length = 8) (k : Nat) (h : k < 8) : (sieveC ks sv)[k]? = some (.bool (ks.getD k false)) := by
  have hl : k < ks.length := by omega
  simp [sieveC, List.getElem?_append_left, hl, List.getD_eq_getElem?_getD]
theorem sieveC_row (ks : List Bool) (sv : Value) (hk : ks.length = 8) : (sieveC ks sv)[8]? = some sv := by
  simp [sieveC, List.getElem?_append_right, hk]
theorem sieveC_put (ks : List Bool) (sv : Value) (hk : ks.length = 8) (k : Nat) (h : k < 8) : (sieveC ks sv).setIfInBounds k (.bool true) = sieveC (ks.set k true) sv := by
  apply Array.ext'
  have hl : k < (ks.map Value.bool).length := by rw [List.length_map]; omega
  simp only [sieveC, Array.toList_setIfInBounds]
  rw [List.set_append_left _ _ hl, List.map_set]
theorem sieveC_set (ks : List Bool) (sv sv' : Value) (hk : ks.length = 8) : (sieveC ks sv).setIfInBounds 8 sv' = sieveC ks sv' := by
  apply Array.ext'
  simp only [sieveC, Array.toList_setIfInBounds]
  rw [List.set_append_right _ _ (by rw [List.length_map]; omega), List.length_map, hk]
  rfl
set_option maxRecDepth 100000 in
set_option maxHeartbeats 4000000 in
theorem take_calls (W : World) (g : Nat) (ks : List Bool) (sv : Value) (hks : ks.length = 8) (h : W.heap[g]? = some (.cells (sieveC ks sv) 71 (0, 0)))
    (A : Option Addr) (c : Nat) (b : List Int) (hC : Kd.C (Kd.int .u8) W A b.length b) (hc : b.length ≤ c) (hO : Octets b) (hl : b.length ≤ 140737488355328) :
    Calls Try.prog 47 #[.pointer (some ⟨g, 0, none⟩), .slice A b.length c] W fun e w' => e = .returned (.bool (takeB ks b)) ∧ w'.heap[g]? = some (.cells (sieveC (takeK ks b) sv) 71 (0, 0)) ∧ Touch (· = g) W w' := by
  have hkind := kind_calls A c b W hC hc hO hl
  have hk7 := kindN_le b
  obtain ⟨k, hk⟩ : ∃ k, kindN b = k := ⟨_, rfl⟩
  have ht : takeB ks b = (decide (k ≠ 0) && (decide (k = 6) || !ks.getD k false)) := by rw [takeB, hk]
  have htk : takeK ks b = if takeB ks b = true then ks.set k true else ks := by rw [takeK, hk]
  rw [hk] at hkind hk7
  have HK := Lib.hid hkind
  have H := Lib.hid h
  have HKS := Lib.hid hks
  have hlt := blk_lt h
  have HLT := Lib.hid hlt
  have hcl : ∀ w1, Below W.heap.size W w1 → w1.heap[g]? = some (.cells (sieveC ks sv) 71 (0, 0)) := fun w1 hb => (hb.block _ HLT.out).trans H.out
  have HCL := Lib.hid hcl
  have K8 : Hid (k < 8) := Lib.hid (by omega)
  clear hkind h hC hO hl hc hk hks hlt hcl
  by_cases h0 : k = 0
  · subst h0
    have e1 : takeB ks b = false := by rw [ht]; rfl
    have e2 : takeK ks b = ks := by rw [htk, e1]; rfl
    rw [e1, e2]
    clear e1 e2 ht htk hk7
    go_enter Try.func47, Try.ntmps47
    go_wp2_with (go_at_call 36; go_must (refine HK.out.mono ?_; rintro e w1 ⟨rfl, hb⟩; have HB := Lib.hid hb; clear hb))
    go_ret
    exact ⟨rfl, HCL.out _ HB.out, Touch.of_below HB.out⟩
  have n0 : ((k : Int) == 0) = false := beq_eq_false_iff_ne.mpr (by omega)
  have p0 : (0 ≤ (k : Int)) = True := eq_true (by omega)
  have p1 : ((k : Int) < 8) = True := eq_true (by omega)
  have p2 : (k < 8) = True := eq_true (by omega)
  have hput : ∀ w1, Below W.heap.size W w1 → (w1.setCell ⟨g, k, none⟩ (.bool true)).heap[g]? = some (.cells (sieveC (ks.set k true) sv) 71 (0, 0)) ∧ Touch (· = g) W (w1.setCell ⟨g, k, none⟩ (.bool true)) := fun w1 hb =>
    ⟨blk_put (HCL.out w1 hb) k _ (sieveC_put ks sv HKS.out k K8.out), (Touch.of_below hb).set (S := fun x => x = g) rfl k _⟩
  have HPUT := Lib.hid hput
  clear hput
  by_cases h6 : k = 6
  · subst h6
    have e1 : takeB ks b = true := by rw [ht]; rfl
    have e2 : takeK ks b = ks.set 6 true := by rw [htk, e1]; rfl
    rw [e1, e2]
    clear e1 e2 ht htk hk7 h0 n0 p0 p1 p2
    go_enter Try.func47, Try.ntmps47
    go_wp2_with (go_at_call 36; go_must (refine HK.out.mono ?_; rintro e w1 ⟨rfl, hb⟩; have f1 := (blk_cell (HCL.out _ hb) 6).trans (sieveC_kind ks sv HKS.out 6 K8.out); have r1 := blk_frozen (HCL.out _ hb) 6; have HB := Lib.hid hb; clear hb))
    go_ret
    exact ⟨rfl, HPUT.out _ HB.out⟩
  have n6 : ((k : Int) == 6) = false := beq_eq_false_iff_ne.mpr (by omega)
  have m6 : ((k : Int) = 6) = False := eq_false (by omega)
  have m7 : (k = 6) = False := eq_false h6
  obtain ⟨m, hm⟩ : ∃ m, ks.getD k false = m := ⟨_, rfl⟩
  have e1 : takeB ks b = !m := by rw [ht, hm]; simp [h0, h6]
  have HM := Lib.hid hm
  clear ht hk7 h0 h6 hm
  cases m
  · have e2 : takeK ks b = ks.set k true := by rw [htk, e1]; rfl
    rw [e1, e2]
    clear e1 e2 htk
    go_enter Try.func47, Try.ntmps47
    go_wp2_with (go_at_call 36; go_must (refine HK.out.mono ?_; rintro e w1 ⟨rfl, hb⟩; have f1 := (blk_cell (HCL.out _ hb) k).trans (sieveC_kind ks sv HKS.out k K8.out); rw [HM.out] at f1; have r1 := blk_frozen (HCL.out _ hb) k; have HB := Lib.hid hb; clear hb))
    go_ret
    exact ⟨rfl, HPUT.out _ HB.out⟩
  · have e2 : takeK ks b = ks := by rw [htk, e1]; rfl
    rw [e1, e2]
    clear e1 e2 htk
    go_enter Try.func47, Try.ntmps47
    go_wp2_with (go_at_call 36; go_must (refine HK.out.mono ?_; rintro e w1 ⟨rfl, hb⟩; have f1 := (blk_cell (HCL.out _ hb) k).trans (sieveC_kind ks sv HKS.out k K8.out); rw [HM.out] at f1; have r1 := blk_frozen (HCL.out _ hb) k; have HB := Lib.hid hb; clear hb))
    go_ret
    exact ⟨rfl, HCL.out _ HB.out, Touch.of_below HB.out⟩
end Go.Proofs.Ytfdpbdaekfdnjaa.X
/- Is one text among rows: bytes.Equal, the closure over it, slices.IndexFunc and slices.ContainsFunc. -/
namespace Go.Proofs.Ytfdpbdaekfdnjaa.X
open Go.RowKit Go.Proofs.YtfdpbdaekfdnjaaW.PrintWords Go.Proofs.YtfdpbdaekfdnjaaW.PrintLast Go.Proofs.YtfdpbdaekfdnjaaW.PrintMore
set_option linter.unusedVariables false
set_option linter.unusedSimpArgs false

theorem str_list (a : List Int) : (strOfNums a).toList = a.map (fun n => UInt8.ofNat n.toNat) := by rw [ByteArray.toList_eq]; rfl
theorem str_inj {a b : List Int} (ha : Octets a) (hb : Octets b) : (strOfNums a).toList = (strOfNums b).toList ↔ a = b := by
  refine ⟨fun h => ?_, fun h => by rw [h]⟩
  rw [str_list, str_list] at h
  apply List.ext_getElem
  · have := congrArg List.length h
    simpa using this
  intro i hi hj
  have h2 : (a.map (fun n => UInt8.ofNat n.toNat))[i]'(by rw [List.length_map]; exact hi) = (b.map (fun n => UInt8.ofNat n.toNat))[i]'(by rw [List.length_map]; exact hj) := by simp only [h]
  simp only [List.getElem_map] at h2
  have ra := ha _ (List.getElem_mem hi)
  have rb := hb _ (List.getElem_mem hj)
  have h3 := congrArg UInt8.toNat h2
  simp only [UInt8.toNat_ofNat'] at h3
  omega
theorem str_beq {a b : List Int} (ha : Octets a) (hb : Octets b) : ((strOfNums a).toList == (strOfNums b).toList) = decide (a = b) := by
  rw [Bool.eq_iff_iff, decide_eq_true_iff, beq_iff_eq, str_inj ha hb]

set_option maxRecDepth 100000 in
set_option maxHeartbeats 4000000 in
theorem equal_calls (A0 A1 : Option Addr) (c0 c1 : Nat) (x y : List Int) (w : World) (hC0 : Kd.C (Kd.int .u8) w A0 x.length x) (hC1 : Kd.C (Kd.int .u8) w A1 y.length y) (hx : Octets x) (hy : Octets y) :
    Calls Try.prog 60 #[.slice A0 x.length c0, .slice A1 y.length c1] w fun e w' => e = .returned (.bool (decide (x = y))) ∧ w' = w := by
  have s0 : (convert 22 9 (.slice A0 x.length c0)).run Try.prog w = .ok (.string (strOfNums x)) w := Kd.C_string (P := Try.prog) Try.underlying22 Try.underlying5 Try.underlying9 (c := c0) hC0
  have s1 : (convert 22 9 (.slice A1 y.length c1)).run Try.prog w = .ok (.string (strOfNums y)) w := Kd.C_string (P := Try.prog) Try.underlying22 Try.underlying5 Try.underlying9 (c := c1) hC1
  have hd : decide (x = y) = ((strOfNums x).toList == (strOfNums y).toList) := (str_beq hx hy).symm
  rw [hd]
  obtain ⟨sx, hsx⟩ : ∃ sx, strOfNums x = sx := ⟨_, rfl⟩
  obtain ⟨sy, hsy⟩ : ∃ sy, strOfNums y = sy := ⟨_, rfl⟩
  rw [hsx] at s0 ⊢
  rw [hsy] at s1 ⊢
  clear hC0 hC1 hd hsx hsy hx hy
  go_enter Try.func60, Try.ntmps60
  go_wp2
  go_ret
  exact ⟨rfl, rfl⟩
set_option maxRecDepth 100000 in
set_option maxHeartbeats 4000000 in
theorem same_calls (A0 A1 : Option Addr) (c0 c1 : Nat) (x y : List Int) (g : Nat) (w : World) (hg : w.heap[g]? = some (.cells #[.slice A1 y.length c1] 22 (0, 0))) (hC0 : Kd.C (Kd.int .u8) w A0 x.length x) (hC1 : Kd.C (Kd.int .u8) w A1 y.length y) (hx : Octets x) (hy : Octets y) :
    Calls Try.prog 59 #[.slice A0 x.length c0, .pointer (some ⟨g, 0, none⟩)] w fun e w' => e = .returned (.bool (decide (x = y))) ∧ w' = w := by
  have f0 := blk_cell hg 0
  have HC0 := Lib.hid hC0
  have HC1 := Lib.hid hC1
  have HX := Lib.hid hx
  have HY := Lib.hid hy
  clear hC0 hC1 hx hy hg
  go_enter Try.func59, Try.ntmps59
  go_wp2_with (go_at_call 60; go_must (refine (equal_calls _ _ _ _ _ _ _ HC0.out HC1.out HX.out HY.out).mono ?_; rintro e w1 ⟨rfl, rfl⟩))
  go_ret
  exact ⟨rfl, rfl⟩
/-- Where the first of rows that are y lies. -/
def idxL (y : List Int) (l : List (List Int)) : Int := match l.findIdx? (fun x => decide (x = y)) with | some i => (i : Int) | none => -1
theorem idxL_at {y : List Int} {l : List (List Int)} {i : Nat} (hi : i < l.length) (hp : decide (l[i] = y) = true) (hb : ∀ j (h : j < l.length), j < i → decide (l[j] = y) = false) : idxL y l = i := by
  have : l.findIdx? (fun x => decide (x = y)) = some i := by
    rw [List.findIdx?_eq_some_iff_getElem]
    exact ⟨hi, hp, fun j hj => by have := hb j (by omega) hj; simpa using this⟩
  rw [idxL, this]
theorem idxL_none {y : List Int} {l : List (List Int)} (hb : ∀ j (h : j < l.length), decide (l[j] = y) = false) : idxL y l = -1 := by
  have : l.findIdx? (fun x => decide (x = y)) = none := by
    rw [List.findIdx?_eq_none_iff]
    intro x hx
    obtain ⟨j, hj, rfl⟩ := List.getElem_of_mem hx
    exact hb j hj
  rw [idxL, this]
theorem idxL_mem (y : List Int) (l : List (List Int)) : decide (idxL y l ≥ 0) = decide (y ∈ l) := by
  rw [Bool.eq_iff_iff, decide_eq_true_iff, decide_eq_true_iff]
  unfold idxL
  cases h : l.findIdx? (fun x => decide (x = y)) with
  | none =>
    rw [List.findIdx?_eq_none_iff] at h
    simp only
    constructor
    · omega
    · intro hm
      have := h y hm
      simp at this
  | some i =>
    obtain ⟨hi, hp, _⟩ := List.findIdx?_eq_some_iff_getElem.1 h
    simp only
    constructor
    · intro _
      rw [decide_eq_true_iff] at hp
      rw [← hp]
      exact List.getElem_mem hi
    · intro _; omega
set_option maxRecDepth 100000 in
set_option maxHeartbeats 4000000 in
theorem index_calls (A A1 : Option Addr) (c c1 : Nat) (l : List (List Int)) (y : List Int) (g : Nat) (w : World) (hr : Kd.C (Kd.slice 5 (Kd.int .u8)) w A l.length l) (hc : l.length ≤ c) (hO : ∀ x ∈ l, Octets x)
    (hg : w.heap[g]? = some (.cells #[.slice A1 y.length c1] 22 (0, 0))) (hC1 : Kd.C (Kd.int .u8) w A1 y.length y) (hy : Octets y) :
    Calls Try.prog 67 #[.slice A l.length c, .func (.func 59) #[] #[.pointer (some ⟨g, 0, none⟩)]] w fun e w' => e = .returned (.int .i64 (idxL y l)) ∧ w' = w := by
  have HR := Lib.hid hr
  have HC := Lib.hid hc
  have HO := Lib.hid hO
  have HG := Lib.hid hg
  have HC1 := Lib.hid hC1
  have HY := Lib.hid hy
  have HMX := Lib.hid (Kd.C_max hr)
  clear hr hc hO hg hC1 hy
  go_enter Try.func67, Try.ntmps67
  go_wp2
  go_loopg [8] (l.length + 1) (fun kq v8 w' => ∃ i : Nat, v8 = .int .i64 (i : Int) ∧ Hid (i ≤ l.length ∧ kq + i = l.length + 1) ∧ Hid (w' = w ∧ ∀ j (h : j < l.length), j < i → decide (l[j] = y) = false))
  case atStart => exact ⟨0, rfl, Lib.hid ⟨by omega, rfl⟩, Lib.hid ⟨rfl, fun j _ h => absurd h (Nat.not_lt_zero _)⟩⟩
  case round =>
    obtain ⟨i, rfl, hi, hI⟩ := hrel
    obtain ⟨rfl, hI2⟩ := hI.out
    clear hI
    have HI2 := Lib.hid hI2
    clear hI2
    by_cases ci : i < l.length
    · have c1 : decide ((i : Int) < (l.length : Int)) = true := decide_eq_true (by omega)
      have c2 : decide (i < l.length) = true := decide_eq_true ci
      have p0 : 0 ≤ (i : Int) := by omega
      have p1 : (i : Int) < (l.length : Int) := by omega
      obtain ⟨ad, A2, c3, e0, x0, hlc, hCx⟩ := at_L1 HR.out (i : Int) p0 p1
      cases e0
      rw [Int.toNat_natCast] at x0
      obtain ⟨x, hx⟩ : ∃ x, rd_L1 l (i : Int) = x := ⟨_, rfl⟩
      rw [hx] at x0 hlc hCx
      have hxl : l[i] = x := by rw [← hx]; simp [rd_L1, List.getD_eq_getElem?_getD, ci]
      have hcall := same_calls A2 A1 c3 _ x y g wr HG.out hCx HC1.out (HO.out x (by rw [← hxl]; exact List.getElem_mem ci)) HY.out
      have HX : Hid (∀ h : i < l.length, l[i]'h = x) := Lib.hid (fun _ => hxl)
      have HCI := Lib.hid ci
      replace p0 := eq_true p0
      replace p1 := eq_true p1
      have q1 : (i < l.length) = True := eq_true ci
      clear hx hxl ci hlc hCx
      cases hb : decide (x = y)
      · rw [hb] at hcall
        have HB := Lib.hid hb
        clear hb
        go_wp2_with (go_at_call 59; go_must ((with_reducible refine Calls.mono hcall ?_); rintro e w2 ⟨rfl, rfl⟩))
        obtain ⟨k1, rfl⟩ : ∃ k1, gk = k1 + 1 := ⟨gk - 1, by have := hi.out; omega⟩
        go_roundg k1
        case measure => omega
        case rel => exact ⟨i + 1, congrArg (Value.int .i64) (by have := hi.out; have := HMX.out; have := HCI.out; unfold wrap64; omega), Lib.hid ⟨HCI.out, by have := hi.out; omega⟩, Lib.hid ⟨rfl, fun j h hj => by
          rcases Nat.lt_or_ge j i with h' | h'
          · exact HI2.out j h h'
          · have : j = i := by omega
            subst this
            rw [HX.out h]; exact HB.out⟩⟩
      · rw [hb] at hcall
        have hix : idxL y l = i := idxL_at HCI.out (by rw [HX.out HCI.out]; exact hb) HI2.out
        have HIX := Lib.hid hix
        clear hb hix
        go_wp2_with (go_at_call 59; go_must ((with_reducible refine Calls.mono hcall ?_); rintro e w2 ⟨rfl, rfl⟩))
        go_ret
        exact ⟨by rw [HIX.out]; rfl, rfl⟩
    · have c1 : decide ((i : Int) < (l.length : Int)) = false := decide_eq_false (by omega)
      have c2 : decide (i < l.length) = false := decide_eq_false ci
      have hix : idxL y l = -1 := idxL_none (fun j h => HI2.out j h (by have := hi.out; omega))
      have HIX := Lib.hid hix
      clear hix ci hi
      go_wp2
      go_ret
      exact ⟨by rw [HIX.out]; rfl, rfl⟩
set_option maxRecDepth 100000 in
set_option maxHeartbeats 4000000 in
theorem contains_calls (A A1 : Option Addr) (c c1 : Nat) (l : List (List Int)) (y : List Int) (g : Nat) (w : World) (hr : Kd.C (Kd.slice 5 (Kd.int .u8)) w A l.length l) (hc : l.length ≤ c) (hO : ∀ x ∈ l, Octets x)
    (hg : w.heap[g]? = some (.cells #[.slice A1 y.length c1] 22 (0, 0))) (hC1 : Kd.C (Kd.int .u8) w A1 y.length y) (hy : Octets y) :
    Calls Try.prog 61 #[.slice A l.length c, .func (.func 59) #[] #[.pointer (some ⟨g, 0, none⟩)]] w fun e w' => e = .returned (.bool (decide (y ∈ l))) ∧ w' = w := by
  have hcall := index_calls A A1 c c1 l y g w hr hc hO hg hC1 hy
  rw [← idxL_mem y l]
  obtain ⟨x, hx⟩ : ∃ x, idxL y l = x := ⟨_, rfl⟩
  rw [hx] at hcall ⊢
  clear hr hc hO hg hC1 hy hx
  go_enter Try.func61, Try.ntmps61
  go_wp2_with (go_at_call 67; go_must ((with_reducible refine Calls.mono hcall ?_); rintro e w2 ⟨rfl, rfl⟩))
  go_ret
  exact ⟨rfl, rfl⟩
end Go.Proofs.Ytfdpbdaekfdnjaa.X
/- compact.firsts: rows without blocks that were there ahead. -/
namespace Go.Proofs.Ytfdpbdaekfdnjaa.X
open Go.RowKit Go.Proofs.YtfdpbdaekfdnjaaW.PrintWords Go.Proofs.YtfdpbdaekfdnjaaW.PrintLast Go.Proofs.YtfdpbdaekfdnjaaW.PrintMore
set_option linter.unusedVariables false
set_option linter.unusedSimpArgs false

/-- Rows behind others, without blocks that were there ahead. -/
def firstsL (out : List (List Int)) : List (List Int) → List (List Int)
  | [] => out
  | b :: l => firstsL (if kindN b ≠ 6 ∨ b ∉ out then out ++ [b] else out) l
/-- What the loop keeps. -/
structure FirstI (w : World) (base : Nat) (l : List (List Int)) (i : Nat) (sv : Value) (out : List (List Int)) (W : World) : Prop where
  row : Kd.R (Kd.slice 5 (Kd.int .u8)) 22 W base (fun _ => True) sv out
  below : Below w.heap.size w W
  fresh : ∀ k, sv.ownBlock = some k → w.heap.size ≤ k
  mem : ∀ x ∈ out, x ∈ l
  len : out.length ≤ i
  left : firstsL out (l.drop i) = firstsL [] l
theorem FirstI.on {w : World} {base : Nat} {l : List (List Int)} {i : Nat} {sv : Value} {out : List (List Int)} {W W1 : World} (h : FirstI w base l i sv out W) (hb : Below W.heap.size W W1) : FirstI w base l i sv out W1 :=
  ⟨Kd.R_below h.row hb, below_step h.below hb, h.fresh, h.mem, h.len, h.left⟩
theorem FirstI.skip {w : World} {base : Nat} {l : List (List Int)} {i : Nat} {sv : Value} {out : List (List Int)} {W : World} (h : FirstI w base l i sv out W) (x : List Int) (hi : i < l.length) (hx : l[i] = x) (hn : ¬ (kindN x ≠ 6 ∨ x ∉ out)) : FirstI w base l (i + 1) sv out W := by
  refine ⟨h.row, h.below, h.fresh, h.mem, Nat.le_succ_of_le h.len, ?_⟩
  have := h.left
  rwa [List.drop_eq_getElem_cons hi, hx, firstsL, if_neg hn] at this
theorem FirstI.push {w : World} {base : Nat} {l : List (List Int)} {i : Nat} {sv sv1 : Value} {out : List (List Int)} {W W1 : World} (h : FirstI w base l i sv out W) (x : List Int) (hi : i < l.length) (hx : l[i] = x) (hn : kindN x ≠ 6 ∨ x ∉ out)
    (hr : Kd.R (Kd.slice 5 (Kd.int .u8)) 22 W1 base (fun _ => True) sv1 (out ++ [x])) (hb : Below w.heap.size w W1) (hat : sv1.ownBlock = sv.ownBlock ∨ ∃ b, sv1.ownBlock = some b ∧ W.heap.size ≤ b) : FirstI w base l (i + 1) sv1 (out ++ [x]) W1 := by
  refine ⟨hr, hb, fun k hk => ?_, fun y hy => ?_, by simp; exact h.len, ?_⟩
  · rcases hat with e | ⟨b, e, hle⟩
    · exact h.fresh k (e ▸ hk)
    · rw [e] at hk
      have := h.below.size
      obtain rfl := Option.some.inj hk
      omega
  · rcases List.mem_append.1 hy with hy | hy
    · exact h.mem y hy
    · rw [List.mem_singleton.1 hy, ← hx]
      exact List.getElem_mem hi
  · have := h.left
    rwa [List.drop_eq_getElem_cons hi, hx, firstsL, if_pos hn] at this
theorem i22b : (Try.prog.info? 22).map (fun i => (i.zero, i.size)) = some (some (.slice none 0 0), 1) := by kernel_rfl
theorem run_alloc1 (P : Program) (t : TypeId) (z : Value) (n : Nat) (h : (P.info? t).map (fun i => (i.zero, i.size)) = some (some z, n)) (hz1 : z.cells = #[z]) (eval : Operand → Value) (o : Oper) (ho : o.op = .alloc t) (W : World) :
    (execOp eval o).run P W = .ok (.value (.pointer (some ⟨W.heap.size, 0, none⟩))) (W.alloc (.cells #[z] t (0, 0))) := by
  have hz := (zero_of_info h).1
  unfold execOp
  simp [ho, Instr.alloc, hz, newVar, newRow, hz1]
/-- A row's row is no row of rows. -/
theorem M_not_own {W : World} {base : Nat} {ok okv : Nat → Prop} {x : List Int} {cs : List Value} {sv : Value} {out : List (List Int)} (h : (Kd.slice 5 (Kd.int .u8)).M W base ok x cs) (hR : Kd.R (Kd.slice 5 (Kd.int .u8)) 22 W base okv sv out) :
    (Kd.slice 5 (Kd.int .u8)).M W base (fun k => True ∧ some k ≠ sv.ownBlock) x cs :=
  (Kd.slice 5 (Kd.int .u8)).M_mono (fun k hk => ⟨trivial, fun e => by
    obtain ⟨_, _, _, q, hq, cells, hc⟩ := hk
    obtain ⟨inner, ho⟩ := Kd.R_own hR
    obtain ⟨cells2, hc2⟩ := own_typed ho k e.symm
    have hq5 : q = 5 := by simpa [Kd.slice, Kd.int, Kd.scalar] using hq
    rw [hc, hq5] at hc2
    injection hc2 with hc2
    injection hc2 with _ h3
    exact absurd h3 (by decide)⟩) ((Kd.slice 5 (Kd.int .u8)).M_bound h)
theorem rows_elem {W : World} {base : Nat} {v : Value} {l : List (List Int)} (hR : Kd.R (Kd.slice 5 (Kd.int .u8)) 22 W base (fun _ => True) v l) (i : Nat) (hi : i < l.length) (x : List Int) (hx : l[i] = x) :
    ∃ g c A2 c2, v = .slice (some ⟨g, 0, none⟩) l.length c ∧ W.cell? ⟨g, i, none⟩ = some (.slice A2 x.length c2) ∧ x.length ≤ c2 ∧ Kd.C (Kd.int .u8) W A2 x.length x ∧ (Kd.slice 5 (Kd.int .u8)).M W base (fun _ => True) x [.slice A2 x.length c2] := by
  obtain ⟨g, c, rfl, _⟩ := Kd.R_form hR (by omega)
  obtain ⟨cc, hcl, hM, hcc, _⟩ := Kd.R_elem hR ([] : List Int) (i : Int) (by omega) (by omega)
  have hgx : l.getD (i : Int).toNat [] = x := by rw [Int.toNat_natCast, ← hx]; simp [List.getD_eq_getElem?_getD, hi]
  rw [hgx] at hM
  obtain ⟨v2, rfl, hv⟩ := hM
  obtain ⟨A2, c2, rfl⟩ := Kd.R_slice hv
  have h1 := hcc 0 _ rfl
  rw [Int.toNat_natCast, show Kd.sz (Kd.slice 5 (Kd.int .u8)) = 1 from rfl, Nat.mul_one, Nat.add_zero] at h1
  exact ⟨g, c, A2, c2, rfl, h1, (Kd.R_reads' hv).2.1, (Kd.R_reads' hv).2.2, _, rfl, Kd.R_mono hv (fun _ _ => trivial)⟩
set_option maxRecDepth 100000 in
set_option maxHeartbeats 4000000 in
theorem firsts_calls (v : Value) (l : List (List Int)) (base : Nat) (w : World) (hr : Kd.R (Kd.slice 5 (Kd.int .u8)) 22 w base (fun _ => True) v l) (hbase : base ≤ w.heap.size) (hO : ∀ x ∈ l, Octets x ∧ x.length ≤ 140737488355328) (hl : l.length * 24 ≤ 140737488355328) :
    Calls Try.prog 49 #[v] w fun e w' => ∃ v', e = .returned v' ∧ Kd.R (Kd.slice 5 (Kd.int .u8)) 22 w' base (fun _ => True) v' (firstsL [] l) ∧ Below w.heap.size w w' := by
  obtain ⟨A, c, rfl⟩ := Kd.R_slice hr
  obtain ⟨_, hlc, hC⟩ := Kd.R_reads' hr
  have HMX := Lib.hid (Kd.C_max hC)
  have HR := Lib.hid hr
  have HO := Lib.hid hO
  have HL := Lib.hid hl
  have HBA := Lib.hid hbase
  clear hr hC hlc hO hl hbase
  go_enter Try.func49, Try.ntmps49
  go_wp2
  go_loopg [3, 9] (l.length + 1) (fun kq v3 v9 w' => ∃ (i : Nat) (out : List (List Int)), v9 = .int .i64 (i : Int) ∧ Hid (i ≤ l.length ∧ kq + i = l.length + 1) ∧ Hid (FirstI w base l i v3 out w'))
  case atStart => exact ⟨0, [], rfl, Lib.hid ⟨Nat.zero_le _, rfl⟩, Lib.hid ⟨Kd.R_nil _ _ _ _ _, Below.refl _ _, fun k hk => by simp [Value.ownBlock] at hk, fun x hx => (by simp at hx), Nat.zero_le _, rfl⟩⟩
  case round =>
    obtain ⟨i, out, rfl, hi, hI⟩ := hrel
    by_cases ci : i < l.length
    · have c1 : decide ((i : Int) < (l.length : Int)) = true := decide_eq_true (by omega)
      have c2 : decide (i < l.length) = true := decide_eq_true ci
      have p0 : 0 ≤ (i : Int) := by omega
      have p1 : (i : Int) < (l.length : Int) := by omega
      obtain ⟨x, hxl⟩ : ∃ x, l[i] = x := ⟨_, rfl⟩
      have hRl := Kd.R_below HR.out hI.out.below
      obtain ⟨g, c', A2, c3, hv, x0, hxc, hCx, hM⟩ := rows_elem hRl i ci x hxl
      injection hv with hA hN hc
      clear hN
      subst hA hc
      obtain ⟨Ao, co, rfl⟩ := Kd.R_slice hI.out.row
      have hox := HO.out x (by rw [← hxl]; exact List.getElem_mem ci)
      obtain ⟨k, hk⟩ : ∃ k, kindN x = k := ⟨_, rfl⟩
      have HX : Hid (∀ h : i < l.length, l[i]'h = x) := Lib.hid (fun _ => hxl)
      have HCI := Lib.hid ci
      have HCX := Lib.hid hCx
      have HXC := Lib.hid hxc
      have HOX := Lib.hid hox
      have HM := Lib.hid hM
      have HKN := Lib.hid hk
      replace p0 := eq_true p0
      replace p1 := eq_true p1
      have q1 : (i < l.length) = True := eq_true ci
      clear hRl hxl hCx hxc hox hM ci
      by_cases h6 : k = 6
      · subst h6
        cases hm : decide (x ∈ out)
        · have hn : kindN x ≠ 6 ∨ x ∉ out := .inr (by simpa using hm)
          have HN := Lib.hid hn
          have HMEM := Lib.hid hm
          clear hn hk hm
          go_wp2_with (first | ((with_reducible refine gate_dst (N := 5) rfl ?_); go_must (refine box_event rfl (N := 5) rfl (run_alloc1 _ 22 _ 1 i22b rfl _ _ rfl _) ?_; intro g5 hg5 w2 b5 hb; have B2 := hb; have c5 := blk_cell b5 0; have r5 := blk_frozen b5 0; have L5 := Nat.le_of_eq hg5.symm; clear hb hg5 x0)) | (go_at_call 36; go_must (have b6 := blk_put b5 0 (.slice A2 x.length c3) rfl; have B6 := below_set (j := 0) (v := .slice A2 x.length c3) B2 L5; clear c5 r5 b5 B2; (generalize World.setCell w2 _ _ = w3 at *); refine (kind_calls A2 c3 x _ (Kd.C_below HCX.out B6) HXC.out (HOX.out).1 (HOX.out).2).mono ?_; rw [HKN.out]; rintro e w4 ⟨rfl, hb4⟩; have B8 := below_step B6 hb4; have b8 := (hb4.block _ (blk_lt b6)).trans b6; have f8 := blk_cell b8 0; have I8 := Lib.hid (hI.out.on B8); have HB8 := Lib.hid B8; clear hb4 b6 B6 B8)) | (go_at_call 61; go_must (refine (contains_calls Ao A2 co c3 out x g5 _ (Kd.R_reads' I8.out.row).2.2 (Kd.R_reads' I8.out.row).2.1 (fun y hy => (HO.out y (I8.out.mem y hy)).1) b8 (Kd.C_below HCX.out HB8.out) HOX.out.1).mono ?_; rw [HMEM.out]; rintro e w7 ⟨rfl, rfl⟩)) | ((with_reducible refine gate_builtin (b := .append) (xs := #[.tmp 23, .tmp 25]) rfl ?_); at_builtin; go_must (refine Kd.R_append (Kd.slice 5 (Kd.int .u8)) (w0 := w) base rfl (.tmp 23) (.tmp 25) 33 22 (.slice none 0 0) 24 rfl Try.underlying33 info22 rfl (by decide) (by decide) (.slice Ao out.length co) out x [.slice A2 x.length c3] (fun _ => True) (fun k => True ∧ some k ≠ (Value.slice Ao out.length co).ownBlock) rfl rfl (M_not_own ((Kd.slice 5 (Kd.int .u8)).M_below HM.out HB8.out) I8.out.row) (fun _ hk => hk) (fun _ _ => trivial) I8.out.row (I8.out.below.mono HBA.out) (Nat.le_trans HBA.out I8.out.below.size) (by have := I8.out.len; have := HL.out; have := HCI.out; omega) ?_; intro v9 w9 hR9 _ hg9 hat9; have I9 := Lib.hid (FirstI.push I8.out x HCI.out (HX.out _) HN.out hR9 (pw_below_grown I8.out.below _ I8.out.below.size hg9 I8.out.fresh) hat9); clear hR9 hg9 hat9)))
          obtain ⟨k1, rfl⟩ : ∃ k1, gk = k1 + 1 := ⟨gk - 1, by have := hi.out; omega⟩
          go_roundg k1
          case measure => omega
          case rel => exact ⟨i + 1, _, congrArg (Value.int .i64) (by have := hi.out; have := HMX.out; have := HCI.out; unfold wrap64; omega), Lib.hid ⟨HCI.out, by have := hi.out; omega⟩, I9⟩
        · have hn : ¬ (kindN x ≠ 6 ∨ x ∉ out) := by
            have : x ∈ out := by simpa using hm
            simp [hk, this]
          have HN := Lib.hid hn
          have HMEM := Lib.hid hm
          clear hn hk hm
          go_wp2_with (first | ((with_reducible refine gate_dst (N := 5) rfl ?_); go_must (refine box_event rfl (N := 5) rfl (run_alloc1 _ 22 _ 1 i22b rfl _ _ rfl _) ?_; intro g5 hg5 w2 b5 hb; have B2 := hb; have c5 := blk_cell b5 0; have r5 := blk_frozen b5 0; have L5 := Nat.le_of_eq hg5.symm; clear hb hg5 x0)) | (go_at_call 36; go_must (have b6 := blk_put b5 0 (.slice A2 x.length c3) rfl; have B6 := below_set (j := 0) (v := .slice A2 x.length c3) B2 L5; clear c5 r5 b5 B2; (generalize World.setCell w2 _ _ = w3 at *); refine (kind_calls A2 c3 x _ (Kd.C_below HCX.out B6) HXC.out (HOX.out).1 (HOX.out).2).mono ?_; rw [HKN.out]; rintro e w4 ⟨rfl, hb4⟩; have B8 := below_step B6 hb4; have b8 := (hb4.block _ (blk_lt b6)).trans b6; have f8 := blk_cell b8 0; have I8 := Lib.hid (hI.out.on B8); have HB8 := Lib.hid B8; clear hb4 b6 B6 B8)) | (go_at_call 61; go_must (refine (contains_calls Ao A2 co c3 out x g5 _ (Kd.R_reads' I8.out.row).2.2 (Kd.R_reads' I8.out.row).2.1 (fun y hy => (HO.out y (I8.out.mem y hy)).1) b8 (Kd.C_below HCX.out HB8.out) HOX.out.1).mono ?_; rw [HMEM.out]; rintro e w7 ⟨rfl, rfl⟩)))
          obtain ⟨k1, rfl⟩ : ∃ k1, gk = k1 + 1 := ⟨gk - 1, by have := hi.out; omega⟩
          have I9 := Lib.hid (FirstI.skip I8.out x HCI.out (HX.out _) HN.out)
          go_roundg k1
          case measure => omega
          case rel => exact ⟨i + 1, _, congrArg (Value.int .i64) (by have := hi.out; have := HMX.out; have := HCI.out; unfold wrap64; omega), Lib.hid ⟨HCI.out, by have := hi.out; omega⟩, I9⟩
      · have n6 : ((k : Int) = 6) = False := eq_false (by omega)
        have m6 : ((k : Int) == 6) = false := beq_eq_false_iff_ne.mpr (by omega)
        have m7 : (k = 6) = False := eq_false h6
        have hn : kindN x ≠ 6 ∨ x ∉ out := .inl (by rw [hk]; exact h6)
        have HN := Lib.hid hn
        clear hn hk h6
        go_wp2_with (first | ((with_reducible refine gate_dst (N := 5) rfl ?_); go_must (refine box_event rfl (N := 5) rfl (run_alloc1 _ 22 _ 1 i22b rfl _ _ rfl _) ?_; intro g5 hg5 w2 b5 hb; have B2 := hb; have c5 := blk_cell b5 0; have r5 := blk_frozen b5 0; have L5 := Nat.le_of_eq hg5.symm; clear hb hg5 x0)) | (go_at_call 36; go_must (have b6 := blk_put b5 0 (.slice A2 x.length c3) rfl; have B6 := below_set (j := 0) (v := .slice A2 x.length c3) B2 L5; clear c5 r5 b5 B2; (generalize World.setCell w2 _ _ = w3 at *); refine (kind_calls A2 c3 x _ (Kd.C_below HCX.out B6) HXC.out (HOX.out).1 (HOX.out).2).mono ?_; rw [HKN.out]; rintro e w4 ⟨rfl, hb4⟩; have B8 := below_step B6 hb4; have b8 := (hb4.block _ (blk_lt b6)).trans b6; have f8 := blk_cell b8 0; have I8 := Lib.hid (hI.out.on B8); have HB8 := Lib.hid B8; clear hb4 b6 B6 B8)) | ((with_reducible refine gate_builtin (b := .append) (xs := #[.tmp 23, .tmp 25]) rfl ?_); at_builtin; go_must (refine Kd.R_append (Kd.slice 5 (Kd.int .u8)) (w0 := w) base rfl (.tmp 23) (.tmp 25) 33 22 (.slice none 0 0) 24 rfl Try.underlying33 info22 rfl (by decide) (by decide) (.slice Ao out.length co) out x [.slice A2 x.length c3] (fun _ => True) (fun k => True ∧ some k ≠ (Value.slice Ao out.length co).ownBlock) rfl rfl (M_not_own ((Kd.slice 5 (Kd.int .u8)).M_below HM.out HB8.out) I8.out.row) (fun _ hk => hk) (fun _ _ => trivial) I8.out.row (I8.out.below.mono HBA.out) (Nat.le_trans HBA.out I8.out.below.size) (by have := I8.out.len; have := HL.out; have := HCI.out; omega) ?_; intro v9 w9 hR9 _ hg9 hat9; have I9 := Lib.hid (FirstI.push I8.out x HCI.out (HX.out _) HN.out hR9 (pw_below_grown I8.out.below _ I8.out.below.size hg9 I8.out.fresh) hat9); clear hR9 hg9 hat9)))
        obtain ⟨k1, rfl⟩ : ∃ k1, gk = k1 + 1 := ⟨gk - 1, by have := hi.out; omega⟩
        go_roundg k1
        case measure => omega
        case rel => exact ⟨i + 1, _, congrArg (Value.int .i64) (by have := hi.out; have := HMX.out; have := HCI.out; unfold wrap64; omega), Lib.hid ⟨HCI.out, by have := hi.out; omega⟩, I9⟩
    · have hil : i = l.length := by have := hi.out; omega
      have c1 : decide ((i : Int) < (l.length : Int)) = false := decide_eq_false (by omega)
      have c2 : decide (i < l.length) = false := decide_eq_false ci
      have he : out = firstsL [] l := by
        have := hI.out.left
        rwa [hil, List.drop_length, firstsL] at this
      have HE := Lib.hid he
      clear he hil ci hi
      go_wp2
      go_ret
      exact ⟨_, rfl, by rw [← HE.out]; exact hI.out.row, hI.out.below⟩
end Go.Proofs.Ytfdpbdaekfdnjaa.X
