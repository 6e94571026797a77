/- held.due: the reports that are due, as a loop over a function gets them. -/
import Derived.RangeFuncBox
import Derived.RangeFuncNested
import Derived.RangeFuncLeaves
import Derived.Shelf.Abstract
import Derived.WalkKit
import Derived.OwnWalkIn
import Derived.TacticsInMore
import Derived.LoopNIn
import Derived.LoopIn
import Derived.Lib.Hide
import Derived.Test.YtccabdgfjcjpoaaX0
namespace Go.Proofs.Ytccabdgfjcjpoaa.X
open Go.RowKit Go.Shelf Go.Proofs.YtccabdgfjcjpoaaW.PrintWords Go.Proofs.YtccabdgfjcjpoaaW.PrintLast Go.Proofs.YtccabdgfjcjpoaaW.PrintMore
set_option linter.unusedVariables false
set_option linter.unusedSimpArgs false
attribute [local go_sem] Oper.semAt_some

/-- The reports that are due, from the seventh but d on: ticks, and how many are told then. -/
def dueR (full : Int) : Nat → List (Int × Int)
  | 0 => []
  | d + 1 => if (2 : Int) ^ (6 - d) ≤ full then ((2 : Int) ^ (6 - d), ((7 - d : Nat) : Int)) :: dueR full d else []

/-- Two blocks lie as they lay. -/
def KeepsTwo (b1 b2 : Nat) (W W' : World) : Prop := W'.heap[b1]? = W.heap[b1]? ∧ W'.heap[b2]? = W.heap[b2]?
theorem KeepsTwo.trans {b1 b2 : Nat} {X Y Z : World} (h : KeepsTwo b1 b2 X Y) (k : KeepsTwo b1 b2 Y Z) : KeepsTwo b1 b2 X Z := ⟨k.1.trans h.1, k.2.trans h.2⟩

/-- What has come when d are still to be asked. -/
def DueCame (full : Int) (d0 d : Nat) (pre : List (Int × Int)) : Prop := pre ++ dueR full d = dueR full d0 ∧ pre.length + d ≤ 7
theorem DueCame.step {full : Int} {d0 d : Nat} {pre : List (Int × Int)} (h : DueCame full d0 (d + 1) pre) (hd : (2 : Int) ^ (6 - d) ≤ full) : DueCame full d0 d (pre ++ [((2 : Int) ^ (6 - d), ((7 - d : Nat) : Int))]) := by
  obtain ⟨h1, h2⟩ := h
  rw [dueR, if_pos hd] at h1
  exact ⟨by rw [List.append_assoc]; exact h1, by simp; omega⟩
theorem DueCame.end_ {full : Int} {d0 d : Nat} {pre : List (Int × Int)} (h : DueCame full d0 (d + 1) pre) (hd : ¬ (2 : Int) ^ (6 - d) ≤ full) : pre = dueR full d0 := by
  obtain ⟨h1, h2⟩ := h
  rw [dueR, if_neg hd, List.append_nil] at h1
  exact h1

set_option maxRecDepth 100000 in
set_option maxHeartbeats 4000000 in
theorem due1_in (F : Fence) (n : Nat) (h48 : F.fn 48) (hro : F.round = none) (hn : 1 ≤ n) (l b1 b2 : Nat) (told full : Int) (s0 s1 s2 : Value) (h0t : 0 ≤ told) (J Jx : List (Int × Int) → World → Prop)
    (hY : ∀ pre x W, J pre W → pre.length < 8 → YieldAt F (n - 1) Try.prog l #[.int .i64 x.1, .int .i64 x.2] W fun e W' =>
      (e = .returned (.bool true) ∧ J (pre ++ [x]) W' ∧ KeepsTwo b1 b2 W W') ∨ (e = .returned (.bool false) ∧ Jx (pre ++ [x]) W'))
    (W : World) (hB1 : W.cell? ⟨b1, 4, none⟩ = some (.int .i64 told)) (hB2 : W.cell? ⟨b2, 0, none⟩ = some (.int .i64 full)) (hJ : ∀ s w w' , J s w → w.grownBy w' none → J s w') (h0 : J [] W) :
    CallsIn F n Try.prog 48 #[.func (.yield l) #[] #[], .pointer (some ⟨b1, 0, none⟩), .pointer (some ⟨b2, 0, none⟩)] W fun e W' => (∃ v, e = .returned v) ∧
      ((∃ ys, ys = dueR full (7 - told.toNat) ∧ J ys W') ∨ (∃ pre, True ∧ Jx pre W')) := by
  refine callsIn_of_wp Try.func48 rfl h48 ?_ hro
  simp only [Try.ntmps48, List.size_toArray, List.length_cons, List.length_nil, Nat.reduceAdd, Nat.reduceSub, Array.replicate_succ, Array.replicate_zero, List.push_toArray, List.append_toArray, List.nil_append, List.cons_append]
  gi_wp2
  by_cases h7 : 7 ≤ told
  · gi_loopw [4] (fun i wr => i = .int .i64 told ∧ J [] wr) (fun _ _ => 0)
    case atStart => exact ⟨rfl, h0⟩
    case round =>
      obtain ⟨rfl, hJs⟩ := hrel
      have h7b : decide (told < 7) = false := decide_eq_false (by omega)
      gi_wp2
      gi_region
      all_goals
        gi_wp2
        go_end0
        exact ⟨⟨_, rfl⟩, .inl ⟨[], by rw [show 7 - told.toNat = 0 by omega]; rfl, hJ _ _ _ hJs ⟨rfl, rfl, rfl, Nat.le_refl _, fun _ _ _ => rfl⟩⟩⟩
  · gi_loopw [4] (fun i wr => ∃ (d : Nat) (pre : List (Int × Int)), d ≤ 7 ∧ i = .int .i64 (7 - d) ∧ DueCame full (7 - told.toNat) d pre ∧ J pre wr ∧ KeepsTwo b1 b2 W wr)
      (fun i _ => (7 - intOf i).toNat)
    case atStart => exact ⟨7 - told.toNat, [], by omega, by congr 1; omega, ⟨rfl, by simp⟩, h0, ⟨rfl, rfl⟩⟩
    case round =>
      obtain ⟨d, pre, hd7, rfl, hcame, hJs, hnx⟩ := hrel
      have c2 : wr.cell? ⟨b2, 0, none⟩ = some (.int .i64 full) := (World.cell?_of_block (w := W) (a := ⟨b2, 0, none⟩) hnx.2).trans hB2
      have hJd : J pre wr.drew := hJ _ _ _ hJs ⟨rfl, rfl, rfl, Nat.le_refl _, fun _ _ _ => rfl⟩
      have hd : d = 0 ∨ d = 1 ∨ d = 2 ∨ d = 3 ∨ d = 4 ∨ d = 5 ∨ d = 6 ∨ d = 7 := by omega
      rcases hd with rfl | rfl | rfl | rfl | rfl | rfl | rfl | rfl
      · gi_wp2
        gi_region
        all_goals
          gi_wp2
          go_end0
          exact ⟨⟨_, rfl⟩, .inl ⟨pre, by have := hcame.1; rwa [dueR, List.append_nil] at this, hJd⟩⟩
      · have hw : IntKind.i64.wrap 64 = 64 := by decide
        have hlen := hcame.2
        have e1 : (2 : Int) ^ (6 - 0) = 64 := by decide
        by_cases hf : (64 : Int) ≤ full
        · have hfb : decide ((64 : Int) ≤ full) = true := decide_eq_true hf
          obtain ⟨fn, tmps, assign, body, hy, hR⟩ := hY pre (64, 7) wr.drew hJd (by omega)
          dsimp only at hy
          have hst := hcame.step (d := 0) (by rw [e1]; exact hf)
          rw [e1] at hst
          have HST := Lib.hid hst
          clear hst e1
          gi_wp2
          gi_region
          all_goals
            gi_wp2
            refine hR.mono ?_
            rintro e W3 (⟨rfl, hJ3, hk3⟩ | ⟨rfl, hJx3⟩)
            · gi_wp2
              go_roundw
              case rel => exact ⟨0, _, by omega, by first | rfl | simp, HST.out, hJ3, hnx.trans (KeepsTwo.trans ⟨rfl, rfl⟩ hk3)⟩
              case measure => simp [intOf]
            · gi_wp2
              refine bodyPost_ret (results_none rfl _ _ _) rfl ?_
              exact ⟨⟨_, rfl⟩, .inr ⟨_, trivial, hJx3⟩⟩
        · have hfb : decide ((64 : Int) ≤ full) = false := decide_eq_false hf
          have hen := hcame.end_ (d := 0) (by rw [e1]; exact hf)
          have HEN := Lib.hid hen
          clear hen e1
          gi_wp2
          gi_region
          all_goals
            gi_wp2
            go_end0
            exact ⟨⟨_, rfl⟩, .inl ⟨pre, HEN.out, hJd⟩⟩
      · have hw : IntKind.i64.wrap 32 = 32 := by decide
        have hlen := hcame.2
        have e1 : (2 : Int) ^ (6 - 1) = 32 := by decide
        by_cases hf : (32 : Int) ≤ full
        · have hfb : decide ((32 : Int) ≤ full) = true := decide_eq_true hf
          obtain ⟨fn, tmps, assign, body, hy, hR⟩ := hY pre (32, 6) wr.drew hJd (by omega)
          dsimp only at hy
          have hst := hcame.step (d := 1) (by rw [e1]; exact hf)
          rw [e1] at hst
          have HST := Lib.hid hst
          clear hst e1
          gi_wp2
          gi_region
          all_goals
            gi_wp2
            refine hR.mono ?_
            rintro e W3 (⟨rfl, hJ3, hk3⟩ | ⟨rfl, hJx3⟩)
            · gi_wp2
              go_roundw
              case rel => exact ⟨1, _, by omega, by first | rfl | simp, HST.out, hJ3, hnx.trans (KeepsTwo.trans ⟨rfl, rfl⟩ hk3)⟩
              case measure => simp [intOf]
            · gi_wp2
              refine bodyPost_ret (results_none rfl _ _ _) rfl ?_
              exact ⟨⟨_, rfl⟩, .inr ⟨_, trivial, hJx3⟩⟩
        · have hfb : decide ((32 : Int) ≤ full) = false := decide_eq_false hf
          have hen := hcame.end_ (d := 1) (by rw [e1]; exact hf)
          have HEN := Lib.hid hen
          clear hen e1
          gi_wp2
          gi_region
          all_goals
            gi_wp2
            go_end0
            exact ⟨⟨_, rfl⟩, .inl ⟨pre, HEN.out, hJd⟩⟩
      · have hw : IntKind.i64.wrap 16 = 16 := by decide
        have hlen := hcame.2
        have e1 : (2 : Int) ^ (6 - 2) = 16 := by decide
        by_cases hf : (16 : Int) ≤ full
        · have hfb : decide ((16 : Int) ≤ full) = true := decide_eq_true hf
          obtain ⟨fn, tmps, assign, body, hy, hR⟩ := hY pre (16, 5) wr.drew hJd (by omega)
          dsimp only at hy
          have hst := hcame.step (d := 2) (by rw [e1]; exact hf)
          rw [e1] at hst
          have HST := Lib.hid hst
          clear hst e1
          gi_wp2
          gi_region
          all_goals
            gi_wp2
            refine hR.mono ?_
            rintro e W3 (⟨rfl, hJ3, hk3⟩ | ⟨rfl, hJx3⟩)
            · gi_wp2
              go_roundw
              case rel => exact ⟨2, _, by omega, by first | rfl | simp, HST.out, hJ3, hnx.trans (KeepsTwo.trans ⟨rfl, rfl⟩ hk3)⟩
              case measure => simp [intOf]
            · gi_wp2
              refine bodyPost_ret (results_none rfl _ _ _) rfl ?_
              exact ⟨⟨_, rfl⟩, .inr ⟨_, trivial, hJx3⟩⟩
        · have hfb : decide ((16 : Int) ≤ full) = false := decide_eq_false hf
          have hen := hcame.end_ (d := 2) (by rw [e1]; exact hf)
          have HEN := Lib.hid hen
          clear hen e1
          gi_wp2
          gi_region
          all_goals
            gi_wp2
            go_end0
            exact ⟨⟨_, rfl⟩, .inl ⟨pre, HEN.out, hJd⟩⟩
      · have hw : IntKind.i64.wrap 8 = 8 := by decide
        have hlen := hcame.2
        have e1 : (2 : Int) ^ (6 - 3) = 8 := by decide
        by_cases hf : (8 : Int) ≤ full
        · have hfb : decide ((8 : Int) ≤ full) = true := decide_eq_true hf
          obtain ⟨fn, tmps, assign, body, hy, hR⟩ := hY pre (8, 4) wr.drew hJd (by omega)
          dsimp only at hy
          have hst := hcame.step (d := 3) (by rw [e1]; exact hf)
          rw [e1] at hst
          have HST := Lib.hid hst
          clear hst e1
          gi_wp2
          gi_region
          all_goals
            gi_wp2
            refine hR.mono ?_
            rintro e W3 (⟨rfl, hJ3, hk3⟩ | ⟨rfl, hJx3⟩)
            · gi_wp2
              go_roundw
              case rel => exact ⟨3, _, by omega, by first | rfl | simp, HST.out, hJ3, hnx.trans (KeepsTwo.trans ⟨rfl, rfl⟩ hk3)⟩
              case measure => simp [intOf]
            · gi_wp2
              refine bodyPost_ret (results_none rfl _ _ _) rfl ?_
              exact ⟨⟨_, rfl⟩, .inr ⟨_, trivial, hJx3⟩⟩
        · have hfb : decide ((8 : Int) ≤ full) = false := decide_eq_false hf
          have hen := hcame.end_ (d := 3) (by rw [e1]; exact hf)
          have HEN := Lib.hid hen
          clear hen e1
          gi_wp2
          gi_region
          all_goals
            gi_wp2
            go_end0
            exact ⟨⟨_, rfl⟩, .inl ⟨pre, HEN.out, hJd⟩⟩
      · have hw : IntKind.i64.wrap 4 = 4 := by decide
        have hlen := hcame.2
        have e1 : (2 : Int) ^ (6 - 4) = 4 := by decide
        by_cases hf : (4 : Int) ≤ full
        · have hfb : decide ((4 : Int) ≤ full) = true := decide_eq_true hf
          obtain ⟨fn, tmps, assign, body, hy, hR⟩ := hY pre (4, 3) wr.drew hJd (by omega)
          dsimp only at hy
          have hst := hcame.step (d := 4) (by rw [e1]; exact hf)
          rw [e1] at hst
          have HST := Lib.hid hst
          clear hst e1
          gi_wp2
          gi_region
          all_goals
            gi_wp2
            refine hR.mono ?_
            rintro e W3 (⟨rfl, hJ3, hk3⟩ | ⟨rfl, hJx3⟩)
            · gi_wp2
              go_roundw
              case rel => exact ⟨4, _, by omega, by first | rfl | simp, HST.out, hJ3, hnx.trans (KeepsTwo.trans ⟨rfl, rfl⟩ hk3)⟩
              case measure => simp [intOf]
            · gi_wp2
              refine bodyPost_ret (results_none rfl _ _ _) rfl ?_
              exact ⟨⟨_, rfl⟩, .inr ⟨_, trivial, hJx3⟩⟩
        · have hfb : decide ((4 : Int) ≤ full) = false := decide_eq_false hf
          have hen := hcame.end_ (d := 4) (by rw [e1]; exact hf)
          have HEN := Lib.hid hen
          clear hen e1
          gi_wp2
          gi_region
          all_goals
            gi_wp2
            go_end0
            exact ⟨⟨_, rfl⟩, .inl ⟨pre, HEN.out, hJd⟩⟩
      · have hw : IntKind.i64.wrap 2 = 2 := by decide
        have hlen := hcame.2
        have e1 : (2 : Int) ^ (6 - 5) = 2 := by decide
        by_cases hf : (2 : Int) ≤ full
        · have hfb : decide ((2 : Int) ≤ full) = true := decide_eq_true hf
          obtain ⟨fn, tmps, assign, body, hy, hR⟩ := hY pre (2, 2) wr.drew hJd (by omega)
          dsimp only at hy
          have hst := hcame.step (d := 5) (by rw [e1]; exact hf)
          rw [e1] at hst
          have HST := Lib.hid hst
          clear hst e1
          gi_wp2
          gi_region
          all_goals
            gi_wp2
            refine hR.mono ?_
            rintro e W3 (⟨rfl, hJ3, hk3⟩ | ⟨rfl, hJx3⟩)
            · gi_wp2
              go_roundw
              case rel => exact ⟨5, _, by omega, by first | rfl | simp, HST.out, hJ3, hnx.trans (KeepsTwo.trans ⟨rfl, rfl⟩ hk3)⟩
              case measure => simp [intOf]
            · gi_wp2
              refine bodyPost_ret (results_none rfl _ _ _) rfl ?_
              exact ⟨⟨_, rfl⟩, .inr ⟨_, trivial, hJx3⟩⟩
        · have hfb : decide ((2 : Int) ≤ full) = false := decide_eq_false hf
          have hen := hcame.end_ (d := 5) (by rw [e1]; exact hf)
          have HEN := Lib.hid hen
          clear hen e1
          gi_wp2
          gi_region
          all_goals
            gi_wp2
            go_end0
            exact ⟨⟨_, rfl⟩, .inl ⟨pre, HEN.out, hJd⟩⟩
      · have hw : IntKind.i64.wrap 1 = 1 := by decide
        have hlen := hcame.2
        have e1 : (2 : Int) ^ (6 - 6) = 1 := by decide
        by_cases hf : (1 : Int) ≤ full
        · have hfb : decide ((1 : Int) ≤ full) = true := decide_eq_true hf
          obtain ⟨fn, tmps, assign, body, hy, hR⟩ := hY pre (1, 1) wr.drew hJd (by omega)
          dsimp only at hy
          have hst := hcame.step (d := 6) (by rw [e1]; exact hf)
          rw [e1] at hst
          have HST := Lib.hid hst
          clear hst e1
          gi_wp2
          gi_region
          all_goals
            gi_wp2
            refine hR.mono ?_
            rintro e W3 (⟨rfl, hJ3, hk3⟩ | ⟨rfl, hJx3⟩)
            · gi_wp2
              go_roundw
              case rel => exact ⟨6, _, by omega, by first | rfl | simp, HST.out, hJ3, hnx.trans (KeepsTwo.trans ⟨rfl, rfl⟩ hk3)⟩
              case measure => simp [intOf]
            · gi_wp2
              refine bodyPost_ret (results_none rfl _ _ _) rfl ?_
              exact ⟨⟨_, rfl⟩, .inr ⟨_, trivial, hJx3⟩⟩
        · have hfb : decide ((1 : Int) ≤ full) = false := decide_eq_false hf
          have hen := hcame.end_ (d := 6) (by rw [e1]; exact hf)
          have HEN := Lib.hid hen
          clear hen e1
          gi_wp2
          gi_region
          all_goals
            gi_wp2
            go_end0
            exact ⟨⟨_, rfl⟩, .inl ⟨pre, HEN.out, hJd⟩⟩
end Go.Proofs.Ytccabdgfjcjpoaa.X
