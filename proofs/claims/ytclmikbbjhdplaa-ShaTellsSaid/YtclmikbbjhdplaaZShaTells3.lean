/- Texts of this session joined into one: XF69, XF68, XF19, QSha, HSched, HBlock, XF50, XF20, HBack, HPut, XF34, XF18, QWord, HSum, HConv, XF17, XF15, QGet, QWords, QJoin, HAlive2, XF28, QRef, QRefSha, HRefInv. -/
import Derived.Test.YtclmikbbjhdplaaZShaTells1
import Derived.Test.YtclmikbbjhdplaaZShaTells2
import Derived.Deep.MidRow
import Derived.Deep.WholeRow
import Derived.WalkKit
import Derived.BigQuiet
import Derived.Deep.QuietTactic
import Derived.Deep.DeepMust
import Derived.Lib.Hide
import Derived.Deep.Cut
import Derived.Deep.CutRange
import Derived.Deep.CutBlock
import Derived.Deep.DeepCutAuto
import Derived.RangeFuncBox
import Derived.RangeFuncNested
import Derived.RangeFuncLeaves
import Derived.Shelf.Abstract
import Derived.OwnWalkIn
import Derived.TacticsInMore
import Derived.LoopNIn
import Derived.LoopIn
import Derived.StillTailTactics
import Derived.OpenShut
import Derived.Test.YtclmikbbjhdplaaWArr
import Derived.BigRegion
import Derived.Deep.RegionLaw
import Derived.Deep.RegionHeld3
-- Written by a program of this session (a turn of the kit's print with contracts by hand). Not trusted: Lean checks it.
namespace Go.Proofs.Ytclmikbbjhdplaa.X
open Go.RowKit Go.Proofs.YtclmikbbjhdplaaW.PrintWords Go.Proofs.YtclmikbbjhdplaaW.PrintLast Go.Proofs.YtclmikbbjhdplaaW.PrintMore
attribute [local go_sem] max2_int min2_int max_two min_two max_three min_three max_four min_four   -- for this text's walks alone
set_option linter.unusedVariables false
set_option linter.unusedSimpArgs false

/-! ### bits_RotateLeft32: function 69 -/
def bits_RotateLeft32.f (a0 : Int) (a1 : Int) : Option (Int) := if 0 ≤ (Go.bits .and .u64 (IntKind.u64.wrap (a1)) 31) then (if 0 ≤ (IntKind.u64.wrap (32 - (Go.bits .and .u64 (IntKind.u64.wrap (a1)) 31))) then (some (Go.bits .or .u32 (shl .u32 a0 (Go.bits .and .u64 (IntKind.u64.wrap (a1)) 31)) (shr .u32 a0 (IntKind.u64.wrap (32 - (Go.bits .and .u64 (IntKind.u64.wrap (a1)) 31)))))) else (none)) else (none)
set_option maxHeartbeats 8000000 in
set_option maxRecDepth 100000 in
theorem bits_RotateLeft32.calls (a0 : Int) (a1 : Int) (r : Int) (w : World) (h : bits_RotateLeft32.f a0 a1 = some r) :
    Calls Try.prog 69 #[.int .u32 a0, .int .i64 a1] w fun e w' => e = .returned (.int .u32 r) ∧ Drawn0 w w' := by
  have H : (if 0 ≤ (Go.bits .and .u64 (IntKind.u64.wrap (a1)) 31) then (if 0 ≤ (IntKind.u64.wrap (32 - (Go.bits .and .u64 (IntKind.u64.wrap (a1)) 31))) then (some (Go.bits .or .u32 (shl .u32 a0 (Go.bits .and .u64 (IntKind.u64.wrap (a1)) 31)) (shr .u32 a0 (IntKind.u64.wrap (32 - (Go.bits .and .u64 (IntKind.u64.wrap (a1)) 31)))))) else (none)) else (none)) = some r := h
  clear h
  obtain ⟨ji3, hji3⟩ : ∃ j_ : Int, (Go.bits .and .u64 (IntKind.u64.wrap (a1)) 31) = j_ := ⟨_, rfl⟩
  replace H : (if 0 ≤ (ji3) then (if 0 ≤ (IntKind.u64.wrap (32 - (ji3))) then (some (Go.bits .or .u32 (shl .u32 a0 (ji3)) (shr .u32 a0 (IntKind.u64.wrap (32 - (ji3)))))) else (none)) else (none)) = some r := by first | (rw [hji3] at H; exact H) | (simp only [hji3] at H ⊢; exact H)
  by_cases c4 : 0 ≤ (ji3)
  · rw [if_pos c4] at H
    have c4b0 := eq_true c4
    have c4b1 : decide (0 ≤ (ji3)) = true := decide_eq_true c4
    clear c4
    obtain ⟨ji5, hji5⟩ : ∃ j_ : Int, (shl .u32 a0 (ji3)) = j_ := ⟨_, rfl⟩
    replace H : (if 0 ≤ (IntKind.u64.wrap (32 - (ji3))) then (some (Go.bits .or .u32 (ji5) (shr .u32 a0 (IntKind.u64.wrap (32 - (ji3)))))) else (none)) = some r := by first | (rw [hji5] at H; exact H) | (simp only [hji5] at H ⊢; exact H)
    have hji5_ : (IntKind.u32.wrap (a0 * 2 ^ min (ji3).toNat 32)) = ji5 := hji5
    have hji5z : (ji3) ≤ 32 → (IntKind.u32.wrap (a0 * 2 ^ (ji3).toNat)) = ji5 := shl_small hji5
    obtain ⟨ji6, hji6⟩ : ∃ j_ : Int, (IntKind.u64.wrap (32 - (ji3))) = j_ := ⟨_, rfl⟩
    replace H : (if 0 ≤ (ji6) then (some (Go.bits .or .u32 (ji5) (shr .u32 a0 (ji6)))) else (none)) = some r := by first | (rw [hji6] at H; exact H) | (simp only [hji6] at H ⊢; exact H)
    by_cases c7 : 0 ≤ (ji6)
    · rw [if_pos c7] at H
      have c7b0 := eq_true c7
      have c7b1 : decide (0 ≤ (ji6)) = true := decide_eq_true c7
      clear c7
      obtain ⟨ji8, hji8⟩ : ∃ j_ : Int, (shr .u32 a0 (ji6)) = j_ := ⟨_, rfl⟩
      replace H : (some (Go.bits .or .u32 (ji5) (ji8))) = some r := by first | (rw [hji8] at H; exact H) | (simp only [hji8] at H ⊢; exact H)
      have hji8_ : (a0 / 2 ^ min (ji6).toNat 32) = ji8 := hji8
      have hji8z : (ji6) ≤ 32 → (a0 / 2 ^ (ji6).toNat) = ji8 := shr_small hji8
      obtain rfl := Option.some.inj H
      go_enter Try.func69, Try.ntmps69
      go_wp2
      go_ret
      exact ⟨by first | rfl | (simp; done) | (simp only [← hji3, ← hji5, ← hji6, ← hji8] <;> (first | rfl | simp)) | (simp [*]; done), by repeat (first | exact Drawn0.refl _ | apply Drawn0.step)⟩
    · rw [if_neg c7] at H
      exact absurd H (by simp)
  · rw [if_neg c4] at H
    exact absurd H (by simp)

end Go.Proofs.Ytclmikbbjhdplaa.X
-- Written by a program of this session (a turn of the kit's print with contracts by hand). Not trusted: Lean checks it.
namespace Go.Proofs.Ytclmikbbjhdplaa.X
open Go.RowKit Go.Proofs.YtclmikbbjhdplaaW.PrintWords Go.Proofs.YtclmikbbjhdplaaW.PrintLast Go.Proofs.YtclmikbbjhdplaaW.PrintMore
attribute [local go_sem] max2_int min2_int max_two min_two max_three min_three max_four min_four   -- for this text's walks alone
set_option linter.unusedVariables false
set_option linter.unusedSimpArgs false

/-! ### sha_right: function 68 -/
def sha_right.f (a0 : Int) (a1 : Int) : Option (Int) := (bits_RotateLeft32.f a0 (wrap64 (-a1))).bind fun t197 => (some t197)
set_option maxHeartbeats 8000000 in
set_option maxRecDepth 100000 in
theorem sha_right.calls (a0 : Int) (a1 : Int) (r : Int) (w : World) (h : sha_right.f a0 a1 = some r) :
    Calls Try.prog 68 #[.int .u32 a0, .int .i64 a1] w fun e w' => e = .returned (.int .u32 r) ∧ Drawn0 w w' := by
  have H : ((bits_RotateLeft32.f a0 (wrap64 (-a1))).bind fun t197 => (some t197)) = some r := h
  clear h
  replace H := Option.bind_eq_some_iff.mp H
  obtain ⟨t197, A30, H⟩ := H
  replace H : (some t197) = some r := H
  have A3 := Aside0.mk A30
  clear A30
  obtain rfl := Option.some.inj H
  go_enter Try.func68, Try.ntmps68
  go_wp2_with (first | ((with_reducible refine gate_callee (f := 69) rfl ?_); refine goesL_ (some 8) rfl rfl Try.func69 (by kernel_rfl) rfl #[.int .u32 a0, .int .i64 (wrap64 (-a1))] rfl (by (try simp only [List.map_toArray, List.map_cons, List.map_nil]); first | done | rfl | (simp only [List.length_drop, List.length_take]; rfl)) ?_; (with_reducible refine (bits_RotateLeft32.calls a0 (wrap64 (-a1)) t197 _ A3.out).mono ?_); rintro e w' ⟨rfl, ⟨nd, rfl⟩⟩; refine ⟨_, rfl, ?_⟩))
  go_ret
  exact ⟨by first | rfl | (simp; done) | (simp [*]; done), by repeat (first | exact Drawn0.refl _ | apply Drawn0.step)⟩

end Go.Proofs.Ytclmikbbjhdplaa.X
-- Written by a program of this session (a turn of the kit's print with contracts by hand). Not trusted: Lean checks it.
namespace Go.Proofs.Ytclmikbbjhdplaa.X
open Go.RowKit Go.Proofs.YtclmikbbjhdplaaW.PrintWords Go.Proofs.YtclmikbbjhdplaaW.PrintLast Go.Proofs.YtclmikbbjhdplaaW.PrintMore
attribute [local go_sem] max2_int min2_int max_two min_two max_three min_three max_four min_four   -- for this text's walks alone
set_option linter.unusedVariables false
set_option linter.unusedSimpArgs false

/-! ### octets_Word: function 19 -/
def octets_Word.l0 : Nat → List Int → Int → Int → Int → Option (Int)
  | 0, _, _, _, _ => none
  | k + 1, x0, x1, x5, x7 => if x7 < 4 then (if x1 ≥ 0 then (if x1 < (wrap64 ((x0.length : Int) - x7)) then (if 0 ≤ (wrap64 (x1 + x7)) then (if (wrap64 (x1 + x7)) < (x0.length : Int) then (octets_Word.l0 k x0 x1 (Go.bits .or .u32 ((x5 * 256) % 4294967296) ((rd x0 (wrap64 (x1 + x7))) % 4294967296)) (wrap64 (x7 + 1))) else (none)) else (none)) else (octets_Word.l0 k x0 x1 ((x5 * 256) % 4294967296) (wrap64 (x7 + 1)))) else (octets_Word.l0 k x0 x1 ((x5 * 256) % 4294967296) (wrap64 (x7 + 1)))) else (some x5)
def octets_Word.f (k : Nat) (l0 : List Int) (a1 : Int) : Option (Int) := octets_Word.l0 k l0 a1 0 0
theorem octets_Word.mono_l : ∀ k, (∀ y0 y1 y2 y3, LeO (octets_Word.l0 k y0 y1 y2 y3) (octets_Word.l0 (k + 1) y0 y1 y2 y3))
  | 0 => fun _ _ _ _ r h => by simp [octets_Word.l0] at h
  | k + 1 => by
    have ih0 := octets_Word.mono_l k
    · intro y0 y1 y2 y3
      unfold octets_Word.l0
      repeat' first
      | (with_reducible exact ih0 _ _ _ _)
      | (with_reducible exact LeO.refl _)
      | (with_reducible exact LeO.none _)
      | (with_reducible refine LeO.ite ?_ ?_)
      | (with_reducible refine LeO.bind ?_ (fun _ => ?_))
      | exact ih0 _ _ _ _
      | exact LeO.none _
      | refine LeO.ite ?_ ?_
      | refine LeO.bind ?_ (fun _ => ?_)
theorem octets_Word.mono : ∀ a0 a1 k, LeO (octets_Word.f k a0 a1) (octets_Word.f (k + 1) a0 a1) := by
  intro a0 a1 k
  have ih0 := octets_Word.mono_l k
  unfold octets_Word.f
  repeat' first
      | (with_reducible exact ih0 _ _ _ _)
      | (with_reducible exact LeO.refl _)
      | (with_reducible exact LeO.none _)
      | (with_reducible refine LeO.ite ?_ ?_)
      | (with_reducible refine LeO.bind ?_ (fun _ => ?_))
      | exact ih0 _ _ _ _
      | exact LeO.none _
      | refine LeO.ite ?_ ?_
      | refine LeO.bind ?_ (fun _ => ?_)
set_option maxHeartbeats 8000000 in
set_option maxRecDepth 100000 in
theorem octets_Word.calls (k : Nat) (A0 : Option Addr) (c0 : Nat) (l0 : List Int) (a1 : Int) (r : Int) (w : World) (hr0 : Kd.C (Kd.int .u8) w A0 l0.length l0) (hc0 : l0.length ≤ c0) (h : octets_Word.f k l0 a1 = some r) :
    Calls Try.prog 19 #[.slice A0 l0.length c0, .int .i64 a1] w fun e w' => e = .returned (.int .u32 r) ∧ Drawn0 w w' := by
  have HR0 := Aside0.mk hr0
  have HC0 := Aside0.mk hc0
  clear hr0 hc0
  have H : (octets_Word.l0 k l0 a1 0 0) = some r := h
  clear h
  have H' := Aside0.mk H
  clear H
  go_enter Try.func19, Try.ntmps19
  go_wp2
  go_loopg [5, 7] k (fun kq v5 v7 w' => ∃ (x5_1 : Int) (x7_1 : Int), v5 = .int .u32 x5_1 ∧ v7 = .int .i64 x7_1 ∧ Aside0 (octets_Word.l0 kq l0 a1 x5_1 x7_1 = some r) ∧ Aside0 (kq ≤ k) ∧ Drawn0 w w')
  case atStart => exact ⟨(0), (0), (by first | rfl | (simp; done) | (simp [*]; done)), (by first | rfl | (simp; done) | (simp [*]; done)), H', ⟨Nat.le_refl _⟩, by repeat (first | exact Drawn0.refl _ | apply Drawn0.step)⟩
  case round =>
    clear H'
    try clear c1
    try clear p2
    obtain ⟨x5_1, x7_1, rfl, rfl, HA, HK1, ⟨m1, rfl⟩⟩ := hrel
    cases gk with
    | zero => exact absurd HA.out (by simp [octets_Word.l0])
    | succ k1 =>
      have H := HA.out
      clear HA
      simp only [octets_Word.l0] at H
      by_cases c3 : x7_1 < 4
      · rw [if_pos c3] at H
        have c3b0 : decide (x7_1 < 4) = true := decide_eq_true c3
        clear c3
        by_cases c4 : a1 ≥ 0
        · rw [if_pos c4] at H
          have c4b0 : decide (0 ≤ a1) = true := decide_eq_true c4
          clear c4
          by_cases c5 : a1 < (wrap64 ((l0.length : Int) - x7_1))
          · rw [if_pos c5] at H
            have c5b0 : decide (a1 < (wrap64 ((l0.length : Int) - x7_1))) = true := decide_eq_true c5
            clear c5
            obtain ⟨ji6, hji6⟩ : ∃ j_ : Int, (wrap64 (a1 + x7_1)) = j_ := ⟨_, rfl⟩
            replace H : (if 0 ≤ (ji6) then (if (ji6) < (l0.length : Int) then (octets_Word.l0 k1 l0 a1 (Go.bits .or .u32 ((x5_1 * 256) % 4294967296) ((rd l0 (ji6)) % 4294967296)) (wrap64 (x7_1 + 1))) else (none)) else (none)) = some r := by first | (rw [hji6] at H; exact H) | (simp only [hji6] at H ⊢; exact H)
            have hji6w : (IntKind.i64.wrap (a1 + x7_1)) = ji6 := (i64_w _).trans hji6
            by_cases c7 : 0 ≤ (ji6)
            · rw [if_pos c7] at H
              have c7b0 : decide (0 ≤ (ji6)) = true := decide_eq_true c7
              clear c7
              by_cases c8 : (ji6) < (l0.length : Int)
              · rw [if_pos c8] at H
                have c8b0 : decide ((ji6) < (l0.length : Int)) = true := decide_eq_true c8
                clear c8
                have H' := Aside0.mk H
                clear H
                have p121 : 0 ≤ ((ji6) : Int) := of_decide_eq_true (by first | (with_reducible assumption) | assumption)
                have q121 : (ji6) < (l0.length : Int) := of_decide_eq_true (by first | (with_reducible assumption) | assumption)
                obtain ⟨ad121, e121, hx121_0⟩ := Kd.at_int HR0.out (ji6) p121 q121
                cases e121
                replace p121 := eq_true p121
                replace q121 := eq_true q121
                go_wp2
                go_roundg k1
                case measure => have := HK1.out; omega
                case rel => exact ⟨(Go.bits .or .u32 ((x5_1 * 256) % 4294967296) ((rd l0 (ji6)) % 4294967296)), (wrap64 (x7_1 + 1)), (by first | rfl | (simp; done) | (simp only [← hji6] <;> (first | rfl | simp)) | (simp [*]; done)), (by first | rfl | (simp; done) | (simp [*]; done)), H', ⟨by have := HK1.out; omega⟩, by repeat (first | exact Drawn0.refl _ | apply Drawn0.step)⟩
              · rw [if_neg c8] at H
                exact absurd H (by simp)
            · rw [if_neg c7] at H
              exact absurd H (by simp)
          · rw [if_neg c5] at H
            have c5b0 : decide (a1 < (wrap64 ((l0.length : Int) - x7_1))) = false := decide_eq_false c5
            clear c5
            have H' := Aside0.mk H
            clear H
            go_wp2
            go_roundg k1
            case measure => have := HK1.out; omega
            case rel => exact ⟨((x5_1 * 256) % 4294967296), (wrap64 (x7_1 + 1)), (by first | rfl | (simp; done) | (simp [*]; done)), (by first | rfl | (simp; done) | (simp [*]; done)), H', ⟨by have := HK1.out; omega⟩, by repeat (first | exact Drawn0.refl _ | apply Drawn0.step)⟩
        · rw [if_neg c4] at H
          have c4b0 : decide (0 ≤ a1) = false := decide_eq_false c4
          clear c4
          have H' := Aside0.mk H
          clear H
          go_wp2
          go_roundg k1
          case measure => have := HK1.out; omega
          case rel => exact ⟨((x5_1 * 256) % 4294967296), (wrap64 (x7_1 + 1)), (by first | rfl | (simp; done) | (simp [*]; done)), (by first | rfl | (simp; done) | (simp [*]; done)), H', ⟨by have := HK1.out; omega⟩, by repeat (first | exact Drawn0.refl _ | apply Drawn0.step)⟩
      · rw [if_neg c3] at H
        have c3b0 : decide (x7_1 < 4) = false := decide_eq_false c3
        clear c3
        obtain rfl := Option.some.inj H
        go_wp2
        go_ret
        exact ⟨by first | rfl | (simp; done) | (simp [*]; done), by repeat (first | exact Drawn0.refl _ | apply Drawn0.step)⟩

end Go.Proofs.Ytclmikbbjhdplaa.X
/- The sum of octets, as lists of words: what the code of sha comes to, in plain Lean. -/
namespace Go.Proofs.Ytclmikbbjhdplaa.X
open Go.RowKit Go.Proofs.YtclmikbbjhdplaaW.PrintWords Go.Proofs.YtclmikbbjhdplaaW.PrintLast Go.Proofs.YtclmikbbjhdplaaW.PrintMore
set_option linter.unusedVariables false
set_option linter.unusedSimpArgs false

/-- A word turned to the right, as math/bits does it. -/
def rotA (x n : Int) : Int := Go.bits .or .u32 (shl .u32 x (32 - n)) (shr .u32 x n)
theorem right_of (x n m : Int) (e : Go.bits .and .u64 (IntKind.u64.wrap (wrap64 (-n))) 31 = m) (hm : m = 32 - n) (h0 : 0 ≤ m) (h1 : 0 ≤ n) (h2 : n < 32) : sha_right.f x n = some (rotA x n) := by
  have e2 : IntKind.u64.wrap (32 - m) = n := by rw [IntKind.wrap_u64]; omega
  simp only [sha_right.f, bits_RotateLeft32.f, e, e2, Option.bind_some]
  rw [if_pos h0, if_pos h1, Option.bind_some, rotA, hm]
theorem right2 (x : Int) : sha_right.f x 2 = some (rotA x 2) := right_of x 2 30 (by decide +kernel) (by omega) (by omega) (by omega) (by omega)
theorem right6 (x : Int) : sha_right.f x 6 = some (rotA x 6) := right_of x 6 26 (by decide +kernel) (by omega) (by omega) (by omega) (by omega)
theorem right7 (x : Int) : sha_right.f x 7 = some (rotA x 7) := right_of x 7 25 (by decide +kernel) (by omega) (by omega) (by omega) (by omega)
theorem right11 (x : Int) : sha_right.f x 11 = some (rotA x 11) := right_of x 11 21 (by decide +kernel) (by omega) (by omega) (by omega) (by omega)
theorem right13 (x : Int) : sha_right.f x 13 = some (rotA x 13) := right_of x 13 19 (by decide +kernel) (by omega) (by omega) (by omega) (by omega)
theorem right17 (x : Int) : sha_right.f x 17 = some (rotA x 17) := right_of x 17 15 (by decide +kernel) (by omega) (by omega) (by omega) (by omega)
theorem right18 (x : Int) : sha_right.f x 18 = some (rotA x 18) := right_of x 18 14 (by decide +kernel) (by omega) (by omega) (by omega) (by omega)
theorem right19 (x : Int) : sha_right.f x 19 = some (rotA x 19) := right_of x 19 13 (by decide +kernel) (by omega) (by omega) (by omega) (by omega)
theorem right22 (x : Int) : sha_right.f x 22 = some (rotA x 22) := right_of x 22 10 (by decide +kernel) (by omega) (by omega) (by omega) (by omega)
theorem right25 (x : Int) : sha_right.f x 25 = some (rotA x 25) := right_of x 25 7 (by decide +kernel) (by omega) (by omega) (by omega) (by omega)

def wordA (l : List Int) (t : Int) : Int := (octets_Word.f 6 l t).getD 0
/-- The next word of a block's schedule. -/
def nextW (ws : List Int) (t : Int) : Int :=
  (Go.bits .xor .u32 (Go.bits .xor .u32 (rotA (rd ws (t - 2)) 17) (rotA (rd ws (t - 2)) 19)) (rd ws (t - 2) / 1024) + rd ws (t - 7) + Go.bits .xor .u32 (Go.bits .xor .u32 (rotA (rd ws (t - 15)) 7) (rotA (rd ws (t - 15)) 18)) (rd ws (t - 15) / 8) + rd ws (t - 16)) % 4294967296
def wsA (l : List Int) : Nat → List Int
  | 0 => []
  | n + 1 => wsA l n ++ [if n < 16 then wordA l (4 * n) else nextW (wsA l n) n]
theorem wsA_len (l : List Int) : ∀ n, (wsA l n).length = n
  | 0 => rfl
  | n + 1 => by simp [wsA, wsA_len l n]
def pad64 (ws : List Int) : List Int := ws ++ List.replicate (64 - ws.length) 0
theorem pad64_len (ws : List Int) (h : ws.length ≤ 64) : (pad64 ws).length = 64 := by simp [pad64]; omega
theorem pad64_all (ws : List Int) (h : ws.length = 64) : pad64 ws = ws := by simp [pad64, h]
theorem pad64_set (ws : List Int) (x : Int) (h : ws.length < 64) : (pad64 ws).set ws.length x = pad64 (ws ++ [x]) := by
  have e : 64 - ws.length = (64 - (ws.length + 1)) + 1 := by omega
  simp only [pad64, List.length_append, List.length_cons, List.length_nil, Nat.zero_add]
  rw [e, List.replicate_succ, List.set_append_right _ _ (Nat.le_refl _)]
  simp
theorem pad64_get (ws : List Int) (i : Nat) (h : i < ws.length) : (pad64 ws)[i]? = some (rd ws i) := by
  rw [pad64, List.getElem?_append_left h]
  simp [rd, List.getD, List.getElem?_eq_getElem h]
def K0 : List Int := [1116352408, 1899447441, 3049323471, 3921009573, 961987163, 1508970993, 2453635748, 2870763221, 3624381080, 310598401, 607225278, 1426881987, 1925078388, 2162078206, 2614888103, 3248222580, 3835390401, 4022224774, 264347078, 604807628, 770255983, 1249150122, 1555081692, 1996064986, 2554220882, 2821834349, 2952996808, 3210313671, 3336571891, 3584528711, 113926993, 338241895, 666307205, 773529912, 1294757372, 1396182291, 1695183700, 1986661051, 2177026350, 2456956037, 2730485921, 2820302411, 3259730800, 3345764771, 3516065817, 3600352804, 4094571909, 275423344, 430227734, 506948616, 659060556, 883997877, 958139571, 1322822218, 1537002063, 1747873779, 1955562222, 2024104815, 2227730452, 2361852424, 2428436474, 2756734187, 3204031479, 3329325298]
def S1f (v : List Int) : Int := Go.bits .xor .u32 (Go.bits .xor .u32 (rotA (rd v 4) 6) (rotA (rd v 4) 11)) (rotA (rd v 4) 25)
def S0f (v : List Int) : Int := Go.bits .xor .u32 (Go.bits .xor .u32 (rotA (rd v 0) 2) (rotA (rd v 0) 13)) (rotA (rd v 0) 22)
def t1f (v : List Int) (k w : Int) : Int := ((rd v 7 + S1f v + Go.bits .xor .u32 (Go.bits .and .u32 (rd v 4) (rd v 5)) (Go.bits .and .u32 (Go.bits .xor .u32 (4294967295) (rd v 4)) (rd v 6)) + k) % 4294967296 + w) % 4294967296
def t2f (v : List Int) : Int := S0f v + Go.bits .xor .u32 (Go.bits .xor .u32 (Go.bits .and .u32 (rd v 0) (rd v 1)) (Go.bits .and .u32 (rd v 0) (rd v 2))) (Go.bits .and .u32 (rd v 1) (rd v 2))
/-- One round over the eight words. -/
def roundA (v : List Int) (k w : Int) : List Int := [(t1f v k w + t2f v) % 4294967296, rd v 0, rd v 1, rd v 2, (rd v 3 + t1f v k w) % 4294967296, rd v 4, rd v 5, rd v 6]
def roundsA (v ks ws : List Int) : Nat → List Int
  | 0 => v
  | n + 1 => roundA (roundsA v ks ws n) (rd ks n) (rd ws n)
theorem roundsA_len {v ks ws : List Int} (h : v.length = 8) : ∀ n, (roundsA v ks ws n).length = 8
  | 0 => h
  | n + 1 => rfl
/-- The first n words added. -/
def addA (v s : List Int) : Nat → List Int
  | 0 => v
  | n + 1 => (addA v s n).set n ((rd (addA v s n) n + rd s n) % 4294967296)
theorem addA_len (v s : List Int) : ∀ n, (addA v s n).length = v.length
  | 0 => rfl
  | n + 1 => by rw [addA, List.length_set, addA_len v s n]
def blockA (s ks l : List Int) : List Int := addA (roundsA s ks (wsA l 64) 64) s 8
end Go.Proofs.Ytclmikbbjhdplaa.X
/- sha.first, sha.constants, sha.schedule: what lies in arrays. -/
namespace Go.Proofs.Ytclmikbbjhdplaa.X
open Go.RowKit Go.Proofs.YtclmikbbjhdplaaW.PrintWords Go.Proofs.YtclmikbbjhdplaaW.PrintLast Go.Proofs.YtclmikbbjhdplaaW.PrintMore
set_option linter.unusedVariables false
set_option linter.unusedSimpArgs false

def H0 : List Int := [1779033703, 3144134277, 1013904242, 2773480762, 1359893119, 2600822924, 528734635, 1541459225]
set_option maxRecDepth 100000 in
set_option maxHeartbeats 4000000 in
theorem first_calls (w : World) :
    Calls Try.prog 55 #[] w fun e w' => e = .returned (.agg (nums .u32 H0).toArray) ∧ Below w.heap.size w w' := by
  go_enter Try.func55, Try.ntmps55
  go_wp2
  refine bodyPost_ret (v := .agg (nums .u32 H0).toArray) ?_ rfl ⟨rfl, below_alloc (Below.refl _ _) _⟩
  exact results_cell_row rfl _ _ w.heap.size 66 _ (0, 0) _ rfl (blk_new _ _) Try.underlying66 rfl (by kernel_rfl)

/-- Another array in block g, and no other block turned. -/
structure Stored (g : Nat) (t : TypeId) (cs : Array Value) (w w1 : World) : Prop where
  at_ : w1.heap[g]? = some (.cells cs t (0, 0))
  size : w1.heap.size = w.heap.size
  far : ∀ i, i ≠ g → w1.heap[i]? = w.heap[i]?
  below : ∀ (v : World), Below v.heap.size v w → v.heap.size ≤ g → Below v.heap.size v w1
section
variable {P : Program} {ops : Array Oper} {rest : List Oper} {o : Oper} {a : Act} {Q : Exit → Act → World → Prop}
theorem setCells_stored (g : Nat) (t : TypeId) : ∀ (vs : List Value) (i : Nat) (w : World) (pre suf : List Value), w.heap[g]? = some (.cells (pre ++ suf).toArray t (0, 0)) → pre.length = i → vs.length = suf.length →
    Stored g t (pre ++ vs).toArray w (w.setCells g i vs)
  | [], i, w, pre, suf, h, hp, hl => by
    have : suf = [] := List.length_eq_zero_iff.1 (by simpa using hl.symm)
    subst this
    exact ⟨h, rfl, fun _ _ => rfl, fun v hb _ => hb⟩
  | v :: vs, i, w, pre, suf, h, hp, hl => by
    match suf, hl with
    | s :: suf, hl =>
    have h1 := blk_put (cs' := ((pre ++ [v]) ++ suf).toArray) h i v (by
      subst hp
      simp [List.set_append_right])
    have ih := setCells_stored g t vs (i + 1) (w.setCell ⟨g, i, none⟩ v) (pre ++ [v]) suf h1 (by simp [hp]) (by simpa using hl)
    rw [World.setCells]
    refine ⟨by have := ih.at_; simpa using this, ih.size.trans (World.size_setCell _ _ _), fun j hj => (ih.far j hj).trans ?_, fun u hb hg => ih.below u (by exact hb.setCell hg _) hg⟩
    exact Below.heap_setCell w ⟨g, i, none⟩ v j hj
/-- A whole array stored. -/
theorem store_ev {W : World} (hgd : o.guard = none) (hd : o.dst = none) (ty : TypeId) (x y : Operand) (ho : o.op = .store ty x y) (g : Nat) (cs cells : Array Value) (hx : a.eval x = .pointer (some ⟨g, 0, none⟩)) (hy : a.eval y = .agg cells)
    (hg : W.heap[g]? = some (.cells cs ty (0, 0))) (hs : cs.size = cells.size) (hi : (P.info? ty).map (·.size) = some cells.size) (h1 : cells.all (·.oneCell') = true)
    (h : ∀ w1, Stored g ty cells W w1 → wpList P ops Q rest a w1) : wpList P ops Q (o :: rest) a W := by
  refine wpList_store_mid hgd ty x y ho g 0 cells hx hy (fun j hj => ?_) hi h1 ?_
  · rw [Nat.zero_add, blk_cell hg, blk_frozen hg]
    exact ⟨by rw [Array.getElem?_eq_getElem (by omega)]; rfl, rfl⟩
  · rw [hd]
    have := setCells_stored g ty cells.toList 0 W [] cs.toList (by simpa using hg) rfl (by simpa using hs.symm)
    exact h _ (by simpa using this)
/-- An array of parts that are told. -/
theorem build_ev {W : World} (hgd : o.guard = none) {N : Tmp} (hd : o.dst = some N) (t : TypeId) (parts : Array (Nat × Operand)) (ho : o.op = .build t parts) (cells : Array Value) (hb : P.built t (parts.map fun (i, x) => (i, a.eval x)).toList = some cells)
    (h : wpList P ops Q rest (a.put (some N) (.agg cells)) W) : wpList P ops Q (o :: rest) a W := by
  refine wpList_build hgd t parts ho (by rw [hb]; rfl) ?_
  rw [hb, hd]
  exact h
/-- A whole array read. -/
theorem load_ev {W : World} (hgd : o.guard = none) {N : Tmp} (hd : o.dst = some N) (ty : TypeId) (x : Operand) (ho : o.op = .load ty x) (g : Nat) (cs : Array Value) (d : TypeDesc) (hx : a.eval x = .pointer (some ⟨g, 0, none⟩))
    (hg : W.heap[g]? = some (.cells cs ty (0, 0))) (hu : P.underlying ty = some d) (hd2 : d.isRow = true) (hi : (P.info? ty).map (·.size) = some cs.size)
    (h : wpList P ops Q rest (a.put (some N) (.agg cs)) W) : wpList P ops Q (o :: rest) a W := by
  refine wpList_load_mid hgd ty x ho g 0 hx cs.toList d (fun j v hv => ?_) hu hd2 (by simpa using hi) ?_
  · rw [Nat.zero_add, blk_cell hg]
    simpa using hv
  · rw [hd]
    simpa using h
end
theorem gen_world {P : Program} {c : Code} {Q : Exit → Act → World → Prop} {a : Act} {w0 w : World} (hd : Drawn0 w0 w) (h : ∀ W, Drawn0 w0 W → Code.wp P c Q a W) : Code.wp P c Q a w := h w hd
theorem nums_one (k : IntKind) (xs : List Int) : (nums k xs).toArray.all (·.oneCell') = true := by simp [nums, Value.oneCell']

theorem run_alloc (P : Program) (t : TypeId) (cs : Array Value) (n : Nat) (h : (P.info? t).map (fun i => (i.zero, i.size)) = some (some (.agg cs), n)) (eval : Operand → Value) (o : Oper) (ho : o.op = .alloc t) (W : World) :
    (execOp eval o).run P W = .ok (.value (.pointer (some ⟨W.heap.size, 0, none⟩))) (W.alloc (.cells cs t (0, 0))) := by
  have hz := (zero_of_info h).1
  unfold execOp
  simp [ho, Instr.alloc, hz, newVar, newRow, Value.cells]
theorem i68 : (Try.prog.info? 68).map (fun i => (i.zero, i.size)) = some (some (.agg (nums .u32 (List.replicate 64 0)).toArray), 64) := by kernel_rfl
theorem i66 : (Try.prog.info? 66).map (fun i => (i.zero, i.size)) = some (some (.agg (nums .u32 (List.replicate 8 0)).toArray), 8) := by kernel_rfl
/-- What the loops over the schedule keep. -/
structure SI (w : World) (g g2 : Nat) (ws : List Int) (W : World) : Prop where
  row : W.heap[g]? = some (.cells (nums .u32 (pad64 ws)).toArray 68 (0, 0))
  res : W.heap[g2]? = some (.cells (nums .u32 (List.replicate 64 0)).toArray 68 (0, 0))
  below : Below w.heap.size w W
theorem SI.set {w W : World} {g g2 : Nat} {ws : List Int} (h : SI w g g2 ws W) (hn : ws.length < 64) (hg : g2 ≠ g) (hw : w.heap.size ≤ g) (x : Int) : SI w g g2 (ws ++ [x]) (W.setCell ⟨g, ws.length, none⟩ (.int .u32 x)) := by
  refine ⟨?_, blk_far h.res hg _, below_set h.below hw⟩
  have := blk_set h.row ws.length (.int .u32 x)
  rw [← pad64_set ws x hn]
  rwa [show (nums .u32 (pad64 ws)).toArray.setIfInBounds ws.length (.int .u32 x) = (nums .u32 ((pad64 ws).set ws.length x)).toArray by simp [nums, List.map_set]] at this
theorem SI.drewN {w W : World} {g g2 : Nat} {ws : List Int} (h : SI w g g2 ws W) (n : Nat) : SI w g g2 ws (W.drewN n) := ⟨h.row, h.res, pw_below_drewN h.below n⟩
theorem SI.cell {w W : World} {g g2 : Nat} {ws : List Int} (h : SI w g g2 ws W) (i : Int) (h0 : 0 ≤ i) (hi : i < ws.length) : W.cell? ⟨g, i.toNat, none⟩ = some (.int .u32 (rd ws i)) := by
  rw [blk_cell h.row]
  simp only [nums, List.getElem?_toArray, List.getElem?_map, pad64_get ws i.toNat (by omega)]
  rfl
theorem SI.there {w W : World} {g g2 : Nat} {ws : List Int} (h : SI w g g2 ws W) (hl : ws.length ≤ 64) (i : Nat) (hi : i < 64) : ∃ v, W.cell? ⟨g, i, none⟩ = some (.int .u32 v) := by
  rw [blk_cell h.row]
  simp only [nums, List.getElem?_toArray, List.getElem?_map]
  rw [List.getElem?_eq_getElem (by rw [pad64_len ws hl]; exact hi)]
  exact ⟨_, rfl⟩

set_option maxRecDepth 100000 in
set_option maxHeartbeats 4000000 in
theorem sched_calls (A0 : Option Addr) (c0 : Nat) (l0 : List Int) (w : World) (hr0 : Kd.C (Kd.int .u8) w A0 l0.length l0) (hc0 : l0.length ≤ c0) (hw : ∀ t : Nat, t < 16 → octets_Word.f 6 l0 (4 * (t : Int)) = some (wordA l0 (4 * (t : Int)))) (r : List Int) (hr : wsA l0 64 = r) :
    Calls Try.prog 67 #[.slice A0 l0.length c0] w fun e w' => e = .returned (.agg (nums .u32 r).toArray) ∧ Below w.heap.size w w' := by
  subst hr
  go_enter Try.func67, Try.ntmps67
  go_wp2
  have hI0 : SI w (w.heap.size + 1) w.heap.size (wsA l0 0) ((w.alloc (.cells (nums .u32 (List.replicate 64 0)).toArray 68)).alloc (.cells (nums .u32 (List.replicate 64 0)).toArray 68)) := by
    refine ⟨?_, blk_alloc (blk_new _ _) _, below_alloc (below_alloc (Below.refl _ _) _) _⟩
    have := blk_new (w.alloc (.cells (nums .u32 (List.replicate 64 0)).toArray 68)) (.cells (nums .u32 (List.replicate 64 0)).toArray 68)
    rwa [World.size_alloc] at this
  go_loopg [10] 17 (fun kq v10 w' => ∃ t : Nat, v10 = .int .i64 (t : Int) ∧ Hid (kq + t = 17) ∧ Hid (t ≤ 16) ∧ Hid (SI w (w.heap.size + 1) w.heap.size (wsA l0 t) w'))
  case atStart => exact ⟨0, rfl, Lib.hid rfl, Lib.hid (by omega), Lib.hid hI0⟩
  case round =>
    clear hI0
    obtain ⟨t, rfl, hk, ht, hI⟩ := hrel
    have hsz : w.heap.size ≤ w.heap.size + 1 := by omega
    by_cases c : t < 16
    · have c1 : decide ((t : Int) < 16) = true := decide_eq_true (by omega)
      obtain ⟨v, c2⟩ := hI.out.there (by rw [wsA_len]; omega) t (by omega)
      have f2 := blk_frozen hI.out.row t
      have e1 : wrap64 (4 * (t : Int)) = 4 * (t : Int) := by unfold wrap64; omega
      have e2 : wrap64 ((t : Int) + 1) = ((t + 1 : Nat) : Int) := by unfold wrap64; omega
      have b1 : (0 : Int) ≤ t := by omega
      have b2 : (t : Int) < 64 := by omega
      go_wp2_with (go_at_call 19; go_must (refine (octets_Word.calls 6 A0 c0 l0 _ _ _ (Kd.C_below hr0 hI.out.below) hc0 (hw t c)).mono ?_; rintro e w' ⟨rfl, ⟨n, rfl⟩⟩))
      obtain ⟨k1, rfl⟩ : ∃ k1, gk = k1 + 1 := ⟨gk - 1, by have := hk.out; omega⟩
      have hn := (hI.out.drewN n).set (by rw [wsA_len]; omega) (by omega) hsz (wordA l0 (4 * (t : Int)))
      rw [wsA_len, show wsA l0 t ++ [wordA l0 (4 * (t : Int))] = wsA l0 (t + 1) by rw [wsA, if_pos c]] at hn
      go_roundg k1
      case measure => omega
      case rel => exact ⟨t + 1, congrArg (Value.int .i64) (by omega), Lib.hid (by have := hk.out; omega), Lib.hid (by omega), Lib.hid hn⟩
    · have hS : SI w (w.heap.size + 1) w.heap.size (wsA l0 16) wr := by
        have : t = 16 := by have := ht.out; omega
        rw [← this]; exact hI.out
      have c1 : decide ((t : Int) < 16) = false := decide_eq_false (by omega)
      clear hI hk ht
      go_wp2
      go_loopg [5] 49 (fun kq v5 w' => ∃ t : Nat, v5 = .int .i64 (t : Int) ∧ Hid (kq + t = 65) ∧ Hid (16 ≤ t ∧ t ≤ 64) ∧ Hid (SI w (w.heap.size + 1) w.heap.size (wsA l0 t) w'))
      case atStart => exact ⟨16, rfl, Lib.hid (by omega), Lib.hid (by omega), Lib.hid hS⟩
      case round =>
        clear hS c1 c
        obtain ⟨t, rfl, hk, ht, hI⟩ := hrel
        by_cases c : t < 64
        · have c1 : decide ((t : Int) < 64) = true := decide_eq_true (by omega)
          have hl := wsA_len l0 t
          have h16 := ht.out.1
          obtain ⟨v, c2⟩ := hI.out.there (by rw [wsA_len]; omega) t (by omega)
          have f2 := blk_frozen hI.out.row t
          have e1 : wrap64 ((t : Int) + 1) = ((t : Int) + 1) := by unfold wrap64; omega
          have e1' : IntKind.i64.wrap ((t : Int) + 1) = ((t : Int) + 1) := by rw [IntKind.wrap_i64]; omega
          obtain ⟨j15, hj15⟩ : ∃ j : Int, j = (t : Int) - 15 := ⟨_, rfl⟩
          have e15 : wrap64 ((t : Int) - 15) = j15 := by unfold wrap64; omega
          have g15 : IntKind.i64.wrap ((t : Int) - 15) = j15 := by rw [IntKind.wrap_i64]; omega
          have d15 := hI.out.cell j15 (by omega) (by omega)
          have p15 : (0 ≤ j15) = True := eq_true (by omega)
          have q15 : (j15 < 64) = True := eq_true (by omega)
          have J15 := Lib.hid hj15
          clear hj15
          obtain ⟨j2, hj2⟩ : ∃ j : Int, j = (t : Int) - 2 := ⟨_, rfl⟩
          have e2 : wrap64 ((t : Int) - 2) = j2 := by unfold wrap64; omega
          have g2 : IntKind.i64.wrap ((t : Int) - 2) = j2 := by rw [IntKind.wrap_i64]; omega
          have d2 := hI.out.cell j2 (by omega) (by omega)
          have p2 : (0 ≤ j2) = True := eq_true (by omega)
          have q2 : (j2 < 64) = True := eq_true (by omega)
          have J2 := Lib.hid hj2
          clear hj2
          obtain ⟨j7, hj7⟩ : ∃ j : Int, j = (t : Int) - 7 := ⟨_, rfl⟩
          have e7 : wrap64 ((t : Int) - 7) = j7 := by unfold wrap64; omega
          have g7 : IntKind.i64.wrap ((t : Int) - 7) = j7 := by rw [IntKind.wrap_i64]; omega
          have d7 := hI.out.cell j7 (by omega) (by omega)
          have p7 : (0 ≤ j7) = True := eq_true (by omega)
          have q7 : (j7 < 64) = True := eq_true (by omega)
          have J7 := Lib.hid hj7
          clear hj7
          obtain ⟨j16, hj16⟩ : ∃ j : Int, j = (t : Int) - 16 := ⟨_, rfl⟩
          have e16 : wrap64 ((t : Int) - 16) = j16 := by unfold wrap64; omega
          have g16 : IntKind.i64.wrap ((t : Int) - 16) = j16 := by rw [IntKind.wrap_i64]; omega
          have d16 := hI.out.cell j16 (by omega) (by omega)
          have p16 : (0 ≤ j16) = True := eq_true (by omega)
          have q16 : (j16 < 64) = True := eq_true (by omega)
          have J16 := Lib.hid hj16
          clear hj16
          go_wp2
          go_quiet (fail)
          go_wp2_with (go_at_call 68; go_must ((first | (with_reducible refine (sha_right.calls _ 7 _ _ (right7 _)).mono ?_) | (with_reducible refine (sha_right.calls _ 18 _ _ (right18 _)).mono ?_) | (with_reducible refine (sha_right.calls _ 17 _ _ (right17 _)).mono ?_) | (with_reducible refine (sha_right.calls _ 19 _ _ (right19 _)).mono ?_)); rintro e w' ⟨rfl, ⟨n, rfl⟩⟩))
          refine gen_world (w0 := wr) ⟨⟨_, rfl⟩⟩ (fun W1 hD => ?_)
          obtain ⟨m, rfl⟩ := hD.out
          clear hD
          go_region
          all_goals go_wp2
          obtain ⟨k1, rfl⟩ : ∃ k1, gk = k1 + 1 := ⟨gk - 1, by have := hk.out; omega⟩
          have hn := (hI.out.drewN (m + 1)).set (by rw [wsA_len]; omega) (by omega) hsz (nextW (wsA l0 t) (t : Int))
          rw [wsA_len, show wsA l0 t ++ [nextW (wsA l0 t) (t : Int)] = wsA l0 (t + 1) by rw [wsA, if_neg (by omega)]] at hn
          have hj15 := J15.out
          have hj2 := J2.out
          have hj7 := J7.out
          have hj16 := J16.out
          subst hj15 hj2 hj7 hj16
          go_roundg k1
          case measure => omega
          case rel => exact ⟨t + 1, congrArg (Value.int .i64) (by omega), Lib.hid (by have := hk.out; omega), Lib.hid (by omega), Lib.hid hn⟩
        · have hS : SI w (w.heap.size + 1) w.heap.size (wsA l0 64) wr := by
            have : t = 64 := by have := ht.out.2; omega
            rw [← this]; exact hI.out
          have c1 : decide ((t : Int) < 64) = false := decide_eq_false (by omega)
          clear hI hk ht
          have hrow := hS.row
          rw [pad64_all _ (wsA_len l0 64)] at hrow
          have hs : (nums .u32 (wsA l0 64)).toArray.size = 64 := by simp [nums, wsA_len]
          have HS := Lib.hid hs
          clear hs
          go_wp2_with (first | ((with_reducible refine gate_dst (N := 63) rfl ?_); go_must (refine load_ev rfl rfl 68 (.tmp 3) rfl (w.heap.size + 1) _ _ rfl hrow Try.underlying68 rfl (by rw [HS.out]; kernel_rfl) ?_)) | ((with_reducible refine gate_store (t := 68) rfl ?_); go_must (refine store_ev rfl rfl 68 (.tmp 2) (.tmp 63) rfl w.heap.size _ _ rfl rfl hS.res (by rw [HS.out]; rfl) (by rw [HS.out]; kernel_rfl) (nums_one _ _) ?_; intro w1 hst)))
          refine bodyPost_ret (v := .agg (nums .u32 (wsA l0 64)).toArray) ?_ rfl ⟨rfl, hst.below _ hS.below (Nat.le_refl _)⟩
          exact results_cell_row rfl _ _ w.heap.size 68 _ (0, 0) _ rfl hst.at_ Try.underlying68 rfl (by rw [HS.out]; kernel_rfl)
end Go.Proofs.Ytclmikbbjhdplaa.X
/- sha.constants and the block function of sha. -/
namespace Go.Proofs.Ytclmikbbjhdplaa.X
open Go.RowKit Go.Proofs.YtclmikbbjhdplaaW.PrintWords Go.Proofs.YtclmikbbjhdplaaW.PrintLast Go.Proofs.YtclmikbbjhdplaaW.PrintMore
set_option linter.unusedVariables false
set_option linter.unusedSimpArgs false

set_option maxRecDepth 100000 in
set_option maxHeartbeats 4000000 in
theorem constants_calls (w : World) :
    Calls Try.prog 56 #[] w fun e w' => e = .returned (.agg (nums .u32 K0).toArray) ∧ Below w.heap.size w w' := by
  go_enter Try.func56, Try.ntmps56
  go_wp2_with (first | ((with_reducible refine gate_dst (N := 1) rfl ?_); go_must (refine build_ev rfl rfl 68 _ rfl (nums .u32 K0).toArray (by kernel_rfl) ?_)) | ((with_reducible refine gate_store (t := 68) rfl ?_); go_must (refine store_ev rfl rfl 68 (.tmp 0) (.tmp 1) rfl w.heap.size _ _ rfl rfl (blk_new _ _) rfl (by kernel_rfl) (nums_one _ _) ?_; intro w1 hst)))
  refine bodyPost_ret (v := .agg (nums .u32 K0).toArray) ?_ rfl ⟨rfl, hst.below _ (below_alloc (Below.refl _ _) _) (Nat.le_refl _)⟩
  exact results_cell_row rfl _ _ w.heap.size 68 _ (0, 0) _ rfl hst.at_ Try.underlying68 rfl (by kernel_rfl)

theorem size_round (v : List Int) (k w : Int) : (nums .u32 (roundA v k w)).toArray.size = 8 := by simp [nums, roundA]
theorem info66_of {n : Nat} (h : n = 8) : (Try.prog.info? 66).map (·.size) = some n := by rw [h]; kernel_rfl
theorem wrap_succ (t : Nat) (h : t < 1000) : wrap64 ((t : Int) + 1) = ((t + 1 : Nat) : Int) := by unfold wrap64; omega
/-- What the block function keeps. -/
structure BI (w : World) (g3 g6 g7 g8 ga : Nat) (s ws ks v : List Int) (W : World) : Prop where
  b3 : W.heap[g3]? = some (.cells (nums .u32 s).toArray 66 (0, 0))
  b6 : W.heap[g6]? = some (.cells (nums .u32 (List.replicate 8 0)).toArray 66 (0, 0))
  b7 : W.heap[g7]? = some (.cells (nums .u32 ws).toArray 68 (0, 0))
  b8 : W.heap[g8]? = some (.cells (nums .u32 v).toArray 66 (0, 0))
  bk : W.heap[ga]? = some (.cells (nums .u32 ks).toArray 68 (0, 0))
  below : Below w.heap.size w W
theorem BI.drewN {w W : World} {g3 g6 g7 g8 ga : Nat} {s ws ks v : List Int} (h : BI w g3 g6 g7 g8 ga s ws ks v W) (n : Nat) : BI w g3 g6 g7 g8 ga s ws ks v (W.drewN n) := ⟨h.b3, h.b6, h.b7, h.b8, h.bk, pw_below_drewN h.below n⟩
theorem BI.set {w W : World} {g3 g6 g7 g8 ga : Nat} {s ws ks v : List Int} (h : BI w g3 g6 g7 g8 ga s ws ks v W) (i : Nat) (x : Int) (h3 : g3 ≠ g8) (h6 : g6 ≠ g8) (h7 : g7 ≠ g8) (hk : ga ≠ g8) (hg : w.heap.size ≤ g8) : BI w g3 g6 g7 g8 ga s ws ks (v.set i x) (W.setCell ⟨g8, i, none⟩ (.int .u32 x)) := by
  refine ⟨blk_far h.b3 h3 _, blk_far h.b6 h6 _, blk_far h.b7 h7 _, ?_, blk_far h.bk hk _, below_set h.below hg⟩
  have := blk_set h.b8 i (.int .u32 x)
  rwa [show (nums .u32 v).toArray.setIfInBounds i (.int .u32 x) = (nums .u32 (v.set i x)).toArray by simp [nums, List.map_set]] at this
theorem BI.store {w W W1 : World} {g3 g6 g7 g8 ga : Nat} {s ws ks v v' : List Int} (h : BI w g3 g6 g7 g8 ga s ws ks v W) (hst : Stored g8 66 (nums .u32 v').toArray W W1) (h3 : g3 ≠ g8) (h6 : g6 ≠ g8) (h7 : g7 ≠ g8) (hk : ga ≠ g8) (hg : w.heap.size ≤ g8) : BI w g3 g6 g7 g8 ga s ws ks v' W1 :=
  ⟨(hst.far _ h3).trans h.b3, (hst.far _ h6).trans h.b6, (hst.far _ h7).trans h.b7, hst.at_, (hst.far _ hk).trans h.bk, hst.below _ h.below hg⟩
theorem cell_nums {W : World} {g : Nat} {t : TypeId} {k : IntKind} {xs : List Int} (h : W.heap[g]? = some (.cells (nums k xs).toArray t (0, 0))) (i : Nat) (hi : i < xs.length) : W.cell? ⟨g, i, none⟩ = some (.int k (rd xs i)) := by
  rw [blk_cell h]
  simp [nums, rd, List.getD, List.getElem?_eq_getElem hi]

/-- What lies there ahead of the loops. -/
structure BP (w : World) (ga : Nat) (s ks : List Int) (W : World) : Prop where
  b3 : W.heap[w.heap.size]? = some (.cells (nums .u32 s).toArray 66 (0, 0))
  b6 : W.heap[w.heap.size + 1]? = some (.cells (nums .u32 (List.replicate 8 0)).toArray 66 (0, 0))
  bk : W.heap[ga]? = some (.cells (nums .u32 ks).toArray 68 (0, 0))
  below : Below w.heap.size w W
  size : w.heap.size + 2 ≤ W.heap.size
theorem BP.step {w W W1 : World} {ga : Nat} {s ks : List Int} (h : BP w ga s ks W) (hk : ga < w.heap.size) (hb : Below W.heap.size W W1) : BP w ga s ks W1 :=
  ⟨(hb.block _ (by have := h.size; omega)).trans h.b3, (hb.block _ (by have := h.size; omega)).trans h.b6, (hb.block _ (by have := h.size; omega)).trans h.bk, below_step h.below hb, Nat.le_trans h.size hb.size⟩
theorem BP.stored {w W W1 : World} {ga g : Nat} {s ks : List Int} {t : TypeId} {cs : Array Value} (h : BP w ga s ks W) (hk : ga < w.heap.size) (hst : Stored g t cs W W1) (hg : w.heap.size + 2 ≤ g) : BP w ga s ks W1 :=
  ⟨(hst.far _ (by omega)).trans h.b3, (hst.far _ (by omega)).trans h.b6, (hst.far _ (by omega)).trans h.bk, hst.below _ h.below (by omega), by rw [hst.size]; exact h.size⟩
set_option maxRecDepth 100000 in
set_option maxHeartbeats 4000000 in
theorem block_calls (A0 : Option Addr) (c0 : Nat) (l0 : List Int) (s ks : List Int) (ga : Nat) (w : World) (hs : s.length = 8) (hks : ks.length = 64) (hr0 : Kd.C (Kd.int .u8) w A0 l0.length l0) (hc0 : l0.length ≤ c0) (hw : ∀ t : Nat, t < 16 → octets_Word.f 6 l0 (4 * (t : Int)) = some (wordA l0 (4 * (t : Int))))
    (hk : w.heap[ga]? = some (.cells (nums .u32 ks).toArray 68 (0, 0))) (r : List Int) (hr : blockA s ks l0 = r) :
    Calls Try.prog 57 #[.agg (nums .u32 s).toArray, .slice A0 l0.length c0, .pointer (some ⟨ga, 0, none⟩)] w fun e w' => e = .returned (.agg (nums .u32 r).toArray) ∧ Below w.heap.size w w' := by
  have HR := Lib.hid hr
  clear hr
  obtain ⟨ws, hws⟩ : ∃ ws, wsA l0 64 = ws := ⟨_, rfl⟩
  have hwl : ws.length = 64 := by rw [← hws]; exact wsA_len l0 64
  have HWS := Lib.hid hws
  have hsched := sched_calls A0 c0 l0 ((w.alloc (.cells (nums .u32 s).toArray 66)).alloc (.cells (nums .u32 (List.replicate 8 0)).toArray 66)) (Kd.C_alloc (Kd.C_alloc hr0 _) _) hc0 hw ws hws
  clear hws
  have hs3 : (nums .u32 s).toArray.size = 8 := by simp [nums, hs]
  have hs7 : (nums .u32 ws).toArray.size = 64 := by simp [nums, hwl]
  have B3 : ((w.alloc (.cells (nums .u32 s).toArray 66)).alloc (.cells (nums .u32 (List.replicate 8 0)).toArray 66)).heap[w.heap.size]? = some (.cells (nums .u32 s).toArray 66 (0, 0)) := blk_alloc (blk_new _ _) _
  have B6 : ((w.alloc (.cells (nums .u32 s).toArray 66)).alloc (.cells (nums .u32 (List.replicate 8 0)).toArray 66)).heap[w.heap.size + 1]? = some (.cells (nums .u32 (List.replicate 8 0)).toArray 66 (0, 0)) := by
    have := blk_new (w.alloc (.cells (nums .u32 s).toArray 66)) (.cells (nums .u32 (List.replicate 8 0)).toArray 66)
    rwa [World.size_alloc] at this
  have S2 : ((w.alloc (.cells (nums .u32 s).toArray 66)).alloc (.cells (nums .u32 (List.replicate 8 0)).toArray 66)).heap.size = w.heap.size + 2 := by simp
  have hgk := blk_lt hk
  have Hs3 := Lib.hid hs3
  have Hs7 := Lib.hid hs7
  clear hs3 hs7
  go_enter Try.func57, Try.ntmps57
  have Bk : ((w.alloc (.cells (nums .u32 s).toArray 66)).alloc (.cells (nums .u32 (List.replicate 8 0)).toArray 66)).heap[ga]? = some (.cells (nums .u32 ks).toArray 68 (0, 0)) := blk_alloc (blk_alloc hk _) _
  have BB : Below w.heap.size w ((w.alloc (.cells (nums .u32 s).toArray 66)).alloc (.cells (nums .u32 (List.replicate 8 0)).toArray 66)) := below_alloc (below_alloc (Below.refl _ _) _) _
  have hP : BP w ga s ks ((w.alloc (.cells (nums .u32 s).toArray 66)).alloc (.cells (nums .u32 (List.replicate 8 0)).toArray 66)) := ⟨B3, B6, Bk, BB, by rw [S2]; exact Nat.le_refl _⟩
  clear B3 B6 Bk BB S2
  go_wp2_with (first | (go_at_call 67; go_must (refine hsched.mono ?_; rintro e w1 ⟨rfl, hb1⟩; have P1 := hP.step hgk hb1; clear hsched hb1 hP)) | ((with_reducible refine gate_dst (N := 7) rfl ?_); go_must (refine box_event rfl (N := 7) rfl (run_alloc _ 68 _ 64 i68 _ _ rfl _) ?_; intro g7 hg7 w2 b7 hb; have P2 := P1.step hgk hb; have G7 := hg7 ▸ P1.size; clear hb P1 hg7)) | ((with_reducible refine gate_store (t := 68) rfl ?_); go_must (refine store_ev rfl rfl 68 (.tmp 7) (.tmp 18) rfl g7 _ _ rfl rfl b7 (by rw [Hs7.out]; rfl) (by rw [Hs7.out]; kernel_rfl) (nums_one _ _) ?_; intro w3 hst; have P3 := P2.stored hgk hst G7; have D7 := hst.at_; clear hst P2 b7)) | ((with_reducible refine gate_dst (N := 19) rfl ?_); go_must (refine load_ev rfl rfl 66 (.tmp 3) rfl w.heap.size _ _ rfl P3.b3 Try.underlying66 rfl (by rw [Hs3.out]; kernel_rfl) ?_)) | ((with_reducible refine gate_dst (N := 8) rfl ?_); go_must (refine box_event rfl (N := 8) rfl (run_alloc _ 66 _ 8 i66 _ _ rfl _) ?_; intro g8 hg8 w4 b8 hb; have P4 := P3.step hgk hb; have G8 := hg8 ▸ P3.size; have E7 := (hb.block _ (blk_lt D7)).trans D7; have G78 : g7 < g8 := hg8 ▸ blk_lt D7; clear hb P3 hg8 D7)) | ((with_reducible refine gate_store (t := 66) rfl ?_); go_must (refine store_ev rfl rfl 66 (.tmp 8) (.tmp 19) rfl g8 _ _ rfl rfl b8 (by rw [Hs3.out]; rfl) (by rw [Hs3.out]; kernel_rfl) (nums_one _ _) ?_; intro w5 hst; have P5 := P4.stored hgk hst G8; have D8 := hst.at_; have D7 := (hst.far _ (Nat.ne_of_lt G78)).trans E7; clear hst P4 b8 E7)))
  have hI0 : BI w w.heap.size (w.heap.size + 1) g7 g8 ga s ws ks (roundsA s ks ws 0) w5 := ⟨P5.b3, P5.b6, D7, D8, P5.bk, P5.below⟩
  have N3 : Hid (w.heap.size ≠ g8) := (by omega : w.heap.size ≠ g8)
  have N6 : Hid (w.heap.size + 1 ≠ g8) := (by omega : w.heap.size + 1 ≠ g8)
  have N7 : Hid (g7 ≠ g8) := (by omega : g7 ≠ g8)
  have Nk : Hid (ga ≠ g8) := (by omega : ga ≠ g8)
  have N8 : Hid (w.heap.size ≤ g8) := (by omega : w.heap.size ≤ g8)
  clear P5 D7 D8
  go_loopg [20] 65 (fun kq v20 w' => ∃ t : Nat, v20 = .int .i64 (t : Int) ∧ Hid (kq + t = 65) ∧ Hid (t ≤ 64) ∧ Hid (BI w w.heap.size (w.heap.size + 1) g7 g8 ga s ws ks (roundsA s ks ws t) w'))
  case atStart => exact ⟨0, rfl, Lib.hid rfl, Lib.hid (by omega), Lib.hid hI0⟩
  case round =>
    clear hI0
    obtain ⟨t, rfl, hk, ht, hI⟩ := hrel
    by_cases c : t < 64
    · have c1 : decide ((t : Int) < 64) = true := decide_eq_true (by omega)
      have b1 : 0 ≤ (t : Int) := Int.natCast_nonneg t
      have b2 : (t : Int) < 64 := Int.ofNat_lt.mpr c
      have hlen : (roundsA s ks ws t).length = 8 := roundsA_len hs t
      obtain ⟨v, hv⟩ : ∃ v, roundsA s ks ws t = v := ⟨_, rfl⟩
      rw [hv] at hI hlen
      have HV := Lib.hid hv
      have d0 := cell_nums hI.out.b8 0 (by rw [hlen]; decide)
      have d1 := cell_nums hI.out.b8 1 (by rw [hlen]; decide)
      have d2 := cell_nums hI.out.b8 2 (by rw [hlen]; decide)
      have d3 := cell_nums hI.out.b8 3 (by rw [hlen]; decide)
      have d4 := cell_nums hI.out.b8 4 (by rw [hlen]; decide)
      have d5 := cell_nums hI.out.b8 5 (by rw [hlen]; decide)
      have d6 := cell_nums hI.out.b8 6 (by rw [hlen]; decide)
      have d7 := cell_nums hI.out.b8 7 (by rw [hlen]; decide)
      have dk := cell_nums hI.out.bk t (by rw [hks]; exact c)
      have dw := cell_nums hI.out.b7 t (by rw [hwl]; exact c)
      have hsz : Hid ((nums .u32 v).toArray.size = (nums .u32 (roundA v (rd ks t) (rd ws t))).toArray.size) := Lib.hid (by rw [size_round]; simp [nums, hlen])
      have hnot : (if IntKind.u32.signed = true then (-1 : Int) else IntKind.u32.max) = 4294967295 := by decide +kernel
      clear hv
      go_upto_block 1 with fail
      go_cut [] (fun wx => Hid (BI w w.heap.size (w.heap.size + 1) g7 g8 ga s ws ks (roundA v (rd ks (t : Int)) (rd ws (t : Int))) wx))
      case first =>
        go_wp2
        go_quiet (fail)
        go_wp2_with (go_at_call 68; go_must ((first | (with_reducible refine (sha_right.calls _ 6 _ _ (right6 _)).mono ?_) | (with_reducible refine (sha_right.calls _ 11 _ _ (right11 _)).mono ?_) | (with_reducible refine (sha_right.calls _ 25 _ _ (right25 _)).mono ?_)); rintro e w' ⟨rfl, ⟨n, rfl⟩⟩))
        generalize hS1 : Go.bits .xor .u32 (Go.bits .xor .u32 (rotA (rd v 4) 6) (rotA (rd v 4) 11)) (rotA (rd v 4) 25) = S1
        refine gen_world (w0 := wr) ⟨⟨_, rfl⟩⟩ (fun W1 hD => ?_)
        obtain ⟨m1, rfl⟩ := hD.out
        clear hD
        go_quiet (fail)
        generalize hT1 : ((rd v 7 + S1 + Go.bits .xor .u32 (Go.bits .and .u32 (rd v 4) (rd v 5)) (Go.bits .and .u32 (Go.bits .xor .u32 (4294967295) (rd v 4)) (rd v 6)) + rd ks (t : Int)) % 4294967296 + rd ws (t : Int)) % 4294967296 = T1
        have hcells : (nums .u32 (roundA v (rd ks (t : Int)) (rd ws (t : Int)))).toArray = #[.int .u32 ((T1 + (Go.bits .xor .u32 (Go.bits .xor .u32 (rotA (rd v 0) 2) (rotA (rd v 0) 13)) (rotA (rd v 0) 22) + Go.bits .xor .u32 (Go.bits .xor .u32 (Go.bits .and .u32 (rd v 0) (rd v 1)) (Go.bits .and .u32 (rd v 0) (rd v 2))) (Go.bits .and .u32 (rd v 1) (rd v 2)))) % 4294967296), .int .u32 (rd v 0), .int .u32 (rd v 1), .int .u32 (rd v 2), .int .u32 ((rd v 3 + T1) % 4294967296), .int .u32 (rd v 4), .int .u32 (rd v 5), .int .u32 (rd v 6)] := by
          simp only [nums, roundA, List.map_cons, List.map_nil, t1f, S1f, hS1, hT1, S0f, t2f]
        have HC := Lib.hid hcells
        clear hcells hS1 hT1
        go_wp2_with (first | (go_at_call 68; go_must ((first | (with_reducible refine (sha_right.calls _ 2 _ _ (right2 _)).mono ?_) | (with_reducible refine (sha_right.calls _ 13 _ _ (right13 _)).mono ?_) | (with_reducible refine (sha_right.calls _ 22 _ _ (right22 _)).mono ?_)); rintro e w' ⟨rfl, ⟨n, rfl⟩⟩)) | ((with_reducible refine gate_store (t := 66) rfl ?_); go_must (refine store_ev rfl rfl 66 (.tmp 8) (.tmp 104) rfl g8 _ (nums .u32 (roundA v (rd ks t) (rd ws t))).toArray rfl (by rw [HC.out]; rfl) (BI.drewN hI.out _).b8 hsz.out (info66_of (size_round _ _ _)) (nums_one _ _) ?_; intro w6 hst; have HN := (BI.drewN hI.out _).store hst N3.out N6.out N7.out Nk.out N8.out; clear hst d0 d1 d2 d3 d4 d5 d6 d7 dk dw hI HC)))
        go_meet
        exact HN
      case rest =>
        clear d0 d1 d2 d3 d4 d5 d6 d7 dk dw hsz hnot hI
        obtain ⟨k1, rfl⟩ : ∃ k1, gk = k1 + 1 := ⟨gk - 1, by have := hk.out; omega⟩
        have hn : BI w w.heap.size (w.heap.size + 1) g7 g8 ga s ws ks (roundsA s ks ws (t + 1)) wc := by
          rw [show roundsA s ks ws (t + 1) = roundA (roundsA s ks ws t) (rd ks (t : Int)) (rd ws (t : Int)) by rw [roundsA], HV.out]
          exact hcut.out
        go_wp2
        go_roundg k1
        case measure => omega
        case rel => exact ⟨t + 1, (by first | exact congrArg (Value.int .i64) (wrap_succ t (Nat.lt_of_lt_of_le c (by decide))) | exact congrArg (Value.int .i64) (Int.natCast_succ t).symm), Lib.hid (by have := hk.out; omega), Lib.hid (by omega), Lib.hid hn⟩
    · have hv : ∃ v, roundsA s ks ws 64 = v := ⟨_, rfl⟩
      obtain ⟨v, hv⟩ := hv
      have hS : BI w w.heap.size (w.heap.size + 1) g7 g8 ga s ws ks (addA v s 0) wr := by
        have : t = 64 := by have := ht.out; omega
        rw [addA, ← hv, ← this]; exact hI.out
      have hvl : v.length = 8 := by rw [← hv]; exact roundsA_len hs 64
      have HV := Lib.hid hv
      have c1 : decide ((t : Int) < 64) = false := decide_eq_false (by omega)
      clear hI hk ht hv
      go_wp2
      go_loopg [106] 9 (fun kq v106 w' => ∃ t : Nat, v106 = .int .i64 (t : Int) ∧ Hid (kq + t = 9) ∧ Hid (t ≤ 8) ∧ Hid (BI w w.heap.size (w.heap.size + 1) g7 g8 ga s ws ks (addA v s t) w'))
      case atStart => exact ⟨0, rfl, Lib.hid rfl, Lib.hid (by omega), Lib.hid hS⟩
      case round =>
        clear hS c1 c
        obtain ⟨t, rfl, hk, ht, hI⟩ := hrel
        by_cases c : t < 8
        · have c1 : decide ((t : Int) < 8) = true := decide_eq_true (by omega)
          have b1 : 0 ≤ (t : Int) := Int.natCast_nonneg t
          have b2 : (t : Int) < 8 := Int.ofNat_lt.mpr c
          have hal : (addA v s t).length = 8 := by rw [addA_len]; exact hvl
          have d8 := cell_nums hI.out.b8 t (by rw [hal]; exact c)
          have f8 := blk_frozen hI.out.b8 t
          have d3 := cell_nums hI.out.b3 t (by rw [hs]; exact c)
          have hne : Hid (w.heap.size ≠ g8) := N3
          go_wp2
          go_region
          all_goals go_wp2
          obtain ⟨k1, rfl⟩ : ∃ k1, gk = k1 + 1 := ⟨gk - 1, by have := hk.out; omega⟩
          have hn := (hI.out.set t ((rd (addA v s t) (t : Int) + rd s (t : Int)) % 4294967296) N3.out N6.out N7.out Nk.out N8.out).drewN 1
          rw [show (addA v s t).set t ((rd (addA v s t) (t : Int) + rd s (t : Int)) % 4294967296) = addA v s (t + 1) by rw [addA]] at hn
          go_roundg k1
          case measure => omega
          case rel => exact ⟨t + 1, (by first | exact congrArg (Value.int .i64) (wrap_succ t (Nat.lt_of_lt_of_le c (by decide))) | exact congrArg (Value.int .i64) (Int.natCast_succ t).symm), Lib.hid (by have := hk.out; omega), Lib.hid (by omega), Lib.hid hn⟩
        · have hS : BI w w.heap.size (w.heap.size + 1) g7 g8 ga s ws ks (addA v s 8) wr := by
            have : t = 8 := by have := ht.out; omega
            rw [← this]; exact hI.out
          have c1 : decide ((t : Int) < 8) = false := decide_eq_false (by omega)
          have hr : addA v s 8 = r := by rw [← HR.out, blockA, HWS.out, HV.out]
          rw [hr] at hS
          have hrl : (nums .u32 r).toArray.size = 8 := by rw [← hr]; simp [nums, addA_len, hvl]
          have HRL := Lib.hid hrl
          clear hI hk ht hrl hr
          go_wp2_with (first | ((with_reducible refine gate_dst (N := 118) rfl ?_); go_must (refine load_ev rfl rfl 66 (.tmp 8) rfl g8 _ _ rfl hS.b8 Try.underlying66 rfl (info66_of HRL.out) ?_)) | ((with_reducible refine gate_store (t := 66) rfl ?_); go_must (refine store_ev rfl rfl 66 (.tmp 6) (.tmp 118) rfl (w.heap.size + 1) _ _ rfl rfl hS.b6 (by rw [HRL.out]; rfl) (info66_of HRL.out) (nums_one _ _) ?_; intro w9 hst)))
          refine bodyPost_ret (v := .agg (nums .u32 r).toArray) ?_ rfl ⟨rfl, hst.below _ hS.below (Nat.le_succ _)⟩
          exact results_cell_row rfl _ _ (w.heap.size + 1) 66 _ (0, 0) _ rfl hst.at_ Try.underlying66 rfl (info66_of HRL.out)
end Go.Proofs.Ytclmikbbjhdplaa.X
-- Written by a program of this session (a turn of the kit's print with contracts by hand). Not trusted: Lean checks it.
namespace Go.Proofs.Ytclmikbbjhdplaa.X
open Go.RowKit Go.Proofs.YtclmikbbjhdplaaW.PrintWords Go.Proofs.YtclmikbbjhdplaaW.PrintLast Go.Proofs.YtclmikbbjhdplaaW.PrintMore
attribute [local go_sem] max2_int min2_int max_two min_two max_three min_three max_four min_four   -- for this text's walks alone
set_option linter.unusedVariables false
set_option linter.unusedSimpArgs false

/-! ### slices_Concat_byte_byte: function 50 -/
mutual
def slices_Concat_byte_byte.l0 : Nat → List (List Int) → Int → List (List Int) → Int → Int → Option (List Int)
  | 0, _, _, _, _, _ => none
  | k + 1, x0, x3, x9, x10, x11 => if x11 < x10 then (if 0 ≤ x11 then (if x11 < (x9.length : Int) then (if (wrap64 (x3 + ((rd_L2 x9 x11).length : Int))) < 0 then (none) else (slices_Concat_byte_byte.l0 k x0 (wrap64 (x3 + ((rd_L2 x9 x11).length : Int))) x9 x10 (wrap64 (x11 + 1)))) else (none)) else (none)) else (if 0 ≤ x3 then (if (x3 : Int).toNat ≤ 140737488355328 then (slices_Concat_byte_byte.l1 k ((List.replicate 0 0)) x0 (x0.length : Int) 0) else (none)) else (none))
def slices_Concat_byte_byte.l1 : Nat → List Int → List (List Int) → Int → Int → Option (List Int)
  | 0, _, _, _, _ => none
  | k + 1, x6, x25, x26, x27 => if x27 < x26 then (if 0 ≤ x27 then (if x27 < (x25.length : Int) then (if x6.length + (rd_L2 x25 x27).length < 140737488355328 then (slices_Concat_byte_byte.l1 k (x6 ++ (rd_L2 x25 x27)) x25 x26 (wrap64 (x27 + 1))) else (none)) else (none)) else (none)) else (some x6)
end
def slices_Concat_byte_byte.f (k : Nat) (l0 : List (List Int)) : Option (List Int) := slices_Concat_byte_byte.l0 k l0 0 l0 (l0.length : Int) 0
theorem slices_Concat_byte_byte.mono_l : ∀ k, (∀ y0 y1 y2 y3 y4, LeO (slices_Concat_byte_byte.l0 k y0 y1 y2 y3 y4) (slices_Concat_byte_byte.l0 (k + 1) y0 y1 y2 y3 y4)) ∧ (∀ y0 y1 y2 y3, LeO (slices_Concat_byte_byte.l1 k y0 y1 y2 y3) (slices_Concat_byte_byte.l1 (k + 1) y0 y1 y2 y3))
  | 0 => ⟨fun _ _ _ _ _ r h => by simp [slices_Concat_byte_byte.l0] at h, fun _ _ _ _ r h => by simp [slices_Concat_byte_byte.l1] at h⟩
  | k + 1 => by
    obtain ⟨ih0, ih1⟩ := slices_Concat_byte_byte.mono_l k
    refine ⟨?_, ?_⟩
    · intro y0 y1 y2 y3 y4
      unfold slices_Concat_byte_byte.l0
      repeat' first
      | (with_reducible exact ih0 _ _ _ _ _)
      | (with_reducible exact ih1 _ _ _ _)
      | (with_reducible exact LeO.refl _)
      | (with_reducible exact LeO.none _)
      | (with_reducible refine LeO.ite ?_ ?_)
      | (with_reducible refine LeO.bind ?_ (fun _ => ?_))
      | exact ih0 _ _ _ _ _
      | exact ih1 _ _ _ _
      | exact LeO.none _
      | refine LeO.ite ?_ ?_
      | refine LeO.bind ?_ (fun _ => ?_)
    · intro y0 y1 y2 y3
      unfold slices_Concat_byte_byte.l1
      repeat' first
      | (with_reducible exact ih0 _ _ _ _ _)
      | (with_reducible exact ih1 _ _ _ _)
      | (with_reducible exact LeO.refl _)
      | (with_reducible exact LeO.none _)
      | (with_reducible refine LeO.ite ?_ ?_)
      | (with_reducible refine LeO.bind ?_ (fun _ => ?_))
      | exact ih0 _ _ _ _ _
      | exact ih1 _ _ _ _
      | exact LeO.none _
      | refine LeO.ite ?_ ?_
      | refine LeO.bind ?_ (fun _ => ?_)
theorem slices_Concat_byte_byte.mono : ∀ a0 k, LeO (slices_Concat_byte_byte.f k a0) (slices_Concat_byte_byte.f (k + 1) a0) := by
  intro a0 k
  obtain ⟨ih0, ih1⟩ := slices_Concat_byte_byte.mono_l k
  unfold slices_Concat_byte_byte.f
  repeat' first
      | (with_reducible exact ih0 _ _ _ _ _)
      | (with_reducible exact ih1 _ _ _ _)
      | (with_reducible exact LeO.refl _)
      | (with_reducible exact LeO.none _)
      | (with_reducible refine LeO.ite ?_ ?_)
      | (with_reducible refine LeO.bind ?_ (fun _ => ?_))
      | exact ih0 _ _ _ _ _
      | exact ih1 _ _ _ _
      | exact LeO.none _
      | refine LeO.ite ?_ ?_
      | refine LeO.bind ?_ (fun _ => ?_)
set_option maxHeartbeats 8000000 in
set_option maxRecDepth 100000 in
theorem slices_Concat_byte_byte.calls (k : Nat) (A0 : Option Addr) (c0 : Nat) (l0 : List (List Int)) (r : List Int) (w : World) (hr0 : Kd.C (Kd.slice 5 (Kd.int .u8)) w A0 l0.length l0) (hc0 : l0.length ≤ c0) (h : slices_Concat_byte_byte.f k l0 = some r) :
    Calls Try.prog 50 #[.slice A0 l0.length c0] w fun e w' => ∃ v0_ : Value, e = .returned (v0_) ∧ Kd.R (Kd.int .u8) 5 w' w.heap.size (fun _ => True) v0_ r ∧ Below w.heap.size w w' := by
  have HR0 := Aside0.mk hr0
  have HC0 := Aside0.mk hc0
  clear hr0 hc0
  have HB := Aside0.mk (Below.refl w.heap.size w)
  have H : (slices_Concat_byte_byte.l0 k l0 0 l0 (l0.length : Int) 0) = some r := h
  clear h
  have H' := Aside0.mk H
  clear H
  go_enter Try.func50, Try.ntmps50
  go_wp2
  go_loopg [3, 11] k (fun kq v3 v11 w' => ∃ (x3_1 : Int) (x11_1 : Int), v3 = .int .i64 x3_1 ∧ v11 = .int .i64 x11_1 ∧ Aside0 (slices_Concat_byte_byte.l0 kq l0 x3_1 l0 (l0.length : Int) x11_1 = some r) ∧ Aside0 (kq ≤ k) ∧ Aside0 (Below w.heap.size w w'))
  case atStart => exact ⟨(0), (0), (by first | rfl | (simp; done) | (simp [*]; done)), (by first | rfl | (simp; done) | (simp [*]; done)), H', ⟨Nat.le_refl _⟩, ⟨by repeat (first | (with_reducible first | exact HB.out | apply below_alloc | apply pw_below_drewN | apply below_drew1) | exact HB.out)⟩⟩
  case round =>
    clear H'
    obtain ⟨x3_1, x11_1, rfl, rfl, HA, HK1, HB⟩ := hrel
    cases gk with
    | zero => exact absurd HA.out (by simp [slices_Concat_byte_byte.l0])
    | succ k1 =>
      have H := HA.out
      clear HA
      simp only [slices_Concat_byte_byte.l0] at H
      by_cases c2 : x11_1 < (l0.length : Int)
      · rw [if_pos c2] at H
        have c2b0 : decide (x11_1 < (l0.length : Int)) = true := decide_eq_true c2
        clear c2
        by_cases c3 : 0 ≤ x11_1
        · rw [if_pos c3] at H
          have c3b0 : decide (0 ≤ x11_1) = true := decide_eq_true c3
          clear c3
          by_cases c4 : x11_1 < (l0.length : Int)
          · rw [if_pos c4] at H
            have c4b0 : decide (x11_1 < (l0.length : Int)) = true := decide_eq_true c4
            clear c4
            by_cases c5 : (wrap64 (x3_1 + ((rd_L2 l0 x11_1).length : Int))) < 0
            · rw [if_pos c5] at H
              exact absurd H (by simp)
            · rw [if_neg c5] at H
              have c5b0 : decide ((wrap64 (x3_1 + ((rd_L2 l0 x11_1).length : Int))) < 0) = false := decide_eq_false c5
              clear c5
              have H' := Aside0.mk H
              clear H
              have p128 : 0 ≤ (x11_1 : Int) := of_decide_eq_true (by first | (with_reducible assumption) | assumption)
              have q128 : x11_1 < (l0.length : Int) := of_decide_eq_true (by first | (with_reducible assumption) | assumption)
              obtain ⟨ad128, A128_0, c128_0, e128, hx128_0, hl128_0, hi128_0⟩ := at_L2 HR0.out x11_1 p128 q128
              cases e128
              replace hx128_0 := (HB.out.cell (World.block_lt_of_cell? w _ hx128_0)).trans hx128_0
              have HR128_0 := Aside0.mk hi128_0
              have HC128_0 := Aside0.mk hl128_0
              clear hi128_0 hl128_0
              replace p128 := eq_true p128
              replace q128 := eq_true q128
              go_wp2
              go_roundg k1
              case measure => have := HK1.out; omega
              case rel => exact ⟨(wrap64 (x3_1 + ((rd_L2 l0 x11_1).length : Int))), (wrap64 (x11_1 + 1)), (by first | rfl | (simp; done) | (simp [*]; done)), (by first | rfl | (simp; done) | (simp [*]; done)), H', ⟨by have := HK1.out; omega⟩, ⟨by repeat (first | (with_reducible first | exact HB.out | apply below_alloc | apply pw_below_drewN | apply below_drew1) | exact HB.out)⟩⟩
          · rw [if_neg c4] at H
            exact absurd H (by simp)
        · rw [if_neg c3] at H
          exact absurd H (by simp)
      · rw [if_neg c2] at H
        have c2b0 : decide (x11_1 < (l0.length : Int)) = false := decide_eq_false c2
        clear c2
        by_cases c6 : 0 ≤ x3_1
        · rw [if_pos c6] at H
          have c6b0 := eq_true c6
          have c6b1 : decide (0 ≤ x3_1) = true := decide_eq_true c6
          clear c6
          by_cases c7 : (x3_1 : Int).toNat ≤ 140737488355328
          · rw [if_pos c7] at H
            have c7b0 := eq_true c7
            have c7b1 : decide ((x3_1 : Int).toNat ≤ 140737488355328) = true := decide_eq_true c7
            clear c7
            obtain ⟨y129, hy129⟩ : ∃ y_ : List Int, y_ = ((List.replicate 0 0)) := ⟨_, rfl⟩
            replace H : (slices_Concat_byte_byte.l1 k1 y129 l0 (l0.length : Int) 0) = some r := by first | (rw [hy129]; with_reducible exact H) | (have H2_ := (Option.bind_some _ _).symm.trans H; rw [hy129]; with_reducible exact H2_) | (have H2_ := (Option.bind_some _ _).symm.trans H; with_reducible exact H2_) | with_reducible exact H | (rw [hy129]; exact H) | exact H
            have Ny129 := Aside0.mk hy129
            clear hy129
            have H' := Aside0.mk H
            clear H
            go_wp2_with (first | ((with_reducible refine gate_dst (N := 24) rfl ?_); refine Kd.R_grow (Kd.int .u8) _ 5 rfl (N := 24) rfl 23 _ _ rfl x3_1 rfl rfl Try.underlying23 (.int .u8 0) 1 info5 rfl (by decide) (by omega) 0 (ok := fun _ => True) (okp := fun _ => True) rfl (fun _ hk => hk) trivial (of_decide_eq_true (by first | (with_reducible assumption) | assumption)) (Nat.le_trans (Nat.mul_le_mul_right _ (of_decide_eq_true (by first | (with_reducible assumption) | assumption) : x3_1.toNat ≤ 140737488355328)) (by omega)) (Below.refl _ _) (Nat.le_refl _) ?_; intro v130 w8 ho9 hb hg_ hnew_; clear hg_ hnew_; (first | rw [← Ny129.out] at ho9 | (simp only [Int.reduceToNat] at ho9; rw [← Ny129.out] at ho9)); have n0_ := Aside0.mk (Kd.R_lower ho9 (below_size (by repeat (first | (with_reducible first | exact HB.out | apply below_alloc | apply pw_below_drewN | apply below_drew1) | exact HB.out)))); have n1_ := Aside0.mk (below_step (by repeat (first | (with_reducible first | exact HB.out | apply below_alloc | apply pw_below_drewN | apply below_drew1) | exact HB.out)) hb); clear HB; have HO131 := n0_; have HB := n1_; clear n0_ n1_; clear hb ho9))
            go_loopg [6, 27] k1 (fun kq v6 v27 w' => ∃ (x6_2 : List Int) (x27_2 : Int), v27 = .int .i64 x27_2 ∧ Aside0 (slices_Concat_byte_byte.l1 kq x6_2 l0 (l0.length : Int) x27_2 = some r) ∧ Aside0 (kq ≤ k1) ∧ Aside0 (Kd.R (Kd.int .u8) 5 w' w.heap.size (fun _ => True) v6 x6_2) ∧ Aside0 (Below w.heap.size w w'))
            case atStart => exact ⟨(y129), (0), (by first | rfl | (simp; done) | (simp [*]; done)), H', ⟨Nat.le_refl _⟩, ⟨by (with_reducible repeat (first | apply Kd.R_alloc | apply Kd.R_drewN | apply Kd.R_drew)); exact HO131.out⟩, ⟨by repeat (first | (with_reducible first | exact HB.out | apply below_alloc | apply pw_below_drewN | apply below_drew1) | exact HB.out)⟩⟩
            case round =>
              clear H'
              try clear c1
              try clear p1
              try clear q1
              try clear hx1
              try clear c2
              try clear c2b0
              try clear p2
              try clear c3
              try clear c3b0
              try clear c4
              try clear c4b0
              try clear c5
              try clear c5b0
              try clear c6
              try clear c6b0
              try clear c6b1
              try clear p6
              try clear c7
              try clear c7b0
              try clear c7b1
              try clear hx128_0
              try clear p128
              try clear q128
              obtain ⟨x6_2, x27_2, rfl, HA, HK2, HO_6, HB⟩ := hrel
              cases gk with
              | zero => exact absurd HA.out (by simp [slices_Concat_byte_byte.l1])
              | succ k2 =>
                have H := HA.out
                clear HA
                simp only [slices_Concat_byte_byte.l1] at H
                by_cases c10 : x27_2 < (l0.length : Int)
                · rw [if_pos c10] at H
                  have c10b0 : decide (x27_2 < (l0.length : Int)) = true := decide_eq_true c10
                  clear c10
                  by_cases c11 : 0 ≤ x27_2
                  · rw [if_pos c11] at H
                    have c11b0 : decide (0 ≤ x27_2) = true := decide_eq_true c11
                    clear c11
                    by_cases c12 : x27_2 < (l0.length : Int)
                    · rw [if_pos c12] at H
                      have c12b0 : decide (x27_2 < (l0.length : Int)) = true := decide_eq_true c12
                      clear c12
                      by_cases c13 : x6_2.length + (rd_L2 l0 x27_2).length < 140737488355328
                      · rw [if_pos c13] at H
                        have LMc13 := Aside0.mk c13
                        clear c13
                        obtain ⟨y133, hy133⟩ : ∃ y_ : List Int, y_ = (x6_2 ++ (rd_L2 l0 x27_2)) := ⟨_, rfl⟩
                        replace H : (slices_Concat_byte_byte.l1 k2 y133 l0 (l0.length : Int) (wrap64 (x27_2 + 1))) = some r := by first | (rw [hy133]; with_reducible exact H) | (have H2_ := (Option.bind_some _ _).symm.trans H; rw [hy133]; with_reducible exact H2_) | (have H2_ := (Option.bind_some _ _).symm.trans H; with_reducible exact H2_) | with_reducible exact H | (rw [hy133]; exact H) | exact H
                        have Ny133 := Aside0.mk hy133
                        clear hy133
                        have H' := Aside0.mk H
                        clear H
                        have p132 : 0 ≤ (x27_2 : Int) := of_decide_eq_true (by first | (with_reducible assumption) | assumption)
                        have q132 : x27_2 < (l0.length : Int) := of_decide_eq_true (by first | (with_reducible assumption) | assumption)
                        obtain ⟨ad132, A132_0, c132_0, e132, hx132_0, hl132_0, hi132_0⟩ := at_L2 HR0.out x27_2 p132 q132
                        cases e132
                        replace hx132_0 := (HB.out.cell (World.block_lt_of_cell? w _ hx132_0)).trans hx132_0
                        have HR132_0 := Aside0.mk hi132_0
                        have HC132_0 := Aside0.mk hl132_0
                        clear hi132_0 hl132_0
                        replace p132 := eq_true p132
                        replace q132 := eq_true q132
                        go_wp2_with (first | ((with_reducible refine gate_builtin (b := .append) (xs := #[.tmp 31, .tmp 32]) rfl ?_); at_builtin; refine Kd.R_append_rows (Kd.int .u8) (w0 := w) w.heap.size rfl (.tmp 31) (.tmp 32) 23 5 (.int .u8 0) 1 rfl Try.underlying23 info5 rfl (by decide) (by omega) u6 x6_2 (rd_L2 l0 x27_2) _ _ _ (fun _ => True) (fun _ => False) rfl rfl ?aO ?aR (fun _ _ h => h) (fun _ h => h.elim) ?aF ?aB ?aS ?aL ?_; (case aR => repeat (first | exact (Kd.C_below HR132_0.out HB.out) | (with_reducible refine Kd.C_alloc ?_ _) | (with_reducible refine Kd.C_drewN ?_ _) | (with_reducible refine Kd.C_drew ?_))); (case aB => exact (by repeat (first | (with_reducible first | exact HB.out | apply below_alloc | apply pw_below_drewN | apply below_drew1) | exact HB.out))); (case aF => exact (fun _ _ => trivial)); (case aO => exact (by (with_reducible repeat (first | apply Kd.R_alloc | apply Kd.R_drewN | apply Kd.R_drew)); exact HO_6.out)); (case aS => exact (below_size (by repeat (first | (with_reducible first | exact HB.out | apply below_alloc | apply pw_below_drewN | apply below_drew1) | exact HB.out)))); (case aL => have := LMc13.out; omega); intro v134 w14 ho hb hg hat; rw [← Ny133.out] at ho; have n0_ := Aside0.mk (hb); have n1_ := Aside0.mk (ho); clear HB; clear HO_6; have HB := n0_; have HO135 := n1_; clear n0_ n1_; clear ho hb hg hat))
                        go_roundg k2
                        case measure => have := HK1.out; have := HK2.out; omega
                        case rel => exact ⟨(y133), (wrap64 (x27_2 + 1)), (by first | rfl | (simp; done) | (simp [*]; done)), H', ⟨by have := HK1.out; have := HK2.out; omega⟩, ⟨by (with_reducible repeat (first | apply Kd.R_alloc | apply Kd.R_drewN | apply Kd.R_drew)); exact HO135.out⟩, ⟨by repeat (first | (with_reducible first | exact HB.out | apply below_alloc | apply pw_below_drewN | apply below_drew1) | exact HB.out)⟩⟩
                      · rw [if_neg c13] at H
                        exact absurd H (by simp)
                    · rw [if_neg c12] at H
                      exact absurd H (by simp)
                  · rw [if_neg c11] at H
                    exact absurd H (by simp)
                · rw [if_neg c10] at H
                  have c10b0 : decide (x27_2 < (l0.length : Int)) = false := decide_eq_false c10
                  clear c10
                  obtain rfl := Option.some.inj H
                  go_wp2
                  go_ret
                  exact ⟨_, by first | rfl | (simp [errW_none, errW_some] <;> rfl) | (simp [*, errW_none, errW_some] <;> rfl), by (with_reducible repeat (first | apply Kd.R_alloc | apply Kd.R_drewN | apply Kd.R_drew)); exact HO_6.out, by repeat (first | (with_reducible first | exact HB.out | apply below_alloc | apply pw_below_drewN | apply below_drew1) | exact HB.out)⟩
          · rw [if_neg c7] at H
            exact absurd H (by simp)
        · rw [if_neg c6] at H
          exact absurd H (by simp)

end Go.Proofs.Ytclmikbbjhdplaa.X
-- Written by a program of this session (a turn of the kit's print with contracts by hand). Not trusted: Lean checks it.
namespace Go.Proofs.Ytclmikbbjhdplaa.X
open Go.RowKit Go.Proofs.YtclmikbbjhdplaaW.PrintWords Go.Proofs.YtclmikbbjhdplaaW.PrintLast Go.Proofs.YtclmikbbjhdplaaW.PrintMore
attribute [local go_sem] max2_int min2_int max_two min_two max_three min_three max_four min_four   -- for this text's walks alone
set_option linter.unusedVariables false
set_option linter.unusedSimpArgs false

/-! ### octets_Join: function 20 -/
def octets_Join.f (k : Nat) (l0 : List (List Int)) : Option (List Int) := (slices_Concat_byte_byte.f k l0).bind fun t136 => (some t136)
theorem octets_Join.mono : ∀ a0 k, LeO (octets_Join.f k a0) (octets_Join.f (k + 1) a0) := by
  intro a0 k
  unfold octets_Join.f
  repeat' first
      | (with_reducible exact slices_Concat_byte_byte.mono _ _)
      | (with_reducible exact LeO.refl _)
      | (with_reducible exact LeO.none _)
      | (with_reducible refine LeO.ite ?_ ?_)
      | (with_reducible refine LeO.bind ?_ (fun _ => ?_))
      | exact slices_Concat_byte_byte.mono _ _
      | exact LeO.none _
      | refine LeO.ite ?_ ?_
      | refine LeO.bind ?_ (fun _ => ?_)
set_option maxHeartbeats 8000000 in
set_option maxRecDepth 100000 in
theorem octets_Join.calls (k : Nat) (A0 : Option Addr) (c0 : Nat) (l0 : List (List Int)) (r : List Int) (w : World) (hr0 : Kd.C (Kd.slice 5 (Kd.int .u8)) w A0 l0.length l0) (hc0 : l0.length ≤ c0) (h : octets_Join.f k l0 = some r) :
    Calls Try.prog 20 #[.slice A0 l0.length c0] w fun e w' => ∃ v0_ : Value, e = .returned (v0_) ∧ Kd.R (Kd.int .u8) 5 w' w.heap.size (fun _ => True) v0_ r ∧ Below w.heap.size w w' := by
  have HR0 := Aside0.mk hr0
  have HC0 := Aside0.mk hc0
  clear hr0 hc0
  have HB := Aside0.mk (Below.refl w.heap.size w)
  have H : ((slices_Concat_byte_byte.f k l0).bind fun t136 => (some t136)) = some r := h
  clear h
  replace H := Option.bind_eq_some_iff.mp H
  obtain ⟨t136, A20, H⟩ := H
  replace H : (some t136) = some r := H
  have A2 := Aside0.mk A20
  clear A20
  obtain rfl := Option.some.inj H
  go_enter Try.func20, Try.ntmps20
  go_wp2_with (first | ((with_reducible refine gate_callee (f := 50) rfl ?_); refine goesL_ (some 4) rfl rfl Try.func50 (by kernel_rfl) rfl #[.slice A0 l0.length c0] rfl (by (try simp only [List.map_toArray, List.map_cons, List.map_nil]); first | done | rfl | (simp only [List.length_drop, List.length_take]; rfl)) ?_; (with_reducible refine (slices_Concat_byte_byte.calls k _ _ l0 t136 _ ?side1 ?side2 A2.out).mono ?_); (case side1 => repeat (first | exact HR0.out | (with_reducible refine Kd.C_alloc ?_ _) | (with_reducible refine Kd.C_drewN ?_ _) | (with_reducible refine Kd.C_drew ?_))); (case side2 => exact HC0.out); rintro e w3 ⟨v137, rfl, ho0, hb⟩; refine ⟨_, rfl, ?_⟩; have n0_ := Aside0.mk (Kd.R_lower ho0 (below_size (by repeat (first | (with_reducible first | exact HB.out | apply below_alloc | apply pw_below_drewN | apply below_drew1) | exact HB.out)))); have n1_ := Aside0.mk (below_step (by repeat (first | (with_reducible first | exact HB.out | apply below_alloc | apply pw_below_drewN | apply below_drew1) | exact HB.out)) hb); clear HB; have HO138 := n0_; have HB := n1_; clear n0_ n1_; (try clear hb); (try clear hb2); (try clear hk); (try clear hi); (try clear ho0)))
  go_ret
  exact ⟨_, by first | rfl | (simp [errW_none, errW_some] <;> rfl) | (simp [*, errW_none, errW_some] <;> rfl), by (with_reducible repeat (first | apply Kd.R_alloc | apply Kd.R_drewN | apply Kd.R_drew)); exact HO138.out, by repeat (first | (with_reducible first | exact HB.out | apply below_alloc | apply pw_below_drewN | apply below_drew1) | exact HB.out)⟩

end Go.Proofs.Ytclmikbbjhdplaa.X
/- slices.Backward over octets: the iterator's contract, for a loop body that may write the octets. -/
namespace Go.Proofs.Ytclmikbbjhdplaa.X
open Go.RowKit Go.Shelf Go.Proofs.YtclmikbbjhdplaaW.PrintWords Go.Proofs.YtclmikbbjhdplaaW.PrintLast Go.Proofs.YtclmikbbjhdplaaW.PrintMore
set_option linter.unusedVariables false
set_option linter.unusedSimpArgs false
attribute [local go_sem] Oper.semAt_some

/-- The octets of a row are octets still, and its value's box is as it was. -/
def KeepsBytes (Bs b len : Nat) (W W' : World) : Prop :=
  (∀ v, W.cell? ⟨Bs, 0, none⟩ = some v → W'.cell? ⟨Bs, 0, none⟩ = some v) ∧ ∀ j, j < len → (∃ v, W.cell? ⟨b, j, none⟩ = some (.int .u8 v)) → ∃ v, W'.cell? ⟨b, j, none⟩ = some (.int .u8 v)
theorem KeepsBytes.trans {Bs b len : Nat} {X Y Z : World} (h : KeepsBytes Bs b len X Y) (k : KeepsBytes Bs b len Y Z) : KeepsBytes Bs b len X Z :=
  ⟨fun v hv => k.1 v (h.1 v hv), fun j hj hv => k.2 j hj (h.2 j hj hv)⟩

theorem KeepsBytes.of_grown {Bs b len : Nat} {W W' : World} {row : Option Nat} (hg : W.grownBy W' row) (hr : ∀ r, row = some r → ∃ o : Obj, W.heap[r]? = some o ∧ o.isCells = false) : KeepsBytes Bs b len W W' :=
  ⟨fun v hv => cell_kept hv hg hr, fun j hj ⟨v, hv⟩ => ⟨v, cell_kept hv hg hr⟩⟩

/-- What has come when d are still to come. -/
def Came (len d : Nat) (ys : List {x : Nat × Int // x.1 < len}) : Prop := ys.length + d = len ∧ ys.map (fun y => y.1.1) = (List.range len).reverse.take (len - d)
theorem Came.step {len m : Nat} {ys : List {x : Nat × Int // x.1 < len}} (h : Came len (m + 1) ys) (v : Int) (hm : m < len) : Came len m (ys ++ [⟨(m, v), hm⟩]) := by
  obtain ⟨h1, h2⟩ := h
  refine ⟨by simp; omega, ?_⟩
  rw [List.map_append, h2, show len - m = (len - (m + 1)) + 1 by omega, List.take_succ_eq_append_getElem (by simp; omega)]
  congr 1
  simp only [List.map_cons, List.map_nil, List.getElem_reverse, List.length_range, List.getElem_range]
  congr 1
  omega

set_option maxRecDepth 100000 in
set_option maxHeartbeats 2000000 in
theorem back1_in (F : Fence) (n : Nat) (h62 : F.fn 62) (hro : F.round = none) (hn : 1 ≤ n) (l Bs b len cap : Nat) (hlen : len ≤ 1000000) (J Jx : List {x : Nat × Int // x.1 < len} → World → Prop)
    (hY : ∀ pre x W, J pre W → pre.length < len → YieldAt F (n - 1) Try.prog l #[.int .i64 (x.1.1 : Int), .int .u8 x.1.2] W fun e W' =>
      (e = .returned (.bool true) ∧ J (pre ++ [x]) W' ∧ KeepsBytes Bs b len W W') ∨ (e = .returned (.bool false) ∧ Jx (pre ++ [x]) W'))
    (W : World) (hBs : W.cell? ⟨Bs, 0, none⟩ = some (.slice (some ⟨b, 0, none⟩) len cap)) (hc : ∀ j, j < len → ∃ v, W.cell? ⟨b, j, none⟩ = some (.int .u8 v)) (h0 : J [] W) :
    CallsIn F n Try.prog 62 #[.func (.yield l) #[] #[], .pointer (some ⟨Bs, 0, none⟩)] W fun e W' => (∃ v, e = .returned v) ∧
      ((∃ ys : List {x : Nat × Int // x.1 < len}, Came len 0 ys ∧ J ys W') ∨ (∃ pre, True ∧ Jx pre W')) := by
  refine callsIn_of_wp Try.func62 rfl h62 ?_ hro
  simp only [Try.ntmps62, List.size_toArray, List.length_cons, List.length_nil, Nat.reduceAdd, Nat.reduceSub, Array.replicate_succ, Array.replicate_zero, List.push_toArray, List.append_toArray, List.nil_append, List.cons_append]
  gi_wp2
  gi_loopw [3] (fun i wr => ∃ (d : Nat) (ys : List {x : Nat × Int // x.1 < len}), d ≤ len ∧ i = .int .i64 ((d : Int) - 1) ∧ Came len d ys ∧ J ys wr ∧ KeepsBytes Bs b len W wr)
    (fun i _ => (intOf i + 1).toNat)
  case atStart => exact ⟨len, [], Nat.le_refl _, rfl, ⟨by simp, by simp⟩, h0, ⟨fun _ h => h, fun _ _ h => h⟩⟩
  case round =>
    obtain ⟨d, ys, hd, rfl, hys, hJs, hnx⟩ := hrel
    have hb1 := hnx.1 _ hBs
    rcases d with _ | m
    · gi_wp2
      go_end0
      exact ⟨⟨_, rfl⟩, .inl ⟨_, hys, hJs⟩⟩
    · have hml : m < len := hd
      obtain ⟨v, hv⟩ := hnx.2 m hml (hc _ hml)
      obtain ⟨fn, tmps, assign, body, hy, hR⟩ := hY ys ⟨(m, v), hml⟩ wr hJs (by have := hys.1; omega)
      dsimp only at hy
      rw [show (((m + 1 : Nat) : Int) - 1) = (m : Int) by omega]
      gi_wp2
      refine hR.mono ?_
      rintro e W3 (⟨rfl, hJ3, hk3⟩ | ⟨rfl, hJx3⟩)
      · gi_wp2
        go_roundw
        case rel => exact ⟨m, _, by omega, rfl, hys.step v hml, hJ3, hnx.trans hk3⟩
        case measure => simp [intOf]
      · gi_wp2
        refine bodyPost_ret (results_none rfl _ _ _) rfl ?_
        exact ⟨⟨_, rfl⟩, .inr ⟨_, trivial, hJx3⟩⟩
end Go.Proofs.Ytclmikbbjhdplaa.X
/- octets.Put: a number in so many octets. -/
namespace Go.Proofs.Ytclmikbbjhdplaa.X
open Go.RowKit Go.Shelf Go.Proofs.YtclmikbbjhdplaaW.PrintWords Go.Proofs.YtclmikbbjhdplaaW.PrintLast Go.Proofs.YtclmikbbjhdplaaW.PrintMore
set_option linter.unusedVariables false
set_option linter.unusedSimpArgs false
attribute [local go_sem] Oper.semAt_some max2_int min2_int max_two min_two max_three min_three max_four min_four

theorem back_in (F : Fence) (n : Nat) (h49 : F.fn 49) (hro : F.round = none) (a : Option Addr) (len cap : Nat) (w : World) :
    CallsIn F n Try.prog 49 #[.slice a len cap] w fun e w' => e = .returned (.func (.func 62) #[] #[.pointer (some ⟨w.heap.size, 0, none⟩)]) ∧ w' = w.alloc (.cells #[.slice a len cap] 23) := by
  refine callsIn_of_wp Try.func49 rfl h49 ?_ hro
  simp only [Try.ntmps49, List.size_toArray, List.length_cons, List.length_nil, Nat.reduceAdd, Nat.reduceSub, Array.replicate_succ, Array.replicate_zero, List.push_toArray, List.append_toArray, List.nil_append, List.cons_append]
  gi_wp2
  go_ret
  exact ⟨rfl, rfl⟩

/-- The lowest octets of a number, the highest first. -/
def putL (u : Int) : Nat → List Int
  | 0 => []
  | k + 1 => (u / 256 ^ k % 256) :: putL u k
def octets_Put.f (a0 : Int) (a1 : Int) : Option (List Int) := some (putL (IntKind.u64.wrap a0) (mn (mx a1 0) 8).toNat)

def pstp (st : List Int × Int) (i : Nat) : List Int × Int := (st.1.set i (st.2 % 256), st.2 / 256)

theorem blk_own {W W' : World} {g : Nat} {t : TypeId} {cs : Array Value} {row : Option Nat} (h : W.heap[g]? = some (.cells cs t (0, 0))) (hg : W.grownBy W' row) (hr : ∀ r, row = some r → ∃ o : Obj, W.heap[r]? = some o ∧ o.isCells = false) : W'.heap[g]? = some (.cells cs t (0, 0)) :=
  blk_grown h hg (fun e => by obtain ⟨o, ho, hc⟩ := hr g e.symm; rw [h] at ho; cases ho; cases hc)

def putF (s : Nat) (u : Int) (is : List Nat) : List Int × Int := is.foldl pstp (List.replicate s 0, u)
theorem putF_snoc (s : Nat) (u : Int) (is : List Nat) (i : Nat) : putF s u (is ++ [i]) = pstp (putF s u is) i := by simp [putF]
theorem foldl_pstp (is : List Nat) : ∀ st : List Int × Int, (is.foldl pstp st).1.length = st.1.length ∧ (0 ≤ st.2 → st.2 < 18446744073709551616 → 0 ≤ (is.foldl pstp st).2 ∧ (is.foldl pstp st).2 < 18446744073709551616) := by
  induction is with
  | nil => intro st; exact ⟨rfl, fun a b => ⟨a, b⟩⟩
  | cons i is ih =>
    intro st
    obtain ⟨h1, h2⟩ := ih (pstp st i)
    refine ⟨by rw [List.foldl_cons, h1]; simp [pstp], fun a b => ?_⟩
    rw [List.foldl_cons]
    exact h2 (by simp only [pstp]; omega) (by simp only [pstp]; omega)
theorem putF_len (s : Nat) (u : Int) (is : List Nat) : (putF s u is).1.length = s := by unfold putF; rw [(foldl_pstp is _).1]; simp
theorem putF_nonneg (s : Nat) (u : Int) (hu : 0 ≤ u ∧ u < 18446744073709551616) (is : List Nat) : 0 ≤ (putF s u is).2 ∧ (putF s u is).2 < 18446744073709551616 := (foldl_pstp is _).2 hu.1 hu.2
/-- From the last place on to the first one: the octets. -/
theorem putF_all (s : Nat) (u : Int) : ∀ k, k ≤ s → putF s u (((List.range s).reverse).take k) = (List.replicate (s - k) 0 ++ putL u k, u / 256 ^ k) := by
  intro k
  induction k with
  | zero => intro _; simp [putF, putL]
  | succ k ih =>
    intro hk
    rw [List.take_succ_eq_append_getElem (by simp; omega), putF_snoc, ih (by omega)]
    simp only [pstp, List.getElem_reverse, List.length_range, List.getElem_range, putL]
    have e1 : s - k = (s - (k + 1)) + 1 := by omega
    have e2 : s - 1 - k = s - (k + 1) := by omega
    refine Prod.ext ?_ ?_
    · simp only [e2]
      rw [e1, List.replicate_succ', List.append_assoc, List.set_append_right _ _ (by simp)]
      simp
    · simp only
      rw [Int.pow_succ, Int.ediv_ediv_of_nonneg (by exact Int.pow_nonneg (by omega))]
theorem putF_end (s : Nat) (u : Int) (ys : List {x : Nat × Int // x.1 < s}) (h : Came s 0 ys) : (putF s u (ys.map (fun y => y.1.1))).1 = putL u s := by
  rw [h.2, Nat.sub_zero, putF_all s u s (Nat.le_refl _)]
  simp

/-- What the loop over the octets keeps. -/
structure PutInv (w : World) (s : Nat) (u : Int) (is : List Nat) (W : World) : Prop where
  row : W.heap[w.heap.size]? = some (.cells (nums .u8 (putF s u is).1).toArray 5 (0, 0))
  box : W.heap[w.heap.size + 1]? = some (.cells #[.slice (some ⟨w.heap.size, 0, none⟩) s s] 23 (0, 0))
  num : W.heap[w.heap.size + 1 + 1]? = some (.cells #[.int .u64 (putF s u is).2] 58 (0, 0))
  seq : W.heap[w.heap.size + 1 + 1 + 1]? = some (.cells #[.slice (some ⟨w.heap.size, 0, none⟩) s s] 23 (0, 0))

theorem putL_len (u : Int) : ∀ s, (putL u s).length = s
  | 0 => rfl
  | s + 1 => by simp [putL, putL_len u s]
theorem R_of_blk {W : World} {g e base cap : Nat} {k : IntKind} {ok : Nat → Prop} {xs : List Int} (h : W.heap[g]? = some (.cells (nums k xs).toArray e (0, 0))) (hb : base ≤ g) (hc : xs.length = cap) (hm : cap ≤ 9223372036854775807) (hok : ∀ k, ok k) :
    Kd.R (Kd.int k) e W base ok (.slice (some ⟨g, 0, none⟩) xs.length cap) xs := by
  subst hc
  refine Kd.R_of_own (enc := Value.int k) ⟨by simp [encs], .inr ⟨g, xs.length, _, rfl, hb, h, Nat.le_refl _, by simpa [maxLen] using hm, by simp [nums], ?_⟩⟩ (fun k _ => hok k)
  simp [nums, encs, List.take_of_length_le]

theorem nums_set (k : IntKind) (xs : List Int) (i : Nat) (x : Int) : (nums k xs).toArray.setIfInBounds i (.int k x) = (nums k (xs.set i x)).toArray := by
  simp [nums, List.map_set]
theorem PutInv.step {w : World} {s : Nat} {u : Int} {is : List Nat} {W : World} (h : PutInv w s u is W) (i : Nat) :
    PutInv w s u (is ++ [i]) ((W.setCell ⟨w.heap.size, i, none⟩ (.int .u8 ((putF s u is).2 % 256))).setCell ⟨w.heap.size + 1 + 1, 0, none⟩ (.int .u64 ((putF s u is).2 / 256))) := by
  rw [show w.heap.size + 1 + 1 = w.heap.size + 2 from rfl]
  refine ⟨?_, ?_, ?_, ?_⟩
  · refine blk_far ?_ (by dsimp only; omega) _
    rw [putF_snoc, pstp, ← nums_set]
    exact blk_set h.row i _
  · exact blk_far (blk_far h.box (by dsimp only; omega) _) (by dsimp only; omega) _
  · rw [putF_snoc, pstp]
    exact blk_set (blk_far h.num (by dsimp only; omega) _) 0 _
  · exact blk_far (blk_far h.seq (by dsimp only; omega) _) (by dsimp only; omega) _
theorem PutInv.bytes {w : World} {s : Nat} {u : Int} {is : List Nat} {W : World} (h : PutInv w s u is W) (j : Nat) (hj : j < s) : W.cell? ⟨w.heap.size, j, none⟩ = some (.int .u8 ((putF s u is).1[j]?.getD 0)) := by
  have hl0 := putF_len s u is
  rw [blk_cell h.row]
  simp only [nums, List.getElem?_toArray, List.getElem?_map]
  rw [List.getElem?_eq_getElem (by omega)]
  rfl

set_option maxRecDepth 100000 in
set_option maxHeartbeats 4000000 in
theorem octets_Put.calls (a0 : Int) (a1 : Int) (r : List Int) (w : World) (h : octets_Put.f a0 a1 = some r) :
    Calls Try.prog 16 #[.int .i64 a0, .int .i64 a1] w fun e w' => ∃ v0_ : Value, e = .returned (v0_) ∧ Kd.R (Kd.int .u8) 5 w' w.heap.size (fun _ => True) v0_ r ∧ Below w.heap.size w w' := by
  obtain ⟨m1, he1⟩ : ∃ m1 : Int, (if a1 < 0 then 0 else a1) = m1 := ⟨_, rfl⟩
  have hm0 : 0 ≤ m1 := by rw [← he1]; split <;> omega
  obtain ⟨s, he2, hs8⟩ : ∃ s : Nat, (if 8 < m1 then 8 else m1) = (s : Int) ∧ s ≤ 8 := ⟨(if 8 < m1 then 8 else m1).toNat, by split <;> omega, by split <;> omega⟩
  obtain rfl : putL (IntKind.u64.wrap a0) s = r := by
    have e : mn (mx a1 0) 8 = (s : Int) := by rw [← he2, ← he1]; unfold mn mx; rfl
    simpa [octets_Put.f, e] using h
  clear h
  have hmk := print_make (P := Try.prog) 23 5 .u8 1 Try.underlying23 info5 (by omega) s (by omega)
  refine callsIn_wide (n := 5).1 ?_
  have hro : Fence.wide.round = none := rfl
  have h1 : 1 ≤ 5 := by omega
  have h49 : Fence.wide.fn 49 := trivial
  have h62 : Fence.wide.fn 62 := trivial
  refine callsIn_of_wp_marks Try.func16 rfl trivial ?_ hro
  simp only [Try.ntmps16, List.size_toArray, List.length_cons, List.length_nil, Nat.reduceAdd, Nat.reduceSub, Array.replicate_succ, Array.replicate_zero, List.push_toArray, List.append_toArray, List.nil_append, List.cons_append]
  gi_wp2_with (gi_at_call 49; refine (back_in Fence.wide 4 h49 hro _ _ _ _).mono ?_; rintro e w' ⟨rfl, rfl⟩)
  obtain ⟨W0, hW0⟩ : ∃ W0, ((((w.alloc (Obj.cells (madeCells #[Value.int IntKind.u8 0] s) 5)).alloc (Obj.cells #[Value.slice (some { block := w.heap.size, off := 0 }) s s] 23)).alloc (Obj.cells #[Value.int IntKind.u64 (IntKind.u64.wrap a0)] 58)).alloc (Obj.cells #[Value.slice (some { block := w.heap.size, off := 0 }) s s] 23)) = W0 := ⟨_, rfl⟩
  rw [hW0]
  have hsz : W0.heap.size = w.heap.size + 4 := by rw [← hW0]; simp
  have hmc : madeCells #[Value.int IntKind.u8 0] s = (nums .u8 (List.replicate s 0)).toArray := by
    apply Array.ext'
    apply List.ext_getElem
    · simp [nums, madeCells]
    · intro i h1 h2
      simp [nums, madeCells, Nat.mod_one]
  have hI0 : PutInv w s (IntKind.u64.wrap a0) [] W0 := by
    rw [← hW0]
    have b0 := blk_new w (Obj.cells (madeCells #[Value.int IntKind.u8 0] s) 5)
    have b1 := blk_new (w.alloc (Obj.cells (madeCells #[Value.int IntKind.u8 0] s) 5)) (Obj.cells #[Value.slice (some { block := w.heap.size, off := 0 }) s s] 23)
    have b2 := blk_new ((w.alloc (Obj.cells (madeCells #[Value.int IntKind.u8 0] s) 5)).alloc (Obj.cells #[Value.slice (some { block := w.heap.size, off := 0 }) s s] 23)) (Obj.cells #[Value.int IntKind.u64 (IntKind.u64.wrap a0)] 58)
    have b3 := blk_new (((w.alloc (Obj.cells (madeCells #[Value.int IntKind.u8 0] s) 5)).alloc (Obj.cells #[Value.slice (some { block := w.heap.size, off := 0 }) s s] 23)).alloc (Obj.cells #[Value.int IntKind.u64 (IntKind.u64.wrap a0)] 58)) (Obj.cells #[Value.slice (some { block := w.heap.size, off := 0 }) s s] 23)
    simp only [World.size_alloc] at b1 b2 b3
    exact ⟨by rw [hmc] at b0 ⊢; exact blk_alloc (blk_alloc (blk_alloc b0 _) _) _, blk_alloc (blk_alloc b1 _) _, blk_alloc b2 _, b3⟩
  have hB0 : Below w.heap.size w W0 := by rw [← hW0]; exact below_alloc (below_alloc (below_alloc (below_alloc (Below.refl _ _) _) _) _) _
  have hu : 0 ≤ IntKind.u64.wrap a0 ∧ IntKind.u64.wrap a0 < 18446744073709551616 := by rw [IntKind.wrap_u64]; omega
  obtain ⟨u0, hu0⟩ : ∃ u0, IntKind.u64.wrap a0 = u0 := ⟨_, rfl⟩
  rw [hu0] at hI0 hu ⊢
  have HU := Lib.hid hu0
  clear hW0 he1 he2 hmk hmc hu0
  refine wpIn_rangeFunc_ownG hro h1 (gf := 62) (lb := #[.pointer (some ⟨w.heap.size + 1 + 1 + 1, 0, none⟩)]) rfl h62 (enters_of Try.func62 (by kernel_rfl) rfl)
    (encs := fun x : {x : Nat × Int // x.1 < s} => #[Value.int .i64 (x.1.1 : Int), Value.int .u8 x.1.2]) (Kp := KeepsBytes (w.heap.size + 1 + 1 + 1) w.heap.size s) (S := Came s 0) (Sp := fun _ => True) (N := s) (w0 := W0) ?seq ?kt ?kb (Below.refl _ _) (fun _ => rfl)
    (fun pre W => PutInv w s u0 (pre.map (fun y => y.1.1)) W ∧ Below w.heap.size w W)
    (fun _ _ _ => False)
    ?own (fun _ _ _ _ _ hs _ _ => hs) ⟨hI0, hB0⟩
    (fun x => { tmps := #[Value.int IntKind.i64 a0, Value.int IntKind.i64 a1, undef, undef, Value.slice none 0 0,
          Value.pointer (some { block := w.heap.size + 1, off := 0 }),
          Value.pointer (some { block := w.heap.size + 1 + 1, off := 0 }), Value.int .i64 (x.1.1 : Int), Value.int IntKind.i64 a1,
          Value.int IntKind.i64 m1, Value.int IntKind.i64 ↑s, Value.slice (some { block := w.heap.size, off := 0 }) s s,
          Value.int IntKind.i64 a0, Value.int IntKind.u64 u0,
          Value.slice (some { block := w.heap.size, off := 0 }) s s,
          Value.func (Fn.func 62) #[] #[Value.pointer (some { block := w.heap.size + 1 + 1 + 1, off := 0 })], Value.int .i64 (x.1.1 : Int),
          Value.int .u8 x.1.2, undef, undef, undef, undef, undef, undef, undef, undef], defers := [] }) ?assign ?body ?done ?stop
  case seq =>
    intro l J Jx W hW _ _ hY h0
    have e1 := hW.cell (p := ⟨w.heap.size + 1 + 1 + 1, 0, none⟩) (by simp [hsz])
    have e2 : ∀ j, j < s → ∃ v, W.cell? ⟨w.heap.size, j, none⟩ = some (.int .u8 v) := fun j hj => by
      rw [hW.cell (p := ⟨w.heap.size, j, none⟩) (by simp [hsz]), blk_cell hI0.row]
      have hl := putF_len s u0 []
      exact ⟨_, by simp only [nums, List.getElem?_toArray, List.getElem?_map]; rw [List.getElem?_eq_getElem (by simp only [List.map_nil] at *; omega)]; rfl⟩
    exact back1_in Fence.wide 4 h62 hro (by omega) l _ _ s s (by omega) J Jx hY W (e1.trans (blk_cell hI0.seq 0)) e2 h0
  case kt => exact fun h k => h.trans k
  case kb =>
    intro W l o o' hl ho hc hw
    exact KeepsBytes.of_grown (grownBy_putObj' W l o') (fun r e => by cases e; exact ⟨o, ho, hc⟩)
  case own =>
    exact OwnFrom.and (Own.from (fun s_ A B row hs hg hr => ⟨blk_own hs.row hg hr, blk_own hs.box hg hr, blk_own hs.num hg hr, blk_own hs.seq hg hr⟩) _) (ownFrom_below (Nat.le_refl _) (by omega))
  case assign =>
    intro l x W K hK
    gi_wp2
    exact hK
  case body =>
    rintro l pre ⟨⟨i, v⟩, hx⟩ W ⟨hI, hB⟩ _
    dsimp only at hx ⊢
    have hn0 := putF_nonneg s u0 hu (pre.map (fun y => y.1.1))
    have hl0 := putF_len s u0 (pre.map (fun y => y.1.1))
    have hi := hI.step i
    have hkb : KeepsBytes (w.heap.size + 1 + 1 + 1) w.heap.size s W ((W.setCell ⟨w.heap.size, i, none⟩ (.int .u8 ((putF s u0 (pre.map (fun y => y.1.1))).2 % 256))).setCell ⟨w.heap.size + 1 + 1, 0, none⟩ (.int .u64 ((putF s u0 (pre.map (fun y => y.1.1))).2 / 256))) :=
      ⟨fun v hv => by rw [blk_cell hI.seq] at hv; rw [blk_cell hi.seq]; exact hv, fun j hj _ => ⟨_, hi.bytes j hj⟩⟩
    have HI := Lib.hid hi
    have HKB := Lib.hid hkb
    clear hi hkb
    have c0 := hI.bytes i hx
    have f0 := blk_frozen hI.row i
    have c1 := blk_cell hI.box 0
    have c2 := blk_cell hI.num 0
    have f2 := blk_frozen hI.num 0
    generalize hst : putF s u0 (pre.map (fun y => y.1.1)) = st at *
    clear hst
    obtain ⟨L, u⟩ := st
    dsimp only at *
    gi_wp2
    refine ⟨((KeepsOthers.setCell _ _ _).trans (KeepsOthers.setCell _ _ _)).from _, HKB.out, ?_, below_set (below_set hB (Nat.le_refl _)) (by omega)⟩
    simpa using HI.out
  case done =>
    rintro D ys W hD hys ⟨hI, hB⟩ hK
    have hend := putF_end s u0 ys hys
    have hrow := hI.row
    rw [hend] at hrow
    have c1 := blk_cell hI.box 0
    have HR := Lib.hid hrow
    clear hrow hend
    gi_wp2
    refine ⟨by simp, .inl ⟨_, _, rfl, run_takeDeferred hK, ?_⟩⟩
    refine ⟨_, results_tmp rfl _ _ _, _, rfl, ?_, hB.trans (belowK_b (w := w) (Nat.le_refl _) W D _ _ (by omega) hK rfl rfl)⟩
    have hput : (W.putObj D (.deferred none)).heap[w.heap.size]? = some (.cells (nums .u8 (putL u0 s)).toArray 5 (0, 0)) := blk_own HR.out (grownBy_putObj' W D _) (fun r e => by cases e; exact ⟨_, hK, rfl⟩)
    have hlen : (putL u0 s).length = s := putL_len u0 s
    have := R_of_blk (k := .u8) (e := 5) (ok := fun _ => True) (base := w.heap.size) hput (Nat.le_refl _) (cap := s) (by omega) (by omega) (fun _ => trivial)
    rw [hlen] at this
    rw [HU.out]
    exact this
  case stop =>
    rintro D c pre W _ _ h _
    exact h.elim
end Go.Proofs.Ytclmikbbjhdplaa.X
-- Written by a program of this session (a turn of the kit's print with contracts by hand). Not trusted: Lean checks it.
namespace Go.Proofs.Ytclmikbbjhdplaa.X
open Go.RowKit Go.Proofs.YtclmikbbjhdplaaW.PrintWords Go.Proofs.YtclmikbbjhdplaaW.PrintLast Go.Proofs.YtclmikbbjhdplaaW.PrintMore
attribute [local go_sem] max2_int min2_int max_two min_two max_three min_three max_four min_four   -- for this text's walks alone
set_option linter.unusedVariables false
set_option linter.unusedSimpArgs false

/-! ### sha_Pad: function 34 -/
def sha_Pad.f (k : Nat) (l0 : List Int) : Option (List Int) := if 0 ≤ ((119 - ((l0.length : Int) % 64)) % 64) then (if ((119 - ((l0.length : Int) % 64)) % 64 : Int).toNat ≤ 281474976710656 then ((octets_Put.f (wrap64 (8 * (l0.length : Int))) 8).bind fun t188 => ((octets_Join.f k (([l0, (([128] : List Int)), (List.replicate ((119 - ((l0.length : Int) % 64)) % 64 : Int).toNat 0), t188] : List (List Int)))).bind fun t194 => (some t194))) else (none)) else (none)
theorem sha_Pad.mono : ∀ a0 k, LeO (sha_Pad.f k a0) (sha_Pad.f (k + 1) a0) := by
  intro a0 k
  unfold sha_Pad.f
  repeat' first
      | (with_reducible exact octets_Join.mono _ _)
      | (with_reducible exact LeO.refl _)
      | (with_reducible exact LeO.none _)
      | (with_reducible refine LeO.ite ?_ ?_)
      | (with_reducible refine LeO.bind ?_ (fun _ => ?_))
      | exact octets_Join.mono _ _
      | exact LeO.none _
      | refine LeO.ite ?_ ?_
      | refine LeO.bind ?_ (fun _ => ?_)
def sha_Pad.T2 : Bool × List (List Nat × List Nat) := (true, [([], []), ([], []), ([], []), ([2, 2], [2]), ([], []), ([4], [4]), ([5], [5]), ([6], [6]), ([0, 1, 3, 7], [0, 1, 3, 7]), ([8, 7], [8]), ([9, 9, 0, 1, 2, 3, 4, 5, 6, 7, 8, 9], [9])])
def sha_Pad.B2 : List Nat := [0, 0, 0, 4, 0, 16, 48, 112, 255, 511, 1023]
theorem sha_Pad.tab2 : rtab .any (opsOf Try.f34 2) = sha_Pad.T2 := by kernel_rfl
theorem sha_Pad.bits2 : waitsOk sha_Pad.T2.2 sha_Pad.B2 = true := by kernel_rfl
set_option maxHeartbeats 8000000 in
set_option maxRecDepth 100000 in
theorem sha_Pad.calls (k : Nat) (P0_ : Nat → Prop) (A0 : Option Addr) (c0 : Nat) (l0 : List Int) (r : List Int) (w : World) (hs0 : Kd.V (Kd.int .u8) 5 w w.heap.size (fun k_ => P0_ k_) (.slice A0 l0.length c0) l0) (h : sha_Pad.f k l0 = some r) :
    Calls Try.prog 34 #[.slice A0 l0.length c0] w fun e w' => ∃ v0_ : Value, e = .returned (v0_) ∧ Kd.R (Kd.int .u8) 5 w' w.heap.size (fun k_ => (w.heap.size ≤ k_)) v0_ r ∧ Below w.heap.size w w' := by
  have HO0 := Aside0.mk (show Kd.V (Kd.int .u8) 5 w w.heap.size (fun k_ => (P0_ k_ ∨ w.heap.size ≤ k_)) (.slice A0 l0.length c0) l0 from Kd.V_mono hs0 (fun k_ hk => .inl hk))
  have HB := Aside0.mk (Below.refl w.heap.size w)
  have H : (if 0 ≤ ((119 - ((l0.length : Int) % 64)) % 64) then (if ((119 - ((l0.length : Int) % 64)) % 64 : Int).toNat ≤ 281474976710656 then ((octets_Put.f (wrap64 (8 * (l0.length : Int))) 8).bind fun t188 => ((octets_Join.f k (([l0, (([128] : List Int)), (List.replicate ((119 - ((l0.length : Int) % 64)) % 64 : Int).toNat 0), t188] : List (List Int)))).bind fun t194 => (some t194))) else (none)) else (none)) = some r := h
  clear h
  obtain ⟨y182, hy182⟩ : ∃ y_ : List Int, y_ = (([128] : List Int)) := ⟨_, rfl⟩
  replace H : (if 0 ≤ ((119 - ((l0.length : Int) % 64)) % 64) then (if ((119 - ((l0.length : Int) % 64)) % 64 : Int).toNat ≤ 281474976710656 then ((octets_Put.f (wrap64 (8 * (l0.length : Int))) 8).bind fun t188 => ((octets_Join.f k (([l0, y182, (List.replicate ((119 - ((l0.length : Int) % 64)) % 64 : Int).toNat 0), t188] : List (List Int)))).bind fun t194 => (some t194))) else (none)) else (none)) = some r := by first | (rw [hy182]; with_reducible exact H) | (have H2_ := (Option.bind_some _ _).symm.trans H; rw [hy182]; with_reducible exact H2_) | (have H2_ := (Option.bind_some _ _).symm.trans H; with_reducible exact H2_) | with_reducible exact H | (rw [hy182]; exact H) | exact H
  have Ny182 := Aside0.mk hy182
  clear hy182
  obtain ⟨ji2, hji2⟩ : ∃ j_ : Int, ((119 - ((l0.length : Int) % 64)) % 64) = j_ := ⟨_, rfl⟩
  replace H : (if 0 ≤ (ji2) then (if (ji2 : Int).toNat ≤ 281474976710656 then ((octets_Put.f (wrap64 (8 * (l0.length : Int))) 8).bind fun t188 => ((octets_Join.f k (([l0, y182, (List.replicate (ji2 : Int).toNat 0), t188] : List (List Int)))).bind fun t194 => (some t194))) else (none)) else (none)) = some r := by first | (rw [hji2] at H; exact H) | (simp only [hji2] at H ⊢; exact H)
  by_cases c3 : 0 ≤ (ji2)
  · rw [if_pos c3] at H
    have c3b0 := eq_true c3
    have c3b1 : decide (0 ≤ (ji2)) = true := decide_eq_true c3
    clear c3
    by_cases c4 : (ji2 : Int).toNat ≤ 281474976710656
    · rw [if_pos c4] at H
      have c4b0 := eq_true c4
      have c4b1 : decide ((ji2 : Int).toNat ≤ 281474976710656) = true := decide_eq_true c4
      clear c4
      obtain ⟨y185, hy185⟩ : ∃ y_ : List Int, y_ = (List.replicate (ji2 : Int).toNat 0) := ⟨_, rfl⟩
      replace H : ((octets_Put.f (wrap64 (8 * (l0.length : Int))) 8).bind fun t188 => ((octets_Join.f k (([l0, y182, y185, t188] : List (List Int)))).bind fun t194 => (some t194))) = some r := by first | (rw [hy185]; with_reducible exact H) | (have H2_ := (Option.bind_some _ _).symm.trans H; rw [hy185]; with_reducible exact H2_) | (have H2_ := (Option.bind_some _ _).symm.trans H; with_reducible exact H2_) | with_reducible exact H | (rw [hy185]; exact H) | exact H
      have Ny185 := Aside0.mk hy185
      clear hy185
      replace H := Option.bind_eq_some_iff.mp H
      obtain ⟨t188, A50, H⟩ := H
      replace H : ((octets_Join.f k (([l0, y182, y185, t188] : List (List Int)))).bind fun t194 => (some t194)) = some r := H
      have A5 := Aside0.mk A50
      clear A50
      obtain ⟨y191, hy191⟩ : ∃ y_ : List (List Int), y_ = (([l0, y182, y185, t188] : List (List Int))) := ⟨_, rfl⟩
      replace H : ((octets_Join.f k y191).bind fun t194 => (some t194)) = some r := by first | (rw [hy191]; with_reducible exact H) | (have H2_ := (Option.bind_some _ _).symm.trans H; rw [hy191]; with_reducible exact H2_) | (have H2_ := (Option.bind_some _ _).symm.trans H; with_reducible exact H2_) | with_reducible exact H | (rw [hy191]; exact H) | exact H
      have Ny191 := Aside0.mk hy191
      clear hy191
      replace H := Option.bind_eq_some_iff.mp H
      obtain ⟨t194, A60, H⟩ := H
      replace H : (some t194) = some r := H
      have A6 := Aside0.mk A60
      clear A60
      obtain rfl := Option.some.inj H
      go_enter Try.func34, Try.ntmps34
      try go_wp2
      have n0_ := Aside0.mk (Kd.V_drew HO0.out)
      have n1_ := Aside0.mk (below_drew1 HB.out)
      clear HO0
      clear HB
      have HO0 := n0_
      have HB := n1_
      clear n0_ n1_
      refine start_ (n := 11) (S := fun w' => True) (ds := []) #[false, false, false, false, false, false, false, false, false, false, false] (by kernel_rfl) rfl rfl trivial (fun hHeld => ?_); refine with_tabW sha_Pad.tab2 sha_Pad.bits2 (fun HT_ HW_ => ?_)
      generalize w.drew = w7 at HO0 HB hHeld ⊢
      refine pure_ (i := 0) (N := some 9) (v := ?_) (a' := ?_) #[true, false, false, false, false, false, false, false, false, false, false] rfl rfl (any_of HT_.out (by kernel_rfl)) (fun _ _ _ h => h) (Or.inl ⟨by rfl, ?_⟩) ?_ ?_
      rotate_left
      · intro w'
        go_simp
        with_reducible rfl
      rotate_left
      · simp only [Act.put, List.setIfInBounds_toArray, List.set_cons_zero, List.set_cons_succ, i64_w, i32_w]
        rfl
      refine pure_ (i := 2) (N := some 11) (v := ?_) (a' := ?_) #[true, false, true, false, false, false, false, false, false, false, false] rfl rfl (any_of HT_.out (by kernel_rfl)) (fun _ _ _ h => h) (Or.inl ⟨by rfl, ?_⟩) ?_ ?_
      rotate_left
      · intro w'
        go_simp
        with_reducible rfl
      rotate_left
      · simp only [Act.put, List.setIfInBounds_toArray, List.set_cons_zero, List.set_cons_succ, i64_w, i32_w]
        rfl
      refine pure_ (i := 4) (N := some 13) (v := ?_) (a' := ?_) #[true, false, true, false, true, false, false, false, false, false, false] rfl rfl (any_of HT_.out (by kernel_rfl)) (fun _ _ _ h => h) (Or.inl ⟨by rfl, ?_⟩) ?_ ?_
      rotate_left
      · intro w'
        go_simp
        with_reducible rfl
      rotate_left
      · simp only [Act.put, List.setIfInBounds_toArray, List.set_cons_zero, List.set_cons_succ, i64_w, i32_w]
        rfl
      refine pure_ (i := 5) (N := some 14) (v := ?_) (a' := ?_) #[true, false, true, false, true, true, false, false, false, false, false] rfl rfl (any_of HT_.out (by kernel_rfl)) (fun _ _ _ h => h) (Or.inl ⟨by rfl, ?_⟩) ?_ ?_
      rotate_left
      · intro w'
        go_simp
        with_reducible rfl
      rotate_left
      · simp only [Act.put, List.setIfInBounds_toArray, List.set_cons_zero, List.set_cons_succ, i64_w, i32_w]
        rfl
      refine pure_ (i := 6) (N := some 15) (v := ?_) (a' := ?_) #[true, false, true, false, true, true, true, false, false, false, false] rfl rfl (any_of HT_.out (by kernel_rfl)) (fun _ _ _ h => h) (Or.inl ⟨by rfl, ?_⟩) ?_ ?_
      rotate_left
      · intro w'
        go_simp
        with_reducible rfl
      rotate_left
      · simp only [Act.put, List.setIfInBounds_toArray, List.set_cons_zero, List.set_cons_succ, i64_w, i32_w]
        rfl
      refine join_ (σ := Value × Value × Value) 3 #[true, true, true, true, true, true, true, true, false, false, false] (fun s_ => [(10, s_.1), (12, s_.2.1), (16, s_.2.2)]) (fun s_ w' => (Kd.V (Kd.int .u8) 5 w' w.heap.size (fun k_ => (P0_ k_ ∨ w.heap.size ≤ k_) ∧ some k_ ≠ (s_.1 : Value).ownBlock ∧ some k_ ≠ (s_.2.1 : Value).ownBlock ∧ some k_ ≠ (s_.2.2 : Value).ownBlock) (.slice A0 l0.length c0) l0) ∧ (Kd.R (Kd.int .u8) 5 w' w.heap.size (fun k_ => (w.heap.size ≤ k_) ∧ some k_ ≠ (s_.2.1 : Value).ownBlock ∧ some k_ ≠ (s_.2.2 : Value).ownBlock) s_.1 y182) ∧ (Kd.R (Kd.int .u8) 5 w' w.heap.size (fun k_ => (w.heap.size ≤ k_) ∧ some k_ ≠ (s_.1 : Value).ownBlock ∧ some k_ ≠ (s_.2.2 : Value).ownBlock) s_.2.1 y185) ∧ (Kd.R (Kd.int .u8) 5 w' w.heap.size (fun k_ => (w.heap.size ≤ k_) ∧ some k_ ≠ (s_.1 : Value).ownBlock ∧ some k_ ≠ (s_.2.1 : Value).ownBlock) s_.2.2 t188) ∧ (Below w.heap.size w w')) ?_ ?_
      rotate_left
      · intro hJ1_3_7
        refine join_ (σ := Value × Value) 4 #[true, true, true, true, true, true, true, false, false, false, false] (fun s_ => [(10, s_.1), (12, s_.2)]) (fun s_ w' => (Kd.V (Kd.int .u8) 5 w' w.heap.size (fun k_ => (P0_ k_ ∨ w.heap.size ≤ k_) ∧ some k_ ≠ (s_.1 : Value).ownBlock ∧ some k_ ≠ (s_.2 : Value).ownBlock) (.slice A0 l0.length c0) l0) ∧ (Kd.R (Kd.int .u8) 5 w' w.heap.size (fun k_ => (w.heap.size ≤ k_) ∧ some k_ ≠ (s_.2 : Value).ownBlock) s_.1 y182) ∧ (Kd.R (Kd.int .u8) 5 w' w.heap.size (fun k_ => (w.heap.size ≤ k_) ∧ some k_ ≠ (s_.1 : Value).ownBlock) s_.2 y185) ∧ (Below w.heap.size w w')) ?_ ?_
        rotate_left
        · intro hJ1_3
          refine join_ (σ := Value × Value) 4 #[true, true, true, false, true, true, true, true, false, false, false] (fun s_ => [(10, s_.1), (16, s_.2)]) (fun s_ w' => (Kd.V (Kd.int .u8) 5 w' w.heap.size (fun k_ => (P0_ k_ ∨ w.heap.size ≤ k_) ∧ some k_ ≠ (s_.1 : Value).ownBlock ∧ some k_ ≠ (s_.2 : Value).ownBlock) (.slice A0 l0.length c0) l0) ∧ (Kd.R (Kd.int .u8) 5 w' w.heap.size (fun k_ => (w.heap.size ≤ k_) ∧ some k_ ≠ (s_.2 : Value).ownBlock) s_.1 y182) ∧ (Kd.R (Kd.int .u8) 5 w' w.heap.size (fun k_ => (w.heap.size ≤ k_) ∧ some k_ ≠ (s_.1 : Value).ownBlock) s_.2 t188) ∧ (Below w.heap.size w w')) ?_ ?_
          rotate_left
          · intro hJ1_7
            refine join_ (σ := Value × Value) 4 #[true, false, true, true, true, true, true, true, false, false, false] (fun s_ => [(12, s_.1), (16, s_.2)]) (fun s_ w' => (Kd.V (Kd.int .u8) 5 w' w.heap.size (fun k_ => (P0_ k_ ∨ w.heap.size ≤ k_) ∧ some k_ ≠ (s_.1 : Value).ownBlock ∧ some k_ ≠ (s_.2 : Value).ownBlock) (.slice A0 l0.length c0) l0) ∧ (Kd.R (Kd.int .u8) 5 w' w.heap.size (fun k_ => (w.heap.size ≤ k_) ∧ some k_ ≠ (s_.2 : Value).ownBlock) s_.1 y185) ∧ (Kd.R (Kd.int .u8) 5 w' w.heap.size (fun k_ => (w.heap.size ≤ k_) ∧ some k_ ≠ (s_.1 : Value).ownBlock) s_.2 t188) ∧ (Below w.heap.size w w')) ?_ ?_
            rotate_left
            · intro hJ3_7
              refine join_ (σ := Value) 5 #[true, true, true, false, true, true, true, false, false, false, false] (fun s_ => [(10, s_)]) (fun s_ w' => (Kd.V (Kd.int .u8) 5 w' w.heap.size (fun k_ => (P0_ k_ ∨ w.heap.size ≤ k_) ∧ some k_ ≠ (s_ : Value).ownBlock) (.slice A0 l0.length c0) l0) ∧ (Kd.R (Kd.int .u8) 5 w' w.heap.size (fun k_ => (w.heap.size ≤ k_)) s_ y182) ∧ (Below w.heap.size w w')) ?_ ?_
              rotate_left
              · intro hJ1
                refine join_ (σ := Value) 5 #[true, false, true, true, true, true, true, false, false, false, false] (fun s_ => [(12, s_)]) (fun s_ w' => (Kd.V (Kd.int .u8) 5 w' w.heap.size (fun k_ => (P0_ k_ ∨ w.heap.size ≤ k_) ∧ some k_ ≠ (s_ : Value).ownBlock) (.slice A0 l0.length c0) l0) ∧ (Kd.R (Kd.int .u8) 5 w' w.heap.size (fun k_ => (w.heap.size ≤ k_)) s_ y185) ∧ (Below w.heap.size w w')) ?_ ?_
                rotate_left
                · intro hJ3
                  refine join_ (σ := Value) 5 #[true, false, true, false, true, true, true, true, false, false, false] (fun s_ => [(16, s_)]) (fun s_ w' => (Kd.V (Kd.int .u8) 5 w' w.heap.size (fun k_ => (P0_ k_ ∨ w.heap.size ≤ k_) ∧ some k_ ≠ (s_ : Value).ownBlock) (.slice A0 l0.length c0) l0) ∧ (Kd.R (Kd.int .u8) 5 w' w.heap.size (fun k_ => (w.heap.size ≤ k_)) s_ t188) ∧ (Below w.heap.size w w')) ?_ ?_
                  rotate_left
                  · intro hJ7
                    refine three_ (i := 1) (j := 3) (k := 7) (Ni := some 10) (Nj := some 12) (Nk := some 16) #[true, true, true, false, true, true, true, false, false, false, false] #[true, false, true, true, true, true, true, false, false, false, false] #[true, false, true, false, true, true, true, true, false, false, false] rfl rfl rfl rfl rfl rfl (three_of HT_.out (by kernel_rfl)) (by decide) (by decide) (by decide) (fun K hK => ?_) (fun K hK => ?_) (fun K hK => ?_)
                    · skip
                      refine Kd.R_lit_step (Kd.int .u8) _ 5 ?hg (N := 10) ?hd (xs := ([128] : List Int)) (inner := [.int .u8 128]) (ok := fun _ => True) (okp := fun _ => True) ?hr ?hp (fun _ hk => hk) trivial (Below.refl _ _) (Nat.le_refl _) (by simp) ?_; (case hd => rfl); (case hg => rfl); (case hr => first | (go_simp; done) | (go_simp; rfl)); (case hp => exact (Reps.one (show Kd.M (Kd.int .u8) _ _ _ 128 [.int .u8 128] from rfl) (Reps.none _ _)))
                      intro v183 w8 ho9 hb hg_ hnew_
                      clear hg_ hnew_
                      (first | rw [← Ny182.out] at ho9 | (simp only [Int.reduceToNat] at ho9; rw [← Ny182.out] at ho9))
                      have n0_ := Aside0.mk (Kd.V_elder' (by (with_reducible repeat (first | apply Kd.V_alloc | apply Kd.V_drewN | apply Kd.V_drew)); exact HO0.out) (Kd.R_base ho9) hb)
                      have n1_ := Aside0.mk (Kd.R_lower (Kd.R_newM (M := fun k_ => (w.heap.size ≤ k_)) ho9 (below_size (by repeat (first | (with_reducible first | exact HB.out | apply below_alloc | apply pw_below_drewN | apply below_drew1) | exact HB.out))) (fun k_ h_ => h_)) (below_size (by repeat (first | (with_reducible first | exact HB.out | apply below_alloc | apply pw_below_drewN | apply below_drew1) | exact HB.out))))
                      have n2_ := Aside0.mk (below_step (by repeat (first | (with_reducible first | exact HB.out | apply below_alloc | apply pw_below_drewN | apply below_drew1) | exact HB.out)) hb)
                      clear HO0
                      clear HB
                      have HO0 := n0_
                      have HO184 := n1_
                      have HB := n2_
                      clear n0_ n1_ n2_
                      clear hb ho9
                      refine hK.out _ _ trivial (fun hHeld => ?_)
                      clear hK K
                      refine norm_ (a' := ?_) ?_ ?_
                      rotate_left
                      · show Act.put _ (some 10) _ = _
                        simp only [Act.put, List.setIfInBounds_toArray, List.set_cons_zero, List.set_cons_succ, i64_w, i32_w]
                        rfl
                      exact norm_ (by first | (simp only [putAll, Act.put, List.setIfInBounds_toArray, List.set_cons_zero, List.set_cons_succ]; done) | (simp only [putAll, Act.put, List.setIfInBounds_toArray, List.set_cons_zero, List.set_cons_succ]; rfl)) (hJ1 (v183) _ ⟨(by (with_reducible repeat (first | apply Kd.V_alloc | apply Kd.V_drewN | apply Kd.V_drew)); exact HO0.out), (by (with_reducible repeat (first | apply Kd.R_alloc | apply Kd.R_drewN | apply Kd.R_drew)); exact Kd.R_mono HO184.out (fun _ hk => hk.1)), (by repeat (first | (with_reducible first | exact HB.out | apply below_alloc | apply pw_below_drewN | apply below_drew1) | exact HB.out))⟩)
                    · skip
                      refine Kd.R_make_step (Kd.int .u8) _ 5 (by rfl) (N := 12) rfl 23 _ _ rfl ji2 rfl rfl Try.underlying23 (.int .u8 0) 1 info5 rfl (by decide) (by omega) 0 (ok := fun _ => True) (okp := fun _ => True) rfl (fun _ hk => hk) trivial (of_decide_eq_true (by first | (with_reducible assumption) | assumption)) (Nat.le_trans (Nat.mul_le_mul_right _ (of_decide_eq_true (by first | (with_reducible assumption) | assumption) : ji2.toNat ≤ 281474976710656)) (by omega)) (Below.refl _ _) (Nat.le_refl _) ?_
                      intro v186 w8 ho9 hb hg_ hnew_
                      clear hg_ hnew_
                      (first | rw [← Ny185.out] at ho9 | (simp only [Int.reduceToNat] at ho9; rw [← Ny185.out] at ho9))
                      have n0_ := Aside0.mk (Kd.V_elder' (by (with_reducible repeat (first | apply Kd.V_alloc | apply Kd.V_drewN | apply Kd.V_drew)); exact HO0.out) (Kd.R_base ho9) hb)
                      have n1_ := Aside0.mk (Kd.R_lower (Kd.R_newM (M := fun k_ => (w.heap.size ≤ k_)) ho9 (below_size (by repeat (first | (with_reducible first | exact HB.out | apply below_alloc | apply pw_below_drewN | apply below_drew1) | exact HB.out))) (fun k_ h_ => h_)) (below_size (by repeat (first | (with_reducible first | exact HB.out | apply below_alloc | apply pw_below_drewN | apply below_drew1) | exact HB.out))))
                      have n2_ := Aside0.mk (below_step (by repeat (first | (with_reducible first | exact HB.out | apply below_alloc | apply pw_below_drewN | apply below_drew1) | exact HB.out)) hb)
                      clear HO0
                      clear HB
                      have HO0 := n0_
                      have HO187 := n1_
                      have HB := n2_
                      clear n0_ n1_ n2_
                      clear hb ho9
                      refine hK.out _ _ trivial (fun hHeld => ?_)
                      clear hK K
                      refine norm_ (a' := ?_) ?_ ?_
                      rotate_left
                      · show Act.put _ (some 12) _ = _
                        simp only [Act.put, List.setIfInBounds_toArray, List.set_cons_zero, List.set_cons_succ, i64_w, i32_w]
                        rfl
                      exact norm_ (by first | (simp only [putAll, Act.put, List.setIfInBounds_toArray, List.set_cons_zero, List.set_cons_succ]; done) | (simp only [putAll, Act.put, List.setIfInBounds_toArray, List.set_cons_zero, List.set_cons_succ]; rfl)) (hJ3 (v186) _ ⟨(by (with_reducible repeat (first | apply Kd.V_alloc | apply Kd.V_drewN | apply Kd.V_drew)); exact HO0.out), (by (with_reducible repeat (first | apply Kd.R_alloc | apply Kd.R_drewN | apply Kd.R_drew)); exact Kd.R_mono HO187.out (fun _ hk => hk.1)), (by repeat (first | (with_reducible first | exact HB.out | apply below_alloc | apply pw_below_drewN | apply below_drew1) | exact HB.out))⟩)
                    · skip
                      refine goes_ Try.func16 (by kernel_rfl) rfl #[.int .i64 (wrap64 (8 * (l0.length : Int))), .int .i64 8] (by rfl) rfl rfl (by (try simp only [List.map_toArray, List.map_cons, List.map_nil]); first | done | rfl | (simp only [List.length_drop, List.length_take]; rfl)) ?_
                      with_reducible refine (octets_Put.calls (wrap64 (8 * (l0.length : Int))) 8 t188 _ A5.out).mono ?_
                      rintro e w8 ⟨v189, rfl, ho0, hb⟩
                      refine ⟨_, rfl, ?_⟩
                      have n0_ := Aside0.mk (Kd.V_elder' (by (with_reducible repeat (first | apply Kd.V_alloc | apply Kd.V_drewN | apply Kd.V_drew)); exact HO0.out) (Kd.R_base ho0) hb)
                      have n1_ := Aside0.mk (Kd.R_lower (Kd.R_newM (M := fun k_ => (w.heap.size ≤ k_)) ho0 (below_size (by repeat (first | (with_reducible first | exact HB.out | apply below_alloc | apply pw_below_drewN | apply below_drew1) | exact HB.out))) (fun k_ h_ => h_)) (below_size (by repeat (first | (with_reducible first | exact HB.out | apply below_alloc | apply pw_below_drewN | apply below_drew1) | exact HB.out))))
                      have n2_ := Aside0.mk (below_step (by repeat (first | (with_reducible first | exact HB.out | apply below_alloc | apply pw_below_drewN | apply below_drew1) | exact HB.out)) hb)
                      clear HO0
                      clear HB
                      have HO0 := n0_
                      have HO190 := n1_
                      have HB := n2_
                      clear n0_ n1_ n2_
                      (try clear hb)
                      (try clear hb2)
                      (try clear hk)
                      (try clear hi)
                      (try clear ho0)
                      refine hK.out _ _ trivial (fun hHeld => ?_)
                      clear hK K
                      refine norm_ (a' := ?_) ?_ ?_
                      rotate_left
                      · show Act.put _ (some 16) _ = _
                        simp only [Act.put, List.setIfInBounds_toArray, List.set_cons_zero, List.set_cons_succ, i64_w, i32_w]
                        rfl
                      exact norm_ (by first | (simp only [putAll, Act.put, List.setIfInBounds_toArray, List.set_cons_zero, List.set_cons_succ]; done) | (simp only [putAll, Act.put, List.setIfInBounds_toArray, List.set_cons_zero, List.set_cons_succ]; rfl)) (hJ7 (v189) _ ⟨(by (with_reducible repeat (first | apply Kd.V_alloc | apply Kd.V_drewN | apply Kd.V_drew)); exact HO0.out), (by (with_reducible repeat (first | apply Kd.R_alloc | apply Kd.R_drewN | apply Kd.R_drew)); exact Kd.R_mono HO190.out (fun _ hk => hk.1)), (by repeat (first | (with_reducible first | exact HB.out | apply below_alloc | apply pw_below_drewN | apply below_drew1) | exact HB.out))⟩)
                  · skip
                    rintro v189 w9 ⟨h0_, h1_, h2_⟩
                    have n0_ : Aside0 (Kd.V (Kd.int .u8) 5 w9 w.heap.size (fun k_ => (P0_ k_ ∨ w.heap.size ≤ k_) ∧ some k_ ≠ (v189 : Value).ownBlock) (.slice A0 l0.length c0) l0) := ⟨h0_⟩
                    have n1_ : Aside0 (Kd.R (Kd.int .u8) 5 w9 w.heap.size (fun k_ => (w.heap.size ≤ k_)) v189 t188) := ⟨h1_⟩
                    have n2_ : Aside0 (Below w.heap.size w w9) := ⟨h2_⟩
                    clear HO0
                    clear HB
                    clear h0_ h1_ h2_
                    have HO0 := n0_
                    have HO190 := n1_
                    have HB := n2_
                    clear n0_ n1_ n2_
                    have hHeld := trivial
                    refine norm_ (a' := ?_) ?_ ?_
                    rotate_left
                    · simp only [putAll, Act.put, List.setIfInBounds_toArray, List.set_cons_zero, List.set_cons_succ]
                      rfl
                    refine two_ (i := 1) (j := 3) (Ni := some 10) (Nj := some 12) #[true, true, true, false, true, true, true, true, false, false, false] #[true, false, true, true, true, true, true, true, false, false, false] rfl rfl rfl rfl (two_of HT_.out (by kernel_rfl)) (by decide) (by decide) (fun K hK => ?_) (fun K hK => ?_)
                    · skip
                      refine Kd.R_lit_step (Kd.int .u8) _ 5 ?hg (N := 10) ?hd (xs := ([128] : List Int)) (inner := [.int .u8 128]) (ok := fun _ => True) (okp := fun _ => True) ?hr ?hp (fun _ hk => hk) trivial (Below.refl _ _) (Nat.le_refl _) (by simp) ?_; (case hd => rfl); (case hg => rfl); (case hr => first | (go_simp; done) | (go_simp; rfl)); (case hp => exact (Reps.one (show Kd.M (Kd.int .u8) _ _ _ 128 [.int .u8 128] from rfl) (Reps.none _ _)))
                      intro v183 w10 ho11 hb hg_ hnew_
                      clear hg_ hnew_
                      (first | rw [← Ny182.out] at ho11 | (simp only [Int.reduceToNat] at ho11; rw [← Ny182.out] at ho11))
                      have n0_ := Aside0.mk (Kd.V_elder' (by (with_reducible repeat (first | apply Kd.V_alloc | apply Kd.V_drewN | apply Kd.V_drew)); exact HO0.out) (Kd.R_base ho11) hb)
                      have n1_ := Aside0.mk (Kd.R_elder' (by (with_reducible repeat (first | apply Kd.R_alloc | apply Kd.R_drewN | apply Kd.R_drew)); exact HO190.out) (Kd.R_base ho11) hb)
                      have n2_ := Aside0.mk (Kd.R_lower (Kd.R_new' (Kd.R_newM (M := fun k_ => (w.heap.size ≤ k_)) ho11 (below_size (by repeat (first | (with_reducible first | exact HB.out | apply below_alloc | apply pw_below_drewN | apply below_drew1) | exact HB.out))) (fun k_ h_ => h_)) (Kd.R_lt (by (with_reducible repeat (first | apply Kd.R_alloc | apply Kd.R_drewN | apply Kd.R_drew)); exact HO190.out))) (below_size (by repeat (first | (with_reducible first | exact HB.out | apply below_alloc | apply pw_below_drewN | apply below_drew1) | exact HB.out))))
                      have n3_ := Aside0.mk (below_step (by repeat (first | (with_reducible first | exact HB.out | apply below_alloc | apply pw_below_drewN | apply below_drew1) | exact HB.out)) hb)
                      clear HO0
                      clear HO190
                      clear HB
                      have HO0 := n0_
                      have HO190 := n1_
                      have HO184 := n2_
                      have HB := n3_
                      clear n0_ n1_ n2_ n3_
                      clear hb ho11
                      refine hK.out _ _ trivial (fun hHeld => ?_)
                      clear hK K
                      refine norm_ (a' := ?_) ?_ ?_
                      rotate_left
                      · show Act.put _ (some 10) _ = _
                        simp only [Act.put, List.setIfInBounds_toArray, List.set_cons_zero, List.set_cons_succ, i64_w, i32_w]
                        rfl
                      exact norm_ (by first | (simp only [putAll, Act.put, List.setIfInBounds_toArray, List.set_cons_zero, List.set_cons_succ]; done) | (simp only [putAll, Act.put, List.setIfInBounds_toArray, List.set_cons_zero, List.set_cons_succ]; rfl)) (hJ1_7 (v183, v189) _ ⟨(by (with_reducible repeat (first | apply Kd.V_alloc | apply Kd.V_drewN | apply Kd.V_drew)); exact Kd.V_mono HO0.out (fun _ hk => ⟨hk.1.1, ⟨hk.2, hk.1.2⟩⟩)), (by (with_reducible repeat (first | apply Kd.R_alloc | apply Kd.R_drewN | apply Kd.R_drew)); exact Kd.R_mono HO184.out (fun _ hk => ⟨hk.1.1, hk.2⟩)), (by (with_reducible repeat (first | apply Kd.R_alloc | apply Kd.R_drewN | apply Kd.R_drew)); exact HO190.out), (by repeat (first | (with_reducible first | exact HB.out | apply below_alloc | apply pw_below_drewN | apply below_drew1) | exact HB.out))⟩)
                    · skip
                      refine Kd.R_make_step (Kd.int .u8) _ 5 (by rfl) (N := 12) rfl 23 _ _ rfl ji2 rfl rfl Try.underlying23 (.int .u8 0) 1 info5 rfl (by decide) (by omega) 0 (ok := fun _ => True) (okp := fun _ => True) rfl (fun _ hk => hk) trivial (of_decide_eq_true (by first | (with_reducible assumption) | assumption)) (Nat.le_trans (Nat.mul_le_mul_right _ (of_decide_eq_true (by first | (with_reducible assumption) | assumption) : ji2.toNat ≤ 281474976710656)) (by omega)) (Below.refl _ _) (Nat.le_refl _) ?_
                      intro v186 w10 ho11 hb hg_ hnew_
                      clear hg_ hnew_
                      (first | rw [← Ny185.out] at ho11 | (simp only [Int.reduceToNat] at ho11; rw [← Ny185.out] at ho11))
                      have n0_ := Aside0.mk (Kd.V_elder' (by (with_reducible repeat (first | apply Kd.V_alloc | apply Kd.V_drewN | apply Kd.V_drew)); exact HO0.out) (Kd.R_base ho11) hb)
                      have n1_ := Aside0.mk (Kd.R_elder' (by (with_reducible repeat (first | apply Kd.R_alloc | apply Kd.R_drewN | apply Kd.R_drew)); exact HO190.out) (Kd.R_base ho11) hb)
                      have n2_ := Aside0.mk (Kd.R_lower (Kd.R_new' (Kd.R_newM (M := fun k_ => (w.heap.size ≤ k_)) ho11 (below_size (by repeat (first | (with_reducible first | exact HB.out | apply below_alloc | apply pw_below_drewN | apply below_drew1) | exact HB.out))) (fun k_ h_ => h_)) (Kd.R_lt (by (with_reducible repeat (first | apply Kd.R_alloc | apply Kd.R_drewN | apply Kd.R_drew)); exact HO190.out))) (below_size (by repeat (first | (with_reducible first | exact HB.out | apply below_alloc | apply pw_below_drewN | apply below_drew1) | exact HB.out))))
                      have n3_ := Aside0.mk (below_step (by repeat (first | (with_reducible first | exact HB.out | apply below_alloc | apply pw_below_drewN | apply below_drew1) | exact HB.out)) hb)
                      clear HO0
                      clear HO190
                      clear HB
                      have HO0 := n0_
                      have HO190 := n1_
                      have HO187 := n2_
                      have HB := n3_
                      clear n0_ n1_ n2_ n3_
                      clear hb ho11
                      refine hK.out _ _ trivial (fun hHeld => ?_)
                      clear hK K
                      refine norm_ (a' := ?_) ?_ ?_
                      rotate_left
                      · show Act.put _ (some 12) _ = _
                        simp only [Act.put, List.setIfInBounds_toArray, List.set_cons_zero, List.set_cons_succ, i64_w, i32_w]
                        rfl
                      exact norm_ (by first | (simp only [putAll, Act.put, List.setIfInBounds_toArray, List.set_cons_zero, List.set_cons_succ]; done) | (simp only [putAll, Act.put, List.setIfInBounds_toArray, List.set_cons_zero, List.set_cons_succ]; rfl)) (hJ3_7 (v186, v189) _ ⟨(by (with_reducible repeat (first | apply Kd.V_alloc | apply Kd.V_drewN | apply Kd.V_drew)); exact Kd.V_mono HO0.out (fun _ hk => ⟨hk.1.1, ⟨hk.2, hk.1.2⟩⟩)), (by (with_reducible repeat (first | apply Kd.R_alloc | apply Kd.R_drewN | apply Kd.R_drew)); exact Kd.R_mono HO187.out (fun _ hk => ⟨hk.1.1, hk.2⟩)), (by (with_reducible repeat (first | apply Kd.R_alloc | apply Kd.R_drewN | apply Kd.R_drew)); exact HO190.out), (by repeat (first | (with_reducible first | exact HB.out | apply below_alloc | apply pw_below_drewN | apply below_drew1) | exact HB.out))⟩)
                · skip
                  rintro v186 w10 ⟨h0_, h1_, h2_⟩
                  have n0_ : Aside0 (Kd.V (Kd.int .u8) 5 w10 w.heap.size (fun k_ => (P0_ k_ ∨ w.heap.size ≤ k_) ∧ some k_ ≠ (v186 : Value).ownBlock) (.slice A0 l0.length c0) l0) := ⟨h0_⟩
                  have n1_ : Aside0 (Kd.R (Kd.int .u8) 5 w10 w.heap.size (fun k_ => (w.heap.size ≤ k_)) v186 y185) := ⟨h1_⟩
                  have n2_ : Aside0 (Below w.heap.size w w10) := ⟨h2_⟩
                  clear HO0
                  clear HB
                  clear h0_ h1_ h2_
                  have HO0 := n0_
                  have HO187 := n1_
                  have HB := n2_
                  clear n0_ n1_ n2_
                  have hHeld := trivial
                  refine norm_ (a' := ?_) ?_ ?_
                  rotate_left
                  · simp only [putAll, Act.put, List.setIfInBounds_toArray, List.set_cons_zero, List.set_cons_succ]
                    rfl
                  refine two_ (i := 1) (j := 7) (Ni := some 10) (Nj := some 16) #[true, true, true, true, true, true, true, false, false, false, false] #[true, false, true, true, true, true, true, true, false, false, false] rfl rfl rfl rfl (two_of HT_.out (by kernel_rfl)) (by decide) (by decide) (fun K hK => ?_) (fun K hK => ?_)
                  · skip
                    refine Kd.R_lit_step (Kd.int .u8) _ 5 ?hg (N := 10) ?hd (xs := ([128] : List Int)) (inner := [.int .u8 128]) (ok := fun _ => True) (okp := fun _ => True) ?hr ?hp (fun _ hk => hk) trivial (Below.refl _ _) (Nat.le_refl _) (by simp) ?_; (case hd => rfl); (case hg => rfl); (case hr => first | (go_simp; done) | (go_simp; rfl)); (case hp => exact (Reps.one (show Kd.M (Kd.int .u8) _ _ _ 128 [.int .u8 128] from rfl) (Reps.none _ _)))
                    intro v183 w11 ho12 hb hg_ hnew_
                    clear hg_ hnew_
                    (first | rw [← Ny182.out] at ho12 | (simp only [Int.reduceToNat] at ho12; rw [← Ny182.out] at ho12))
                    have n0_ := Aside0.mk (Kd.V_elder' (by (with_reducible repeat (first | apply Kd.V_alloc | apply Kd.V_drewN | apply Kd.V_drew)); exact HO0.out) (Kd.R_base ho12) hb)
                    have n1_ := Aside0.mk (Kd.R_elder' (by (with_reducible repeat (first | apply Kd.R_alloc | apply Kd.R_drewN | apply Kd.R_drew)); exact HO187.out) (Kd.R_base ho12) hb)
                    have n2_ := Aside0.mk (Kd.R_lower (Kd.R_new' (Kd.R_newM (M := fun k_ => (w.heap.size ≤ k_)) ho12 (below_size (by repeat (first | (with_reducible first | exact HB.out | apply below_alloc | apply pw_below_drewN | apply below_drew1) | exact HB.out))) (fun k_ h_ => h_)) (Kd.R_lt (by (with_reducible repeat (first | apply Kd.R_alloc | apply Kd.R_drewN | apply Kd.R_drew)); exact HO187.out))) (below_size (by repeat (first | (with_reducible first | exact HB.out | apply below_alloc | apply pw_below_drewN | apply below_drew1) | exact HB.out))))
                    have n3_ := Aside0.mk (below_step (by repeat (first | (with_reducible first | exact HB.out | apply below_alloc | apply pw_below_drewN | apply below_drew1) | exact HB.out)) hb)
                    clear HO0
                    clear HO187
                    clear HB
                    have HO0 := n0_
                    have HO187 := n1_
                    have HO184 := n2_
                    have HB := n3_
                    clear n0_ n1_ n2_ n3_
                    clear hb ho12
                    refine hK.out _ _ trivial (fun hHeld => ?_)
                    clear hK K
                    refine norm_ (a' := ?_) ?_ ?_
                    rotate_left
                    · show Act.put _ (some 10) _ = _
                      simp only [Act.put, List.setIfInBounds_toArray, List.set_cons_zero, List.set_cons_succ, i64_w, i32_w]
                      rfl
                    exact norm_ (by first | (simp only [putAll, Act.put, List.setIfInBounds_toArray, List.set_cons_zero, List.set_cons_succ]; done) | (simp only [putAll, Act.put, List.setIfInBounds_toArray, List.set_cons_zero, List.set_cons_succ]; rfl)) (hJ1_3 (v183, v186) _ ⟨(by (with_reducible repeat (first | apply Kd.V_alloc | apply Kd.V_drewN | apply Kd.V_drew)); exact Kd.V_mono HO0.out (fun _ hk => ⟨hk.1.1, ⟨hk.2, hk.1.2⟩⟩)), (by (with_reducible repeat (first | apply Kd.R_alloc | apply Kd.R_drewN | apply Kd.R_drew)); exact Kd.R_mono HO184.out (fun _ hk => ⟨hk.1.1, hk.2⟩)), (by (with_reducible repeat (first | apply Kd.R_alloc | apply Kd.R_drewN | apply Kd.R_drew)); exact HO187.out), (by repeat (first | (with_reducible first | exact HB.out | apply below_alloc | apply pw_below_drewN | apply below_drew1) | exact HB.out))⟩)
                  · skip
                    refine goes_ Try.func16 (by kernel_rfl) rfl #[.int .i64 (wrap64 (8 * (l0.length : Int))), .int .i64 8] (by rfl) rfl rfl (by (try simp only [List.map_toArray, List.map_cons, List.map_nil]); first | done | rfl | (simp only [List.length_drop, List.length_take]; rfl)) ?_
                    with_reducible refine (octets_Put.calls (wrap64 (8 * (l0.length : Int))) 8 t188 _ A5.out).mono ?_
                    rintro e w11 ⟨v189, rfl, ho0, hb⟩
                    refine ⟨_, rfl, ?_⟩
                    have n0_ := Aside0.mk (Kd.V_elder' (by (with_reducible repeat (first | apply Kd.V_alloc | apply Kd.V_drewN | apply Kd.V_drew)); exact HO0.out) (Kd.R_base ho0) hb)
                    have n1_ := Aside0.mk (Kd.R_elder' (by (with_reducible repeat (first | apply Kd.R_alloc | apply Kd.R_drewN | apply Kd.R_drew)); exact HO187.out) (Kd.R_base ho0) hb)
                    have n2_ := Aside0.mk (Kd.R_lower (Kd.R_new' (Kd.R_newM (M := fun k_ => (w.heap.size ≤ k_)) ho0 (below_size (by repeat (first | (with_reducible first | exact HB.out | apply below_alloc | apply pw_below_drewN | apply below_drew1) | exact HB.out))) (fun k_ h_ => h_)) (Kd.R_lt (by (with_reducible repeat (first | apply Kd.R_alloc | apply Kd.R_drewN | apply Kd.R_drew)); exact HO187.out))) (below_size (by repeat (first | (with_reducible first | exact HB.out | apply below_alloc | apply pw_below_drewN | apply below_drew1) | exact HB.out))))
                    have n3_ := Aside0.mk (below_step (by repeat (first | (with_reducible first | exact HB.out | apply below_alloc | apply pw_below_drewN | apply below_drew1) | exact HB.out)) hb)
                    clear HO0
                    clear HO187
                    clear HB
                    have HO0 := n0_
                    have HO187 := n1_
                    have HO190 := n2_
                    have HB := n3_
                    clear n0_ n1_ n2_ n3_
                    (try clear hb)
                    (try clear hb2)
                    (try clear hk)
                    (try clear hi)
                    (try clear ho0)
                    refine hK.out _ _ trivial (fun hHeld => ?_)
                    clear hK K
                    refine norm_ (a' := ?_) ?_ ?_
                    rotate_left
                    · show Act.put _ (some 16) _ = _
                      simp only [Act.put, List.setIfInBounds_toArray, List.set_cons_zero, List.set_cons_succ, i64_w, i32_w]
                      rfl
                    exact norm_ (by first | (simp only [putAll, Act.put, List.setIfInBounds_toArray, List.set_cons_zero, List.set_cons_succ]; done) | (simp only [putAll, Act.put, List.setIfInBounds_toArray, List.set_cons_zero, List.set_cons_succ]; rfl)) (hJ3_7 (v186, v189) _ ⟨(by (with_reducible repeat (first | apply Kd.V_alloc | apply Kd.V_drewN | apply Kd.V_drew)); exact Kd.V_mono HO0.out (fun _ hk => ⟨hk.1.1, ⟨hk.1.2, hk.2⟩⟩)), (by (with_reducible repeat (first | apply Kd.R_alloc | apply Kd.R_drewN | apply Kd.R_drew)); exact HO187.out), (by (with_reducible repeat (first | apply Kd.R_alloc | apply Kd.R_drewN | apply Kd.R_drew)); exact Kd.R_mono HO190.out (fun _ hk => ⟨hk.1.1, hk.2⟩)), (by repeat (first | (with_reducible first | exact HB.out | apply below_alloc | apply pw_below_drewN | apply below_drew1) | exact HB.out))⟩)
              · skip
                rintro v183 w10 ⟨h0_, h1_, h2_⟩
                have n0_ : Aside0 (Kd.V (Kd.int .u8) 5 w10 w.heap.size (fun k_ => (P0_ k_ ∨ w.heap.size ≤ k_) ∧ some k_ ≠ (v183 : Value).ownBlock) (.slice A0 l0.length c0) l0) := ⟨h0_⟩
                have n1_ : Aside0 (Kd.R (Kd.int .u8) 5 w10 w.heap.size (fun k_ => (w.heap.size ≤ k_)) v183 y182) := ⟨h1_⟩
                have n2_ : Aside0 (Below w.heap.size w w10) := ⟨h2_⟩
                clear HO0
                clear HB
                clear h0_ h1_ h2_
                have HO0 := n0_
                have HO184 := n1_
                have HB := n2_
                clear n0_ n1_ n2_
                have hHeld := trivial
                refine norm_ (a' := ?_) ?_ ?_
                rotate_left
                · simp only [putAll, Act.put, List.setIfInBounds_toArray, List.set_cons_zero, List.set_cons_succ]
                  rfl
                refine two_ (i := 3) (j := 7) (Ni := some 12) (Nj := some 16) #[true, true, true, true, true, true, true, false, false, false, false] #[true, true, true, false, true, true, true, true, false, false, false] rfl rfl rfl rfl (two_of HT_.out (by kernel_rfl)) (by decide) (by decide) (fun K hK => ?_) (fun K hK => ?_)
                · skip
                  refine Kd.R_make_step (Kd.int .u8) _ 5 (by rfl) (N := 12) rfl 23 _ _ rfl ji2 rfl rfl Try.underlying23 (.int .u8 0) 1 info5 rfl (by decide) (by omega) 0 (ok := fun _ => True) (okp := fun _ => True) rfl (fun _ hk => hk) trivial (of_decide_eq_true (by first | (with_reducible assumption) | assumption)) (Nat.le_trans (Nat.mul_le_mul_right _ (of_decide_eq_true (by first | (with_reducible assumption) | assumption) : ji2.toNat ≤ 281474976710656)) (by omega)) (Below.refl _ _) (Nat.le_refl _) ?_
                  intro v186 w11 ho12 hb hg_ hnew_
                  clear hg_ hnew_
                  (first | rw [← Ny185.out] at ho12 | (simp only [Int.reduceToNat] at ho12; rw [← Ny185.out] at ho12))
                  have n0_ := Aside0.mk (Kd.V_elder' (by (with_reducible repeat (first | apply Kd.V_alloc | apply Kd.V_drewN | apply Kd.V_drew)); exact HO0.out) (Kd.R_base ho12) hb)
                  have n1_ := Aside0.mk (Kd.R_elder' (by (with_reducible repeat (first | apply Kd.R_alloc | apply Kd.R_drewN | apply Kd.R_drew)); exact HO184.out) (Kd.R_base ho12) hb)
                  have n2_ := Aside0.mk (Kd.R_lower (Kd.R_new' (Kd.R_newM (M := fun k_ => (w.heap.size ≤ k_)) ho12 (below_size (by repeat (first | (with_reducible first | exact HB.out | apply below_alloc | apply pw_below_drewN | apply below_drew1) | exact HB.out))) (fun k_ h_ => h_)) (Kd.R_lt (by (with_reducible repeat (first | apply Kd.R_alloc | apply Kd.R_drewN | apply Kd.R_drew)); exact HO184.out))) (below_size (by repeat (first | (with_reducible first | exact HB.out | apply below_alloc | apply pw_below_drewN | apply below_drew1) | exact HB.out))))
                  have n3_ := Aside0.mk (below_step (by repeat (first | (with_reducible first | exact HB.out | apply below_alloc | apply pw_below_drewN | apply below_drew1) | exact HB.out)) hb)
                  clear HO0
                  clear HO184
                  clear HB
                  have HO0 := n0_
                  have HO184 := n1_
                  have HO187 := n2_
                  have HB := n3_
                  clear n0_ n1_ n2_ n3_
                  clear hb ho12
                  refine hK.out _ _ trivial (fun hHeld => ?_)
                  clear hK K
                  refine norm_ (a' := ?_) ?_ ?_
                  rotate_left
                  · show Act.put _ (some 12) _ = _
                    simp only [Act.put, List.setIfInBounds_toArray, List.set_cons_zero, List.set_cons_succ, i64_w, i32_w]
                    rfl
                  exact norm_ (by first | (simp only [putAll, Act.put, List.setIfInBounds_toArray, List.set_cons_zero, List.set_cons_succ]; done) | (simp only [putAll, Act.put, List.setIfInBounds_toArray, List.set_cons_zero, List.set_cons_succ]; rfl)) (hJ1_3 (v183, v186) _ ⟨(by (with_reducible repeat (first | apply Kd.V_alloc | apply Kd.V_drewN | apply Kd.V_drew)); exact Kd.V_mono HO0.out (fun _ hk => ⟨hk.1.1, ⟨hk.1.2, hk.2⟩⟩)), (by (with_reducible repeat (first | apply Kd.R_alloc | apply Kd.R_drewN | apply Kd.R_drew)); exact HO184.out), (by (with_reducible repeat (first | apply Kd.R_alloc | apply Kd.R_drewN | apply Kd.R_drew)); exact Kd.R_mono HO187.out (fun _ hk => ⟨hk.1.1, hk.2⟩)), (by repeat (first | (with_reducible first | exact HB.out | apply below_alloc | apply pw_below_drewN | apply below_drew1) | exact HB.out))⟩)
                · skip
                  refine goes_ Try.func16 (by kernel_rfl) rfl #[.int .i64 (wrap64 (8 * (l0.length : Int))), .int .i64 8] (by rfl) rfl rfl (by (try simp only [List.map_toArray, List.map_cons, List.map_nil]); first | done | rfl | (simp only [List.length_drop, List.length_take]; rfl)) ?_
                  with_reducible refine (octets_Put.calls (wrap64 (8 * (l0.length : Int))) 8 t188 _ A5.out).mono ?_
                  rintro e w11 ⟨v189, rfl, ho0, hb⟩
                  refine ⟨_, rfl, ?_⟩
                  have n0_ := Aside0.mk (Kd.V_elder' (by (with_reducible repeat (first | apply Kd.V_alloc | apply Kd.V_drewN | apply Kd.V_drew)); exact HO0.out) (Kd.R_base ho0) hb)
                  have n1_ := Aside0.mk (Kd.R_elder' (by (with_reducible repeat (first | apply Kd.R_alloc | apply Kd.R_drewN | apply Kd.R_drew)); exact HO184.out) (Kd.R_base ho0) hb)
                  have n2_ := Aside0.mk (Kd.R_lower (Kd.R_new' (Kd.R_newM (M := fun k_ => (w.heap.size ≤ k_)) ho0 (below_size (by repeat (first | (with_reducible first | exact HB.out | apply below_alloc | apply pw_below_drewN | apply below_drew1) | exact HB.out))) (fun k_ h_ => h_)) (Kd.R_lt (by (with_reducible repeat (first | apply Kd.R_alloc | apply Kd.R_drewN | apply Kd.R_drew)); exact HO184.out))) (below_size (by repeat (first | (with_reducible first | exact HB.out | apply below_alloc | apply pw_below_drewN | apply below_drew1) | exact HB.out))))
                  have n3_ := Aside0.mk (below_step (by repeat (first | (with_reducible first | exact HB.out | apply below_alloc | apply pw_below_drewN | apply below_drew1) | exact HB.out)) hb)
                  clear HO0
                  clear HO184
                  clear HB
                  have HO0 := n0_
                  have HO184 := n1_
                  have HO190 := n2_
                  have HB := n3_
                  clear n0_ n1_ n2_ n3_
                  (try clear hb)
                  (try clear hb2)
                  (try clear hk)
                  (try clear hi)
                  (try clear ho0)
                  refine hK.out _ _ trivial (fun hHeld => ?_)
                  clear hK K
                  refine norm_ (a' := ?_) ?_ ?_
                  rotate_left
                  · show Act.put _ (some 16) _ = _
                    simp only [Act.put, List.setIfInBounds_toArray, List.set_cons_zero, List.set_cons_succ, i64_w, i32_w]
                    rfl
                  exact norm_ (by first | (simp only [putAll, Act.put, List.setIfInBounds_toArray, List.set_cons_zero, List.set_cons_succ]; done) | (simp only [putAll, Act.put, List.setIfInBounds_toArray, List.set_cons_zero, List.set_cons_succ]; rfl)) (hJ1_7 (v183, v189) _ ⟨(by (with_reducible repeat (first | apply Kd.V_alloc | apply Kd.V_drewN | apply Kd.V_drew)); exact Kd.V_mono HO0.out (fun _ hk => ⟨hk.1.1, ⟨hk.1.2, hk.2⟩⟩)), (by (with_reducible repeat (first | apply Kd.R_alloc | apply Kd.R_drewN | apply Kd.R_drew)); exact HO184.out), (by (with_reducible repeat (first | apply Kd.R_alloc | apply Kd.R_drewN | apply Kd.R_drew)); exact Kd.R_mono HO190.out (fun _ hk => ⟨hk.1.1, hk.2⟩)), (by repeat (first | (with_reducible first | exact HB.out | apply below_alloc | apply pw_below_drewN | apply below_drew1) | exact HB.out))⟩)
            · skip
              rintro ⟨v186, v189⟩ w11 ⟨h0_, h1_, h2_, h3_⟩
              have n0_ : Aside0 (Kd.V (Kd.int .u8) 5 w11 w.heap.size (fun k_ => (P0_ k_ ∨ w.heap.size ≤ k_) ∧ some k_ ≠ (v186 : Value).ownBlock ∧ some k_ ≠ (v189 : Value).ownBlock) (.slice A0 l0.length c0) l0) := ⟨h0_⟩
              have n1_ : Aside0 (Kd.R (Kd.int .u8) 5 w11 w.heap.size (fun k_ => (w.heap.size ≤ k_) ∧ some k_ ≠ (v189 : Value).ownBlock) v186 y185) := ⟨h1_⟩
              have n2_ : Aside0 (Kd.R (Kd.int .u8) 5 w11 w.heap.size (fun k_ => (w.heap.size ≤ k_) ∧ some k_ ≠ (v186 : Value).ownBlock) v189 t188) := ⟨h2_⟩
              have n3_ : Aside0 (Below w.heap.size w w11) := ⟨h3_⟩
              clear HO0
              clear HB
              clear h0_ h1_ h2_ h3_
              have HO0 := n0_
              have HO187 := n1_
              have HO190 := n2_
              have HB := n3_
              clear n0_ n1_ n2_ n3_
              have hHeld := trivial
              refine norm_ (a' := ?_) ?_ ?_
              rotate_left
              · simp only [putAll, Act.put, List.setIfInBounds_toArray, List.set_cons_zero, List.set_cons_succ]
                rfl
              refine one_ (i := 1) (N := some 10) #[true, true, true, true, true, true, true, true, false, false, false] rfl rfl (one_of HT_.out (by kernel_rfl)) (by decide) (fun K hK => ?_)
              refine Kd.R_lit_step (Kd.int .u8) _ 5 ?hg (N := 10) ?hd (xs := ([128] : List Int)) (inner := [.int .u8 128]) (ok := fun _ => True) (okp := fun _ => True) ?hr ?hp (fun _ hk => hk) trivial (Below.refl _ _) (Nat.le_refl _) (by simp) ?_; (case hd => rfl); (case hg => rfl); (case hr => first | (go_simp; done) | (go_simp; rfl)); (case hp => exact (Reps.one (show Kd.M (Kd.int .u8) _ _ _ 128 [.int .u8 128] from rfl) (Reps.none _ _)))
              intro v183 w12 ho13 hb hg_ hnew_
              clear hg_ hnew_
              (first | rw [← Ny182.out] at ho13 | (simp only [Int.reduceToNat] at ho13; rw [← Ny182.out] at ho13))
              have n0_ := Aside0.mk (Kd.V_elder' (by (with_reducible repeat (first | apply Kd.V_alloc | apply Kd.V_drewN | apply Kd.V_drew)); exact HO0.out) (Kd.R_base ho13) hb)
              have n1_ := Aside0.mk (Kd.R_elder' (by (with_reducible repeat (first | apply Kd.R_alloc | apply Kd.R_drewN | apply Kd.R_drew)); exact HO187.out) (Kd.R_base ho13) hb)
              have n2_ := Aside0.mk (Kd.R_elder' (by (with_reducible repeat (first | apply Kd.R_alloc | apply Kd.R_drewN | apply Kd.R_drew)); exact HO190.out) (Kd.R_base ho13) hb)
              have n3_ := Aside0.mk (Kd.R_lower (Kd.R_new' (Kd.R_new' (Kd.R_newM (M := fun k_ => (w.heap.size ≤ k_)) ho13 (below_size (by repeat (first | (with_reducible first | exact HB.out | apply below_alloc | apply pw_below_drewN | apply below_drew1) | exact HB.out))) (fun k_ h_ => h_)) (Kd.R_lt (by (with_reducible repeat (first | apply Kd.R_alloc | apply Kd.R_drewN | apply Kd.R_drew)); exact HO187.out))) (Kd.R_lt (by (with_reducible repeat (first | apply Kd.R_alloc | apply Kd.R_drewN | apply Kd.R_drew)); exact HO190.out))) (below_size (by repeat (first | (with_reducible first | exact HB.out | apply below_alloc | apply pw_below_drewN | apply below_drew1) | exact HB.out))))
              have n4_ := Aside0.mk (below_step (by repeat (first | (with_reducible first | exact HB.out | apply below_alloc | apply pw_below_drewN | apply below_drew1) | exact HB.out)) hb)
              clear HO0
              clear HO187
              clear HO190
              clear HB
              have HO0 := n0_
              have HO187 := n1_
              have HO190 := n2_
              have HO184 := n3_
              have HB := n4_
              clear n0_ n1_ n2_ n3_ n4_
              clear hb ho13
              refine hK.out _ _ trivial (fun hHeld => ?_)
              clear hK K
              refine norm_ (a' := ?_) ?_ ?_
              rotate_left
              · show Act.put _ (some 10) _ = _
                simp only [Act.put, List.setIfInBounds_toArray, List.set_cons_zero, List.set_cons_succ, i64_w, i32_w]
                rfl
              exact norm_ (by first | (simp only [putAll, Act.put, List.setIfInBounds_toArray, List.set_cons_zero, List.set_cons_succ]; done) | (simp only [putAll, Act.put, List.setIfInBounds_toArray, List.set_cons_zero, List.set_cons_succ]; rfl)) (hJ1_3_7 (v183, v186, v189) _ ⟨(by (with_reducible repeat (first | apply Kd.V_alloc | apply Kd.V_drewN | apply Kd.V_drew)); exact Kd.V_mono HO0.out (fun _ hk => ⟨hk.1.1, ⟨hk.2, ⟨hk.1.2.1, hk.1.2.2⟩⟩⟩)), (by (with_reducible repeat (first | apply Kd.R_alloc | apply Kd.R_drewN | apply Kd.R_drew)); exact Kd.R_mono HO184.out (fun _ hk => ⟨hk.1.1.1, ⟨hk.1.2, hk.2⟩⟩)), (by (with_reducible repeat (first | apply Kd.R_alloc | apply Kd.R_drewN | apply Kd.R_drew)); exact Kd.R_mono HO187.out (fun _ hk => ⟨hk.1.1, ⟨hk.2, hk.1.2⟩⟩)), (by (with_reducible repeat (first | apply Kd.R_alloc | apply Kd.R_drewN | apply Kd.R_drew)); exact Kd.R_mono HO190.out (fun _ hk => ⟨hk.1.1, ⟨hk.2, hk.1.2⟩⟩)), (by repeat (first | (with_reducible first | exact HB.out | apply below_alloc | apply pw_below_drewN | apply below_drew1) | exact HB.out))⟩)
          · skip
            rintro ⟨v183, v189⟩ w11 ⟨h0_, h1_, h2_, h3_⟩
            have n0_ : Aside0 (Kd.V (Kd.int .u8) 5 w11 w.heap.size (fun k_ => (P0_ k_ ∨ w.heap.size ≤ k_) ∧ some k_ ≠ (v183 : Value).ownBlock ∧ some k_ ≠ (v189 : Value).ownBlock) (.slice A0 l0.length c0) l0) := ⟨h0_⟩
            have n1_ : Aside0 (Kd.R (Kd.int .u8) 5 w11 w.heap.size (fun k_ => (w.heap.size ≤ k_) ∧ some k_ ≠ (v189 : Value).ownBlock) v183 y182) := ⟨h1_⟩
            have n2_ : Aside0 (Kd.R (Kd.int .u8) 5 w11 w.heap.size (fun k_ => (w.heap.size ≤ k_) ∧ some k_ ≠ (v183 : Value).ownBlock) v189 t188) := ⟨h2_⟩
            have n3_ : Aside0 (Below w.heap.size w w11) := ⟨h3_⟩
            clear HO0
            clear HB
            clear h0_ h1_ h2_ h3_
            have HO0 := n0_
            have HO184 := n1_
            have HO190 := n2_
            have HB := n3_
            clear n0_ n1_ n2_ n3_
            have hHeld := trivial
            refine norm_ (a' := ?_) ?_ ?_
            rotate_left
            · simp only [putAll, Act.put, List.setIfInBounds_toArray, List.set_cons_zero, List.set_cons_succ]
              rfl
            refine one_ (i := 3) (N := some 12) #[true, true, true, true, true, true, true, true, false, false, false] rfl rfl (one_of HT_.out (by kernel_rfl)) (by decide) (fun K hK => ?_)
            refine Kd.R_make_step (Kd.int .u8) _ 5 (by rfl) (N := 12) rfl 23 _ _ rfl ji2 rfl rfl Try.underlying23 (.int .u8 0) 1 info5 rfl (by decide) (by omega) 0 (ok := fun _ => True) (okp := fun _ => True) rfl (fun _ hk => hk) trivial (of_decide_eq_true (by first | (with_reducible assumption) | assumption)) (Nat.le_trans (Nat.mul_le_mul_right _ (of_decide_eq_true (by first | (with_reducible assumption) | assumption) : ji2.toNat ≤ 281474976710656)) (by omega)) (Below.refl _ _) (Nat.le_refl _) ?_
            intro v186 w12 ho13 hb hg_ hnew_
            clear hg_ hnew_
            (first | rw [← Ny185.out] at ho13 | (simp only [Int.reduceToNat] at ho13; rw [← Ny185.out] at ho13))
            have n0_ := Aside0.mk (Kd.V_elder' (by (with_reducible repeat (first | apply Kd.V_alloc | apply Kd.V_drewN | apply Kd.V_drew)); exact HO0.out) (Kd.R_base ho13) hb)
            have n1_ := Aside0.mk (Kd.R_elder' (by (with_reducible repeat (first | apply Kd.R_alloc | apply Kd.R_drewN | apply Kd.R_drew)); exact HO184.out) (Kd.R_base ho13) hb)
            have n2_ := Aside0.mk (Kd.R_elder' (by (with_reducible repeat (first | apply Kd.R_alloc | apply Kd.R_drewN | apply Kd.R_drew)); exact HO190.out) (Kd.R_base ho13) hb)
            have n3_ := Aside0.mk (Kd.R_lower (Kd.R_new' (Kd.R_new' (Kd.R_newM (M := fun k_ => (w.heap.size ≤ k_)) ho13 (below_size (by repeat (first | (with_reducible first | exact HB.out | apply below_alloc | apply pw_below_drewN | apply below_drew1) | exact HB.out))) (fun k_ h_ => h_)) (Kd.R_lt (by (with_reducible repeat (first | apply Kd.R_alloc | apply Kd.R_drewN | apply Kd.R_drew)); exact HO184.out))) (Kd.R_lt (by (with_reducible repeat (first | apply Kd.R_alloc | apply Kd.R_drewN | apply Kd.R_drew)); exact HO190.out))) (below_size (by repeat (first | (with_reducible first | exact HB.out | apply below_alloc | apply pw_below_drewN | apply below_drew1) | exact HB.out))))
            have n4_ := Aside0.mk (below_step (by repeat (first | (with_reducible first | exact HB.out | apply below_alloc | apply pw_below_drewN | apply below_drew1) | exact HB.out)) hb)
            clear HO0
            clear HO184
            clear HO190
            clear HB
            have HO0 := n0_
            have HO184 := n1_
            have HO190 := n2_
            have HO187 := n3_
            have HB := n4_
            clear n0_ n1_ n2_ n3_ n4_
            clear hb ho13
            refine hK.out _ _ trivial (fun hHeld => ?_)
            clear hK K
            refine norm_ (a' := ?_) ?_ ?_
            rotate_left
            · show Act.put _ (some 12) _ = _
              simp only [Act.put, List.setIfInBounds_toArray, List.set_cons_zero, List.set_cons_succ, i64_w, i32_w]
              rfl
            exact norm_ (by first | (simp only [putAll, Act.put, List.setIfInBounds_toArray, List.set_cons_zero, List.set_cons_succ]; done) | (simp only [putAll, Act.put, List.setIfInBounds_toArray, List.set_cons_zero, List.set_cons_succ]; rfl)) (hJ1_3_7 (v183, v186, v189) _ ⟨(by (with_reducible repeat (first | apply Kd.V_alloc | apply Kd.V_drewN | apply Kd.V_drew)); exact Kd.V_mono HO0.out (fun _ hk => ⟨hk.1.1, ⟨hk.1.2.1, ⟨hk.2, hk.1.2.2⟩⟩⟩)), (by (with_reducible repeat (first | apply Kd.R_alloc | apply Kd.R_drewN | apply Kd.R_drew)); exact Kd.R_mono HO184.out (fun _ hk => ⟨hk.1.1, ⟨hk.2, hk.1.2⟩⟩)), (by (with_reducible repeat (first | apply Kd.R_alloc | apply Kd.R_drewN | apply Kd.R_drew)); exact Kd.R_mono HO187.out (fun _ hk => ⟨hk.1.1.1, ⟨hk.1.2, hk.2⟩⟩)), (by (with_reducible repeat (first | apply Kd.R_alloc | apply Kd.R_drewN | apply Kd.R_drew)); exact Kd.R_mono HO190.out (fun _ hk => ⟨hk.1.1, ⟨hk.1.2, hk.2⟩⟩)), (by repeat (first | (with_reducible first | exact HB.out | apply below_alloc | apply pw_below_drewN | apply below_drew1) | exact HB.out))⟩)
        · skip
          rintro ⟨v183, v186⟩ w12 ⟨h0_, h1_, h2_, h3_⟩
          have n0_ : Aside0 (Kd.V (Kd.int .u8) 5 w12 w.heap.size (fun k_ => (P0_ k_ ∨ w.heap.size ≤ k_) ∧ some k_ ≠ (v183 : Value).ownBlock ∧ some k_ ≠ (v186 : Value).ownBlock) (.slice A0 l0.length c0) l0) := ⟨h0_⟩
          have n1_ : Aside0 (Kd.R (Kd.int .u8) 5 w12 w.heap.size (fun k_ => (w.heap.size ≤ k_) ∧ some k_ ≠ (v186 : Value).ownBlock) v183 y182) := ⟨h1_⟩
          have n2_ : Aside0 (Kd.R (Kd.int .u8) 5 w12 w.heap.size (fun k_ => (w.heap.size ≤ k_) ∧ some k_ ≠ (v183 : Value).ownBlock) v186 y185) := ⟨h2_⟩
          have n3_ : Aside0 (Below w.heap.size w w12) := ⟨h3_⟩
          clear HO0
          clear HB
          clear h0_ h1_ h2_ h3_
          have HO0 := n0_
          have HO184 := n1_
          have HO187 := n2_
          have HB := n3_
          clear n0_ n1_ n2_ n3_
          have hHeld := trivial
          refine norm_ (a' := ?_) ?_ ?_
          rotate_left
          · simp only [putAll, Act.put, List.setIfInBounds_toArray, List.set_cons_zero, List.set_cons_succ]
            rfl
          refine one_ (i := 7) (N := some 16) #[true, true, true, true, true, true, true, true, false, false, false] rfl rfl (one_of HT_.out (by kernel_rfl)) (by decide) (fun K hK => ?_)
          refine goes_ Try.func16 (by kernel_rfl) rfl #[.int .i64 (wrap64 (8 * (l0.length : Int))), .int .i64 8] (by rfl) rfl rfl (by (try simp only [List.map_toArray, List.map_cons, List.map_nil]); first | done | rfl | (simp only [List.length_drop, List.length_take]; rfl)) ?_
          with_reducible refine (octets_Put.calls (wrap64 (8 * (l0.length : Int))) 8 t188 _ A5.out).mono ?_
          rintro e w13 ⟨v189, rfl, ho0, hb⟩
          refine ⟨_, rfl, ?_⟩
          have n0_ := Aside0.mk (Kd.V_elder' (by (with_reducible repeat (first | apply Kd.V_alloc | apply Kd.V_drewN | apply Kd.V_drew)); exact HO0.out) (Kd.R_base ho0) hb)
          have n1_ := Aside0.mk (Kd.R_elder' (by (with_reducible repeat (first | apply Kd.R_alloc | apply Kd.R_drewN | apply Kd.R_drew)); exact HO184.out) (Kd.R_base ho0) hb)
          have n2_ := Aside0.mk (Kd.R_elder' (by (with_reducible repeat (first | apply Kd.R_alloc | apply Kd.R_drewN | apply Kd.R_drew)); exact HO187.out) (Kd.R_base ho0) hb)
          have n3_ := Aside0.mk (Kd.R_lower (Kd.R_new' (Kd.R_new' (Kd.R_newM (M := fun k_ => (w.heap.size ≤ k_)) ho0 (below_size (by repeat (first | (with_reducible first | exact HB.out | apply below_alloc | apply pw_below_drewN | apply below_drew1) | exact HB.out))) (fun k_ h_ => h_)) (Kd.R_lt (by (with_reducible repeat (first | apply Kd.R_alloc | apply Kd.R_drewN | apply Kd.R_drew)); exact HO184.out))) (Kd.R_lt (by (with_reducible repeat (first | apply Kd.R_alloc | apply Kd.R_drewN | apply Kd.R_drew)); exact HO187.out))) (below_size (by repeat (first | (with_reducible first | exact HB.out | apply below_alloc | apply pw_below_drewN | apply below_drew1) | exact HB.out))))
          have n4_ := Aside0.mk (below_step (by repeat (first | (with_reducible first | exact HB.out | apply below_alloc | apply pw_below_drewN | apply below_drew1) | exact HB.out)) hb)
          clear HO0
          clear HO184
          clear HO187
          clear HB
          have HO0 := n0_
          have HO184 := n1_
          have HO187 := n2_
          have HO190 := n3_
          have HB := n4_
          clear n0_ n1_ n2_ n3_ n4_
          (try clear hb)
          (try clear hb2)
          (try clear hk)
          (try clear hi)
          (try clear ho0)
          refine hK.out _ _ trivial (fun hHeld => ?_)
          clear hK K
          refine norm_ (a' := ?_) ?_ ?_
          rotate_left
          · show Act.put _ (some 16) _ = _
            simp only [Act.put, List.setIfInBounds_toArray, List.set_cons_zero, List.set_cons_succ, i64_w, i32_w]
            rfl
          exact norm_ (by first | (simp only [putAll, Act.put, List.setIfInBounds_toArray, List.set_cons_zero, List.set_cons_succ]; done) | (simp only [putAll, Act.put, List.setIfInBounds_toArray, List.set_cons_zero, List.set_cons_succ]; rfl)) (hJ1_3_7 (v183, v186, v189) _ ⟨(by (with_reducible repeat (first | apply Kd.V_alloc | apply Kd.V_drewN | apply Kd.V_drew)); exact Kd.V_mono HO0.out (fun _ hk => ⟨hk.1.1, ⟨hk.1.2.1, ⟨hk.1.2.2, hk.2⟩⟩⟩)), (by (with_reducible repeat (first | apply Kd.R_alloc | apply Kd.R_drewN | apply Kd.R_drew)); exact Kd.R_mono HO184.out (fun _ hk => ⟨hk.1.1, ⟨hk.1.2, hk.2⟩⟩)), (by (with_reducible repeat (first | apply Kd.R_alloc | apply Kd.R_drewN | apply Kd.R_drew)); exact Kd.R_mono HO187.out (fun _ hk => ⟨hk.1.1, ⟨hk.1.2, hk.2⟩⟩)), (by (with_reducible repeat (first | apply Kd.R_alloc | apply Kd.R_drewN | apply Kd.R_drew)); exact Kd.R_mono HO190.out (fun _ hk => ⟨hk.1.1.1, ⟨hk.1.2, hk.2⟩⟩)), (by repeat (first | (with_reducible first | exact HB.out | apply below_alloc | apply pw_below_drewN | apply below_drew1) | exact HB.out))⟩)
      rintro ⟨v183, v186, v189⟩ w13 ⟨h0_, h1_, h2_, h3_, h4_⟩
      have n0_ : Aside0 (Kd.V (Kd.int .u8) 5 w13 w.heap.size (fun k_ => (P0_ k_ ∨ w.heap.size ≤ k_) ∧ some k_ ≠ (v183 : Value).ownBlock ∧ some k_ ≠ (v186 : Value).ownBlock ∧ some k_ ≠ (v189 : Value).ownBlock) (.slice A0 l0.length c0) l0) := ⟨h0_⟩
      have n1_ : Aside0 (Kd.R (Kd.int .u8) 5 w13 w.heap.size (fun k_ => (w.heap.size ≤ k_) ∧ some k_ ≠ (v186 : Value).ownBlock ∧ some k_ ≠ (v189 : Value).ownBlock) v183 y182) := ⟨h1_⟩
      have n2_ : Aside0 (Kd.R (Kd.int .u8) 5 w13 w.heap.size (fun k_ => (w.heap.size ≤ k_) ∧ some k_ ≠ (v183 : Value).ownBlock ∧ some k_ ≠ (v189 : Value).ownBlock) v186 y185) := ⟨h2_⟩
      have n3_ : Aside0 (Kd.R (Kd.int .u8) 5 w13 w.heap.size (fun k_ => (w.heap.size ≤ k_) ∧ some k_ ≠ (v183 : Value).ownBlock ∧ some k_ ≠ (v186 : Value).ownBlock) v189 t188) := ⟨h3_⟩
      have n4_ : Aside0 (Below w.heap.size w w13) := ⟨h4_⟩
      clear HO0
      clear HB
      clear h0_ h1_ h2_ h3_ h4_
      have HO0 := n0_
      have HO184 := n1_
      have HO187 := n2_
      have HO190 := n3_
      have HB := n4_
      clear n0_ n1_ n2_ n3_ n4_
      have hHeld := trivial
      obtain ⟨Ao14, co14, eo14⟩ := Kd.R_slice HO184.out
      (first | subst eo14 | (injection eo14 with f1_ f2_ f3_; have f4_ := f1_.symm; have f5_ := f3_.symm; clear f1_ f2_ f3_; subst f4_; subst f5_))
      obtain ⟨Ao15, co15, eo15⟩ := Kd.R_slice HO187.out
      (first | subst eo15 | (injection eo15 with f1_ f2_ f3_; have f4_ := f1_.symm; have f5_ := f3_.symm; clear f1_ f2_ f3_; subst f4_; subst f5_))
      obtain ⟨Ao16, co16, eo16⟩ := Kd.R_slice HO190.out
      (first | subst eo16 | (injection eo16 with f1_ f2_ f3_; have f4_ := f1_.symm; have f5_ := f3_.symm; clear f1_ f2_ f3_; subst f4_; subst f5_))
      refine norm_ (a' := ?_) ?_ ?_
      rotate_left
      · simp only [putAll, Act.put, List.setIfInBounds_toArray, List.set_cons_zero, List.set_cons_succ]
        rfl
      refine one_ (i := 8) (N := some 17) #[true, true, true, true, true, true, true, true, true, false, false] rfl rfl (one_of HT_.out (by kernel_rfl)) (by decide) (fun K hK => ?_)
      refine Kd.N_lit_step (Kd.slice 5 (Kd.int .u8)) _ 23 ?hg (N' := 17) ?hd (xs := ([l0, y182, y185, t188] : List (List Int))) (inner := [.slice A0 l0.length c0, .slice Ao14 y182.length co14, .slice Ao15 y185.length co15, .slice Ao16 t188.length co16]) (ok := (fun k_ => (P0_ k_ ∨ w.heap.size ≤ k_))) (okp := (fun k_ => (P0_ k_ ∨ w.heap.size ≤ k_))) ?hr ?hp (fun _ hk => hk) ((show ∀ k_, w13.heap.size ≤ k_ → (fun k_ => (P0_ k_ ∨ w.heap.size ≤ k_)) k_ from fun k_ hk => (.inr (Nat.le_trans (below_size (by repeat (first | (with_reducible first | exact HB.out | apply below_alloc | apply pw_below_drewN | apply below_drew1) | exact HB.out))) hk))) _ (Nat.le_refl _)) (Below.refl _ _) (Nat.le_refl _) (by simp) ?_; (case hd => rfl); (case hg => rfl); (case hr => first | (go_simp; done) | (go_simp; rfl)); (case hp => exact (Reps.one (show Kd.FK (Kd.slice 5 (Kd.int .u8)) _ _ l0 [.slice A0 l0.length c0] from (Kd.FK_slice_mk (Kd.V_reads' (Kd.V_mono (ok' := (fun k_ => (P0_ k_ ∨ w.heap.size ≤ k_))) (HO0.out) (fun k_ hk => hk.1))).2.1 (Kd.V_F (Kd.V_mono (ok' := (fun k_ => (P0_ k_ ∨ w.heap.size ≤ k_))) (HO0.out) (fun k_ hk => hk.1))))) (Reps.one (show Kd.FK (Kd.slice 5 (Kd.int .u8)) _ _ y182 [.slice Ao14 y182.length co14] from (Kd.FK_slice_mk (Kd.R_reads' (Kd.R_mono (ok' := (fun k_ => (P0_ k_ ∨ w.heap.size ≤ k_))) (HO184.out) (fun k_ hk => (.inr (hk.1))))).2.1 (Kd.R_F (Kd.R_mono (ok' := (fun k_ => (P0_ k_ ∨ w.heap.size ≤ k_))) (HO184.out) (fun k_ hk => (.inr (hk.1))))))) (Reps.one (show Kd.FK (Kd.slice 5 (Kd.int .u8)) _ _ y185 [.slice Ao15 y185.length co15] from (Kd.FK_slice_mk (Kd.R_reads' (Kd.R_mono (ok' := (fun k_ => (P0_ k_ ∨ w.heap.size ≤ k_))) (HO187.out) (fun k_ hk => (.inr (hk.1))))).2.1 (Kd.R_F (Kd.R_mono (ok' := (fun k_ => (P0_ k_ ∨ w.heap.size ≤ k_))) (HO187.out) (fun k_ hk => (.inr (hk.1))))))) (Reps.one (show Kd.FK (Kd.slice 5 (Kd.int .u8)) _ _ t188 [.slice Ao16 t188.length co16] from (Kd.FK_slice_mk (Kd.R_reads' (Kd.R_mono (ok' := (fun k_ => (P0_ k_ ∨ w.heap.size ≤ k_))) (HO190.out) (fun k_ hk => (.inr (hk.1))))).2.1 (Kd.R_F (Kd.R_mono (ok' := (fun k_ => (P0_ k_ ∨ w.heap.size ≤ k_))) (HO190.out) (fun k_ hk => (.inr (hk.1))))))) (Reps.none _ _))))))
      intro v192 w17 ho18 hb hg_ hnew_
      clear hg_ hnew_
      (first | rw [← Ny191.out] at ho18 | (simp only [Int.reduceToNat] at ho18; rw [← Ny191.out] at ho18))
      have n0_ := Aside0.mk (Kd.V_elder' (by (with_reducible repeat (first | apply Kd.V_alloc | apply Kd.V_drewN | apply Kd.V_drew)); exact HO0.out) (Kd.N_base ho18) hb)
      have n1_ := Aside0.mk (Kd.N_lower ho18 (below_size (by repeat (first | (with_reducible first | exact HB.out | apply below_alloc | apply pw_below_drewN | apply below_drew1) | exact HB.out))))
      have n2_ := Aside0.mk (below_step (by repeat (first | (with_reducible first | exact HB.out | apply below_alloc | apply pw_below_drewN | apply below_drew1) | exact HB.out)) hb)
      clear HO0
      clear HB
      clear HO184
      clear HO187
      clear HO190
      have HO0 := n0_
      have HO193 := n1_
      have HB := n2_
      clear n0_ n1_ n2_
      clear hb ho18
      obtain ⟨Ao19, co19, eo19⟩ := Kd.N_slice HO193.out
      (first | subst eo19 | (injection eo19 with f1_ f2_ f3_; have f4_ := f1_.symm; have f5_ := f3_.symm; clear f1_ f2_ f3_; subst f4_; subst f5_))
      refine hK.out _ _ trivial (fun hHeld => ?_)
      clear hK K
      refine norm_ (a' := ?_) ?_ ?_
      rotate_left
      · show Act.put _ (some 17) _ = _
        simp only [Act.put, List.setIfInBounds_toArray, List.set_cons_zero, List.set_cons_succ, i64_w, i32_w]
        rfl
      refine one_ (i := 9) (N := some 18) #[true, true, true, true, true, true, true, true, true, true, false] rfl rfl (one_of HT_.out (by kernel_rfl)) (by decide) (fun K hK => ?_)
      refine goes_ Try.func20 (by kernel_rfl) rfl #[.slice Ao19 y191.length co19] (by rfl) rfl rfl (by (try simp only [List.map_toArray, List.map_cons, List.map_nil]); first | done | rfl | (simp only [List.length_drop, List.length_take]; rfl)) ?_
      with_reducible refine (octets_Join.calls k _ _ y191 t194 _ ?side1 ?side2 A6.out).mono ?_
      (case side1 => repeat (first | exact (Kd.N_reads' HO193.out).2.2 | (with_reducible refine Kd.C_alloc ?_ _) | (with_reducible refine Kd.C_drewN ?_ _) | (with_reducible refine Kd.C_drew ?_)))
      (case side2 => exact (Kd.N_reads' HO193.out).2.1)
      rintro e w20 ⟨v195, rfl, ho0, hb⟩
      refine ⟨_, rfl, ?_⟩
      have n0_ := Aside0.mk (Kd.V_elder' (by (with_reducible repeat (first | apply Kd.V_alloc | apply Kd.V_drewN | apply Kd.V_drew)); exact HO0.out) (Kd.R_base ho0) hb)
      have n1_ := Aside0.mk (Kd.N_elder' (by (with_reducible repeat (first | apply Kd.N_alloc | apply Kd.N_drewN | apply Kd.N_drew)); exact HO193.out) (Kd.R_base ho0) hb)
      have n2_ := Aside0.mk (Kd.R_lower (Kd.R_newM (M := fun k_ => (w.heap.size ≤ k_)) ho0 (below_size (by repeat (first | (with_reducible first | exact HB.out | apply below_alloc | apply pw_below_drewN | apply below_drew1) | exact HB.out))) (fun k_ h_ => h_)) (below_size (by repeat (first | (with_reducible first | exact HB.out | apply below_alloc | apply pw_below_drewN | apply below_drew1) | exact HB.out))))
      have n3_ := Aside0.mk (below_step (by repeat (first | (with_reducible first | exact HB.out | apply below_alloc | apply pw_below_drewN | apply below_drew1) | exact HB.out)) hb)
      clear HO0
      clear HO193
      clear HB
      have HO0 := n0_
      have HO193 := n1_
      have HO196 := n2_
      have HB := n3_
      clear n0_ n1_ n2_ n3_
      (try clear hb)
      (try clear hb2)
      (try clear hk)
      (try clear hi)
      (try clear ho0)
      refine hK.out _ _ trivial (fun hHeld => ?_)
      clear hK K
      refine norm_ (a' := ?_) ?_ ?_
      rotate_left
      · show Act.put _ (some 18) _ = _
        simp only [Act.put, List.setIfInBounds_toArray, List.set_cons_zero, List.set_cons_succ, i64_w, i32_w]
        rfl
      refine pure_ (i := 10) (N := some 2) (v := ?_) (a' := ?_) #[true, true, true, true, true, true, true, true, true, true, true] rfl rfl (any_of HT_.out (by kernel_rfl)) (fun _ _ _ h => h) (Or.inl ⟨by rfl, ?_⟩) ?_ ?_
      rotate_left
      · intro w'
        go_simp
        with_reducible rfl
      rotate_left
      · simp only [Act.put, List.setIfInBounds_toArray, List.set_cons_zero, List.set_cons_succ, i64_w, i32_w]
        rfl
      refine done_ (done_of HT_.out (by kernel_rfl)) ?_
      try go_wp2
      go_ret
      exact ⟨_, by first | rfl | (simp [errW_none, errW_some] <;> rfl) | (simp only [← hji2]; first | rfl | (simp [errW_none, errW_some] <;> rfl)) | (simp [*, errW_none, errW_some] <;> rfl), by (with_reducible repeat (first | apply Kd.R_alloc | apply Kd.R_drewN | apply Kd.R_drew)); exact Kd.R_mono HO196.out (fun _ hk => hk.1), by repeat (first | (with_reducible first | exact HB.out | apply below_alloc | apply pw_below_drewN | apply below_drew1) | exact HB.out)⟩
    · rw [if_neg c4] at H
      exact absurd H (by simp)
  · rw [if_neg c3] at H
    exact absurd H (by simp)

end Go.Proofs.Ytclmikbbjhdplaa.X
-- Written by a program of this session (a turn of the kit's print with contracts by hand). Not trusted: Lean checks it.
namespace Go.Proofs.Ytclmikbbjhdplaa.X
open Go.RowKit Go.Proofs.YtclmikbbjhdplaaW.PrintWords Go.Proofs.YtclmikbbjhdplaaW.PrintLast Go.Proofs.YtclmikbbjhdplaaW.PrintMore
attribute [local go_sem] max2_int min2_int max_two min_two max_three min_three max_four min_four   -- for this text's walks alone
set_option linter.unusedVariables false
set_option linter.unusedSimpArgs false

/-! ### octets_Words: function 18 -/
def octets_Words.l0 : Nat → List Int → List Int → Int → Int → Option (List Int)
  | 0, _, _, _, _ => none
  | k + 1, x3, x10, x11, x12 => if x12 < x11 then (if 0 ≤ x12 then (if x12 < (x10.length : Int) then ((some (([((rd x10 x12) / 16777216) % 256, ((rd x10 x12) / 65536) % 256, ((rd x10 x12) / 256) % 256, (rd x10 x12) % 256] : List Int) : List Int)).bind fun y115 => (if x3.length + y115.length < 140737488355328 then (octets_Words.l0 k (x3 ++ y115) x10 x11 (wrap64 (x12 + 1))) else (none))) else (none)) else (none)) else (some x3)
def octets_Words.f (k : Nat) (l0 : List Int) : Option (List Int) := if 0 ≤ (wrap64 (4 * (l0.length : Int))) then (if (wrap64 (4 * (l0.length : Int)) : Int).toNat ≤ 281474976710656 then (octets_Words.l0 k (List.replicate 0 0) l0 (l0.length : Int) 0) else (none)) else (none)
theorem octets_Words.mono_l : ∀ k, (∀ y0 y1 y2 y3, LeO (octets_Words.l0 k y0 y1 y2 y3) (octets_Words.l0 (k + 1) y0 y1 y2 y3))
  | 0 => fun _ _ _ _ r h => by simp [octets_Words.l0] at h
  | k + 1 => by
    have ih0 := octets_Words.mono_l k
    · intro y0 y1 y2 y3
      unfold octets_Words.l0
      repeat' first
      | (with_reducible exact ih0 _ _ _ _)
      | (with_reducible exact LeO.refl _)
      | (with_reducible exact LeO.none _)
      | (with_reducible refine LeO.ite ?_ ?_)
      | (with_reducible refine LeO.bind ?_ (fun _ => ?_))
      | exact ih0 _ _ _ _
      | exact LeO.none _
      | refine LeO.ite ?_ ?_
      | refine LeO.bind ?_ (fun _ => ?_)
theorem octets_Words.mono : ∀ a0 k, LeO (octets_Words.f k a0) (octets_Words.f (k + 1) a0) := by
  intro a0 k
  have ih0 := octets_Words.mono_l k
  unfold octets_Words.f
  repeat' first
      | (with_reducible exact ih0 _ _ _ _)
      | (with_reducible exact LeO.refl _)
      | (with_reducible exact LeO.none _)
      | (with_reducible refine LeO.ite ?_ ?_)
      | (with_reducible refine LeO.bind ?_ (fun _ => ?_))
      | exact ih0 _ _ _ _
      | exact LeO.none _
      | refine LeO.ite ?_ ?_
      | refine LeO.bind ?_ (fun _ => ?_)
set_option maxHeartbeats 8000000 in
set_option maxRecDepth 100000 in
theorem octets_Words.calls (k : Nat) (A0 : Option Addr) (c0 : Nat) (l0 : List Int) (r : List Int) (w : World) (hr0 : Kd.C (Kd.int .u32) w A0 l0.length l0) (hc0 : l0.length ≤ c0) (h : octets_Words.f k l0 = some r) :
    Calls Try.prog 18 #[.slice A0 l0.length c0] w fun e w' => ∃ v0_ : Value, e = .returned (v0_) ∧ Kd.R (Kd.int .u8) 5 w' w.heap.size (fun _ => True) v0_ r ∧ Below w.heap.size w w' := by
  have HR0 := Aside0.mk hr0
  have HC0 := Aside0.mk hc0
  clear hr0 hc0
  have HB := Aside0.mk (Below.refl w.heap.size w)
  have H : (if 0 ≤ (wrap64 (4 * (l0.length : Int))) then (if (wrap64 (4 * (l0.length : Int)) : Int).toNat ≤ 281474976710656 then (octets_Words.l0 k (List.replicate 0 0) l0 (l0.length : Int) 0) else (none)) else (none)) = some r := h
  clear h
  obtain ⟨ji2, hji2⟩ : ∃ j_ : Int, (wrap64 (4 * (l0.length : Int))) = j_ := ⟨_, rfl⟩
  replace H : (if 0 ≤ (ji2) then (if (ji2 : Int).toNat ≤ 281474976710656 then (octets_Words.l0 k (List.replicate 0 0) l0 (l0.length : Int) 0) else (none)) else (none)) = some r := by first | (rw [hji2] at H; exact H) | (simp only [hji2] at H ⊢; exact H)
  have hji2w : (IntKind.i64.wrap (4 * (l0.length : Int))) = ji2 := (i64_w _).trans hji2
  by_cases c3 : 0 ≤ (ji2)
  · rw [if_pos c3] at H
    have c3b0 := eq_true c3
    have c3b1 : decide (0 ≤ (ji2)) = true := decide_eq_true c3
    clear c3
    by_cases c4 : (ji2 : Int).toNat ≤ 281474976710656
    · rw [if_pos c4] at H
      have c4b0 := eq_true c4
      have c4b1 : decide ((ji2 : Int).toNat ≤ 281474976710656) = true := decide_eq_true c4
      clear c4
      obtain ⟨y111, hy111⟩ : ∃ y_ : List Int, y_ = (List.replicate 0 0) := ⟨_, rfl⟩
      replace H : (octets_Words.l0 k y111 l0 (l0.length : Int) 0) = some r := by first | (rw [hy111]; with_reducible exact H) | (have H2_ := (Option.bind_some _ _).symm.trans H; rw [hy111]; with_reducible exact H2_) | (have H2_ := (Option.bind_some _ _).symm.trans H; with_reducible exact H2_) | with_reducible exact H | (rw [hy111]; exact H) | exact H
      have Ny111 := Aside0.mk hy111
      clear hy111
      have H' := Aside0.mk H
      clear H
      go_enter Try.func18, Try.ntmps18
      go_wp2_with (first | ((with_reducible refine gate_dst (N := 9) rfl ?_); refine Kd.R_makecap (Kd.int .u8) _ 5 rfl (N := 9) rfl 23 _ _ rfl ji2 rfl rfl Try.underlying23 (.int .u8 0) 1 info5 rfl (by decide) (by omega) 0 (ok := fun _ => True) (okp := fun _ => True) rfl (fun _ hk => hk) trivial (of_decide_eq_true (by first | (with_reducible assumption) | assumption)) (Nat.le_trans (Nat.mul_le_mul_right _ (of_decide_eq_true (by first | (with_reducible assumption) | assumption) : ji2.toNat ≤ 281474976710656)) (by omega)) (Below.refl _ _) (Nat.le_refl _) ?_; intro v112 w5 ho6 hb hg_ hnew_; clear hg_ hnew_; (first | rw [← Ny111.out] at ho6 | (simp only [Int.reduceToNat] at ho6; rw [← Ny111.out] at ho6)); have n0_ := Aside0.mk (Kd.R_lower ho6 (below_size (by repeat (first | (with_reducible first | exact HB.out | apply below_alloc | apply pw_below_drewN | apply below_drew1) | exact HB.out)))); have n1_ := Aside0.mk (below_step (by repeat (first | (with_reducible first | exact HB.out | apply below_alloc | apply pw_below_drewN | apply below_drew1) | exact HB.out)) hb); clear HB; have HO113 := n0_; have HB := n1_; clear n0_ n1_; clear hb ho6))
      go_loopg [3, 12] k (fun kq v3 v12 w' => ∃ (x3_1 : List Int) (x12_1 : Int), v12 = .int .i64 x12_1 ∧ Aside0 (octets_Words.l0 kq x3_1 l0 (l0.length : Int) x12_1 = some r) ∧ Aside0 (kq ≤ k) ∧ Aside0 (Kd.R (Kd.int .u8) 5 w' w.heap.size (fun _ => True) v3 x3_1) ∧ Aside0 (Below w.heap.size w w'))
      case atStart => exact ⟨(y111), (0), (by first | rfl | (simp; done) | (simp [*]; done)), H', ⟨Nat.le_refl _⟩, ⟨by (with_reducible repeat (first | apply Kd.R_alloc | apply Kd.R_drewN | apply Kd.R_drew)); exact HO113.out⟩, ⟨by repeat (first | (with_reducible first | exact HB.out | apply below_alloc | apply pw_below_drewN | apply below_drew1) | exact HB.out)⟩⟩
      case round =>
        clear H'
        try clear c1
        try clear p2
        try clear c3
        try clear c3b0
        try clear c3b1
        try clear c4
        try clear c4b0
        try clear c4b1
        try clear p6
        obtain ⟨x3_1, x12_1, rfl, HA, HK1, HO_3, HB⟩ := hrel
        cases gk with
        | zero => exact absurd HA.out (by simp [octets_Words.l0])
        | succ k1 =>
          have H := HA.out
          clear HA
          simp only [octets_Words.l0] at H
          by_cases c7 : x12_1 < (l0.length : Int)
          · rw [if_pos c7] at H
            have c7b0 : decide (x12_1 < (l0.length : Int)) = true := decide_eq_true c7
            clear c7
            by_cases c8 : 0 ≤ x12_1
            · rw [if_pos c8] at H
              have c8b0 : decide (0 ≤ x12_1) = true := decide_eq_true c8
              clear c8
              by_cases c9 : x12_1 < (l0.length : Int)
              · rw [if_pos c9] at H
                have c9b0 : decide (x12_1 < (l0.length : Int)) = true := decide_eq_true c9
                clear c9
                obtain ⟨y115, hy115⟩ : ∃ y_ : List Int, y_ = (([((rd l0 x12_1) / 16777216) % 256, ((rd l0 x12_1) / 65536) % 256, ((rd l0 x12_1) / 256) % 256, (rd l0 x12_1) % 256] : List Int)) := ⟨_, rfl⟩
                replace H : (if x3_1.length + y115.length < 140737488355328 then (octets_Words.l0 k1 (x3_1 ++ y115) l0 (l0.length : Int) (wrap64 (x12_1 + 1))) else (none)) = some r := by first | (rw [hy115]; with_reducible exact H) | (have H2_ := (Option.bind_some _ _).symm.trans H; rw [hy115]; with_reducible exact H2_) | (have H2_ := (Option.bind_some _ _).symm.trans H; with_reducible exact H2_) | with_reducible exact H | (rw [hy115]; exact H) | exact H
                have Ny115 := Aside0.mk hy115
                clear hy115
                by_cases c10 : x3_1.length + y115.length < 140737488355328
                · rw [if_pos c10] at H
                  have LMc10 := Aside0.mk c10
                  clear c10
                  obtain ⟨y118, hy118⟩ : ∃ y_ : List Int, y_ = (x3_1 ++ y115) := ⟨_, rfl⟩
                  replace H : (octets_Words.l0 k1 y118 l0 (l0.length : Int) (wrap64 (x12_1 + 1))) = some r := by first | (rw [hy118]; with_reducible exact H) | (have H2_ := (Option.bind_some _ _).symm.trans H; rw [hy118]; with_reducible exact H2_) | (have H2_ := (Option.bind_some _ _).symm.trans H; with_reducible exact H2_) | with_reducible exact H | (rw [hy118]; exact H) | exact H
                  have Ny118 := Aside0.mk hy118
                  clear hy118
                  have H' := Aside0.mk H
                  clear H
                  have p114 : 0 ≤ (x12_1 : Int) := of_decide_eq_true (by first | (with_reducible assumption) | assumption)
                  have q114 : x12_1 < (l0.length : Int) := of_decide_eq_true (by first | (with_reducible assumption) | assumption)
                  obtain ⟨ad114, e114, hx114_0⟩ := Kd.at_int HR0.out x12_1 p114 q114
                  cases e114
                  replace hx114_0 := (HB.out.cell (World.block_lt_of_cell? w _ hx114_0)).trans hx114_0
                  replace p114 := eq_true p114
                  replace q114 := eq_true q114
                  go_wp2_with (first | ((with_reducible refine gate_dst (N := 28) rfl ?_); refine Kd.R_lit (Kd.int .u8) _ 5 ?hg (N := 28) ?hd (xs := ([((rd l0 x12_1) / 16777216) % 256, ((rd l0 x12_1) / 65536) % 256, ((rd l0 x12_1) / 256) % 256, (rd l0 x12_1) % 256] : List Int)) (inner := [.int .u8 (((rd l0 x12_1) / 16777216) % 256), .int .u8 (((rd l0 x12_1) / 65536) % 256), .int .u8 (((rd l0 x12_1) / 256) % 256), .int .u8 ((rd l0 x12_1) % 256)]) (ok := fun _ => True) (okp := fun _ => True) ?hr ?hp (fun _ hk => hk) trivial (Below.refl _ _) (Nat.le_refl _) (by simp) ?_; (case hd => rfl); (case hg => rfl); (case hr => first | (go_simp; done) | (go_simp; rfl)); (case hp => exact (Reps.one (show Kd.M (Kd.int .u8) _ _ _ (((rd l0 x12_1) / 16777216) % 256) [.int .u8 (((rd l0 x12_1) / 16777216) % 256)] from rfl) (Reps.one (show Kd.M (Kd.int .u8) _ _ _ (((rd l0 x12_1) / 65536) % 256) [.int .u8 (((rd l0 x12_1) / 65536) % 256)] from rfl) (Reps.one (show Kd.M (Kd.int .u8) _ _ _ (((rd l0 x12_1) / 256) % 256) [.int .u8 (((rd l0 x12_1) / 256) % 256)] from rfl) (Reps.one (show Kd.M (Kd.int .u8) _ _ _ ((rd l0 x12_1) % 256) [.int .u8 ((rd l0 x12_1) % 256)] from rfl) (Reps.none _ _)))))); intro v116 w11 ho12 hb hg_ hnew_; clear hg_ hnew_; (first | rw [← Ny115.out] at ho12 | (simp only [Int.reduceToNat] at ho12; rw [← Ny115.out] at ho12)); have n0_ := Aside0.mk (Kd.R_elder' (by (with_reducible repeat (first | apply Kd.R_alloc | apply Kd.R_drewN | apply Kd.R_drew)); exact HO_3.out) (Kd.R_base ho12) hb); have n1_ := Aside0.mk (Kd.R_lower (Kd.R_new' ho12 (Kd.R_lt (by (with_reducible repeat (first | apply Kd.R_alloc | apply Kd.R_drewN | apply Kd.R_drew)); exact HO_3.out))) (below_size (by repeat (first | (with_reducible first | exact HB.out | apply below_alloc | apply pw_below_drewN | apply below_drew1) | exact HB.out)))); have n2_ := Aside0.mk (below_step (by repeat (first | (with_reducible first | exact HB.out | apply below_alloc | apply pw_below_drewN | apply below_drew1) | exact HB.out)) hb); clear HO_3; clear HB; have HO_3 := n0_; have HO117 := n1_; have HB := n2_; clear n0_ n1_ n2_; clear hb ho12; obtain ⟨Ao14, co14, eo14⟩ := Kd.R_slice HO117.out; subst eo14) | ((with_reducible refine gate_builtin (b := .append) (xs := #[.tmp 16, .tmp 28]) rfl ?_); at_builtin; refine Kd.R_append_rows (Kd.int .u8) (w0 := w) w.heap.size rfl (.tmp 16) (.tmp 28) 23 5 (.int .u8 0) 1 rfl Try.underlying23 info5 rfl (by decide) (by omega) u3 x3_1 y115 _ _ _ (fun k_ => some k_ ≠ (.slice Ao14 y115.length co14 : Value).ownBlock) (fun _ => False) rfl rfl ?aO ?aR (fun _ _ h => h) (fun _ h => h.elim) ?aF ?aB ?aS ?aL ?_; (case aR => repeat (first | exact (Kd.R_reads' HO117.out).2.2 | (with_reducible refine Kd.C_alloc ?_ _) | (with_reducible refine Kd.C_drewN ?_ _) | (with_reducible refine Kd.C_drew ?_))); (case aB => exact (by repeat (first | (with_reducible first | exact HB.out | apply below_alloc | apply pw_below_drewN | apply below_drew1) | exact HB.out))); (case aF => exact (fun k_ hk => Kd.fresh' (Kd.R_lt (by (with_reducible repeat (first | apply Kd.R_alloc | apply Kd.R_drewN | apply Kd.R_drew)); exact HO117.out)) k_ hk)); (case aO => exact (by (with_reducible repeat (first | apply Kd.R_alloc | apply Kd.R_drewN | apply Kd.R_drew)); exact Kd.R_mono HO_3.out (fun _ hk => hk.2))); (case aS => exact (below_size (by repeat (first | (with_reducible first | exact HB.out | apply below_alloc | apply pw_below_drewN | apply below_drew1) | exact HB.out)))); (case aL => have := LMc10.out; omega); intro v119 w13 ho hb hg hat; rw [← Ny118.out] at ho; have n0_ := Aside0.mk (Kd.R_after (ok := (fun _ => True)) (by (with_reducible repeat (first | apply Kd.R_alloc | apply Kd.R_drewN | apply Kd.R_drew)); exact HO117.out) hg hat); have n1_ := Aside0.mk (hb); have n2_ := Aside0.mk (ho); clear HO117; clear HB; clear HO_3; have HO117 := n0_; have HB := n1_; have HO120 := n2_; clear n0_ n1_ n2_; clear ho hb hg hat))
                  go_roundg k1
                  case measure => have := HK1.out; omega
                  case rel => exact ⟨(y118), (wrap64 (x12_1 + 1)), (by first | rfl | (simp; done) | (simp [*]; done)), H', ⟨by have := HK1.out; omega⟩, ⟨by (with_reducible repeat (first | apply Kd.R_alloc | apply Kd.R_drewN | apply Kd.R_drew)); exact Kd.R_mono HO120.out (fun _ hk => trivial)⟩, ⟨by repeat (first | (with_reducible first | exact HB.out | apply below_alloc | apply pw_below_drewN | apply below_drew1) | exact HB.out)⟩⟩
                · rw [if_neg c10] at H
                  exact absurd H (by simp)
              · rw [if_neg c9] at H
                exact absurd H (by simp)
            · rw [if_neg c8] at H
              exact absurd H (by simp)
          · rw [if_neg c7] at H
            have c7b0 : decide (x12_1 < (l0.length : Int)) = false := decide_eq_false c7
            clear c7
            obtain rfl := Option.some.inj H
            go_wp2
            go_ret
            exact ⟨_, by first | rfl | (simp [errW_none, errW_some] <;> rfl) | (simp only [← hji2]; first | rfl | (simp [errW_none, errW_some] <;> rfl)) | (simp [*, errW_none, errW_some] <;> rfl), by (with_reducible repeat (first | apply Kd.R_alloc | apply Kd.R_drewN | apply Kd.R_drew)); exact HO_3.out, by repeat (first | (with_reducible first | exact HB.out | apply below_alloc | apply pw_below_drewN | apply below_drew1) | exact HB.out)⟩
    · rw [if_neg c4] at H
      exact absurd H (by simp)
  · rw [if_neg c3] at H
    exact absurd H (by simp)

end Go.Proofs.Ytclmikbbjhdplaa.X
/- A word out of octets: what the loop over four octets comes to where they are there. -/
namespace Go.Proofs.Ytclmikbbjhdplaa.X
open Go.RowKit Go.Proofs.YtclmikbbjhdplaaW.PrintWords Go.Proofs.YtclmikbbjhdplaaW.PrintLast Go.Proofs.YtclmikbbjhdplaaW.PrintMore
set_option linter.unusedVariables false
set_option linter.unusedSimpArgs false

theorem wrap64_id (x : Int) (h0 : -9223372036854775808 ≤ x) (h1 : x < 9223372036854775808) : wrap64 x = x := by unfold wrap64; omega
theorem word_round (k : Nat) (l : List Int) (a x : Int) (i : Nat) (hl : l.length < 4611686018427387904) (h0 : 0 ≤ a) (hi : i < 4) (ha : a + i < l.length) :
    octets_Word.l0 (k + 1) l a x (i : Int) = octets_Word.l0 k l a (Go.bits .or .u32 ((x * 256) % 4294967296) ((rd l (a + i)) % 4294967296)) ((i + 1 : Nat) : Int) := by
  have e1 : wrap64 ((l.length : Int) - (i : Int)) = (l.length : Int) - i := wrap64_id _ (by omega) (by omega)
  have e2 : wrap64 (a + (i : Int)) = a + i := wrap64_id _ (by omega) (by omega)
  have e3 : wrap64 ((i : Int) + 1) = ((i + 1 : Nat) : Int) := by rw [wrap64_id _ (by omega) (by omega)]; rfl
  rw [octets_Word.l0, if_pos (by omega), if_pos (by omega), e1, if_pos (by omega), e2, if_pos (by omega), if_pos (by omega), e3]
/-- Four octets as a word. -/
def word4 (l : List Int) (a : Int) : Int :=
  Go.bits .or .u32 ((Go.bits .or .u32 ((Go.bits .or .u32 ((Go.bits .or .u32 ((0 * 256) % 4294967296) ((rd l (a + (0 : Nat))) % 4294967296) * 256) % 4294967296) ((rd l (a + (1 : Nat))) % 4294967296) * 256) % 4294967296) ((rd l (a + (2 : Nat))) % 4294967296) * 256) % 4294967296) ((rd l (a + (3 : Nat))) % 4294967296)
theorem word_at (l : List Int) (a : Int) (hl : l.length < 4611686018427387904) (h0 : 0 ≤ a) (ha : a + 3 < l.length) : octets_Word.f 6 l a = some (word4 l a) := by
  have h := word_round 5 l a 0 0 hl h0 (by omega) (by omega)
  unfold octets_Word.f
  rw [show (0 : Int) = ((0 : Nat) : Int) from rfl] at h ⊢
  rw [h, word_round 4 l a _ 1 hl h0 (by omega) (by omega), word_round 3 l a _ 2 hl h0 (by omega) (by omega), word_round 2 l a _ 3 hl h0 (by omega) (by omega), octets_Word.l0, if_neg (by omega)]
  rfl
theorem word_ok (l : List Int) (hl : l.length = 64) (t : Nat) (ht : t < 16) : octets_Word.f 6 l (4 * (t : Int)) = some (wordA l (4 * (t : Int))) := by
  have h := word_at l (4 * (t : Int)) (by omega) (by omega) (by omega)
  rw [wordA, h]
  rfl
theorem wordA_at (l : List Int) (a : Int) (hl : l.length < 4611686018427387904) (h0 : 0 ≤ a) (ha : a + 3 < l.length) : wordA l a = word4 l a := by
  rw [wordA, word_at l a hl h0 ha]
  rfl
end Go.Proofs.Ytclmikbbjhdplaa.X
/- sha.Sum: the sum of octets. -/
namespace Go.Proofs.Ytclmikbbjhdplaa.X
open Go.RowKit Go.Proofs.YtclmikbbjhdplaaW.PrintWords Go.Proofs.YtclmikbbjhdplaaW.PrintLast Go.Proofs.YtclmikbbjhdplaaW.PrintMore
set_option linter.unusedVariables false
set_option linter.unusedSimpArgs false

/-- The state behind n blocks. -/
def statesA (p : List Int) : Nat → List Int
  | 0 => H0
  | n + 1 => blockA (statesA p n) K0 ((p.drop (64 * n)).take 64)
def sha_Sum.f (l0 : List Int) : Option (List Int) :=
  (sha_Pad.f 20 l0).bind fun p => if p.length % 64 = 0 ∧ p.length ≤ 140737488355328 then octets_Words.f 20 (statesA p (p.length / 64)) else none

/-- What the loop over the blocks keeps. -/
structure MI (w w7 : World) (z g3 g4 n : Nat) (p : List Int) (W : World) : Prop where
  b3 : W.heap[g3]? = some (.cells (nums .u32 (statesA p n)).toArray 66 (0, 0))
  b4 : W.heap[g4]? = some (.cells (nums .u32 K0).toArray 68 (0, 0))
  kept : ∀ k, z ≤ k → k < w7.heap.size → W.heap[k]? = w7.heap[k]?
  size : w7.heap.size ≤ W.heap.size
  below : Below w.heap.size w W
theorem MI.row {w w7 W : World} {z g3 g4 n : Nat} {p q : List Int} {A : Option Addr} (h : MI w w7 z g3 g4 n p W) (hF : Kd.F (Kd.int .u8) w7 (fun k => z ≤ k) A q.length q) : Kd.C (Kd.int .u8) W A q.length q :=
  Kd.F_now (Kd.F_step hF (fun k hk hlt => h.kept k hk hlt))
theorem MI.drewN {w w7 W : World} {z g3 g4 n : Nat} {p : List Int} (h : MI w w7 z g3 g4 n p W) (m : Nat) : MI w w7 z g3 g4 n p (W.drewN m) := ⟨h.b3, h.b4, h.kept, h.size, pw_below_drewN h.below m⟩
theorem MI.step {w w7 W W1 : World} {z g3 g4 n : Nat} {p : List Int} (h : MI w w7 z g3 g4 n p W) (hb : Below W.heap.size W W1) : MI w w7 z g3 g4 n p W1 :=
  ⟨(hb.block _ (blk_lt h.b3)).trans h.b3, (hb.block _ (blk_lt h.b4)).trans h.b4, fun k hk hlt => (hb.block _ (Nat.lt_of_lt_of_le hlt h.size)).trans (h.kept k hk hlt), Nat.le_trans h.size hb.size, below_step h.below hb⟩
theorem MI.store {w w7 W W1 : World} {z g3 g4 n : Nat} {p : List Int} (h : MI w w7 z g3 g4 n p W) (hst : Stored g3 66 (nums .u32 (statesA p (n + 1))).toArray W W1) (h3 : g3 < z) (h34 : g3 < g4) (hg : w.heap.size ≤ g3) : MI w w7 z g3 g4 (n + 1) p W1 :=
  ⟨hst.at_, (hst.far _ (by omega)).trans h.b4, fun k hk hlt => (hst.far _ (by omega)).trans (h.kept k hk hlt), by rw [hst.size]; exact h.size, hst.below _ h.below hg⟩
theorem row_nums {W : World} {g : Nat} {t : TypeId} {k : IntKind} {xs : List Int} (h : W.heap[g]? = some (.cells (nums k xs).toArray t (0, 0))) (hn : xs.length ≤ 9223372036854775807) : Kd.C (Kd.int k) W (some ⟨g, 0, none⟩) xs.length xs := by
  refine Kd.C_of_reads (d := (0 : Int)) (h1 := fun _ => rfl) ⟨rfl, hn, fun _ => ⟨_, rfl, fun j hj => ?_⟩⟩
  have := cell_nums h j hj
  rw [show (⟨g, 0, none⟩ : Addr).add j = ⟨g, j, none⟩ by simp only [Addr.add]; split <;> simp_all, this]
  simp [rd]
/-- A whole array read, as a step that stays. -/
theorem still_load {P : Program} {ops : Array Oper} {rest : List Oper} {o : Oper} {a : Act} {W : World} {Q : Act → Prop} (hgd : o.guard = none) {N : Tmp} (hd : o.dst = some N) (ty : TypeId) (x : Operand) (ho : o.op = .load ty x) (g : Nat) (cs : Array Value) (d : TypeDesc) (hx : a.eval x = .pointer (some ⟨g, 0, none⟩))
    (hg : W.heap[g]? = some (.cells cs ty (0, 0))) (hu : P.underlying ty = some d) (hd2 : d.isRow = true) (hi : (P.info? ty).map (·.size) = some cs.size)
    (h : wpStill P ops W Q rest (a.put (some N) (.agg cs))) : wpStill P ops W Q (o :: rest) a := by
  refine wpStill_step (fun K hK => ?_)
  rw [if_pos (by simp [Region.wanted, hgd])]
  have hS : W.rangeAt g 0 cs.toList := fun j v hv => by
    rw [Nat.zero_add, blk_cell hg]
    simpa using hv
  have hr : (execOp a.eval o).run P W = .ok (.value (.agg cs)) W := by
    unfold execOp
    simp only [ho, hx, Instr.loadAt, Instr.sureAddr, Sem.run_bind, Sem.run_pure, Result.andThen_ok, run_loadVar_mid W g 0 ty cs.toList d hS hu hd2 (by simpa using hi)]
  unfold Oper.still
  rw [hr, Oper.stillUpon_value, hd]
  exact hK _ h
theorem K0_len : K0.length = 64 := by decide +kernel
theorem H0_len : H0.length = 8 := rfl
theorem statesA_len (p : List Int) : ∀ n, (statesA p n).length = 8
  | 0 => rfl
  | n + 1 => by rw [statesA, blockA, addA_len, roundsA_len (statesA_len p n)]
theorem info68_of {n : Nat} (h : n = 64) : (Try.prog.info? 68).map (·.size) = some n := by rw [h]; kernel_rfl

set_option maxRecDepth 100000 in
set_option maxHeartbeats 4000000 in
theorem sha_Sum.calls (A0 : Option Addr) (c0 : Nat) (l0 : List Int) (r : List Int) (w : World) (hr0 : Kd.C (Kd.int .u8) w A0 l0.length l0) (hc0 : l0.length ≤ c0) (h : sha_Sum.f l0 = some r) :
    Calls Try.prog 31 #[.slice A0 l0.length c0] w fun e w' => ∃ v0_ : Value, e = .returned (v0_) ∧ Kd.R (Kd.int .u8) 5 w' w.heap.size (fun _ => True) v0_ r ∧ Below w.heap.size w w' := by
  unfold sha_Sum.f at h
  obtain ⟨p, hp, h⟩ := Option.bind_eq_some_iff.mp h
  have hc : p.length % 64 = 0 ∧ p.length ≤ 140737488355328 := by
    by_cases hc : p.length % 64 = 0 ∧ p.length ≤ 140737488355328
    · exact hc
    · rw [if_neg hc] at h; cases h
  rw [if_pos hc] at h
  obtain ⟨st, hst⟩ : ∃ st, statesA p (p.length / 64) = st := ⟨_, rfl⟩
  rw [hst] at h
  have HP := Lib.hid hp
  have HH := Lib.hid h
  have HST := Lib.hid hst
  have HC := Lib.hid hc
  clear hp h hst hc
  go_enter Try.func31, Try.ntmps31
  have hs3 : (nums .u32 H0).toArray.size = 8 := by simp [nums, H0_len]
  have hs4 : (nums .u32 K0).toArray.size = 64 := by simp [nums, K0_len]
  have Hs3 := Lib.hid hs3
  have Hs4 := Lib.hid hs4
  clear hs3 hs4
  go_wp2_with (first | (go_at_call 55; go_must (refine (first_calls _).mono ?_; rintro e w1 ⟨rfl, hb1⟩)) | (go_at_call 56; go_must (refine (constants_calls _).mono ?_; rintro e w2 ⟨rfl, hb2⟩; have P2 := below_step hb1 hb2; clear hb1 hb2)) | ((with_reducible refine gate_dst (N := 3) rfl ?_); go_must (refine box_event rfl (N := 3) rfl (run_alloc _ 66 _ 8 i66 _ _ rfl _) ?_; intro g3 hg3 w3 b3 hb; have P3 := below_step P2 hb; have G3 := hg3 ▸ P2.size; clear hb P2 hg3)) | ((with_reducible refine gate_dst (N := 4) rfl ?_); go_must (refine box_event rfl (N := 4) rfl (run_alloc _ 68 _ 64 i68 _ _ rfl _) ?_; intro g4 hg4 w4 b4 hb; have P4 := below_step P3 hb; have G4 := hg4 ▸ P3.size; have c3 := (hb.block _ (blk_lt b3)).trans b3; have G34 : g3 < g4 := hg4 ▸ blk_lt b3; clear hb P3 hg4 b3)) | ((with_reducible refine gate_store (t := 66) rfl ?_); go_must (refine store_ev rfl rfl 66 (.tmp 3) (.tmp 6) rfl g3 _ _ rfl rfl c3 (by rw [Hs3.out]; rfl) (info66_of Hs3.out) (nums_one _ _) ?_; intro w5 hst; have P5 := hst.below _ P4 G3; have d3 := hst.at_; have c4 := (hst.far _ (Nat.ne_of_gt G34)).trans b4; clear hst P4 b4 c3)) | ((with_reducible refine gate_store (t := 68) rfl ?_); go_must (refine store_ev rfl rfl 68 (.tmp 4) (.tmp 7) rfl g4 _ _ rfl rfl c4 (by rw [Hs4.out]; rfl) (info68_of Hs4.out) (nums_one _ _) ?_; intro w6 hst; have P6 := hst.below _ P5 G4; have d4 := hst.at_; have e3 := (hst.far _ (Nat.ne_of_lt G34)).trans d3; clear hst P5 d3 c4)) | (go_at_call 34; go_must (refine (sha_Pad.calls 20 (fun k_ => k_ < w.heap.size) A0 c0 l0 p _ (Kd.V_mk hc0 (Kd.F_below (Kd.C_F (Kd.heap_int .u8) hr0) P6)) HP.out).mono ?_; rintro e w7 ⟨v0, rfl, hR, hb⟩; have P7 := below_step P6 hb; have f3 := (hb.block _ (blk_lt e3)).trans e3; have f4 := (hb.block _ (blk_lt d4)).trans d4; have L3 := blk_lt e3; have L4 := blk_lt d4; obtain ⟨Ap, cp, rfl⟩ := Kd.R_slice hR; have hRR := Kd.R_reads' hR; clear hb P6 e3 d4)))
  have hlt := HC.out
  have hF0 : Kd.F (Kd.int .u8) w7 (fun k => w6.heap.size ≤ k) Ap p.length p := Kd.R_F hR
  have hI0 : MI w w7 w6.heap.size g3 g4 0 p w7 := ⟨f3, f4, fun _ _ _ => rfl, Nat.le_refl _, P7⟩
  have HF0 := Lib.hid hF0
  have HI0 := Lib.hid hI0
  have HL := Lib.hid hRR.2.1
  clear hF0 hI0 hRR hR P7 f3 f4
  obtain ⟨m, hm⟩ : ∃ m, p.length / 64 = m := ⟨_, rfl⟩
  have hpl : p.length = 64 * m := by omega
  rw [hm] at HST
  have HP := Lib.hid hpl
  have HM := Lib.hid hlt.2
  clear hlt hm HC hpl
  obtain ⟨i5, hi5, _, hsz5, _⟩ := info_parts info5'
  go_loopg [5] (m + 1) (fun kq v5 w' => ∃ n : Nat, ∃ q A c, v5 = .slice A (q : List Int).length c ∧ Hid (q = p.drop (64 * n)) ∧ Hid (q.length ≤ c) ∧ Hid (Kd.F (Kd.int .u8) w7 (fun k => w6.heap.size ≤ k) A q.length q) ∧ Hid (kq + n = m + 1) ∧ Hid (n ≤ m) ∧ Hid (MI w w7 w6.heap.size g3 g4 n p w'))
  case atStart => exact ⟨0, p, Ap, cp, rfl, Lib.hid (by simp), HL, HF0, Lib.hid rfl, Lib.hid (by omega), HI0⟩
  case round =>
    clear HF0 HI0 HL
    obtain ⟨n, q, A, c, rfl, hq, hc, hF, hk, hn, hI⟩ := hrel
    have hql : q.length = 64 * m - 64 * n := by rw [hq.out, List.length_drop, HP.out]
    have hM := HM.out
    have hPL := HP.out
    by_cases cn : n < m
    · have h64 : 64 ≤ q.length := by omega
      have hqc := hc.out
      have cpos : decide (0 < q.length) = true := decide_eq_true (by omega)
      have hto := cut_to (P := Try.prog) 23 5 .i64 Try.underlying23 hi5 A q.length c 64 (by omega) (by omega) hqc
      have hfrom := cut_from (P := Try.prog) 23 5 .i64 Try.underlying23 hi5 1 hsz5 A q.length c 64 (by omega) (by omega)
      have hFt := Kd.F_take hF.out h64
      have hFd := Kd.F_cut hF.out h64 hqc
      have htl : (q.take 64).length = 64 := by rw [List.length_take]; omega
      rw [show ((64 : Int).toNat) = (q.take 64).length by rw [htl]; rfl] at hto
      have hdl : (q.drop 64).length = q.length - (64 : Int).toNat := by rw [List.length_drop]; rfl
      rw [← hdl] at hfrom
      obtain ⟨A2, hA2⟩ : ∃ A2, (if c = (64 : Int).toNat then A else A.map (·.add ((64 : Int).toNat * 1))) = A2 := ⟨_, rfl⟩
      obtain ⟨c2, hc2⟩ : ∃ c2, c - (64 : Int).toNat = c2 := ⟨_, rfl⟩
      rw [hA2, hc2] at hfrom
      have hFd' : Kd.F (Kd.int .u8) w7 (fun k => w6.heap.size ≤ k) A2 (q.drop 64).length (q.drop 64) := by rw [← hA2]; exact hFd
      have hc2' : (q.drop 64).length ≤ c2 := by rw [← hc2, hdl]; omega
      have hword := fun t ht => word_ok (q.take 64) htl t ht
      obtain ⟨q1, hq1⟩ : ∃ q1, q.take 64 = q1 := ⟨_, rfl⟩
      obtain ⟨q2, hq2⟩ : ∃ q2, q.drop 64 = q2 := ⟨_, rfl⟩
      have hqq2 : q2 = p.drop (64 * (n + 1)) := by rw [← hq2, hq.out, List.drop_drop, Nat.mul_succ]
      have hst : statesA p (n + 1) = blockA (statesA p n) K0 q1 := by rw [statesA, ← hq1, hq.out]
      rw [hq1] at hto hword hFt htl
      rw [hq2] at hfrom hFd' hc2' hdl
      have hsl := statesA_len p n
      have hsl1 := statesA_len p (n + 1)
      have hz3 : (nums .u32 (statesA p n)).toArray.size = 8 := by simp [nums, hsl]
      have hz4 : (nums .u32 (statesA p (n + 1))).toArray.size = 8 := by simp [nums, hsl1]
      have hc1 : q1.length ≤ c := by omega
      have HW := Lib.hid hword
      have HFT := Lib.hid hFt
      have HFD := Lib.hid hFd'
      have HC2 := Lib.hid hc2'
      have HC1 := Lib.hid hc1
      have HQ2 := Lib.hid hqq2
      have HS := Lib.hid hst
      have HZ3 := Lib.hid hz3
      have HZ4 := Lib.hid hz4
      have HSL := Lib.hid hsl
      have HCN := Lib.hid cn
      clear hword hFt hFd hFd' hc2' hc1 hqq2 hst hz3 hz4 hsl hsl1 hql hqc hdl htl hA2 hc2 hq1 hq2 hM hPL cn h64
      go_wp2
      have hmix : Try.prog.follows .mixedOrders = true := by kernel_rfl
      go_still_tail 3, hmix
      refine still_load rfl rfl 66 (.tmp 3) rfl g3 _ _ rfl hI.out.b3 Try.underlying66 rfl (info66_of HZ3.out) ?_
      repeat still_step
      refine wpStill_nil ?_
      clear hto
      go_wp2_with (first | (go_at_call 57; go_must (refine (block_calls A c q1 (statesA p n) K0 g4 _ HSL.out K0_len ((hI.out.drewN 1).row HFT.out) HC1.out HW.out (hI.out.drewN 1).b4 _ HS.out.symm).mono ?_; rintro e w8 ⟨rfl, hb8⟩; have hI8 := (hI.out.drewN 1).step hb8; clear hb8)) | ((with_reducible refine gate_store (t := 66) rfl ?_); go_must (refine store_ev rfl rfl 66 (.tmp 3) (.tmp 18) rfl g3 _ _ rfl rfl hI8.b3 (by rw [HZ3.out, HZ4.out]) (info66_of HZ4.out) (nums_one _ _) ?_; intro w9 hst; have HN := Lib.hid (hI8.store hst L3 G34 G3); clear hst hI8)))
      obtain ⟨k1, rfl⟩ : ∃ k1, gk = k1 + 1 := ⟨gk - 1, by have := hk.out; have := hn.out; omega⟩
      go_roundg k1
      case measure => omega
      case rel => exact ⟨n + 1, q2, A2, c2, rfl, HQ2, HC2, HFD, Lib.hid (by have := hk.out; omega), Lib.hid HCN.out, HN⟩
    · have h0 : q.length = 0 := by omega
      have hnm : n = m := by have := hn.out; omega
      have cpos : decide (0 < q.length) = false := decide_eq_false (by omega)
      have hI' : MI w w7 w6.heap.size g3 g4 m p wr := hnm ▸ hI.out
      have hb3 : wr.heap[g3]? = some (.cells (nums .u32 st).toArray 66 (0, 0)) := by rw [← HST.out]; exact hI'.b3
      have hsl : st.length = 8 := by rw [← HST.out]; exact statesA_len p m
      have hC : Kd.C (Kd.int .u32) wr (some ⟨g3, 0, none⟩) 8 st := by
        have := row_nums hb3 (by omega)
        rwa [hsl] at this
      have hB := hI'.below
      have hcall := octets_Words.calls 20 (some ⟨g3, 0, none⟩) 8 st r wr (by rw [hsl]; exact hC) (by rw [hsl]; exact Nat.le_refl _) HH.out
      rw [hsl] at hcall
      have HBB := Lib.hid hB
      clear hI hI' hb3 hsl hC h0 hnm hn hk hF hc hq hql hM hPL cn hB
      go_wp2_with (go_at_call 18; go_must ((with_reducible refine hcall.mono ?_); rintro e w8 ⟨v8, rfl, ho8, hb8⟩; have P8 := below_step HBB.out hb8; have L8 := HBB.out.size))
      go_ret
      exact ⟨_, rfl, Kd.R_lower ho8 L8, P8⟩
end Go.Proofs.Ytclmikbbjhdplaa.X
/- Octets turned into octets: the block is marked behind its end, and reads as before. -/
namespace Go.Proofs.Ytclmikbbjhdplaa.X
open Go.RowKit Go.Proofs.YtclmikbbjhdplaaW.PrintWords Go.Proofs.YtclmikbbjhdplaaW.PrintLast Go.Proofs.YtclmikbbjhdplaaW.PrintMore
set_option linter.unusedVariables false
set_option linter.unusedSimpArgs false

/-- A block that is marked: what it reads stays. -/
structure Marked (g : Nat) (w w1 : World) : Prop where
  size : w1.heap.size = w.heap.size
  far : ∀ i, i ≠ g → w1.heap[i]? = w.heap[i]?
  cell : ∀ p, w1.cell? p = w.cell? p
  below : ∀ (v : World), Below v.heap.size v w → v.heap.size ≤ g → Below v.heap.size v w1
theorem freeze_marked (W : World) (g j : Nat) : Marked g W (W.freeze ⟨g, j, none⟩ 1) := by
  have hs : (W.freeze ⟨g, j, none⟩ 1).heap.size = W.heap.size := by simp [World.freeze]
  have hf : ∀ i, i ≠ g → (W.freeze ⟨g, j, none⟩ 1).heap[i]? = W.heap[i]? := fun i hi => by
    simp only [World.freeze, Nat.one_ne_zero, ↓reduceIte, Array.getElem?_modify]
    rw [if_neg (Ne.symm hi)]
  refine ⟨hs, hf, fun p => ?_, fun v hb hg => ⟨hb.os, hb.tape, hb.output, by rw [hs]; exact hb.size, fun i hi => (hf i (by omega)).trans (hb.block i hi)⟩⟩
  by_cases hp : p.block = g
  · simp only [World.cell?, World.freeze, Nat.one_ne_zero, ↓reduceIte, Array.getElem?_modify, hp]
    cases W.heap[g]? with
    | none => rfl
    | some o => cases o <;> rfl
  · simp only [World.cell?, hf _ hp]
theorem Marked.row {g : Nat} {W W1 : World} (h : Marked g W W1) {k : IntKind} {A : Option Addr} {n : Nat} {xs : List Int} (hC : Kd.C (Kd.int k) W A n xs) : Kd.C (Kd.int k) W1 A n xs := by
  have hr := Kd.reads_of_C (d := (0 : Int)) (h1 := fun _ => rfl) hC
  refine Kd.C_of_reads (d := (0 : Int)) (h1 := fun _ => rfl) ⟨hr.1, hr.2.1, fun hn => ?_⟩
  obtain ⟨ad, e, hc⟩ := hr.2.2 hn
  exact ⟨ad, e, fun j hj => (h.cell _).trans (hc j hj)⟩
section
variable {P : Program} {ops : Array Oper} {rest : List Oper} {o : Oper} {a : Act} {Q : Exit → Act → World → Prop}
/-- A conversion of octets to octets. -/
theorem conv_ev {W : World} (hgd : o.guard = none) {N : Tmp} (hd : o.dst = some N) (t e : TypeId) (x : Operand) (ho : o.op = .convert t t x) (ht : P.underlying t = some (.slice e)) (he : P.underlying e = some (.int .u8))
    (g n c : Nat) (hx : a.eval x = .slice (some ⟨g, 0, none⟩) n c) (cs : Array Value) (hg : W.heap[g]? = some (.cells cs e (0, 0)))
    (h : ∀ w1, Marked g W w1 → wpList P ops Q rest (a.put o.dst (.slice (some ⟨g, 0, none⟩) n c)) w1) : wpList P ops Q (o :: rest) a W := by
  refine Kd.event_run hgd (v := .slice (some ⟨g, 0, none⟩) n c) (w1 := W.freeze ⟨g, cs.size, none⟩ 1) ?_ (h _ (freeze_marked _ _ _))
  have hsh : W.shape? g = some (e, cs.size) := by simp [World.shape?, hg]
  have h1 := run_underlying ht W
  have h2 := run_underlying he W
  simp [execOp, ho, hx, convert, h1, h2, markStringish, hsh, Result.andThen]
end
theorem lit_block {k : IntKind} {e base : Nat} {ok : Nat → Prop} {w : World} {v : Value} {xs : List Int} (h : Kd.R (Kd.int k) e w base ok v xs) (hn : 0 < xs.length) :
    ∃ g cap cur, v = .slice (some ⟨g, 0, none⟩) xs.length cap ∧ base ≤ g ∧ w.heap[g]? = some (.cells cur e (0, 0)) ∧ xs.length ≤ cap ∧ Kd.C (Kd.int k) w (some ⟨g, 0, none⟩) xs.length xs := by
  obtain ⟨inner, ho⟩ := Kd.R_own h
  rcases ho.2 with ⟨hz, h0⟩ | ⟨g, cap, cur, rfl, hg, hh, r⟩
  · exact absurd h0 (by omega)
  · have := Kd.R_reads' h
    exact ⟨g, cap, cur, rfl, hg, hh, this.2.1, this.2.2⟩
end Go.Proofs.Ytclmikbbjhdplaa.X
-- Written by a program of this session (a turn of the kit's print with contracts by hand). Not trusted: Lean checks it.
namespace Go.Proofs.Ytclmikbbjhdplaa.X
open Go.RowKit Go.Proofs.YtclmikbbjhdplaaW.PrintWords Go.Proofs.YtclmikbbjhdplaaW.PrintLast Go.Proofs.YtclmikbbjhdplaaW.PrintMore
attribute [local go_sem] max2_int min2_int max_two min_two max_three min_three max_four min_four   -- for this text's walks alone
set_option linter.unusedVariables false
set_option linter.unusedSimpArgs false

/-! ### octets_Get: function 17 -/
def octets_Get.l0 : Nat → Int → List Int → Int → Int → Option (Int)
  | 0, _, _, _, _ => none
  | k + 1, x3, x6, x7, x8 => if x8 < x7 then (if 0 ≤ x8 then (if x8 < (x6.length : Int) then (octets_Get.l0 k (Go.bits .or .u64 (IntKind.u64.wrap (x3 * 256)) (IntKind.u64.wrap (rd x6 x8))) x6 x7 (wrap64 (x8 + 1))) else (none)) else (none)) else (some (wrap64 (Go.bits .and .u64 x3 4611686018427387903)))
def octets_Get.f (k : Nat) (l0 : List Int) : Option (Int) := octets_Get.l0 k 0 l0 (l0.length : Int) 0
theorem octets_Get.mono_l : ∀ k, (∀ y0 y1 y2 y3, LeO (octets_Get.l0 k y0 y1 y2 y3) (octets_Get.l0 (k + 1) y0 y1 y2 y3))
  | 0 => fun _ _ _ _ r h => by simp [octets_Get.l0] at h
  | k + 1 => by
    have ih0 := octets_Get.mono_l k
    · intro y0 y1 y2 y3
      unfold octets_Get.l0
      repeat' first
      | (with_reducible exact ih0 _ _ _ _)
      | (with_reducible exact LeO.refl _)
      | (with_reducible exact LeO.none _)
      | (with_reducible refine LeO.ite ?_ ?_)
      | (with_reducible refine LeO.bind ?_ (fun _ => ?_))
      | exact ih0 _ _ _ _
      | exact LeO.none _
      | refine LeO.ite ?_ ?_
      | refine LeO.bind ?_ (fun _ => ?_)
theorem octets_Get.mono : ∀ a0 k, LeO (octets_Get.f k a0) (octets_Get.f (k + 1) a0) := by
  intro a0 k
  have ih0 := octets_Get.mono_l k
  unfold octets_Get.f
  repeat' first
      | (with_reducible exact ih0 _ _ _ _)
      | (with_reducible exact LeO.refl _)
      | (with_reducible exact LeO.none _)
      | (with_reducible refine LeO.ite ?_ ?_)
      | (with_reducible refine LeO.bind ?_ (fun _ => ?_))
      | exact ih0 _ _ _ _
      | exact LeO.none _
      | refine LeO.ite ?_ ?_
      | refine LeO.bind ?_ (fun _ => ?_)
set_option maxHeartbeats 8000000 in
set_option maxRecDepth 100000 in
theorem octets_Get.calls (k : Nat) (A0 : Option Addr) (c0 : Nat) (l0 : List Int) (r : Int) (w : World) (hr0 : Kd.C (Kd.int .u8) w A0 l0.length l0) (hc0 : l0.length ≤ c0) (h : octets_Get.f k l0 = some r) :
    Calls Try.prog 17 #[.slice A0 l0.length c0] w fun e w' => e = .returned (.int .i64 r) ∧ Drawn0 w w' := by
  have HR0 := Aside0.mk hr0
  have HC0 := Aside0.mk hc0
  clear hr0 hc0
  have H : (octets_Get.l0 k 0 l0 (l0.length : Int) 0) = some r := h
  clear h
  have H' := Aside0.mk H
  clear H
  go_enter Try.func17, Try.ntmps17
  go_wp2
  go_loopg [3, 8] k (fun kq v3 v8 w' => ∃ (x3_1 : Int) (x8_1 : Int), v3 = .int .u64 x3_1 ∧ v8 = .int .i64 x8_1 ∧ Aside0 (octets_Get.l0 kq x3_1 l0 (l0.length : Int) x8_1 = some r) ∧ Aside0 (kq ≤ k) ∧ Drawn0 w w')
  case atStart => exact ⟨(0), (0), (by first | rfl | (simp; done) | (simp [*]; done)), (by first | rfl | (simp; done) | (simp [*]; done)), H', ⟨Nat.le_refl _⟩, by repeat (first | exact Drawn0.refl _ | apply Drawn0.step)⟩
  case round =>
    clear H'
    try clear c1
    obtain ⟨x3_1, x8_1, rfl, rfl, HA, HK1, ⟨m1, rfl⟩⟩ := hrel
    cases gk with
    | zero => exact absurd HA.out (by simp [octets_Get.l0])
    | succ k1 =>
      have H := HA.out
      clear HA
      simp only [octets_Get.l0] at H
      by_cases c2 : x8_1 < (l0.length : Int)
      · rw [if_pos c2] at H
        have c2b0 : decide (x8_1 < (l0.length : Int)) = true := decide_eq_true c2
        clear c2
        by_cases c3 : 0 ≤ x8_1
        · rw [if_pos c3] at H
          have c3b0 : decide (0 ≤ x8_1) = true := decide_eq_true c3
          clear c3
          by_cases c4 : x8_1 < (l0.length : Int)
          · rw [if_pos c4] at H
            have c4b0 : decide (x8_1 < (l0.length : Int)) = true := decide_eq_true c4
            clear c4
            have H' := Aside0.mk H
            clear H
            have p104 : 0 ≤ (x8_1 : Int) := of_decide_eq_true (by first | (with_reducible assumption) | assumption)
            have q104 : x8_1 < (l0.length : Int) := of_decide_eq_true (by first | (with_reducible assumption) | assumption)
            obtain ⟨ad104, e104, hx104_0⟩ := Kd.at_int HR0.out x8_1 p104 q104
            cases e104
            replace p104 := eq_true p104
            replace q104 := eq_true q104
            go_wp2
            go_roundg k1
            case measure => have := HK1.out; omega
            case rel => exact ⟨(Go.bits .or .u64 (IntKind.u64.wrap (x3_1 * 256)) (IntKind.u64.wrap (rd l0 x8_1))), (wrap64 (x8_1 + 1)), (by first | rfl | (simp; done) | (simp [*]; done)), (by first | rfl | (simp; done) | (simp [*]; done)), H', ⟨by have := HK1.out; omega⟩, by repeat (first | exact Drawn0.refl _ | apply Drawn0.step)⟩
          · rw [if_neg c4] at H
            exact absurd H (by simp)
        · rw [if_neg c3] at H
          exact absurd H (by simp)
      · rw [if_neg c2] at H
        have c2b0 : decide (x8_1 < (l0.length : Int)) = false := decide_eq_false c2
        clear c2
        obtain rfl := Option.some.inj H
        go_wp2
        go_ret
        exact ⟨by first | rfl | (simp; done) | (simp [*]; done), by repeat (first | exact Drawn0.refl _ | apply Drawn0.step)⟩

end Go.Proofs.Ytclmikbbjhdplaa.X
-- Written by a program of this session (a turn of the kit's print with contracts by hand). Not trusted: Lean checks it.
namespace Go.Proofs.Ytclmikbbjhdplaa.X
open Go.RowKit Go.Proofs.YtclmikbbjhdplaaW.PrintWords Go.Proofs.YtclmikbbjhdplaaW.PrintLast Go.Proofs.YtclmikbbjhdplaaW.PrintMore
attribute [local go_sem] max2_int min2_int max_two min_two max_three min_three max_four min_four   -- for this text's walks alone
set_option linter.unusedVariables false
set_option linter.unusedSimpArgs false

/-! ### mootlaw01_alive: function 15 -/
def mootlaw01_alive.f  : Option (Bool) := (octets_Put.f 258 3).bind fun t101 => (some ((strOfNums t101).toList == ([0, 1, 2] : List UInt8)))
set_option maxHeartbeats 8000000 in
set_option maxRecDepth 100000 in
theorem mootlaw01_alive.calls  (r : Bool) (w : World) (h : mootlaw01_alive.f  = some r) :
    Calls Try.prog 15 #[] w fun e w' => e = .returned (.bool r) ∧ Below w.heap.size w w' := by
  have HB := Aside0.mk (Below.refl w.heap.size w)
  have H : ((octets_Put.f 258 3).bind fun t101 => (some ((strOfNums t101).toList == ([0, 1, 2] : List UInt8)))) = some r := h
  clear h
  replace H := Option.bind_eq_some_iff.mp H
  obtain ⟨t101, A10, H⟩ := H
  replace H : (some ((strOfNums t101).toList == ([0, 1, 2] : List UInt8))) = some r := H
  have A1 := Aside0.mk A10
  clear A10
  obtain rfl := Option.some.inj H
  go_enter Try.func15, Try.ntmps15
  go_wp2_with (first | ((with_reducible refine gate_callee (f := 16) rfl ?_); refine goesL_ (some 1) rfl rfl Try.func16 (by kernel_rfl) rfl #[.int .i64 258, .int .i64 3] rfl (by (try simp only [List.map_toArray, List.map_cons, List.map_nil]); first | done | rfl | (simp only [List.length_drop, List.length_take]; rfl)) ?_; (with_reducible refine (octets_Put.calls 258 3 t101 _ A1.out).mono ?_); rintro e w2 ⟨v102, rfl, ho0, hb⟩; refine ⟨_, rfl, ?_⟩; have n0_ := Aside0.mk (Kd.R_lower ho0 (below_size (by repeat (first | (with_reducible first | exact HB.out | apply below_alloc | apply pw_below_drewN | apply below_drew1) | exact HB.out)))); have n1_ := Aside0.mk (below_step (by repeat (first | (with_reducible first | exact HB.out | apply below_alloc | apply pw_below_drewN | apply below_drew1) | exact HB.out)) hb); clear HB; have HO103 := n0_; have HB := n1_; clear n0_ n1_; (try clear hb); (try clear hb2); (try clear hk); (try clear hi); (try clear ho0); have hcv3 := own_string (P := Try.prog) Try.underlying23 Try.underlying5 Try.underlying9 (Kd.own_of_R HO103.out)))
  go_ret
  exact ⟨by first | rfl | (simp [errW_none, errW_some] <;> rfl) | (simp [*, errW_none, errW_some] <;> rfl), by repeat (first | (with_reducible first | exact HB.out | apply below_alloc | apply pw_below_drewN | apply below_drew1) | exact HB.out)⟩

end Go.Proofs.Ytclmikbbjhdplaa.X
/- Plain laws on octets as numbers: what Get comes to, and that it leads back from Put. -/
namespace Go.Proofs.Ytclmikbbjhdplaa.X
open Go.RowKit Go.Proofs.YtclmikbbjhdplaaW.PrintWords Go.Proofs.YtclmikbbjhdplaaW.PrintLast Go.Proofs.YtclmikbbjhdplaaW.PrintMore
set_option linter.unusedVariables false
set_option linter.unusedSimpArgs false

theorem wraps_u64 (n : Int) (h0 : 0 ≤ n) (h1 : n < 2 ^ 64) : IntKind.u64.wrap n = n := by rw [IntKind.wrap_u64]; omega
theorem wraps_u32 (n : Int) (h0 : 0 ≤ n) (h1 : n < 2 ^ 32) : IntKind.u32.wrap n = n := by rw [IntKind.wrap_u32]; omega
/-- Octets as a number, so many of its bits as a word has. -/
def getF (acc : Int) (l : List Int) : Int := l.foldl (fun u c => (u * 256 + c) % 18446744073709551616) acc
theorem getF_range (l : List Int) : ∀ acc : Int, 0 ≤ acc → acc < 18446744073709551616 → 0 ≤ getF acc l ∧ getF acc l < 18446744073709551616 := by
  induction l with
  | nil => intro acc a b; exact ⟨a, b⟩
  | cons c l ih => intro acc a b; exact ih _ (by dsimp only; omega) (by dsimp only; omega)
def Octets (l : List Int) : Prop := ∀ x ∈ l, 0 ≤ x ∧ x < 256
theorem rd_at (l : List Int) (i : Nat) (h : i < l.length) : rd l (i : Int) = l[i] := by simp [rd, List.getD_eq_getElem?_getD, h]
theorem or_byte (acc c : Int) (ha : 0 ≤ acc) (hc : 0 ≤ c ∧ c < 256) : Go.bits .or .u64 (IntKind.u64.wrap (acc * 256)) (IntKind.u64.wrap c) = (acc * 256 + c) % 18446744073709551616 := by
  rw [IntKind.wrap_u64, IntKind.wrap_u64, bits_join .u64 64 (by decide) wraps_u64 8] <;> omega
theorem get_l0 (l : List Int) (hl : Octets l) (hm : l.length ≤ 9223372036854775807) (d : Nat) : ∀ (k : Nat) (i : Nat) (acc : Int), 0 ≤ acc → acc < 18446744073709551616 → i + d = l.length → d < k →
    octets_Get.l0 k acc l (l.length : Int) (i : Int) = some (getF acc (l.drop i) % 4611686018427387904) := by
  induction d with
  | zero =>
    intro k i acc h0 h1 hd hk
    obtain ⟨k, rfl⟩ : ∃ m, k = m + 1 := ⟨k - 1, by omega⟩
    simp only [octets_Get.l0]
    rw [if_neg (by omega), List.drop_of_length_le (by omega)]
    have e := bits_mask .u64 64 (by decide) wraps_u64 62 (by decide) acc h0 h1
    rw [show ((2 : Int) ^ 62 - 1) = 4611686018427387903 by decide, show ((2 : Int) ^ 62) = 4611686018427387904 by decide] at e
    rw [e]
    simp only [getF, List.foldl_nil, Option.some.injEq]
    unfold wrap64
    omega
  | succ d ih =>
    intro k i acc h0 h1 hd hk
    obtain ⟨k, rfl⟩ : ∃ m, k = m + 1 := ⟨k - 1, by omega⟩
    have hi : i < l.length := by omega
    have hr := hl _ (List.getElem_mem hi)
    simp only [octets_Get.l0]
    rw [if_pos (by omega), if_pos (by omega), if_pos (by omega), rd_at l i hi, or_byte acc _ h0 hr, show wrap64 ((i : Int) + 1) = ((i + 1 : Nat) : Int) by unfold wrap64; omega]
    rw [ih k (i + 1) _ (by omega) (by omega) (by omega) (by omega), List.drop_eq_getElem_cons hi]
    rfl
theorem get_f (l : List Int) (hl : Octets l) (hm : l.length ≤ 9223372036854775807) (k : Nat) (hk : l.length < k) : octets_Get.f k l = some (getF 0 l % 4611686018427387904) := by
  have := get_l0 l hl hm l.length k 0 0 (by omega) (by omega) (by omega) hk
  simpa [octets_Get.f] using this
theorem putL_octets (u : Int) : ∀ s, Octets (putL u s)
  | 0 => by intro x hx; simp [putL] at hx
  | s + 1 => by
    intro x hx
    rcases List.mem_cons.1 hx with rfl | hx
    · constructor <;> omega
    · exact putL_octets u s x hx
theorem mod_pow_step (n s : Nat) : (n : Int) % 256 ^ (s + 1) = (n : Int) % 256 ^ s + 256 ^ s * ((n : Int) / 256 ^ s % 256) := by
  have h := @Nat.mod_mul (256 ^ s) 256 n
  rw [← Nat.pow_succ] at h
  have h3 : ((n % 256 ^ (s + 1) : Nat) : Int) = ((n % 256 ^ s + 256 ^ s * (n / 256 ^ s % 256) : Nat) : Int) := by rw [h]
  simpa only [Int.natCast_emod, Int.natCast_pow, Int.natCast_add, Int.natCast_mul, Int.natCast_ediv, Int.cast_ofNat_Int] using h3
theorem getF_put (u : Int) (hu : 0 ≤ u) : ∀ (s : Nat) (acc : Int), getF acc (putL u s) % 18446744073709551616 = (acc * 256 ^ s + u % 256 ^ s) % 18446744073709551616
  | 0, acc => by simp [putL, getF, Int.emod_one]
  | s + 1, acc => by
    have ih := getF_put u hu s ((acc * 256 + u / 256 ^ s % 256) % 18446744073709551616)
    have e : getF acc (putL u (s + 1)) = getF ((acc * 256 + u / 256 ^ s % 256) % 18446744073709551616) (putL u s) := rfl
    rw [e, ih]
    have h2 : u % 256 ^ (s + 1) = u % 256 ^ s + 256 ^ s * (u / 256 ^ s % 256) := by
      obtain ⟨n, rfl⟩ := Int.eq_ofNat_of_zero_le hu
      exact mod_pow_step n s
    rw [h2, Int.add_emod, Int.mul_emod, Int.emod_emod, ← Int.mul_emod, ← Int.add_emod]
    congr 1
    rw [Int.pow_succ, Int.add_mul, Int.mul_assoc, Int.mul_comm 256 ((256 : Int) ^ s), Int.mul_comm (u / 256 ^ s % 256)]
    omega
theorem getF_putL (u : Int) (hu : 0 ≤ u) (s : Nat) : getF 0 (putL u s) = (u % 256 ^ s) % 18446744073709551616 := by
  have h := getF_put u hu s 0
  have hr := getF_range (putL u s) 0 (by omega) (by omega)
  rw [Int.emod_eq_of_lt hr.1 hr.2] at h
  simpa using h
theorem alive01 : mootlaw01_alive.f = some true := by decide +kernel
end Go.Proofs.Ytclmikbbjhdplaa.X
/- Words as octets: what octets.Words comes to, and that each word comes back. -/
namespace Go.Proofs.Ytclmikbbjhdplaa.X
open Go.RowKit Go.Proofs.YtclmikbbjhdplaaW.PrintWords Go.Proofs.YtclmikbbjhdplaaW.PrintLast Go.Proofs.YtclmikbbjhdplaaW.PrintMore
set_option linter.unusedVariables false
set_option linter.unusedSimpArgs false

def oct4 (w : Int) : List Int := [w / 16777216 % 256, w / 65536 % 256, w / 256 % 256, w % 256]
def octs (l : List Int) : List Int := l.flatMap oct4
theorem oct4_len (w : Int) : (oct4 w).length = 4 := rfl
theorem octs_len : ∀ l, (octs l).length = 4 * l.length
  | [] => rfl
  | w :: l => by
    rw [octs, List.flatMap_cons, List.length_append, oct4_len, ← octs, octs_len l, List.length_cons]
    omega
theorem octs_octets : ∀ l, Octets (octs l)
  | [] => by intro x hx; simp [octs] at hx
  | w :: l => by
    intro x hx
    rw [octs, List.flatMap_cons, List.mem_append] at hx
    rcases hx with hx | hx
    · simp only [oct4, List.mem_cons, List.not_mem_nil, or_false] at hx
      rcases hx with rfl | rfl | rfl | rfl <;> omega
    · exact octs_octets l x hx
theorem words_l0 (l : List Int) (hl : l.length * 4 ≤ 140737488351232) : ∀ (d k i : Nat) (acc : List Int), i + d = l.length → d < k → acc.length + 4 * d ≤ 140737488351232 →
    octets_Words.l0 k acc l (l.length : Int) (i : Int) = some (acc ++ octs (l.drop i))
  | 0, k, i, acc, hd, hk, ha => by
    obtain ⟨k, rfl⟩ : ∃ m, k = m + 1 := ⟨k - 1, by omega⟩
    rw [octets_Words.l0, if_neg (by omega), List.drop_of_length_le (by omega)]
    simp [octs]
  | d + 1, k, i, acc, hd, hk, ha => by
    obtain ⟨k, rfl⟩ : ∃ m, k = m + 1 := ⟨k - 1, by omega⟩
    have hi : i < l.length := by omega
    have hs : wrap64 ((i : Int) + 1) = ((i + 1 : Nat) : Int) := by rw [wrap64_id _ (by omega) (by omega)]; rfl
    rw [octets_Words.l0, if_pos (by omega), if_pos (by omega), if_pos (by omega), Option.bind_some, hs, rd_at l i hi]
    rw [if_pos (by simp only [List.length_cons, List.length_nil]; omega)]
    rw [words_l0 l hl d k (i + 1) _ (by omega) (by omega) (by simp only [List.length_append, List.length_cons, List.length_nil]; omega), List.append_assoc, List.drop_eq_getElem_cons hi]
    rfl
theorem words_f (l : List Int) (hl : l.length * 4 ≤ 140737488351232) (k : Nat) (hk : l.length < k) : octets_Words.f k l = some (octs l) := by
  have hw : wrap64 (4 * (l.length : Int)) = 4 * (l.length : Int) := wrap64_id _ (by omega) (by omega)
  unfold octets_Words.f
  rw [hw, if_pos (by omega), if_pos (by omega)]
  have := words_l0 l hl l.length k 0 [] (by omega) hk (by simp only [List.length_nil]; omega)
  simpa using this
theorem or8 (x c : Int) (h0 : 0 ≤ x) (h1 : x < 16777216) (hc : 0 ≤ c ∧ c < 256) : Go.bits .or .u32 ((x * 256) % 4294967296) (c % 4294967296) = x * 256 + c := by
  rw [Int.emod_eq_of_lt (by omega) (by omega), Int.emod_eq_of_lt (by omega) (by omega), bits_join .u32 32 (by decide) wraps_u32 8] <;> omega
theorem word4_join (l : List Int) (a b0 b1 b2 b3 : Int) (h0 : rd l (a + (0 : Nat)) = b0) (h1 : rd l (a + (1 : Nat)) = b1) (h2 : rd l (a + (2 : Nat)) = b2) (h3 : rd l (a + (3 : Nat)) = b3)
    (c0 : 0 ≤ b0 ∧ b0 < 256) (c1 : 0 ≤ b1 ∧ b1 < 256) (c2 : 0 ≤ b2 ∧ b2 < 256) (c3 : 0 ≤ b3 ∧ b3 < 256) : word4 l a = ((b0 * 256 + b1) * 256 + b2) * 256 + b3 := by
  unfold word4
  rw [h0, h1, h2, h3, or8 0 b0 (by omega) (by omega) c0, or8 (0 * 256 + b0) b1 (by omega) (by omega) c1, or8 _ b2 (by omega) (by omega) c2, or8 _ b3 (by omega) (by omega) c3]
  omega
theorem octs_at : ∀ (l : List Int) (i : Nat) (j : Nat), i < l.length → j < 4 → (octs l).getD (4 * i + j) 0 = (oct4 (l.getD i 0)).getD j 0
  | [], i, j, h, _ => by simp at h
  | w :: l, 0, j, h, hj => by
    rw [octs, List.flatMap_cons, List.getD_eq_getElem?_getD, List.getElem?_append_left (by rw [oct4_len]; omega)]
    simp [List.getD_eq_getElem?_getD]
  | w :: l, i + 1, j, h, hj => by
    have ih := octs_at l i j (by simpa using h) hj
    rw [octs, List.flatMap_cons, List.getD_eq_getElem?_getD, List.getElem?_append_right (by rw [oct4_len]; omega), oct4_len, show 4 * (i + 1) + j - 4 = 4 * i + j by omega, ← List.getD_eq_getElem?_getD, ← octs, ih]
    simp
theorem octs_rd (l : List Int) (i j : Nat) (hi : i < l.length) (hj : j < 4) : rd (octs l) (4 * (i : Int) + (j : Nat)) = (oct4 (rd l (i : Int))).getD j 0 := by
  have e : (4 * (i : Int) + (j : Nat)).toNat = 4 * i + j := by omega
  rw [rd, e]
  exact octs_at l i j hi hj
theorem word4_octs (l : List Int) (i : Nat) (hi : i < l.length) (hw : 0 ≤ rd l (i : Int) ∧ rd l (i : Int) < 4294967296) : word4 (octs l) (4 * (i : Int)) = rd l (i : Int) := by
  rw [word4_join (octs l) _ _ _ _ _ (octs_rd l i 0 hi (by omega)) (octs_rd l i 1 hi (by omega)) (octs_rd l i 2 hi (by omega)) (octs_rd l i 3 hi (by omega))]
  all_goals simp only [oct4, List.getD_cons_zero, List.getD_cons_succ]
  all_goals omega
end Go.Proofs.Ytclmikbbjhdplaa.X
/- Lists of octets put together, padded, and summed: what the printed functions come to. -/
namespace Go.Proofs.Ytclmikbbjhdplaa.X
open Go.RowKit Go.Proofs.YtclmikbbjhdplaaW.PrintWords Go.Proofs.YtclmikbbjhdplaaW.PrintLast Go.Proofs.YtclmikbbjhdplaaW.PrintMore
set_option linter.unusedVariables false
set_option linter.unusedSimpArgs false

/-- How many octets there are in all. -/
def tot (l : List (List Int)) : Nat := (l.map List.length).sum
theorem tot_cons (x : List Int) (l : List (List Int)) : tot (x :: l) = x.length + tot l := by simp [tot]
theorem tot_flatten (l : List (List Int)) : l.flatten.length = tot l := by simp [tot, List.length_flatten]
theorem rdL2_at (l : List (List Int)) (i : Nat) (h : i < l.length) : rd_L2 l (i : Int) = l[i] := by simp [rd_L2, List.getD_eq_getElem?_getD, h]
theorem concat_l1 (l : List (List Int)) (hl : l.length < 9223372036854775807) : ∀ (d k i : Nat) (acc : List Int), i + d = l.length → d < k → acc.length + tot (l.drop i) < 140737488355328 →
    slices_Concat_byte_byte.l1 k acc l (l.length : Int) (i : Int) = some (acc ++ (l.drop i).flatten)
  | 0, k, i, acc, hd, hk, ha => by
    obtain ⟨k, rfl⟩ : ∃ m, k = m + 1 := ⟨k - 1, by omega⟩
    rw [slices_Concat_byte_byte.l1, if_neg (by omega), List.drop_of_length_le (by omega)]
    simp
  | d + 1, k, i, acc, hd, hk, ha => by
    obtain ⟨k, rfl⟩ : ∃ m, k = m + 1 := ⟨k - 1, by omega⟩
    have hi : i < l.length := by omega
    have hs : wrap64 ((i : Int) + 1) = ((i + 1 : Nat) : Int) := by rw [wrap64_id _ (by omega) (by omega)]; rfl
    rw [List.drop_eq_getElem_cons hi, tot_cons] at ha
    rw [slices_Concat_byte_byte.l1, if_pos (by omega), if_pos (by omega), if_pos (by omega), rdL2_at l i hi, if_pos (by omega), hs]
    rw [concat_l1 l hl d k (i + 1) _ (by omega) (by omega) (by rw [List.length_append]; omega), List.append_assoc, List.drop_eq_getElem_cons hi]
    rfl
theorem concat_l0 (l : List (List Int)) (hl : l.length < 9223372036854775807) (ht : tot l < 140737488355328) : ∀ (d k i : Nat) (s : Int), i + d = l.length → d + l.length + 1 < k → 0 ≤ s → s + tot (l.drop i) = tot l →
    slices_Concat_byte_byte.l0 k l s l (l.length : Int) (i : Int) = some l.flatten
  | 0, k, i, s, hd, hk, h0, hs => by
    obtain ⟨k, rfl⟩ : ∃ m, k = m + 1 := ⟨k - 1, by omega⟩
    rw [List.drop_of_length_le (by omega)] at hs
    have : tot [] = 0 := rfl
    rw [slices_Concat_byte_byte.l0, if_neg (by omega), if_pos h0, if_pos (by omega)]
    have := concat_l1 l hl l.length k 0 [] (by omega) (by omega) (by simpa using ht)
    simpa using this
  | d + 1, k, i, s, hd, hk, h0, hs => by
    obtain ⟨k, rfl⟩ : ∃ m, k = m + 1 := ⟨k - 1, by omega⟩
    have hi : i < l.length := by omega
    have hw : wrap64 ((i : Int) + 1) = ((i + 1 : Nat) : Int) := by rw [wrap64_id _ (by omega) (by omega)]; rfl
    rw [List.drop_eq_getElem_cons hi, tot_cons] at hs
    have hw2 : wrap64 (s + (l[i].length : Int)) = s + (l[i].length : Int) := wrap64_id _ (by omega) (by omega)
    rw [slices_Concat_byte_byte.l0, if_pos (by omega), if_pos (by omega), if_pos (by omega), rdL2_at l i hi, hw2, if_neg (by omega), hw]
    exact concat_l0 l hl ht d k (i + 1) _ (by omega) (by omega) (by omega) (by omega)
theorem join_f (l : List (List Int)) (hl : l.length < 4611686018427387904) (ht : tot l < 140737488355328) (k : Nat) (hk : 2 * l.length + 2 ≤ k) : octets_Join.f k l = some l.flatten := by
  unfold octets_Join.f slices_Concat_byte_byte.f
  rw [show (0 : Int) = ((0 : Nat) : Int) from rfl]
  rw [concat_l0 l (by omega) ht l.length k 0 _ (by omega) (by omega) (by omega) (by simp), Option.bind_some]

/-- A text with its padding. -/
def padL (l : List Int) : List Int := l ++ ([128] ++ (List.replicate ((119 - l.length % 64) % 64) 0 ++ putL (IntKind.u64.wrap (8 * (l.length : Int))) 8))
theorem padL_len (l : List Int) : (padL l).length = l.length + 9 + (119 - l.length % 64) % 64 := by
  simp only [padL, List.length_append, List.length_cons, List.length_nil, List.length_replicate, putL_len]
  omega
theorem padL_mod (l : List Int) : (padL l).length % 64 = 0 := by rw [padL_len]; omega
theorem pad_f (l : List Int) (hl : l.length ≤ 140737488355000) (k : Nat) (hk : 10 ≤ k) : sha_Pad.f k l = some (padL l) := by
  have hm : (((119 - ((l.length : Int) % 64)) % 64 : Int)).toNat = (119 - l.length % 64) % 64 := by omega
  have hw : wrap64 (8 * (l.length : Int)) = 8 * (l.length : Int) := wrap64_id _ (by omega) (by omega)
  have h8 : (mn (mx 8 0) 8).toNat = 8 := by decide +kernel
  unfold sha_Pad.f octets_Put.f
  rw [if_pos (by omega), hm, if_pos (by omega), hw, h8, Option.bind_some]
  rw [join_f _ (by simp) (by simp only [tot_cons, List.length_cons, List.length_nil, List.length_replicate, putL_len, show tot [] = 0 from rfl]; omega) k (by simpa using hk)]
  simp [padL]

/-- A text's sum. -/
def stateL (l : List Int) : List Int := statesA (padL l) ((padL l).length / 64)
def sumL (l : List Int) : List Int := octs (stateL l)
theorem sumL_len (l : List Int) : (sumL l).length = 32 := by rw [sumL, octs_len, stateL, statesA_len]
theorem sumL_octets (l : List Int) : Octets (sumL l) := octs_octets _
theorem sum_f (l : List Int) (hl : l.length ≤ 140737488355000) : sha_Sum.f l = some (sumL l) := by
  unfold sha_Sum.f
  rw [pad_f l hl 20 (by omega), Option.bind_some, if_pos ⟨padL_mod l, by rw [padL_len]; omega⟩]
  exact words_f _ (by rw [statesA_len]; omega) 20 (by rw [statesA_len]; omega)
end Go.Proofs.Ytclmikbbjhdplaa.X
/- mootlaw02.alive: the page's example, walked. -/
namespace Go.Proofs.Ytclmikbbjhdplaa.X
open Go.RowKit Go.Proofs.YtclmikbbjhdplaaW.PrintWords Go.Proofs.YtclmikbbjhdplaaW.PrintLast Go.Proofs.YtclmikbbjhdplaaW.PrintMore
set_option linter.unusedVariables false
set_option linter.unusedSimpArgs false

def blk1 : List Int := [97, 98, 99, 128] ++ List.replicate 59 0 ++ [24]
section
set_option maxRecDepth 100000
theorem block1 : blockA H0 K0 blk1 = [3128432319, 2399260650, 1094795486, 1571693091, 2953011619, 2518121116, 3021012833, 4060091821] := by decide +kernel
theorem pad1 : padL [97, 98, 99] = blk1 := by decide +kernel
theorem sum1 : sumL [97, 98, 99] = octs [3128432319, 2399260650, 1094795486, 1571693091, 2953011619, 2518121116, 3021012833, 4060091821] := by
  have e : stateL [97, 98, 99] = blockA H0 K0 ((blk1.drop 0).take 64) := by
    unfold stateL
    rw [pad1]
    rfl
  rw [sumL, e, show (blk1.drop 0).take 64 = blk1 by decide +kernel, block1]
theorem sum1_at : rd (sumL [97, 98, 99]) 0 = 186 ∧ rd (sumL [97, 98, 99]) 1 = 120 ∧ rd (sumL [97, 98, 99]) 2 = 22 ∧ rd (sumL [97, 98, 99]) 3 = 191 := by
  rw [sum1]
  decide +kernel
end
def mootlaw02_alive.f : Option Bool := some true
theorem alive02 : mootlaw02_alive.f = some true := rfl

set_option maxHeartbeats 4000000 in
set_option maxRecDepth 100000 in
theorem alive2_calls (w : World) : Calls Try.prog 29 #[] w fun e w' => e = .returned (.bool true) ∧ Below w.heap.size w w' := by
  obtain ⟨y, hy⟩ : ∃ y : List Int, y = [97, 98, 99] := ⟨_, rfl⟩
  obtain ⟨t, ht⟩ : ∃ t, sumL y = t := ⟨_, rfl⟩
  have hs : sha_Sum.f y = some t := by rw [← ht]; exact sum_f y (by rw [hy]; decide)
  have hlen : t.length = 32 := by rw [← ht]; exact sumL_len y
  have hat := sum1_at
  rw [← hy, ht] at hat
  have hyl : 0 < y.length := by rw [hy]; decide
  have b0 : ((t.length : Int) == 32) = true := by rw [hlen]; rfl
  have b1 : ((rd t 0) == 186) = true := by rw [hat.1]; rfl
  have b2 : ((rd t 1) == 120) = true := by rw [hat.2.1]; rfl
  have b3 : ((rd t 2) == 22) = true := by rw [hat.2.2.1]; rfl
  have b4 : ((rd t 3) == 191) = true := by rw [hat.2.2.2]; rfl
  have HS := Lib.hid hs
  have HY := Lib.hid hy
  have HYL := Lib.hid hyl
  have HL := Lib.hid hlen
  clear hs hy ht hlen hat hyl
  have HB := Aside0.mk (Below.refl w.heap.size w)
  go_enter Try.func29, Try.ntmps29
  go_wp2_with (first | ((with_reducible refine gate_dst (N := 2) rfl ?_); refine Kd.R_lit (Kd.int .u8) _ 5 ?hg (N := 2) ?hd (xs := ([97, 98, 99] : List Int)) (inner := [.int .u8 97, .int .u8 98, .int .u8 99]) (ok := fun _ => True) (okp := fun _ => True) ?hr ?hp (fun _ hk => hk) trivial (Below.refl _ _) (Nat.le_refl _) (by simp) ?_; (case hd => rfl); (case hg => rfl); (case hr => first | (go_simp; done) | (go_simp; rfl)); (case hp => exact (Reps.one (show Kd.M (Kd.int .u8) _ _ _ 97 [.int .u8 97] from rfl) (Reps.one (show Kd.M (Kd.int .u8) _ _ _ 98 [.int .u8 98] from rfl) (Reps.one (show Kd.M (Kd.int .u8) _ _ _ 99 [.int .u8 99] from rfl) (Reps.none _ _))))); intro v199 w10 ho11 hb hg_ hnew_; clear hg_ hnew_; rw [← HY.out] at ho11; have P1 := below_step HB.out hb; obtain ⟨g, cap, cur, rfl, hgb, hgh, hcap, hC⟩ := lit_block ho11 HYL.out; have hgb2 := Nat.le_trans (below_size HB.out) hgb; clear ho11 hb hgb) | ((with_reducible refine gate_dst (N := 3) rfl ?_); go_must (refine conv_ev rfl (N := 3) rfl 23 5 (.tmp 2) rfl Try.underlying23 Try.underlying5 g _ _ rfl cur hgh ?_; intro w11 hM; have P2 := hM.below _ P1 hgb2; have HC := Lib.hid (hM.row hC); have HCAP := Lib.hid hcap; have PP := Lib.hid P2; clear P1 P2 hM hC hcap hgh hgb2)) | (go_at_call 31; go_must ((with_reducible refine (sha_Sum.calls _ _ y t _ HC.out HCAP.out HS.out).mono ?_); rintro e w13 ⟨v, rfl, ho, hb⟩; have P3 := Lib.hid (below_step PP.out hb); clear hb; obtain ⟨A, c, rfl⟩ := Kd.R_slice ho; have hR := (Kd.R_reads' ho).2.2; clear ho; have hl : 3 < (t.length : Int) := (by have := HL.out; omega); obtain ⟨ad, e, x0⟩ := Kd.at_int hR 0 (by omega) (by omega); cases e; obtain ⟨ad1, e, x1⟩ := Kd.at_int hR 1 (by omega) (by omega); obtain rfl : ad = ad1 := (by injection e); clear e; obtain ⟨ad2, e, x2⟩ := Kd.at_int hR 2 (by omega) (by omega); obtain rfl : ad = ad2 := (by injection e); clear e; obtain ⟨ad3, e, x3⟩ := Kd.at_int hR 3 (by omega) (by omega); obtain rfl : ad = ad3 := (by injection e); clear e hR; simp only [show (0 : Int).toNat = 0 from rfl, show (1 : Int).toNat = 1 from rfl, show (2 : Int).toNat = 2 from rfl, show (3 : Int).toNat = 3 from rfl, Go.Addr.add, Nat.reduceEqDiff, ↓reduceIte] at x0 x1 x2 x3; have q0 : (0 < t.length) = True := eq_true (by omega); have q1 : (1 < t.length) = True := eq_true (by omega); have q2 : (2 < t.length) = True := eq_true (by omega); have q3 : (3 < t.length) = True := eq_true (by omega); have r1 : ((1 : Int) < (t.length : Int)) = True := eq_true (by omega); have r2 : ((2 : Int) < (t.length : Int)) = True := eq_true (by omega); have r3 : ((3 : Int) < (t.length : Int)) = True := eq_true (by omega); clear hl)))
  go_ret
  exact ⟨rfl, P3.out⟩
theorem mootlaw02_alive.calls (r : Bool) (w : World) (h : mootlaw02_alive.f = some r) : Calls Try.prog 29 #[] w fun e w' => e = .returned (.bool r) ∧ Below w.heap.size w w' := by
  cases h
  exact alive2_calls w
end Go.Proofs.Ytclmikbbjhdplaa.X
-- Written by a program of this session (a turn of the kit's print with contracts by hand). Not trusted: Lean checks it.
namespace Go.Proofs.Ytclmikbbjhdplaa.X
open Go.RowKit Go.Proofs.YtclmikbbjhdplaaW.PrintWords Go.Proofs.YtclmikbbjhdplaaW.PrintLast Go.Proofs.YtclmikbbjhdplaaW.PrintMore
attribute [local go_sem] max2_int min2_int max_two min_two max_three min_three max_four min_four   -- for this text's walks alone
set_option linter.unusedVariables false
set_option linter.unusedSimpArgs false

/-! ### mootref01_Join: function 28 -/
def mootref01_Join.l0 : Nat → List (List Int) → List Int → Int → Option (List Int)
  | 0, _, _, _ => none
  | k + 1, x0, x3, x4 => if x4 < (x0.length : Int) then (if 0 ≤ x4 then (if x3.length + (rd_L2 x0 x4).length < 140737488355328 then (mootref01_Join.l0 k x0 (x3 ++ (rd_L2 x0 x4)) (wrap64 (x4 + 1))) else (none)) else (none)) else (some x3)
def mootref01_Join.f (k : Nat) (l0 : List (List Int)) : Option (List Int) := mootref01_Join.l0 k l0 ([] : List Int) 0
theorem mootref01_Join.mono_l : ∀ k, (∀ y0 y1 y2, LeO (mootref01_Join.l0 k y0 y1 y2) (mootref01_Join.l0 (k + 1) y0 y1 y2))
  | 0 => fun _ _ _ r h => by simp [mootref01_Join.l0] at h
  | k + 1 => by
    have ih0 := mootref01_Join.mono_l k
    · intro y0 y1 y2
      unfold mootref01_Join.l0
      repeat' first
      | (with_reducible exact ih0 _ _ _)
      | (with_reducible exact LeO.refl _)
      | (with_reducible exact LeO.none _)
      | (with_reducible refine LeO.ite ?_ ?_)
      | (with_reducible refine LeO.bind ?_ (fun _ => ?_))
      | exact ih0 _ _ _
      | exact LeO.none _
      | refine LeO.ite ?_ ?_
      | refine LeO.bind ?_ (fun _ => ?_)
theorem mootref01_Join.mono : ∀ a0 k, LeO (mootref01_Join.f k a0) (mootref01_Join.f (k + 1) a0) := by
  intro a0 k
  have ih0 := mootref01_Join.mono_l k
  unfold mootref01_Join.f
  repeat' first
      | (with_reducible exact ih0 _ _ _)
      | (with_reducible exact LeO.refl _)
      | (with_reducible exact LeO.none _)
      | (with_reducible refine LeO.ite ?_ ?_)
      | (with_reducible refine LeO.bind ?_ (fun _ => ?_))
      | exact ih0 _ _ _
      | exact LeO.none _
      | refine LeO.ite ?_ ?_
      | refine LeO.bind ?_ (fun _ => ?_)
set_option maxHeartbeats 8000000 in
set_option maxRecDepth 100000 in
theorem mootref01_Join.calls (k : Nat) (A0 : Option Addr) (c0 : Nat) (l0 : List (List Int)) (r : List Int) (w : World) (hr0 : Kd.C (Kd.slice 5 (Kd.int .u8)) w A0 l0.length l0) (hc0 : l0.length ≤ c0) (h : mootref01_Join.f k l0 = some r) :
    Calls Try.prog 28 #[.slice A0 l0.length c0] w fun e w' => ∃ v0_ : Value, e = .returned (v0_) ∧ Kd.R (Kd.int .u8) 5 w' w.heap.size (fun _ => True) v0_ r ∧ Below w.heap.size w w' := by
  have HR0 := Aside0.mk hr0
  have HC0 := Aside0.mk hc0
  clear hr0 hc0
  have HB := Aside0.mk (Below.refl w.heap.size w)
  have H : (mootref01_Join.l0 k l0 ([] : List Int) 0) = some r := h
  clear h
  have H' := Aside0.mk H
  clear H
  go_enter Try.func28, Try.ntmps28
  go_wp2
  go_loopg [3, 4] k (fun kq v3 v4 w' => ∃ (x3_1 : List Int) (x4_1 : Int), v4 = .int .i64 x4_1 ∧ Aside0 (mootref01_Join.l0 kq l0 x3_1 x4_1 = some r) ∧ Aside0 (kq ≤ k) ∧ Aside0 (Kd.R (Kd.int .u8) 5 w' w.heap.size (fun _ => True) v3 x3_1) ∧ Aside0 (Below w.heap.size w w'))
  case atStart => exact ⟨(([] : List Int)), (0), (by first | rfl | (simp; done) | (simp [*]; done)), H', ⟨Nat.le_refl _⟩, ⟨by first | exact Kd.R_nil _ _ _ _ _ | exact Kd.N_nil _ _ _ _ _ | exact Kd.V_nil _ _ _ _ _ | exact Kd.Q_nil _ _ _ _ _ | exact Kd.S_nil _ _ _ _ _⟩, ⟨by repeat (first | (with_reducible first | exact HB.out | apply below_alloc | apply pw_below_drewN | apply below_drew1) | exact HB.out)⟩⟩
  case round =>
    clear H'
    obtain ⟨x3_1, x4_1, rfl, HA, HK1, HO_3, HB⟩ := hrel
    cases gk with
    | zero => exact absurd HA.out (by simp [mootref01_Join.l0])
    | succ k1 =>
      have H := HA.out
      clear HA
      simp only [mootref01_Join.l0] at H
      by_cases c2 : x4_1 < (l0.length : Int)
      · rw [if_pos c2] at H
        have c2b0 : decide (x4_1 < (l0.length : Int)) = true := decide_eq_true c2
        clear c2
        by_cases c3 : 0 ≤ x4_1
        · rw [if_pos c3] at H
          have c3b0 : decide (0 ≤ x4_1) = true := decide_eq_true c3
          clear c3
          by_cases c4 : x3_1.length + (rd_L2 l0 x4_1).length < 140737488355328
          · rw [if_pos c4] at H
            have LMc4 := Aside0.mk c4
            clear c4
            obtain ⟨y152, hy152⟩ : ∃ y_ : List Int, y_ = (x3_1 ++ (rd_L2 l0 x4_1)) := ⟨_, rfl⟩
            replace H : (mootref01_Join.l0 k1 l0 y152 (wrap64 (x4_1 + 1))) = some r := by first | (rw [hy152]; with_reducible exact H) | (have H2_ := (Option.bind_some _ _).symm.trans H; rw [hy152]; with_reducible exact H2_) | (have H2_ := (Option.bind_some _ _).symm.trans H; with_reducible exact H2_) | with_reducible exact H | (rw [hy152]; exact H) | exact H
            have Ny152 := Aside0.mk hy152
            clear hy152
            have H' := Aside0.mk H
            clear H
            have p151 : 0 ≤ (x4_1 : Int) := of_decide_eq_true (by first | (with_reducible assumption) | assumption)
            have q151 : x4_1 < (l0.length : Int) := of_decide_eq_true (by first | (with_reducible assumption) | assumption)
            obtain ⟨ad151, A151_0, c151_0, e151, hx151_0, hl151_0, hi151_0⟩ := at_L2 HR0.out x4_1 p151 q151
            cases e151
            replace hx151_0 := (HB.out.cell (World.block_lt_of_cell? w _ hx151_0)).trans hx151_0
            have HR151_0 := Aside0.mk hi151_0
            have HC151_0 := Aside0.mk hl151_0
            clear hi151_0 hl151_0
            replace p151 := eq_true p151
            replace q151 := eq_true q151
            go_wp2_with (first | ((with_reducible refine gate_builtin (b := .append) (xs := #[.tmp 11, .tmp 15]) rfl ?_); at_builtin; refine Kd.R_append_rows (Kd.int .u8) (w0 := w) w.heap.size rfl (.tmp 11) (.tmp 15) 23 5 (.int .u8 0) 1 rfl Try.underlying23 info5 rfl (by decide) (by omega) u3 x3_1 (rd_L2 l0 x4_1) _ _ _ (fun _ => True) (fun _ => False) rfl rfl ?aO ?aR (fun _ _ h => h) (fun _ h => h.elim) ?aF ?aB ?aS ?aL ?_; (case aR => repeat (first | exact (Kd.C_below HR151_0.out HB.out) | (with_reducible refine Kd.C_alloc ?_ _) | (with_reducible refine Kd.C_drewN ?_ _) | (with_reducible refine Kd.C_drew ?_))); (case aB => exact (by repeat (first | (with_reducible first | exact HB.out | apply below_alloc | apply pw_below_drewN | apply below_drew1) | exact HB.out))); (case aF => exact (fun _ _ => trivial)); (case aO => exact (by (with_reducible repeat (first | apply Kd.R_alloc | apply Kd.R_drewN | apply Kd.R_drew)); exact HO_3.out)); (case aS => exact (below_size (by repeat (first | (with_reducible first | exact HB.out | apply below_alloc | apply pw_below_drewN | apply below_drew1) | exact HB.out)))); (case aL => have := LMc4.out; omega); intro v153 w5 ho hb hg hat; rw [← Ny152.out] at ho; have n0_ := Aside0.mk (hb); have n1_ := Aside0.mk (ho); clear HB; clear HO_3; have HB := n0_; have HO154 := n1_; clear n0_ n1_; clear ho hb hg hat))
            go_roundg k1
            case measure => have := HK1.out; omega
            case rel => exact ⟨(y152), (wrap64 (x4_1 + 1)), (by first | rfl | (simp; done) | (simp [*]; done)), H', ⟨by have := HK1.out; omega⟩, ⟨by (with_reducible repeat (first | apply Kd.R_alloc | apply Kd.R_drewN | apply Kd.R_drew)); exact HO154.out⟩, ⟨by repeat (first | (with_reducible first | exact HB.out | apply below_alloc | apply pw_below_drewN | apply below_drew1) | exact HB.out)⟩⟩
          · rw [if_neg c4] at H
            exact absurd H (by simp)
        · rw [if_neg c3] at H
          exact absurd H (by simp)
      · rw [if_neg c2] at H
        have c2b0 : decide (x4_1 < (l0.length : Int)) = false := decide_eq_false c2
        clear c2
        obtain rfl := Option.some.inj H
        go_wp2
        go_ret
        exact ⟨_, by first | rfl | (simp [errW_none, errW_some] <;> rfl) | (simp [*, errW_none, errW_some] <;> rfl), by (with_reducible repeat (first | apply Kd.R_alloc | apply Kd.R_drewN | apply Kd.R_drew)); exact HO_3.out, by repeat (first | (with_reducible first | exact HB.out | apply below_alloc | apply pw_below_drewN | apply below_drew1) | exact HB.out)⟩

end Go.Proofs.Ytclmikbbjhdplaa.X
/- The reference's Put, Join and Pad: what they come to. -/
namespace Go.Proofs.Ytclmikbbjhdplaa.X
open Go.RowKit Go.Proofs.YtclmikbbjhdplaaW.PrintWords Go.Proofs.YtclmikbbjhdplaaW.PrintLast Go.Proofs.YtclmikbbjhdplaaW.PrintMore
set_option linter.unusedVariables false
set_option linter.unusedSimpArgs false

theorem shr_byte (u : Int) (e : Nat) (he : e < 8) : shr .u64 u (8 * (e : Int)) = u / 256 ^ e := by
  unfold shr
  have h1 : (8 * (e : Int)).toNat = 8 * e := by omega
  have h2 : min (8 * e) IntKind.u64.bits = 8 * e := Nat.min_eq_left (by have : IntKind.u64.bits = 64 := rfl; omega)
  rw [h1, h2, Int.pow_mul]
  rfl
theorem refput_l0 (n : Int) (s : Nat) (hs : s ≤ 8) : ∀ (d k i : Nat) (acc : List Int), i + d = s → d < k → acc.length + d ≤ 1000 →
    mootref01_Put.l0 k n (s : Int) acc (i : Int) = some (acc ++ putL (IntKind.u64.wrap n) d)
  | 0, k, i, acc, hd, hk, ha => by
    obtain ⟨k, rfl⟩ : ∃ m, k = m + 1 := ⟨k - 1, by omega⟩
    rw [mootref01_Put.l0, if_neg (by omega)]
    simp [putL]
  | d + 1, k, i, acc, hd, hk, ha => by
    obtain ⟨k, rfl⟩ : ∃ m, k = m + 1 := ⟨k - 1, by omega⟩
    have hw : wrap64 ((i : Int) + 1) = ((i + 1 : Nat) : Int) := by rw [wrap64_id _ (by omega) (by omega)]; rfl
    have h1 : IntKind.u64.wrap (wrap64 (8 * (wrap64 ((wrap64 ((s : Int) - 1)) - (i : Int))))) = 8 * (d : Int) := by
      rw [wrap64_id ((s : Int) - 1) (by omega) (by omega), wrap64_id ((s : Int) - 1 - i) (by omega) (by omega), wrap64_id _ (by omega) (by omega), IntKind.wrap_u64]
      omega
    rw [mootref01_Put.l0, if_pos (by omega), h1, if_pos (by omega), if_pos (by omega), hw, shr_byte _ d (by omega)]
    rw [refput_l0 n s hs d k (i + 1) _ (by omega) (by omega) (by simp only [List.length_append, List.length_cons, List.length_nil]; omega), List.append_assoc]
    rfl
theorem mn_mx8 (a : Int) : ∃ s : Nat, mn (mx a 0) 8 = (s : Int) ∧ s ≤ 8 ∧ (mn (mx a 0) 8).toNat = s := by
  refine ⟨(mn (mx a 0) 8).toNat, ?_, ?_, rfl⟩ <;> (unfold mn mx; split <;> split <;> omega)
theorem refput_f (n a : Int) (k : Nat) (hk : 9 ≤ k) : mootref01_Put.f k n a = octets_Put.f n a := by
  obtain ⟨s, e, hs, e2⟩ := mn_mx8 a
  unfold mootref01_Put.f octets_Put.f
  rw [e2, e]
  have := refput_l0 n s hs s k 0 [] (by omega) (by omega) (by simp; omega)
  simpa using this
theorem refput8 (n : Int) (k : Nat) (hk : 9 ≤ k) : mootref01_Put.f k n 8 = some (putL (IntKind.u64.wrap n) 8) := by
  rw [refput_f n 8 k hk]
  rfl
theorem refjoin_l0 (l : List (List Int)) (hl : l.length < 9223372036854775807) : ∀ (d k i : Nat) (acc : List Int), i + d = l.length → d < k → acc.length + tot (l.drop i) < 140737488355328 →
    mootref01_Join.l0 k l acc (i : Int) = some (acc ++ (l.drop i).flatten)
  | 0, k, i, acc, hd, hk, ha => by
    obtain ⟨k, rfl⟩ : ∃ m, k = m + 1 := ⟨k - 1, by omega⟩
    rw [mootref01_Join.l0, if_neg (by omega), List.drop_of_length_le (by omega)]
    simp
  | d + 1, k, i, acc, hd, hk, ha => by
    obtain ⟨k, rfl⟩ : ∃ m, k = m + 1 := ⟨k - 1, by omega⟩
    have hi : i < l.length := by omega
    have hs : wrap64 ((i : Int) + 1) = ((i + 1 : Nat) : Int) := by rw [wrap64_id _ (by omega) (by omega)]; rfl
    rw [List.drop_eq_getElem_cons hi, tot_cons] at ha
    rw [mootref01_Join.l0, if_pos (by omega), if_pos (by omega), rdL2_at l i hi, if_pos (by omega), hs]
    rw [refjoin_l0 l hl d k (i + 1) _ (by omega) (by omega) (by rw [List.length_append]; omega), List.append_assoc, List.drop_eq_getElem_cons hi]
    rfl
theorem refjoin_f (l : List (List Int)) (hl : l.length < 9223372036854775807) (ht : tot l < 140737488355328) (k : Nat) (hk : l.length < k) : mootref01_Join.f k l = some l.flatten := by
  unfold mootref01_Join.f
  have := refjoin_l0 l hl l.length k 0 [] (by omega) hk (by simpa using ht)
  simpa using this
theorem refpad_l0 (l : List Int) (hl : l.length ≤ 140737488355000) : ∀ (z k : Nat) (acc : List Int), z = (119 - (acc.length + 63) % 64) % 64 → z + 9 < k → acc.length + z + 8 < 140737488355328 →
    mootref01_Pad.l0 k l acc = some (acc ++ (List.replicate z 0 ++ putL (IntKind.u64.wrap (8 * (l.length : Int))) 8))
  | 0, k, acc, hz, hk, ha => by
    obtain ⟨k, rfl⟩ : ∃ m, k = m + 1 := ⟨k - 1, by omega⟩
    have hw : wrap64 (8 * (l.length : Int)) = 8 * (l.length : Int) := wrap64_id _ (by omega) (by omega)
    rw [mootref01_Pad.l0, if_pos (by omega), hw, refput8 _ k (by omega), Option.bind_some, if_pos (by rw [putL_len]; omega)]
    simp
  | z + 1, k, acc, hz, hk, ha => by
    obtain ⟨k, rfl⟩ : ∃ m, k = m + 1 := ⟨k - 1, by omega⟩
    rw [mootref01_Pad.l0, if_neg (by omega), if_pos (by omega)]
    rw [refpad_l0 l hl z k (acc ++ [0]) (by simp only [List.length_append, List.length_cons, List.length_nil]; omega) (by omega) (by simp only [List.length_append, List.length_cons, List.length_nil]; omega)]
    simp [List.replicate_succ]
theorem refpad_f (l : List Int) (hl : l.length ≤ 140737488355000) (k : Nat) (hk : 80 ≤ k) : mootref01_Pad.f k l = some (padL l) := by
  unfold mootref01_Pad.f
  rw [if_pos (by simp; omega), Option.bind_some, if_pos (by simp; omega)]
  rw [refpad_l0 l hl _ k ([] ++ l ++ [128]) rfl (by omega) (by simp only [List.nil_append, List.length_append, List.length_cons, List.length_nil]; omega)]
  have : (119 - ((([] ++ l ++ [128] : List Int).length) + 63) % 64) % 64 = (119 - l.length % 64) % 64 := by simp only [List.nil_append, List.length_append, List.length_cons, List.length_nil]; omega
  rw [this]
  simp [padL]
end Go.Proofs.Ytclmikbbjhdplaa.X
/- The reference's sum: turned words, words out of octets, sums. -/
namespace Go.Proofs.Ytclmikbbjhdplaa.X
open Go.RowKit Go.Proofs.YtclmikbbjhdplaaW.PrintWords Go.Proofs.YtclmikbbjhdplaaW.PrintLast Go.Proofs.YtclmikbbjhdplaaW.PrintMore
set_option linter.unusedVariables false
set_option linter.unusedSimpArgs false

theorem or_turn (k : IntKind) (a b : Int) : Go.bits .or k a b = Go.bits .or k b a := by simp only [Go.bits, BitVec.or_comm]
theorem turn_of (x n m : Int) (e : IntKind.u64.wrap (32 - n) = m) (hm : m = 32 - n) (h0 : 0 ≤ m) (h1 : 0 ≤ n) : mootref01_turn.f x n = some (rotA x n) := by
  unfold mootref01_turn.f
  rw [if_pos h1, e, if_pos h0, rotA, hm, or_turn]
/-- The turning, in the one world. -/
theorem turn_same (x n r : Int) (w : World) (h : mootref01_turn.f x n = some r) : Calls Try.prog 58 #[.int .u32 x, .int .u64 n] w fun e w' => e = .returned (.int .u32 r) ∧ w' = w := by
  unfold mootref01_turn.f at h
  by_cases c3 : 0 ≤ n
  · rw [if_pos c3] at h
    by_cases c6 : 0 ≤ IntKind.u64.wrap (32 - n)
    · rw [if_pos c6] at h
      obtain rfl := Option.some.inj h
      have a1 : decide (0 ≤ n) = true := decide_eq_true c3
      have a2 : decide (0 ≤ IntKind.u64.wrap (32 - n)) = true := decide_eq_true c6
      obtain ⟨ji5, hji5⟩ : ∃ j_ : Int, (IntKind.u64.wrap (32 - n)) = j_ := ⟨_, rfl⟩
      obtain ⟨ji4, hji4⟩ : ∃ j_ : Int, (shr .u32 x n) = j_ := ⟨_, rfl⟩
      rw [hji5] at c6 a2 ⊢
      obtain ⟨ji7, hji7⟩ : ∃ j_ : Int, (shl .u32 x ji5) = j_ := ⟨_, rfl⟩
      have hji4_ : (x / 2 ^ min n.toNat 32) = ji4 := hji4
      have hji4z : n ≤ 32 → (x / 2 ^ n.toNat) = ji4 := shr_small hji4
      have hji7_ : (IntKind.u32.wrap (x * 2 ^ min (ji5).toNat 32)) = ji7 := hji7
      have hji7z : (ji5) ≤ 32 → (IntKind.u32.wrap (x * 2 ^ (ji5).toNat)) = ji7 := shl_small hji7
      rw [hji4, hji7]
      go_enter Try.func58, Try.ntmps58
      go_wp2
      go_ret
      exact ⟨by first | rfl | simp, by rfl⟩
    · rw [if_neg c6] at h; cases h
  · rw [if_neg c3] at h; cases h
def turnOf (n : Int) : Prop := ∀ x (w : World), Calls Try.prog 58 #[.int .u32 x, .int .u64 n] w fun e w' => e = .returned (.int .u32 (rotA x n)) ∧ w' = w
theorem turnAt (n m : Int) (e : IntKind.u64.wrap (32 - n) = m) (hm : m = 32 - n) (h0 : 0 ≤ m) (h1 : 0 ≤ n) (x : Int) (w : World) : Calls Try.prog 58 #[.int .u32 x, .int .u64 n] w fun e w' => e = .returned (.int .u32 (rotA x n)) ∧ w' = w := turn_same x n _ w (turn_of x n m e hm h0 h1)
theorem turn2 (x : Int) (w : World) : Calls Try.prog 58 #[.int .u32 x, .int .u64 2] w fun e w' => e = .returned (.int .u32 (rotA x 2)) ∧ w' = w := turnAt 2 30 (by decide +kernel) (by omega) (by omega) (by omega) x w
theorem turn6 (x : Int) (w : World) : Calls Try.prog 58 #[.int .u32 x, .int .u64 6] w fun e w' => e = .returned (.int .u32 (rotA x 6)) ∧ w' = w := turnAt 6 26 (by decide +kernel) (by omega) (by omega) (by omega) x w
theorem turn7 (x : Int) (w : World) : Calls Try.prog 58 #[.int .u32 x, .int .u64 7] w fun e w' => e = .returned (.int .u32 (rotA x 7)) ∧ w' = w := turnAt 7 25 (by decide +kernel) (by omega) (by omega) (by omega) x w
theorem turn11 (x : Int) (w : World) : Calls Try.prog 58 #[.int .u32 x, .int .u64 11] w fun e w' => e = .returned (.int .u32 (rotA x 11)) ∧ w' = w := turnAt 11 21 (by decide +kernel) (by omega) (by omega) (by omega) x w
theorem turn13 (x : Int) (w : World) : Calls Try.prog 58 #[.int .u32 x, .int .u64 13] w fun e w' => e = .returned (.int .u32 (rotA x 13)) ∧ w' = w := turnAt 13 19 (by decide +kernel) (by omega) (by omega) (by omega) x w
theorem turn17 (x : Int) (w : World) : Calls Try.prog 58 #[.int .u32 x, .int .u64 17] w fun e w' => e = .returned (.int .u32 (rotA x 17)) ∧ w' = w := turnAt 17 15 (by decide +kernel) (by omega) (by omega) (by omega) x w
theorem turn18 (x : Int) (w : World) : Calls Try.prog 58 #[.int .u32 x, .int .u64 18] w fun e w' => e = .returned (.int .u32 (rotA x 18)) ∧ w' = w := turnAt 18 14 (by decide +kernel) (by omega) (by omega) (by omega) x w
theorem turn19 (x : Int) (w : World) : Calls Try.prog 58 #[.int .u32 x, .int .u64 19] w fun e w' => e = .returned (.int .u32 (rotA x 19)) ∧ w' = w := turnAt 19 13 (by decide +kernel) (by omega) (by omega) (by omega) x w
theorem turn22 (x : Int) (w : World) : Calls Try.prog 58 #[.int .u32 x, .int .u64 22] w fun e w' => e = .returned (.int .u32 (rotA x 22)) ∧ w' = w := turnAt 22 10 (by decide +kernel) (by omega) (by omega) (by omega) x w
theorem turn25 (x : Int) (w : World) : Calls Try.prog 58 #[.int .u32 x, .int .u64 25] w fun e w' => e = .returned (.int .u32 (rotA x 25)) ∧ w' = w := turnAt 25 7 (by decide +kernel) (by omega) (by omega) (by omega) x w
/-- The words added the other way. -/
theorem addA_turn (v s : List Int) (hv : v.length = 8) (hs : s.length = 8) : addA s v 8 = addA v s 8 := by
  match v, s, hv, hs with
  | [a0, a1, a2, a3, a4, a5, a6, a7], [b0, b1, b2, b3, b4, b5, b6, b7], _, _ =>
    simp [addA, rd, Int.add_comm]
/-- A word at a place of a text of octets. -/
theorem wordA_block (p : List Int) (hp : Octets p) (n t : Nat) (ht : t < 16) (hn : 64 * n + 64 ≤ p.length) :
    wordA ((p.drop (64 * n)).take 64) (4 * (t : Int)) = ((rd p ((64 * n + 4 * t : Nat) : Int) * 256 + rd p ((64 * n + 4 * t + 1 : Nat) : Int)) * 256 + rd p ((64 * n + 4 * t + 2 : Nat) : Int)) * 256 + rd p ((64 * n + 4 * t + 3 : Nat) : Int) := by
  have hl : ((p.drop (64 * n)).take 64).length = 64 := by rw [List.length_take, List.length_drop]; omega
  have hj : ∀ j : Nat, j < 4 → rd ((p.drop (64 * n)).take 64) (4 * (t : Int) + (j : Nat)) = rd p ((64 * n + 4 * t + j : Nat) : Int) := by
    intro j hj
    rw [show (4 * (t : Int) + (j : Nat)) = ((4 * t + j : Nat) : Int) by omega, rd_at _ (4 * t + j) (by omega), rd_at p (64 * n + 4 * t + j) (by omega), List.getElem_take, List.getElem_drop]
    congr 1
    omega
  have hb : ∀ j : Nat, j < 4 → 0 ≤ rd p ((64 * n + 4 * t + j : Nat) : Int) ∧ rd p ((64 * n + 4 * t + j : Nat) : Int) < 256 := by
    intro j hj
    rw [rd_at p (64 * n + 4 * t + j) (by omega)]
    exact hp _ (List.getElem_mem _)
  rw [wordA_at _ _ (by omega) (by omega) (by omega)]
  exact word4_join _ _ _ _ _ _ (hj 0 (by omega)) (hj 1 (by omega)) (hj 2 (by omega)) (hj 3 (by omega)) (hb 0 (by omega)) (hb 1 (by omega)) (hb 2 (by omega)) (hb 3 (by omega))
theorem padL_octets (l : List Int) (h : Octets l) : Octets (padL l) := by
  intro x hx
  simp only [padL, List.mem_append, List.mem_singleton] at hx
  rcases hx with hx | rfl | hx | hx
  · exact h x hx
  · omega
  · rw [List.mem_replicate] at hx; omega
  · exact putL_octets _ _ x hx
end Go.Proofs.Ytclmikbbjhdplaa.X
/- mootref01.Sha: what its loops keep. -/
namespace Go.Proofs.Ytclmikbbjhdplaa.X
open Go.RowKit Go.Proofs.YtclmikbbjhdplaaW.PrintWords Go.Proofs.YtclmikbbjhdplaaW.PrintLast Go.Proofs.YtclmikbbjhdplaaW.PrintMore
set_option linter.unusedVariables false
set_option linter.unusedSimpArgs false

set_option maxRecDepth 100000 in
set_option maxHeartbeats 4000000 in
theorem words_calls (w : World) :
    Calls Try.prog 59 #[] w fun e w' => e = .returned (.agg (nums .u32 K0).toArray) ∧ Below w.heap.size w w' := by
  go_enter Try.func59, Try.ntmps59
  go_wp2_with (first | ((with_reducible refine gate_dst (N := 1) rfl ?_); go_must (refine build_ev rfl rfl 68 _ rfl (nums .u32 K0).toArray (by kernel_rfl) ?_)) | ((with_reducible refine gate_store (t := 68) rfl ?_); go_must (refine store_ev rfl rfl 68 (.tmp 0) (.tmp 1) rfl w.heap.size _ _ rfl rfl (blk_new _ _) rfl (by kernel_rfl) (nums_one _ _) ?_; intro w1 hst)))
  refine bodyPost_ret (v := .agg (nums .u32 K0).toArray) ?_ rfl ⟨rfl, hst.below _ (below_alloc (Below.refl _ _) _) (Nat.le_refl _)⟩
  exact results_cell_row rfl _ _ w.heap.size 68 _ (0, 0) _ rfl hst.at_ Try.underlying68 rfl (by kernel_rfl)
theorem i65 : (Try.prog.info? 65).map (fun i => (i.zero, i.size)) = some (some (.agg (nums .u32 (List.replicate 8 0)).toArray), 8) := by kernel_rfl
theorem info65_of {n : Nat} (h : n = 8) : (Try.prog.info? 65).map (·.size) = some n := by rw [h]; kernel_rfl
/-- What stands through all loops: s is the state. -/
structure RI (w w7 : World) (z g3 g4 : Nat) (s : List Int) (W : World) : Prop where
  b3 : W.heap[g3]? = some (.cells (nums .u32 K0).toArray 68 (0, 0))
  b4 : W.heap[g4]? = some (.cells (nums .u32 s).toArray 65 (0, 0))
  kept : ∀ k, z ≤ k → k < w7.heap.size → W.heap[k]? = w7.heap[k]?
  size : w7.heap.size ≤ W.heap.size
  below : Below w.heap.size w W
  l3 : g3 < z
  l4 : g4 < z
  l34 : g3 ≠ g4
  zz : z ≤ w7.heap.size
  wg : w.heap.size ≤ g4
theorem RI.row {w w7 W : World} {z g3 g4 : Nat} {s q : List Int} {A : Option Addr} (h : RI w w7 z g3 g4 s W) (hF : Kd.F (Kd.int .u8) w7 (fun k => z ≤ k) A q.length q) : Kd.C (Kd.int .u8) W A q.length q :=
  Kd.F_now (Kd.F_step hF (fun k hk hlt => h.kept k hk hlt))
theorem RI.drewN {w w7 W : World} {z g3 g4 : Nat} {s : List Int} (h : RI w w7 z g3 g4 s W) (m : Nat) : RI w w7 z g3 g4 s (W.drewN m) := ⟨h.b3, h.b4, h.kept, h.size, pw_below_drewN h.below m, h.l3, h.l4, h.l34, h.zz, h.wg⟩
theorem RI.step {w w7 W W1 : World} {z g3 g4 : Nat} {s : List Int} (h : RI w w7 z g3 g4 s W) (hb : Below W.heap.size W W1) : RI w w7 z g3 g4 s W1 :=
  ⟨(hb.block _ (blk_lt h.b3)).trans h.b3, (hb.block _ (blk_lt h.b4)).trans h.b4, fun k hk hlt => (hb.block _ (Nat.lt_of_lt_of_le hlt h.size)).trans (h.kept k hk hlt), Nat.le_trans h.size hb.size, below_step h.below hb, h.l3, h.l4, h.l34, h.zz, h.wg⟩
theorem RI.set {w w7 W : World} {z g3 g4 : Nat} {s : List Int} (h : RI w w7 z g3 g4 s W) {g : Nat} (hg : w7.heap.size ≤ g) (i : Nat) (v : Value) : RI w w7 z g3 g4 s (W.setCell ⟨g, i, none⟩ v) :=
  ⟨blk_far h.b3 (by show g3 ≠ g; have := h.l3; have := h.zz; omega) _, blk_far h.b4 (by show g4 ≠ g; have := h.l4; have := h.zz; omega) _, fun k hk hlt => (Below.heap_setCell W ⟨g, i, none⟩ v k (by show k ≠ g; omega)).trans (h.kept k hk hlt), by rw [World.size_setCell]; exact h.size, below_set h.below (by have := h.wg; have := h.l4; have := h.zz; omega), h.l3, h.l4, h.l34, h.zz, h.wg⟩
theorem RI.stored {w w7 W W1 : World} {z g3 g4 g : Nat} {s : List Int} {t : TypeId} {cs : Array Value} (h : RI w w7 z g3 g4 s W) (hst : Stored g t cs W W1) (hg : w7.heap.size ≤ g) : RI w w7 z g3 g4 s W1 :=
  ⟨(hst.far _ (by have := h.l3; have := h.zz; omega)).trans h.b3, (hst.far _ (by have := h.l4; have := h.zz; omega)).trans h.b4, fun k hk hlt => (hst.far _ (by omega)).trans (h.kept k hk hlt), by rw [hst.size]; exact h.size, hst.below _ h.below (by have := h.wg; have := h.l4; have := h.zz; omega), h.l3, h.l4, h.l34, h.zz, h.wg⟩
theorem RI.put {w w7 W : World} {z g3 g4 : Nat} {s : List Int} (h : RI w w7 z g3 g4 s W) (i : Nat) (x : Int) : RI w w7 z g3 g4 (s.set i x) (W.setCell ⟨g4, i, none⟩ (.int .u32 x)) := by
  refine ⟨blk_far h.b3 h.l34 _, ?_, fun k hk hlt => (Below.heap_setCell W ⟨g4, i, none⟩ _ k (by show k ≠ g4; have := h.l4; omega)).trans (h.kept k hk hlt), by rw [World.size_setCell]; exact h.size, below_set h.below h.wg, h.l3, h.l4, h.l34, h.zz, h.wg⟩
  have := blk_set h.b4 i (.int .u32 x)
  rwa [show (nums .u32 s).toArray.setIfInBounds i (.int .u32 x) = (nums .u32 (s.set i x)).toArray by simp [nums, List.map_set]] at this
/-- What the loop over a block's words keeps. -/
structure WI (w w7 : World) (z g3 g4 g7 : Nat) (s ws : List Int) (W : World) : Prop where
  o : RI w w7 z g3 g4 s W
  row : W.heap[g7]? = some (.cells (nums .u32 (pad64 ws)).toArray 68 (0, 0))
  l7 : w7.heap.size ≤ g7
theorem WI.drewN {w w7 W : World} {z g3 g4 g7 : Nat} {s ws : List Int} (h : WI w w7 z g3 g4 g7 s ws W) (m : Nat) : WI w w7 z g3 g4 g7 s ws (W.drewN m) := ⟨h.o.drewN m, h.row, h.l7⟩
theorem WI.set {w w7 W : World} {z g3 g4 g7 : Nat} {s ws : List Int} (h : WI w w7 z g3 g4 g7 s ws W) (hn : ws.length < 64) (x : Int) : WI w w7 z g3 g4 g7 s (ws ++ [x]) (W.setCell ⟨g7, ws.length, none⟩ (.int .u32 x)) := by
  refine ⟨h.o.set h.l7 _ _, ?_, h.l7⟩
  have := blk_set h.row ws.length (.int .u32 x)
  rw [← pad64_set ws x hn]
  rwa [show (nums .u32 (pad64 ws)).toArray.setIfInBounds ws.length (.int .u32 x) = (nums .u32 ((pad64 ws).set ws.length x)).toArray by simp [nums, List.map_set]] at this
theorem WI.cell {w w7 W : World} {z g3 g4 g7 : Nat} {s ws : List Int} (h : WI w w7 z g3 g4 g7 s ws W) (i : Int) (h0 : 0 ≤ i) (hi : i < ws.length) : W.cell? ⟨g7, i.toNat, none⟩ = some (.int .u32 (rd ws i)) := by
  rw [blk_cell h.row]
  simp only [nums, List.getElem?_toArray, List.getElem?_map, pad64_get ws i.toNat (by omega)]
  rfl
theorem WI.there {w w7 W : World} {z g3 g4 g7 : Nat} {s ws : List Int} (h : WI w w7 z g3 g4 g7 s ws W) (hl : ws.length ≤ 64) (i : Nat) (hi : i < 64) : ∃ v, W.cell? ⟨g7, i, none⟩ = some (.int .u32 v) := by
  rw [blk_cell h.row]
  simp only [nums, List.getElem?_toArray, List.getElem?_map]
  rw [List.getElem?_eq_getElem (by rw [pad64_len ws hl]; exact hi)]
  exact ⟨_, rfl⟩
/-- What the rounds keep. -/
structure VI (w w7 : World) (z g3 g4 g7 g11 : Nat) (s ws v : List Int) (W : World) : Prop where
  o : RI w w7 z g3 g4 s W
  row : W.heap[g7]? = some (.cells (nums .u32 ws).toArray 68 (0, 0))
  b11 : W.heap[g11]? = some (.cells (nums .u32 v).toArray 65 (0, 0))
  l7 : w7.heap.size ≤ g7
  l11 : w7.heap.size ≤ g11
  ne : g7 ≠ g11
theorem VI.drewN {w w7 W : World} {z g3 g4 g7 g11 : Nat} {s ws v : List Int} (h : VI w w7 z g3 g4 g7 g11 s ws v W) (m : Nat) : VI w w7 z g3 g4 g7 g11 s ws v (W.drewN m) := ⟨h.o.drewN m, h.row, h.b11, h.l7, h.l11, h.ne⟩
theorem VI.store {w w7 W W1 : World} {z g3 g4 g7 g11 : Nat} {s ws v v' : List Int} (h : VI w w7 z g3 g4 g7 g11 s ws v W) (hst : Stored g11 65 (nums .u32 v').toArray W W1) : VI w w7 z g3 g4 g7 g11 s ws v' W1 :=
  ⟨h.o.stored hst h.l11, (hst.far _ h.ne).trans h.row, hst.at_, h.l7, h.l11, h.ne⟩
theorem VI.put {w w7 W : World} {z g3 g4 g7 g11 : Nat} {s ws v : List Int} (h : VI w w7 z g3 g4 g7 g11 s ws v W) (i : Nat) (x : Int) : VI w w7 z g3 g4 g7 g11 (s.set i x) ws v (W.setCell ⟨g4, i, none⟩ (.int .u32 x)) :=
  ⟨h.o.put i x, blk_far h.row (by show g7 ≠ g4; have := h.l7; have := h.o.l4; have := h.o.zz; omega) _, blk_far h.b11 (by show g11 ≠ g4; have := h.l11; have := h.o.l4; have := h.o.zz; omega) _, h.l7, h.l11, h.ne⟩

end Go.Proofs.Ytclmikbbjhdplaa.X
