/- Texts of this session joined into one: XF28, XF35, QRef, XF27, QTells, HTells, HOpens, QTot, PureOctetsTells. -/
import Derived.Test.YtclmikbbjhdplaaZOctetsTells1
import Derived.Deep.Cut
import Derived.Deep.RegionHeld3
import Derived.Test.YtclmikbbjhdplaaRows
import Derived.Deep.Slices
import Derived.ChangeSame
import Derived.SizedLaws
import Derived.ProofKit
-- Written by a program of this session (a turn of the kit's print with contracts by hand). Not trusted: Lean checks it.
namespace Go.Proofs.Ytclmikbbjhdplaa.X
open Go.RowKit Go.Proofs.YtclmikbbjhdplaaW.PrintWords Go.Proofs.YtclmikbbjhdplaaW.PrintLast Go.Proofs.YtclmikbbjhdplaaW.PrintMore
attribute [local go_sem] max2_int min2_int max_two min_two max_three min_three max_four min_four   -- for this text's walks alone
set_option linter.unusedVariables false
set_option linter.unusedSimpArgs false

/-! ### mootref01_Join: function 28 -/
def mootref01_Join.l0 : Nat → List (List Int) → List Int → Int → Option (List Int)
  | 0, _, _, _ => none
  | k + 1, x0, x3, x4 => if x4 < (x0.length : Int) then (if 0 ≤ x4 then (if x3.length + (rd_L2 x0 x4).length < 140737488355328 then (mootref01_Join.l0 k x0 (x3 ++ (rd_L2 x0 x4)) (wrap64 (x4 + 1))) else (none)) else (none)) else (some x3)
def mootref01_Join.f (k : Nat) (l0 : List (List Int)) : Option (List Int) := mootref01_Join.l0 k l0 ([] : List Int) 0
theorem mootref01_Join.mono_l : ∀ k, (∀ y0 y1 y2, LeO (mootref01_Join.l0 k y0 y1 y2) (mootref01_Join.l0 (k + 1) y0 y1 y2))
  | 0 => fun _ _ _ r h => by simp [mootref01_Join.l0] at h
  | k + 1 => by
    have ih0 := mootref01_Join.mono_l k
    · intro y0 y1 y2
      unfold mootref01_Join.l0
      repeat' first
      | (with_reducible exact ih0 _ _ _)
      | (with_reducible exact LeO.refl _)
      | (with_reducible exact LeO.none _)
      | (with_reducible refine LeO.ite ?_ ?_)
      | (with_reducible refine LeO.bind ?_ (fun _ => ?_))
      | exact ih0 _ _ _
      | exact LeO.none _
      | refine LeO.ite ?_ ?_
      | refine LeO.bind ?_ (fun _ => ?_)
theorem mootref01_Join.mono : ∀ a0 k, LeO (mootref01_Join.f k a0) (mootref01_Join.f (k + 1) a0) := by
  intro a0 k
  have ih0 := mootref01_Join.mono_l k
  unfold mootref01_Join.f
  repeat' first
      | (with_reducible exact ih0 _ _ _)
      | (with_reducible exact LeO.refl _)
      | (with_reducible exact LeO.none _)
      | (with_reducible refine LeO.ite ?_ ?_)
      | (with_reducible refine LeO.bind ?_ (fun _ => ?_))
      | exact ih0 _ _ _
      | exact LeO.none _
      | refine LeO.ite ?_ ?_
      | refine LeO.bind ?_ (fun _ => ?_)
set_option maxHeartbeats 8000000 in
set_option maxRecDepth 100000 in
theorem mootref01_Join.calls (k : Nat) (A0 : Option Addr) (c0 : Nat) (l0 : List (List Int)) (r : List Int) (w : World) (hr0 : Kd.C (Kd.slice 5 (Kd.int .u8)) w A0 l0.length l0) (hc0 : l0.length ≤ c0) (h : mootref01_Join.f k l0 = some r) :
    Calls Try.prog 28 #[.slice A0 l0.length c0] w fun e w' => ∃ v0_ : Value, e = .returned (v0_) ∧ Kd.R (Kd.int .u8) 5 w' w.heap.size (fun _ => True) v0_ r ∧ Below w.heap.size w w' := by
  have HR0 := Aside0.mk hr0
  have HC0 := Aside0.mk hc0
  clear hr0 hc0
  have HB := Aside0.mk (Below.refl w.heap.size w)
  have H : (mootref01_Join.l0 k l0 ([] : List Int) 0) = some r := h
  clear h
  have H' := Aside0.mk H
  clear H
  go_enter Try.func28, Try.ntmps28
  go_wp2
  go_loopg [3, 4] k (fun kq v3 v4 w' => ∃ (x3_1 : List Int) (x4_1 : Int), v4 = .int .i64 x4_1 ∧ Aside0 (mootref01_Join.l0 kq l0 x3_1 x4_1 = some r) ∧ Aside0 (kq ≤ k) ∧ Aside0 (Kd.R (Kd.int .u8) 5 w' w.heap.size (fun _ => True) v3 x3_1) ∧ Aside0 (Below w.heap.size w w'))
  case atStart => exact ⟨(([] : List Int)), (0), (by first | rfl | (simp; done) | (simp [*]; done)), H', ⟨Nat.le_refl _⟩, ⟨by first | exact Kd.R_nil _ _ _ _ _ | exact Kd.N_nil _ _ _ _ _ | exact Kd.V_nil _ _ _ _ _ | exact Kd.Q_nil _ _ _ _ _ | exact Kd.S_nil _ _ _ _ _⟩, ⟨by repeat (first | (with_reducible first | exact HB.out | apply below_alloc | apply pw_below_drewN | apply below_drew1) | exact HB.out)⟩⟩
  case round =>
    clear H'
    obtain ⟨x3_1, x4_1, rfl, HA, HK1, HO_3, HB⟩ := hrel
    cases gk with
    | zero => exact absurd HA.out (by simp [mootref01_Join.l0])
    | succ k1 =>
      have H := HA.out
      clear HA
      simp only [mootref01_Join.l0] at H
      by_cases c2 : x4_1 < (l0.length : Int)
      · rw [if_pos c2] at H
        have c2b0 : decide (x4_1 < (l0.length : Int)) = true := decide_eq_true c2
        clear c2
        by_cases c3 : 0 ≤ x4_1
        · rw [if_pos c3] at H
          have c3b0 : decide (0 ≤ x4_1) = true := decide_eq_true c3
          clear c3
          by_cases c4 : x3_1.length + (rd_L2 l0 x4_1).length < 140737488355328
          · rw [if_pos c4] at H
            have LMc4 := Aside0.mk c4
            clear c4
            obtain ⟨y152, hy152⟩ : ∃ y_ : List Int, y_ = (x3_1 ++ (rd_L2 l0 x4_1)) := ⟨_, rfl⟩
            replace H : (mootref01_Join.l0 k1 l0 y152 (wrap64 (x4_1 + 1))) = some r := by first | (rw [hy152]; with_reducible exact H) | (have H2_ := (Option.bind_some _ _).symm.trans H; rw [hy152]; with_reducible exact H2_) | (have H2_ := (Option.bind_some _ _).symm.trans H; with_reducible exact H2_) | with_reducible exact H | (rw [hy152]; exact H) | exact H
            have Ny152 := Aside0.mk hy152
            clear hy152
            have H' := Aside0.mk H
            clear H
            have p151 : 0 ≤ (x4_1 : Int) := of_decide_eq_true (by first | (with_reducible assumption) | assumption)
            have q151 : x4_1 < (l0.length : Int) := of_decide_eq_true (by first | (with_reducible assumption) | assumption)
            obtain ⟨ad151, A151_0, c151_0, e151, hx151_0, hl151_0, hi151_0⟩ := at_L2 HR0.out x4_1 p151 q151
            cases e151
            replace hx151_0 := (HB.out.cell (World.block_lt_of_cell? w _ hx151_0)).trans hx151_0
            have HR151_0 := Aside0.mk hi151_0
            have HC151_0 := Aside0.mk hl151_0
            clear hi151_0 hl151_0
            replace p151 := eq_true p151
            replace q151 := eq_true q151
            go_wp2_with (first | ((with_reducible refine gate_builtin (b := .append) (xs := #[.tmp 11, .tmp 15]) rfl ?_); at_builtin; refine Kd.R_append_rows (Kd.int .u8) (w0 := w) w.heap.size rfl (.tmp 11) (.tmp 15) 23 5 (.int .u8 0) 1 rfl Try.underlying23 info5 rfl (by decide) (by omega) u3 x3_1 (rd_L2 l0 x4_1) _ _ _ (fun _ => True) (fun _ => False) rfl rfl ?aO ?aR (fun _ _ h => h) (fun _ h => h.elim) ?aF ?aB ?aS ?aL ?_; (case aR => repeat (first | exact (Kd.C_below HR151_0.out HB.out) | (with_reducible refine Kd.C_alloc ?_ _) | (with_reducible refine Kd.C_drewN ?_ _) | (with_reducible refine Kd.C_drew ?_))); (case aB => exact (by repeat (first | (with_reducible first | exact HB.out | apply below_alloc | apply pw_below_drewN | apply below_drew1) | exact HB.out))); (case aF => exact (fun _ _ => trivial)); (case aO => exact (by (with_reducible repeat (first | apply Kd.R_alloc | apply Kd.R_drewN | apply Kd.R_drew)); exact HO_3.out)); (case aS => exact (below_size (by repeat (first | (with_reducible first | exact HB.out | apply below_alloc | apply pw_below_drewN | apply below_drew1) | exact HB.out)))); (case aL => have := LMc4.out; omega); intro v153 w5 ho hb hg hat; rw [← Ny152.out] at ho; have n0_ := Aside0.mk (hb); have n1_ := Aside0.mk (ho); clear HB; clear HO_3; have HB := n0_; have HO154 := n1_; clear n0_ n1_; clear ho hb hg hat))
            go_roundg k1
            case measure => have := HK1.out; omega
            case rel => exact ⟨(y152), (wrap64 (x4_1 + 1)), (by first | rfl | (simp; done) | (simp [*]; done)), H', ⟨by have := HK1.out; omega⟩, ⟨by (with_reducible repeat (first | apply Kd.R_alloc | apply Kd.R_drewN | apply Kd.R_drew)); exact HO154.out⟩, ⟨by repeat (first | (with_reducible first | exact HB.out | apply below_alloc | apply pw_below_drewN | apply below_drew1) | exact HB.out)⟩⟩
          · rw [if_neg c4] at H
            exact absurd H (by simp)
        · rw [if_neg c3] at H
          exact absurd H (by simp)
      · rw [if_neg c2] at H
        have c2b0 : decide (x4_1 < (l0.length : Int)) = false := decide_eq_false c2
        clear c2
        obtain rfl := Option.some.inj H
        go_wp2
        go_ret
        exact ⟨_, by first | rfl | (simp [errW_none, errW_some] <;> rfl) | (simp [*, errW_none, errW_some] <;> rfl), by (with_reducible repeat (first | apply Kd.R_alloc | apply Kd.R_drewN | apply Kd.R_drew)); exact HO_3.out, by repeat (first | (with_reducible first | exact HB.out | apply below_alloc | apply pw_below_drewN | apply below_drew1) | exact HB.out)⟩

end Go.Proofs.Ytclmikbbjhdplaa.X
-- Written by a program of this session (a turn of the kit's print with contracts by hand). Not trusted: Lean checks it.
namespace Go.Proofs.Ytclmikbbjhdplaa.X
open Go.RowKit Go.Proofs.YtclmikbbjhdplaaW.PrintWords Go.Proofs.YtclmikbbjhdplaaW.PrintLast Go.Proofs.YtclmikbbjhdplaaW.PrintMore
attribute [local go_sem] max2_int min2_int max_two min_two max_three min_three max_four min_four   -- for this text's walks alone
set_option linter.unusedVariables false
set_option linter.unusedSimpArgs false

/-! ### mootref01_Pad: function 35 -/
def mootref01_Pad.l0 : Nat → List Int → List Int → Option (List Int)
  | 0, _, _ => none
  | k + 1, x0, x3 => if ((x3.length : Int) % 64) = 56 then ((mootref01_Put.f k (wrap64 (8 * (x0.length : Int))) 8).bind fun t238 => (if x3.length + t238.length < 140737488355328 then (some (x3 ++ t238)) else (none))) else (if x3.length < 140737488355328 then (mootref01_Pad.l0 k x0 (x3 ++ [0])) else (none))
def mootref01_Pad.f (k : Nat) (l0 : List Int) : Option (List Int) := if ([] : List Int).length + l0.length < 140737488355328 then ((some (([] : List Int) ++ l0 : List Int)).bind fun y232 => (if y232.length < 140737488355328 then (mootref01_Pad.l0 k l0 (y232 ++ [128])) else (none))) else (none)
theorem mootref01_Pad.mono_l : ∀ k, (∀ y0 y1, LeO (mootref01_Pad.l0 k y0 y1) (mootref01_Pad.l0 (k + 1) y0 y1))
  | 0 => fun _ _ r h => by simp [mootref01_Pad.l0] at h
  | k + 1 => by
    have ih0 := mootref01_Pad.mono_l k
    · intro y0 y1
      unfold mootref01_Pad.l0
      repeat' first
      | (with_reducible exact ih0 _ _)
      | (with_reducible exact mootref01_Put.mono _ _ _)
      | (with_reducible exact LeO.refl _)
      | (with_reducible exact LeO.none _)
      | (with_reducible refine LeO.ite ?_ ?_)
      | (with_reducible refine LeO.bind ?_ (fun _ => ?_))
      | exact ih0 _ _
      | exact mootref01_Put.mono _ _ _
      | exact LeO.none _
      | refine LeO.ite ?_ ?_
      | refine LeO.bind ?_ (fun _ => ?_)
theorem mootref01_Pad.mono : ∀ a0 k, LeO (mootref01_Pad.f k a0) (mootref01_Pad.f (k + 1) a0) := by
  intro a0 k
  have ih0 := mootref01_Pad.mono_l k
  unfold mootref01_Pad.f
  repeat' first
      | (with_reducible exact ih0 _ _)
      | (with_reducible exact mootref01_Put.mono _ _ _)
      | (with_reducible exact LeO.refl _)
      | (with_reducible exact LeO.none _)
      | (with_reducible refine LeO.ite ?_ ?_)
      | (with_reducible refine LeO.bind ?_ (fun _ => ?_))
      | exact ih0 _ _
      | exact mootref01_Put.mono _ _ _
      | exact LeO.none _
      | refine LeO.ite ?_ ?_
      | refine LeO.bind ?_ (fun _ => ?_)
set_option maxHeartbeats 8000000 in
set_option maxRecDepth 100000 in
theorem mootref01_Pad.calls (k : Nat) (A0 : Option Addr) (c0 : Nat) (l0 : List Int) (r : List Int) (w : World) (hr0 : Kd.C (Kd.int .u8) w A0 l0.length l0) (hc0 : l0.length ≤ c0) (h : mootref01_Pad.f k l0 = some r) :
    Calls Try.prog 35 #[.slice A0 l0.length c0] w fun e w' => ∃ v0_ : Value, e = .returned (v0_) ∧ Kd.R (Kd.int .u8) 5 w' w.heap.size (fun _ => True) v0_ r ∧ Below w.heap.size w w' := by
  have HR0 := Aside0.mk hr0
  have HC0 := Aside0.mk hc0
  clear hr0 hc0
  have HB := Aside0.mk (Below.refl w.heap.size w)
  have H : (if ([] : List Int).length + l0.length < 140737488355328 then ((some (([] : List Int) ++ l0 : List Int)).bind fun y232 => (if y232.length < 140737488355328 then (mootref01_Pad.l0 k l0 (y232 ++ [128])) else (none))) else (none)) = some r := h
  clear h
  by_cases c2 : ([] : List Int).length + l0.length < 140737488355328
  · rw [if_pos c2] at H
    have LMc2 := Aside0.mk c2
    clear c2
    obtain ⟨y232, hy232⟩ : ∃ y_ : List Int, y_ = (([] : List Int) ++ l0) := ⟨_, rfl⟩
    replace H : (if y232.length < 140737488355328 then (mootref01_Pad.l0 k l0 (y232 ++ [128])) else (none)) = some r := by first | (rw [hy232]; with_reducible exact H) | (have H2_ := (Option.bind_some _ _).symm.trans H; rw [hy232]; with_reducible exact H2_) | (have H2_ := (Option.bind_some _ _).symm.trans H; with_reducible exact H2_) | with_reducible exact H | (rw [hy232]; exact H) | exact H
    have Ny232 := Aside0.mk hy232
    clear hy232
    by_cases c3 : y232.length < 140737488355328
    · rw [if_pos c3] at H
      have LMc3 := Aside0.mk c3
      clear c3
      obtain ⟨y235, hy235⟩ : ∃ y_ : List Int, y_ = (y232 ++ [128]) := ⟨_, rfl⟩
      replace H : (mootref01_Pad.l0 k l0 y235) = some r := by first | (rw [hy235]; with_reducible exact H) | (have H2_ := (Option.bind_some _ _).symm.trans H; rw [hy235]; with_reducible exact H2_) | (have H2_ := (Option.bind_some _ _).symm.trans H; with_reducible exact H2_) | with_reducible exact H | (rw [hy235]; exact H) | exact H
      have Ny235 := Aside0.mk hy235
      clear hy235
      have H' := Aside0.mk H
      clear H
      go_enter Try.func35, Try.ntmps35
      go_wp2_with (first | ((with_reducible refine gate_builtin (b := .append) (xs := #[.tmp 4, .tmp 5]) rfl ?_); at_builtin; refine Kd.R_append_rows (Kd.int .u8) (w0 := w) w.heap.size rfl (.tmp 4) (.tmp 5) 23 5 (.int .u8 0) 1 rfl Try.underlying23 info5 rfl (by decide) (by omega) (.slice none 0 0) ([] : List Int) l0 _ _ _ (fun _ => True) (fun _ => False) rfl rfl ?aO ?aR (fun _ _ h => h) (fun _ h => h.elim) ?aF ?aB ?aS ?aL ?_; (case aR => repeat (first | exact HR0.out | (with_reducible refine Kd.C_alloc ?_ _) | (with_reducible refine Kd.C_drewN ?_ _) | (with_reducible refine Kd.C_drew ?_))); (case aB => exact (by repeat (first | (with_reducible first | exact HB.out | apply below_alloc | apply pw_below_drewN | apply below_drew1) | exact HB.out))); (case aF => exact (fun _ _ => trivial)); (case aO => exact ((Kd.R_nil _ _ _ _ (fun _ => True)))); (case aS => exact (below_size (by repeat (first | (with_reducible first | exact HB.out | apply below_alloc | apply pw_below_drewN | apply below_drew1) | exact HB.out)))); (case aL => have := LMc2.out; omega); intro v233 w4 ho hb hg hat; rw [← Ny232.out] at ho; have n0_ := Aside0.mk (hb); have n1_ := Aside0.mk (ho); clear HB; have HB := n0_; have HO234 := n1_; clear n0_ n1_; clear ho hb hg hat) | ((with_reducible refine gate_builtin (b := .append) (xs := #[.tmp 6, .tmp 7]) rfl ?_); at_builtin; refine Kd.R_append (Kd.int .u8) (w0 := w) w.heap.size rfl (.tmp 6) (.tmp 7) 23 5 (.int .u8 0) 1 rfl Try.underlying23 info5 rfl (by decide) (by omega) v233 y232 128 [.int .u8 128] (fun _ => True) (fun _ => False) rfl rfl ?aP (fun _ hk => hk.elim) ?aF ?aO ?aB ?aS ?aL ?_; (case aP => exact rfl); (case aB => exact (by repeat (first | (with_reducible first | exact HB.out | apply below_alloc | apply pw_below_drewN | apply below_drew1) | exact HB.out))); (case aF => exact (fun _ _ => trivial)); (case aO => exact (by (with_reducible repeat (first | apply Kd.R_alloc | apply Kd.R_drewN | apply Kd.R_drew)); exact HO234.out)); (case aS => exact (below_size (by repeat (first | (with_reducible first | exact HB.out | apply below_alloc | apply pw_below_drewN | apply below_drew1) | exact HB.out)))); (case aL => have := LMc3.out; omega); intro v236 w5 ho hb hg hat; rw [← Ny235.out] at ho; have n0_ := Aside0.mk (hb); have n1_ := Aside0.mk (ho); clear HB; clear HO234; have HB := n0_; have HO237 := n1_; clear n0_ n1_; clear ho hb hg hat))
      go_loopg [3] k (fun kq v3 w' => ∃ (x3_1 : List Int), Aside0 (mootref01_Pad.l0 kq l0 x3_1 = some r) ∧ Aside0 (kq ≤ k) ∧ Aside0 (Kd.R (Kd.int .u8) 5 w' w.heap.size (fun _ => True) v3 x3_1) ∧ Aside0 (Below w.heap.size w w'))
      case atStart => exact ⟨(y235), H', ⟨Nat.le_refl _⟩, ⟨by (with_reducible repeat (first | apply Kd.R_alloc | apply Kd.R_drewN | apply Kd.R_drew)); exact HO237.out⟩, ⟨by repeat (first | (with_reducible first | exact HB.out | apply below_alloc | apply pw_below_drewN | apply below_drew1) | exact HB.out)⟩⟩
      case round =>
        clear H'
        try clear c2
        try clear p2
        try clear c3
        obtain ⟨x3_1, HA, HK1, HO_3, HB⟩ := hrel
        cases gk with
        | zero => exact absurd HA.out (by simp [mootref01_Pad.l0])
        | succ k1 =>
          have H := HA.out
          clear HA
          simp only [mootref01_Pad.l0] at H
          by_cases c6 : ((x3_1.length : Int) % 64) = 56
          · rw [if_pos c6] at H
            have c6b0 : (((x3_1.length : Int) % 64) == 56) = true := beq_iff_eq.mpr c6
            have c6b1 : (((x3_1.length : Int) % 64) != 56) = false := bne_eq_false_iff_eq.mpr c6
            clear c6
            replace H := Option.bind_eq_some_iff.mp H
            obtain ⟨t238, A70, H⟩ := H
            replace H : (if x3_1.length + t238.length < 140737488355328 then (some (x3_1 ++ t238)) else (none)) = some r := H
            have A7 := Aside0.mk A70
            clear A70
            by_cases c8 : x3_1.length + t238.length < 140737488355328
            · rw [if_pos c8] at H
              have LMc8 := Aside0.mk c8
              clear c8
              obtain ⟨y241, hy241⟩ : ∃ y_ : List Int, y_ = (x3_1 ++ t238) := ⟨_, rfl⟩
              replace H : (some y241) = some r := by first | (rw [hy241]; with_reducible exact H) | (have H2_ := (Option.bind_some _ _).symm.trans H; rw [hy241]; with_reducible exact H2_) | (have H2_ := (Option.bind_some _ _).symm.trans H; with_reducible exact H2_) | with_reducible exact H | (rw [hy241]; exact H) | exact H
              have Ny241 := Aside0.mk hy241
              clear hy241
              obtain rfl := Option.some.inj H
              obtain ⟨Ao9, co9, eo9⟩ := Kd.R_slice HO_3.out
              subst eo9
              go_wp2_with (first | ((with_reducible refine gate_callee (f := 25) rfl ?_); refine goesL_ (some 20) rfl rfl Try.func25 (by kernel_rfl) rfl #[.int .i64 (wrap64 (8 * (l0.length : Int))), .int .i64 8] rfl (by (try simp only [List.map_toArray, List.map_cons, List.map_nil]); first | done | rfl | (simp only [List.length_drop, List.length_take]; rfl)) ?_; (with_reducible refine (mootref01_Put.calls k1 (wrap64 (8 * (l0.length : Int))) 8 t238 _ A7.out).mono ?_); rintro e w10 ⟨v239, rfl, ho0, hb⟩; refine ⟨_, rfl, ?_⟩; have n0_ := Aside0.mk (Kd.R_elder' (by (with_reducible repeat (first | apply Kd.R_alloc | apply Kd.R_drewN | apply Kd.R_drew)); exact HO_3.out) (Kd.R_base ho0) hb); have n1_ := Aside0.mk (Kd.R_lower (Kd.R_new' ho0 (Kd.R_lt (by (with_reducible repeat (first | apply Kd.R_alloc | apply Kd.R_drewN | apply Kd.R_drew)); exact HO_3.out))) (below_size (by repeat (first | (with_reducible first | exact HB.out | apply below_alloc | apply pw_below_drewN | apply below_drew1) | exact HB.out)))); have n2_ := Aside0.mk (below_step (by repeat (first | (with_reducible first | exact HB.out | apply below_alloc | apply pw_below_drewN | apply below_drew1) | exact HB.out)) hb); clear HO_3; clear HB; have HO_3 := n0_; have HO240 := n1_; have HB := n2_; clear n0_ n1_ n2_; (try clear hb); (try clear hb2); (try clear hk); (try clear hi); (try clear ho0); obtain ⟨Ao12, co12, eo12⟩ := Kd.R_slice HO240.out; subst eo12) | ((with_reducible refine gate_builtin (b := .append) (xs := #[.tmp 16, .tmp 20]) rfl ?_); at_builtin; refine Kd.R_append_rows (Kd.int .u8) (w0 := w) w.heap.size rfl (.tmp 16) (.tmp 20) 23 5 (.int .u8 0) 1 rfl Try.underlying23 info5 rfl (by decide) (by omega) (.slice Ao9 x3_1.length co9) x3_1 t238 _ _ _ (fun k_ => some k_ ≠ (.slice Ao12 t238.length co12 : Value).ownBlock) (fun _ => False) rfl rfl ?aO ?aR (fun _ _ h => h) (fun _ h => h.elim) ?aF ?aB ?aS ?aL ?_; (case aR => repeat (first | exact (Kd.R_reads' HO240.out).2.2 | (with_reducible refine Kd.C_alloc ?_ _) | (with_reducible refine Kd.C_drewN ?_ _) | (with_reducible refine Kd.C_drew ?_))); (case aB => exact (by repeat (first | (with_reducible first | exact HB.out | apply below_alloc | apply pw_below_drewN | apply below_drew1) | exact HB.out))); (case aF => exact (fun k_ hk => Kd.fresh' (Kd.R_lt (by (with_reducible repeat (first | apply Kd.R_alloc | apply Kd.R_drewN | apply Kd.R_drew)); exact HO240.out)) k_ hk)); (case aO => exact (by (with_reducible repeat (first | apply Kd.R_alloc | apply Kd.R_drewN | apply Kd.R_drew)); exact Kd.R_mono HO_3.out (fun _ hk => hk.2))); (case aS => exact (below_size (by repeat (first | (with_reducible first | exact HB.out | apply below_alloc | apply pw_below_drewN | apply below_drew1) | exact HB.out)))); (case aL => have := LMc8.out; omega); intro v242 w11 ho hb hg hat; rw [← Ny241.out] at ho; have n0_ := Aside0.mk (Kd.R_after (ok := (fun _ => True)) (by (with_reducible repeat (first | apply Kd.R_alloc | apply Kd.R_drewN | apply Kd.R_drew)); exact HO240.out) hg hat); have n1_ := Aside0.mk (hb); have n2_ := Aside0.mk (ho); clear HO240; clear HB; clear HO_3; have HO240 := n0_; have HB := n1_; have HO243 := n2_; clear n0_ n1_ n2_; clear ho hb hg hat))
              go_ret
              exact ⟨_, by first | rfl | (simp [errW_none, errW_some] <;> rfl) | (simp [*, errW_none, errW_some] <;> rfl), by (with_reducible repeat (first | apply Kd.R_alloc | apply Kd.R_drewN | apply Kd.R_drew)); exact Kd.R_mono HO243.out (fun _ hk => trivial), by repeat (first | (with_reducible first | exact HB.out | apply below_alloc | apply pw_below_drewN | apply below_drew1) | exact HB.out)⟩
            · rw [if_neg c8] at H
              exact absurd H (by simp)
          · rw [if_neg c6] at H
            have c6b0 : (((x3_1.length : Int) % 64) == 56) = false := beq_eq_false_iff_ne.mpr c6
            have c6b1 : (((x3_1.length : Int) % 64) != 56) = true := bne_iff_ne.mpr c6
            by_cases c13 : x3_1.length < 140737488355328
            · rw [if_pos c13] at H
              have LMc13 := Aside0.mk c13
              clear c13
              obtain ⟨y244, hy244⟩ : ∃ y_ : List Int, y_ = (x3_1 ++ [0]) := ⟨_, rfl⟩
              replace H : (mootref01_Pad.l0 k1 l0 y244) = some r := by first | (rw [hy244]; with_reducible exact H) | (have H2_ := (Option.bind_some _ _).symm.trans H; rw [hy244]; with_reducible exact H2_) | (have H2_ := (Option.bind_some _ _).symm.trans H; with_reducible exact H2_) | with_reducible exact H | (rw [hy244]; exact H) | exact H
              have Ny244 := Aside0.mk hy244
              clear hy244
              have H' := Aside0.mk H
              clear H
              obtain ⟨Ao14, co14, eo14⟩ := Kd.R_slice HO_3.out
              subst eo14
              go_wp2_with (first | ((with_reducible refine gate_builtin (b := .append) (xs := #[.tmp 13, .tmp 14]) rfl ?_); at_builtin; refine Kd.R_append (Kd.int .u8) (w0 := w) w.heap.size rfl (.tmp 13) (.tmp 14) 23 5 (.int .u8 0) 1 rfl Try.underlying23 info5 rfl (by decide) (by omega) (.slice Ao14 x3_1.length co14) x3_1 0 [.int .u8 0] (fun _ => True) (fun _ => False) rfl rfl ?aP (fun _ hk => hk.elim) ?aF ?aO ?aB ?aS ?aL ?_; (case aP => exact rfl); (case aB => exact (by repeat (first | (with_reducible first | exact HB.out | apply below_alloc | apply pw_below_drewN | apply below_drew1) | exact HB.out))); (case aF => exact (fun _ _ => trivial)); (case aO => exact (by (with_reducible repeat (first | apply Kd.R_alloc | apply Kd.R_drewN | apply Kd.R_drew)); exact HO_3.out)); (case aS => exact (below_size (by repeat (first | (with_reducible first | exact HB.out | apply below_alloc | apply pw_below_drewN | apply below_drew1) | exact HB.out)))); (case aL => have := LMc13.out; omega); intro v245 w15 ho hb hg hat; rw [← Ny244.out] at ho; have n0_ := Aside0.mk (hb); have n1_ := Aside0.mk (ho); clear HB; clear HO_3; have HB := n0_; have HO246 := n1_; clear n0_ n1_; clear ho hb hg hat))
              go_roundg k1
              case measure => have := HK1.out; omega
              case rel => exact ⟨(y244), H', ⟨by have := HK1.out; omega⟩, ⟨by (with_reducible repeat (first | apply Kd.R_alloc | apply Kd.R_drewN | apply Kd.R_drew)); exact HO246.out⟩, ⟨by repeat (first | (with_reducible first | exact HB.out | apply below_alloc | apply pw_below_drewN | apply below_drew1) | exact HB.out)⟩⟩
            · rw [if_neg c13] at H
              exact absurd H (by simp)
    · rw [if_neg c3] at H
      exact absurd H (by simp)
  · rw [if_neg c2] at H
    exact absurd H (by simp)

end Go.Proofs.Ytclmikbbjhdplaa.X
/- The reference's Put, Join and Pad: what they come to. -/
namespace Go.Proofs.Ytclmikbbjhdplaa.X
open Go.RowKit Go.Proofs.YtclmikbbjhdplaaW.PrintWords Go.Proofs.YtclmikbbjhdplaaW.PrintLast Go.Proofs.YtclmikbbjhdplaaW.PrintMore
set_option linter.unusedVariables false
set_option linter.unusedSimpArgs false

theorem shr_byte (u : Int) (e : Nat) (he : e < 8) : shr .u64 u (8 * (e : Int)) = u / 256 ^ e := by
  unfold shr
  have h1 : (8 * (e : Int)).toNat = 8 * e := by omega
  have h2 : min (8 * e) IntKind.u64.bits = 8 * e := Nat.min_eq_left (by have : IntKind.u64.bits = 64 := rfl; omega)
  rw [h1, h2, Int.pow_mul]
  rfl
theorem refput_l0 (n : Int) (s : Nat) (hs : s ≤ 8) : ∀ (d k i : Nat) (acc : List Int), i + d = s → d < k → acc.length + d ≤ 1000 →
    mootref01_Put.l0 k n (s : Int) acc (i : Int) = some (acc ++ putL (IntKind.u64.wrap n) d)
  | 0, k, i, acc, hd, hk, ha => by
    obtain ⟨k, rfl⟩ : ∃ m, k = m + 1 := ⟨k - 1, by omega⟩
    rw [mootref01_Put.l0, if_neg (by omega)]
    simp [putL]
  | d + 1, k, i, acc, hd, hk, ha => by
    obtain ⟨k, rfl⟩ : ∃ m, k = m + 1 := ⟨k - 1, by omega⟩
    have hw : wrap64 ((i : Int) + 1) = ((i + 1 : Nat) : Int) := by rw [wrap64_id _ (by omega) (by omega)]; rfl
    have h1 : IntKind.u64.wrap (wrap64 (8 * (wrap64 ((wrap64 ((s : Int) - 1)) - (i : Int))))) = 8 * (d : Int) := by
      rw [wrap64_id ((s : Int) - 1) (by omega) (by omega), wrap64_id ((s : Int) - 1 - i) (by omega) (by omega), wrap64_id _ (by omega) (by omega), IntKind.wrap_u64]
      omega
    rw [mootref01_Put.l0, if_pos (by omega), h1, if_pos (by omega), if_pos (by omega), hw, shr_byte _ d (by omega)]
    rw [refput_l0 n s hs d k (i + 1) _ (by omega) (by omega) (by simp only [List.length_append, List.length_cons, List.length_nil]; omega), List.append_assoc]
    rfl
theorem mn_mx8 (a : Int) : ∃ s : Nat, mn (mx a 0) 8 = (s : Int) ∧ s ≤ 8 ∧ (mn (mx a 0) 8).toNat = s := by
  refine ⟨(mn (mx a 0) 8).toNat, ?_, ?_, rfl⟩ <;> (unfold mn mx; split <;> split <;> omega)
theorem refput_f (n a : Int) (k : Nat) (hk : 9 ≤ k) : mootref01_Put.f k n a = octets_Put.f n a := by
  obtain ⟨s, e, hs, e2⟩ := mn_mx8 a
  unfold mootref01_Put.f octets_Put.f
  rw [e2, e]
  have := refput_l0 n s hs s k 0 [] (by omega) (by omega) (by simp; omega)
  simpa using this
theorem refput8 (n : Int) (k : Nat) (hk : 9 ≤ k) : mootref01_Put.f k n 8 = some (putL (IntKind.u64.wrap n) 8) := by
  rw [refput_f n 8 k hk]
  rfl
theorem refjoin_l0 (l : List (List Int)) (hl : l.length < 9223372036854775807) : ∀ (d k i : Nat) (acc : List Int), i + d = l.length → d < k → acc.length + tot (l.drop i) < 140737488355328 →
    mootref01_Join.l0 k l acc (i : Int) = some (acc ++ (l.drop i).flatten)
  | 0, k, i, acc, hd, hk, ha => by
    obtain ⟨k, rfl⟩ : ∃ m, k = m + 1 := ⟨k - 1, by omega⟩
    rw [mootref01_Join.l0, if_neg (by omega), List.drop_of_length_le (by omega)]
    simp
  | d + 1, k, i, acc, hd, hk, ha => by
    obtain ⟨k, rfl⟩ : ∃ m, k = m + 1 := ⟨k - 1, by omega⟩
    have hi : i < l.length := by omega
    have hs : wrap64 ((i : Int) + 1) = ((i + 1 : Nat) : Int) := by rw [wrap64_id _ (by omega) (by omega)]; rfl
    rw [List.drop_eq_getElem_cons hi, tot_cons] at ha
    rw [mootref01_Join.l0, if_pos (by omega), if_pos (by omega), rdL2_at l i hi, if_pos (by omega), hs]
    rw [refjoin_l0 l hl d k (i + 1) _ (by omega) (by omega) (by rw [List.length_append]; omega), List.append_assoc, List.drop_eq_getElem_cons hi]
    rfl
theorem refjoin_f (l : List (List Int)) (hl : l.length < 9223372036854775807) (ht : tot l < 140737488355328) (k : Nat) (hk : l.length < k) : mootref01_Join.f k l = some l.flatten := by
  unfold mootref01_Join.f
  have := refjoin_l0 l hl l.length k 0 [] (by omega) hk (by simpa using ht)
  simpa using this
theorem refpad_l0 (l : List Int) (hl : l.length ≤ 140737488355000) : ∀ (z k : Nat) (acc : List Int), z = (119 - (acc.length + 63) % 64) % 64 → z + 9 < k → acc.length + z + 8 < 140737488355328 →
    mootref01_Pad.l0 k l acc = some (acc ++ (List.replicate z 0 ++ putL (IntKind.u64.wrap (8 * (l.length : Int))) 8))
  | 0, k, acc, hz, hk, ha => by
    obtain ⟨k, rfl⟩ : ∃ m, k = m + 1 := ⟨k - 1, by omega⟩
    have hw : wrap64 (8 * (l.length : Int)) = 8 * (l.length : Int) := wrap64_id _ (by omega) (by omega)
    rw [mootref01_Pad.l0, if_pos (by omega), hw, refput8 _ k (by omega), Option.bind_some, if_pos (by rw [putL_len]; omega)]
    simp
  | z + 1, k, acc, hz, hk, ha => by
    obtain ⟨k, rfl⟩ : ∃ m, k = m + 1 := ⟨k - 1, by omega⟩
    rw [mootref01_Pad.l0, if_neg (by omega), if_pos (by omega)]
    rw [refpad_l0 l hl z k (acc ++ [0]) (by simp only [List.length_append, List.length_cons, List.length_nil]; omega) (by omega) (by simp only [List.length_append, List.length_cons, List.length_nil]; omega)]
    simp [List.replicate_succ]
theorem refpad_f (l : List Int) (hl : l.length ≤ 140737488355000) (k : Nat) (hk : 80 ≤ k) : mootref01_Pad.f k l = some (padL l) := by
  unfold mootref01_Pad.f
  rw [if_pos (by simp; omega), Option.bind_some, if_pos (by simp; omega)]
  rw [refpad_l0 l hl _ k ([] ++ l ++ [128]) rfl (by omega) (by simp only [List.nil_append, List.length_append, List.length_cons, List.length_nil]; omega)]
  have : (119 - ((([] ++ l ++ [128] : List Int).length) + 63) % 64) % 64 = (119 - l.length % 64) % 64 := by simp only [List.nil_append, List.length_append, List.length_cons, List.length_nil]; omega
  rw [this]
  simp [padL]
end Go.Proofs.Ytclmikbbjhdplaa.X
-- Written by a program of this session (a turn of the kit's print with contracts by hand). Not trusted: Lean checks it.
namespace Go.Proofs.Ytclmikbbjhdplaa.X
open Go.RowKit Go.Proofs.YtclmikbbjhdplaaW.PrintWords Go.Proofs.YtclmikbbjhdplaaW.PrintLast Go.Proofs.YtclmikbbjhdplaaW.PrintMore
attribute [local go_sem] max2_int min2_int max_two min_two max_three min_three max_four min_four   -- for this text's walks alone
set_option linter.unusedVariables false
set_option linter.unusedSimpArgs false

/-! ### mootref01_Word: function 27 -/
def mootref01_Word.l0 : Nat → List Int → Int → Int → Int → Option (Int)
  | 0, _, _, _, _ => none
  | k + 1, x0, x1, x5, x6 => if x6 < 4 then (if x1 ≥ 0 then (if x1 < (wrap64 ((x0.length : Int) - x6)) then (if 0 ≤ (wrap64 (x1 + x6)) then (if (wrap64 (x1 + x6)) < (x0.length : Int) then (mootref01_Word.l0 k x0 x1 ((((x5 * 256) % 4294967296) + ((rd x0 (wrap64 (x1 + x6))) % 4294967296)) % 4294967296) (wrap64 (x6 + 1))) else (none)) else (none)) else (mootref01_Word.l0 k x0 x1 ((x5 * 256) % 4294967296) (wrap64 (x6 + 1)))) else (mootref01_Word.l0 k x0 x1 ((x5 * 256) % 4294967296) (wrap64 (x6 + 1)))) else (some x5)
def mootref01_Word.f (k : Nat) (l0 : List Int) (a1 : Int) : Option (Int) := mootref01_Word.l0 k l0 a1 0 0
theorem mootref01_Word.mono_l : ∀ k, (∀ y0 y1 y2 y3, LeO (mootref01_Word.l0 k y0 y1 y2 y3) (mootref01_Word.l0 (k + 1) y0 y1 y2 y3))
  | 0 => fun _ _ _ _ r h => by simp [mootref01_Word.l0] at h
  | k + 1 => by
    have ih0 := mootref01_Word.mono_l k
    · intro y0 y1 y2 y3
      unfold mootref01_Word.l0
      repeat' first
      | (with_reducible exact ih0 _ _ _ _)
      | (with_reducible exact LeO.refl _)
      | (with_reducible exact LeO.none _)
      | (with_reducible refine LeO.ite ?_ ?_)
      | (with_reducible refine LeO.bind ?_ (fun _ => ?_))
      | exact ih0 _ _ _ _
      | exact LeO.none _
      | refine LeO.ite ?_ ?_
      | refine LeO.bind ?_ (fun _ => ?_)
theorem mootref01_Word.mono : ∀ a0 a1 k, LeO (mootref01_Word.f k a0 a1) (mootref01_Word.f (k + 1) a0 a1) := by
  intro a0 a1 k
  have ih0 := mootref01_Word.mono_l k
  unfold mootref01_Word.f
  repeat' first
      | (with_reducible exact ih0 _ _ _ _)
      | (with_reducible exact LeO.refl _)
      | (with_reducible exact LeO.none _)
      | (with_reducible refine LeO.ite ?_ ?_)
      | (with_reducible refine LeO.bind ?_ (fun _ => ?_))
      | exact ih0 _ _ _ _
      | exact LeO.none _
      | refine LeO.ite ?_ ?_
      | refine LeO.bind ?_ (fun _ => ?_)
set_option maxHeartbeats 8000000 in
set_option maxRecDepth 100000 in
theorem mootref01_Word.calls (k : Nat) (A0 : Option Addr) (c0 : Nat) (l0 : List Int) (a1 : Int) (r : Int) (w : World) (hr0 : Kd.C (Kd.int .u8) w A0 l0.length l0) (hc0 : l0.length ≤ c0) (h : mootref01_Word.f k l0 a1 = some r) :
    Calls Try.prog 27 #[.slice A0 l0.length c0, .int .i64 a1] w fun e w' => e = .returned (.int .u32 r) ∧ Drawn0 w w' := by
  have HR0 := Aside0.mk hr0
  have HC0 := Aside0.mk hc0
  clear hr0 hc0
  have H : (mootref01_Word.l0 k l0 a1 0 0) = some r := h
  clear h
  have H' := Aside0.mk H
  clear H
  go_enter Try.func27, Try.ntmps27
  go_wp2
  go_loopg [5, 6] k (fun kq v5 v6 w' => ∃ (x5_1 : Int) (x6_1 : Int), v5 = .int .u32 x5_1 ∧ v6 = .int .i64 x6_1 ∧ Aside0 (mootref01_Word.l0 kq l0 a1 x5_1 x6_1 = some r) ∧ Aside0 (kq ≤ k) ∧ Drawn0 w w')
  case atStart => exact ⟨(0), (0), (by first | rfl | (simp; done) | (simp [*]; done)), (by first | rfl | (simp; done) | (simp [*]; done)), H', ⟨Nat.le_refl _⟩, by repeat (first | exact Drawn0.refl _ | apply Drawn0.step)⟩
  case round =>
    clear H'
    try clear c2
    try clear p2
    obtain ⟨x5_1, x6_1, rfl, rfl, HA, HK1, ⟨m1, rfl⟩⟩ := hrel
    cases gk with
    | zero => exact absurd HA.out (by simp [mootref01_Word.l0])
    | succ k1 =>
      have H := HA.out
      clear HA
      simp only [mootref01_Word.l0] at H
      by_cases c3 : x6_1 < 4
      · rw [if_pos c3] at H
        have c3b0 : decide (x6_1 < 4) = true := decide_eq_true c3
        clear c3
        by_cases c4 : a1 ≥ 0
        · rw [if_pos c4] at H
          have c4b0 : decide (0 ≤ a1) = true := decide_eq_true c4
          clear c4
          by_cases c5 : a1 < (wrap64 ((l0.length : Int) - x6_1))
          · rw [if_pos c5] at H
            have c5b0 : decide (a1 < (wrap64 ((l0.length : Int) - x6_1))) = true := decide_eq_true c5
            clear c5
            obtain ⟨ji6, hji6⟩ : ∃ j_ : Int, (wrap64 (a1 + x6_1)) = j_ := ⟨_, rfl⟩
            replace H : (if 0 ≤ (ji6) then (if (ji6) < (l0.length : Int) then (mootref01_Word.l0 k1 l0 a1 ((((x5_1 * 256) % 4294967296) + ((rd l0 (ji6)) % 4294967296)) % 4294967296) (wrap64 (x6_1 + 1))) else (none)) else (none)) = some r := by first | (rw [hji6] at H; exact H) | (simp only [hji6] at H ⊢; exact H)
            have hji6w : (IntKind.i64.wrap (a1 + x6_1)) = ji6 := (i64_w _).trans hji6
            by_cases c7 : 0 ≤ (ji6)
            · rw [if_pos c7] at H
              have c7b0 : decide (0 ≤ (ji6)) = true := decide_eq_true c7
              clear c7
              by_cases c8 : (ji6) < (l0.length : Int)
              · rw [if_pos c8] at H
                have c8b0 : decide ((ji6) < (l0.length : Int)) = true := decide_eq_true c8
                clear c8
                have H' := Aside0.mk H
                clear H
                have p150 : 0 ≤ ((ji6) : Int) := of_decide_eq_true (by first | (with_reducible assumption) | assumption)
                have q150 : (ji6) < (l0.length : Int) := of_decide_eq_true (by first | (with_reducible assumption) | assumption)
                obtain ⟨ad150, e150, hx150_0⟩ := Kd.at_int HR0.out (ji6) p150 q150
                cases e150
                replace p150 := eq_true p150
                replace q150 := eq_true q150
                go_wp2
                go_roundg k1
                case measure => have := HK1.out; omega
                case rel => exact ⟨((((x5_1 * 256) % 4294967296) + ((rd l0 (ji6)) % 4294967296)) % 4294967296), (wrap64 (x6_1 + 1)), (by first | rfl | (simp; done) | (simp only [← hji6] <;> (first | rfl | simp)) | (simp [*]; done)), (by first | rfl | (simp; done) | (simp [*]; done)), H', ⟨by have := HK1.out; omega⟩, by repeat (first | exact Drawn0.refl _ | apply Drawn0.step)⟩
              · rw [if_neg c8] at H
                exact absurd H (by simp)
            · rw [if_neg c7] at H
              exact absurd H (by simp)
          · rw [if_neg c5] at H
            have c5b0 : decide (a1 < (wrap64 ((l0.length : Int) - x6_1))) = false := decide_eq_false c5
            clear c5
            have H' := Aside0.mk H
            clear H
            go_wp2
            go_roundg k1
            case measure => have := HK1.out; omega
            case rel => exact ⟨((x5_1 * 256) % 4294967296), (wrap64 (x6_1 + 1)), (by first | rfl | (simp; done) | (simp [*]; done)), (by first | rfl | (simp; done) | (simp [*]; done)), H', ⟨by have := HK1.out; omega⟩, by repeat (first | exact Drawn0.refl _ | apply Drawn0.step)⟩
        · rw [if_neg c4] at H
          have c4b0 : decide (0 ≤ a1) = false := decide_eq_false c4
          clear c4
          have H' := Aside0.mk H
          clear H
          go_wp2
          go_roundg k1
          case measure => have := HK1.out; omega
          case rel => exact ⟨((x5_1 * 256) % 4294967296), (wrap64 (x6_1 + 1)), (by first | rfl | (simp; done) | (simp [*]; done)), (by first | rfl | (simp; done) | (simp [*]; done)), H', ⟨by have := HK1.out; omega⟩, by repeat (first | exact Drawn0.refl _ | apply Drawn0.step)⟩
      · rw [if_neg c3] at H
        have c3b0 : decide (x6_1 < 4) = false := decide_eq_false c3
        clear c3
        obtain rfl := Option.some.inj H
        go_wp2
        go_ret
        exact ⟨by first | rfl | (simp; done) | (simp [*]; done), by repeat (first | exact Drawn0.refl _ | apply Drawn0.step)⟩

end Go.Proofs.Ytclmikbbjhdplaa.X
/- The reference's Get and Word, as plain lists. -/
namespace Go.Proofs.Ytclmikbbjhdplaa.X
open Go.RowKit Go.Proofs.YtclmikbbjhdplaaW.PrintWords
set_option linter.unusedVariables false
set_option linter.unusedSimpArgs false
theorem or_word (x c : Int) (h0 : 0 ≤ x) (hc : 0 ≤ c ∧ c < 256) : Go.bits .or .u32 ((x * 256) % 4294967296) (c % 4294967296) = (((x * 256) % 4294967296) + (c % 4294967296)) % 4294967296 := by
  have e : (x * 256) % 4294967296 = ((x % 16777216) * 256) % 4294967296 := by omega
  rw [e, or8 (x % 16777216) c (by omega) (by omega) hc]
  omega
theorem word_same (l : List Int) (hl : Octets l) (a : Int) : ∀ (k : Nat) (x i : Int), 0 ≤ x → octets_Word.l0 k l a x i = mootref01_Word.l0 k l a x i
  | 0, x, i, h0 => rfl
  | k + 1, x, i, h0 => by
    rw [octets_Word.l0, mootref01_Word.l0]
    have hr : ∀ j : Int, 0 ≤ rd l j ∧ rd l j < 256 := by
      intro j
      unfold rd
      by_cases c : j.toNat < l.length
      · rw [List.getD_eq_getElem?_getD, List.getElem?_eq_getElem c]
        exact hl _ (List.getElem_mem c)
      · rw [List.getD_eq_getElem?_getD, List.getElem?_eq_none (by omega)]
        decide
    rw [or_word x _ h0 (hr _)]
    rw [word_same l hl a k _ _ (by omega), word_same l hl a k ((x * 256) % 4294967296) _ (by omega)]
theorem word_some (l : List Int) (hl : l.length < 4611686018427387904) (a : Int) : ∀ (k i : Nat) (x : Int), i ≤ 4 → 4 < k + i → ∃ v, octets_Word.l0 k l a x (i : Int) = some v
  | 0, i, x, h, hk => by omega
  | k + 1, i, x, h, hk => by
    rw [octets_Word.l0]
    by_cases c : (i : Int) < 4
    · have e3 : wrap64 ((i : Int) + 1) = ((i + 1 : Nat) : Int) := by rw [wrap64_id _ (by omega) (by omega)]; rfl
      have e1 : wrap64 ((l.length : Int) - (i : Int)) = (l.length : Int) - i := wrap64_id _ (by omega) (by omega)
      rw [if_pos c, e3, e1]
      by_cases c1 : a ≥ 0
      · rw [if_pos c1]
        by_cases c2 : a < (l.length : Int) - i
        · have e2 : wrap64 (a + (i : Int)) = a + i := wrap64_id _ (by omega) (by omega)
          rw [if_pos c2, e2, if_pos (by omega), if_pos (by omega)]
          exact word_some l hl a k (i + 1) _ (by omega) (by omega)
        · rw [if_neg c2]
          exact word_some l hl a k (i + 1) _ (by omega) (by omega)
      · rw [if_neg c1]
        exact word_some l hl a k (i + 1) _ (by omega) (by omega)
    · rw [if_neg c]
      exact ⟨x, rfl⟩
/-- Both words, whatever the place. -/
theorem words_same (l : List Int) (hl : Octets l) (hn : l.length < 4611686018427387904) (a : Int) : ∃ v, octets_Word.f 6 l a = some v ∧ mootref01_Word.f 6 l a = some v := by
  obtain ⟨v, hv⟩ := word_some l hn a 6 0 0 (by omega) (by omega)
  have h2 := word_same l hl a 6 0 0 (by omega)
  refine ⟨v, hv, ?_⟩
  unfold mootref01_Word.f
  rw [← h2]
  exact hv
theorem refget_l0 (l : List Int) (hl : Octets l) (hm : l.length < 4611686018427387904) (d : Nat) : ∀ (k i : Nat) (acc u : Int), 0 ≤ u → u < 18446744073709551616 → acc = u % 4611686018427387904 → i + d = l.length → d < k →
    mootref01_Get.l0 k l acc (i : Int) = some (getF u (l.drop i) % 4611686018427387904) := by
  induction d with
  | zero =>
    intro k i acc u h0 h1 ha hd hk
    obtain ⟨k, rfl⟩ : ∃ m, k = m + 1 := ⟨k - 1, by omega⟩
    rw [mootref01_Get.l0, if_neg (by omega), List.drop_of_length_le (by omega)]
    simp only [getF, List.foldl_nil, Option.some.injEq]
    unfold wrap64
    omega
  | succ d ih =>
    intro k i acc u h0 h1 ha hd hk
    obtain ⟨k, rfl⟩ : ∃ m, k = m + 1 := ⟨k - 1, by omega⟩
    have hi : i < l.length := by omega
    have hr := hl _ (List.getElem_mem hi)
    have e3 : wrap64 ((i : Int) + 1) = ((i + 1 : Nat) : Int) := by rw [wrap64_id _ (by omega) (by omega)]; rfl
    rw [mootref01_Get.l0, if_pos (by omega), if_pos (by omega), e3, rd_at l i hi, List.drop_eq_getElem_cons hi]
    rw [show getF u (l[i] :: l.drop (i + 1)) = getF ((u * 256 + l[i]) % 18446744073709551616) (l.drop (i + 1)) from rfl]
    refine ih k (i + 1) _ _ (by omega) (by omega) ?_ (by omega) (by omega)
    rw [IntKind.wrap_u64, IntKind.wrap_u64, IntKind.wrap_u64]
    generalize l[i] = c at hr ⊢
    rw [Int.tmod_eq_emod_of_nonneg (by omega)]
    omega
theorem refget_f (l : List Int) (hl : Octets l) (hm : l.length < 4611686018427387904) (k : Nat) (hk : l.length < k) : mootref01_Get.f k l = some (getF 0 l % 4611686018427387904) := by
  have := refget_l0 l hl hm l.length k 0 0 0 (by omega) (by omega) (by omega) (by omega) hk
  simpa [mootref01_Get.f] using this
theorem put_word (x : Int) (h0 : 0 ≤ x) (h1 : x < 4294967296) (k : Nat) (hk : 9 ≤ k) : mootref01_Put.f k x 4 = some (oct4 x) := by
  rw [refput_f x 4 k hk]
  have hw : IntKind.u64.wrap x = x := wraps_u64 x h0 (by omega)
  unfold octets_Put.f
  rw [hw, show (mn (mx 4 0) 8).toNat = 4 from by decide]
  simp only [putL, oct4, Option.some.injEq]
  rw [show (256 : Int) ^ 3 = 16777216 from by decide, show (256 : Int) ^ 2 = 65536 from by decide, show (256 : Int) ^ 1 = 256 from by decide, show (256 : Int) ^ 0 = 1 from by decide, Int.ediv_one]
end Go.Proofs.Ytclmikbbjhdplaa.X
/- The law OctetsTells, walked. -/
namespace Go.Proofs.Ytclmikbbjhdplaa.X
open Go.RowKit Go.Proofs.YtclmikbbjhdplaaW.PrintWords Go.Proofs.YtclmikbbjhdplaaW.PrintLast Go.Proofs.YtclmikbbjhdplaaW.PrintMore
set_option linter.unusedVariables false
set_option linter.unusedSimpArgs false
def mootlaw01_OctetsTells.f (a0 a1 : Int) (l2 : List Int) (a3 : Int) (l4 : List Int) (l5 : List (List Int)) : Option Bool :=
  if ((∀ x ∈ l2, 0 ≤ x ∧ x < 256) ∧ l2.length ≤ 1048576) ∧ ((∀ x ∈ l4, 0 ≤ x ∧ x < 4294967296) ∧ l4.length ≤ 1048576) ∧ (l5.length ≤ 1048576 ∧ tot l5 ≤ 1048576) then some true else none
theorem wpAnyH_mono {P : Program} {md : Region.Mode} {ops : Array Oper} {Q : Exit → Act → World → Prop} {S S' : World → Prop} (hs : ∀ w, S' w → S w) :
    ∀ {fuel : Nat} {listed : Array Bool} {a : Act} {w : World}, wpAnyH P md ops Q S' fuel listed a w → wpAnyH P md ops Q S fuel listed a w
  | 0, _, _, _, h => h
  | fuel + 1, _, _, _, h => ⟨h.1, fun i hi => wpOp_mono (fun _ _ h' => ⟨hs _ h'.1, wpAnyH_mono hs h'.2⟩) (h.2 i hi)⟩
theorem quiet_below {w w' : World} (h : Drawn0 w w') : Below w.heap.size w w' := by
  obtain ⟨n, rfl⟩ := h
  exact pw_below_drewN (Below.refl _ _) _
set_option maxRecDepth 100000 in
set_option maxHeartbeats 400000000 in
theorem mootlaw01_OctetsTells.calls (a0 a1 : Int) (A2 : Option Addr) (c2 : Nat) (l2 : List Int) (a3 : Int) (A4 : Option Addr) (c4 : Nat) (l4 : List Int) (A5 : Option Addr) (c5 : Nat) (l5 : List (List Int)) (r : Bool) (w : World)
    (hr2 : Kd.C (Kd.int .u8) w A2 l2.length l2) (hc2 : l2.length ≤ c2) (hr4 : Kd.C (Kd.int .u32) w A4 l4.length l4) (hc4 : l4.length ≤ c4) (hr5 : Kd.C (Kd.slice 5 (Kd.int .u8)) w A5 l5.length l5) (hc5 : l5.length ≤ c5) (h : mootlaw01_OctetsTells.f a0 a1 l2 a3 l4 l5 = some r) :
    Calls Try.prog 7 #[.int .i64 a0, .int .i64 a1, .slice A2 l2.length c2, .int .i64 a3, .slice A4 l4.length c4, .slice A5 l5.length c5] w fun e w' => e = .returned (.bool r) ∧ Below w.heap.size w w' := by
  unfold mootlaw01_OctetsTells.f at h
  by_cases hs : ((∀ x ∈ l2, 0 ≤ x ∧ x < 256) ∧ l2.length ≤ 1048576) ∧ ((∀ x ∈ l4, 0 ≤ x ∧ x < 4294967296) ∧ l4.length ≤ 1048576) ∧ (l5.length ≤ 1048576 ∧ tot l5 ≤ 1048576)
  · rw [if_pos hs] at h
    obtain rfl := Option.some.inj h
    clear h
    have HS := Lib.hid hs
    have HR2 := Lib.hid hr2
    have HR4 := Lib.hid hr4
    have HR5 := Lib.hid hr5
    have HC2 := Lib.hid hc2
    have HC4 := Lib.hid hc4
    have HC5 := Lib.hid hc5
    clear hs hr2 hr4 hr5 hc2 hc4 hc5
    go_enter Try.func7, Try.ntmps7
    go_wp2
    go_loopg [13, 14] (l4.length + 1) (fun kq v13 v14 w' => ∃ i : Nat, v14 = .int .i64 (i : Int) ∧ Hid (i ≤ l4.length ∧ kq + i = l4.length + 1) ∧ Hid (Kd.R (Kd.int .u8) 5 w' w.heap.size (fun _ => True) v13 (octs (l4.take i)) ∧ Below w.heap.size w w'))
    case atStart => exact ⟨0, rfl, Lib.hid ⟨by omega, rfl⟩, Lib.hid ⟨by simpa [octs] using Kd.R_nil (Kd.int .u8) 5 w w.heap.size (fun _ => True), Below.refl _ _⟩⟩
    case round =>
      obtain ⟨i, rfl, hi, hI⟩ := hrel
      by_cases ci : i < l4.length
      · have c1 : decide ((i : Int) < (l4.length : Int)) = true := decide_eq_true (by omega)
        have c2' : decide (i < l4.length) = true := decide_eq_true ci
        have p0 : 0 ≤ (i : Int) := by omega
        have p1 : (i : Int) < (l4.length : Int) := by omega
        obtain ⟨ad, e0, x0⟩ := Kd.at_int (Kd.C_below HR4.out hI.out.2) (i : Int) p0 p1
        cases e0
        rw [Int.toNat_natCast, rd_at l4 i ci] at x0
        obtain ⟨x, hx⟩ : ∃ x, l4[i] = x := ⟨_, rfl⟩
        rw [hx] at x0
        have hxb : 0 ≤ x ∧ x < 4294967296 := by rw [← hx]; exact HS.out.2.1.1 _ (List.getElem_mem ci)
        have hsn : octs (l4.take i) ++ oct4 x = octs (l4.take (i + 1)) := by
          rw [List.take_succ_eq_append_getElem ci, hx]
          simp [octs]
        have hpw := put_word x hxb.1 hxb.2 20 (by omega)
        obtain ⟨y, hy⟩ : ∃ y, oct4 x = y := ⟨_, rfl⟩
        have hyl : y.length = 4 := by rw [← hy]; rfl
        rw [hy] at hsn hpw
        have hol : (octs (l4.take i)).length ≤ 4194304 := by rw [octs_len, List.length_take]; have := HS.out.2.1.2; omega
        have xw : wrap64 x = x := by unfold wrap64; omega
        have HSN := Lib.hid hsn
        have HPW := Lib.hid hpw
        have HYL := Lib.hid hyl
        have HOL := Lib.hid hol
        have HCI := Lib.hid ci
        have HRO := Lib.hid hI.out.1
        have HBE := Lib.hid hI.out.2
        replace p0 := eq_true p0
        replace p1 := eq_true p1
        clear hx hxb hsn hpw hy hyl hol ci hI
        go_wp2_with (first | (go_at_call 25; go_must ((with_reducible refine (mootref01_Put.calls 20 _ _ y _ HPW.out).mono ?_); rintro e w2 ⟨v27, rfl, ho, hb⟩; obtain ⟨Ap, cp, rfl⟩ := Kd.R_slice ho; have C2 := (Kd.R_reads' ho).2.2; have R2 := Kd.R_below HRO.out hb; have B2 := below_step HBE.out hb; clear ho hb x0)) | ((with_reducible refine gate_builtin (b := .append) (xs := #[.tmp 21, .tmp 27]) rfl ?_); at_builtin; go_must (refine Kd.R_append_rows (Kd.int .u8) (w0 := w) w.heap.size rfl (.tmp 21) (.tmp 27) 23 5 (.int .u8 0) 1 rfl Try.underlying23 info5 rfl (by decide) (by decide) _ (octs (l4.take i)) y Ap y.length cp (fun _ => True) (fun _ => False) rfl rfl R2 C2 (fun x cs hp => hp) (fun _ hk => hk.elim) (fun _ _ => trivial) B2 B2.size (by have := HOL.out; have := HYL.out; omega) ?_; intro v1 w3 hR3 B3 _ _; rw [HSN.out] at hR3; have HR3 := Lib.hid hR3; have HB3 := Lib.hid B3; clear hR3 B3 C2 R2 B2)))
        obtain ⟨k1, rfl⟩ : ∃ k1, gk = k1 + 1 := ⟨gk - 1, by have := hi.out; omega⟩
        go_roundg k1
        case measure => omega
        case rel => exact ⟨i + 1, congrArg (Value.int .i64) (by have := hi.out; have := HS.out.2.1.2; have := HCI.out; unfold wrap64; omega), Lib.hid ⟨HCI.out, by have := hi.out; omega⟩, Lib.hid ⟨HR3.out, HB3.out⟩⟩
      · have c1 : decide ((i : Int) < (l4.length : Int)) = false := decide_eq_false (by omega)
        have c2' : decide (i < l4.length) = false := decide_eq_false ci
        have hil : i = l4.length := by have := hi.out; omega
        have hR := hI.out.1
        rw [hil, List.take_length] at hR
        have HRO := Lib.hid hR
        have HBE := Lib.hid hI.out.2
        obtain ⟨Aw, cw, rfl⟩ := Kd.R_slice hR
        have CW := Lib.hid (Kd.R_reads' hR).2.2
        obtain ⟨ow, how⟩ : ∃ ow, octs l4 = ow := ⟨_, rfl⟩
        obtain ⟨pl, hpl⟩ : ∃ pl, octets_Put.f a0 a1 = some pl := ⟨_, rfl⟩
        have hpl2 : mootref01_Put.f 20 a0 a1 = some pl := by rw [refput_f a0 a1 20 (by omega)]; exact hpl
        obtain ⟨gv, hgv⟩ : ∃ gv, getF 0 l2 % 4611686018427387904 = gv := ⟨_, rfl⟩
        have hl2 := HS.out.1
        have hg1 : octets_Get.f (l2.length + 1) l2 = some gv := by rw [← hgv]; exact get_f l2 hl2.1 (by omega) _ (by omega)
        have hg2 : mootref01_Get.f (l2.length + 1) l2 = some gv := by rw [← hgv]; exact refget_f l2 hl2.1 (by omega) _ (by omega)
        obtain ⟨wv, hw1, hw2⟩ := words_same l2 hl2.1 (by omega) a3
        have hl4 := HS.out.2.1
        have ho1 : octets_Words.f (l4.length + 1) l4 = some ow := by rw [← how]; exact words_f l4 (by omega) _ (by omega)
        have hl5 := HS.out.2.2
        obtain ⟨jl, hjl⟩ : ∃ jl, l5.flatten = jl := ⟨_, rfl⟩
        have hj1 : octets_Join.f (2 * l5.length + 2) l5 = some jl := by rw [← hjl]; exact join_f l5 (by omega) (by omega) _ (by omega)
        have hj2 : mootref01_Join.f (l5.length + 1) l5 = some jl := by rw [← hjl]; exact refjoin_f l5 (by omega) (by omega) _ (by omega)
        rw [how] at CW ⊢
        have HP1 := Lib.hid hpl
        have HP2 := Lib.hid hpl2
        have HG1 := Lib.hid hg1
        have HG2 := Lib.hid hg2
        have HW1 := Lib.hid hw1
        have HW2 := Lib.hid hw2
        have HO1 := Lib.hid ho1
        have HJ1 := Lib.hid hj1
        have HJ2 := Lib.hid hj2
        clear hR hI hi hil ci HRO hpl hpl2 hg1 hg2 hw1 hw2 ho1 hj1 hj2 hl2 hl4 hl5 how hjl hgv
        go_wp2
        have hkeep : ∀ W, Below wr.heap.size wr W → (convert 23 9 (.slice Aw ow.length cw)).run Try.prog W = .ok (.string (strOfNums ow)) W := fun W hB => Kd.C_string (P := Try.prog) Try.underlying23 Try.underlying5 Try.underlying9 (c := cw) (Kd.C_below CW.out hB)
        have HK := Lib.hid hkeep
        clear hkeep
        refine wp_region_noPanic ?_
        refine wp_region_held_drew (S := (fun w' => (convert 23 9 (.slice Aw ow.length cw)).run Try.prog w' = .ok (.string (strOfNums ow)) w')) (by kernel_rfl) (HK.out _ (below_drew (Below.refl _ wr))) (fun hHeld => ?_)
        have BW := Lib.hid (below_drew (Below.refl wr.heap.size wr))
        refine wpAnyH_take (i := 0) (oi := ({ dst := some 29, op := Go.Op.move (Go.Operand.tmp 0), type := 3, pos := "law.go:21", after := #[], guard := none } : Oper)) (v := ?_) rfl (by kernel_rfl) (by kernel_rfl) (by kernel_rfl) (fun _ _ _ h => h) (Or.inl ⟨by rfl, ?_⟩) (by assumption) ?_
        rotate_left
        · (intro w' hSw; try dsimp only at hSw)
          go_simp <;> with_reducible rfl
        try simp only [Act.put, List.setIfInBounds_toArray, List.set_cons_zero, List.set_cons_succ]
        refine wpAnyH_take (i := 1) (oi := ({ dst := some 30, op := Go.Op.move (Go.Operand.tmp 1), type := 3, pos := "law.go:21", after := #[], guard := none } : Oper)) (v := ?_) rfl (by kernel_rfl) (by kernel_rfl) (by kernel_rfl) (fun _ _ _ h => h) (Or.inl ⟨by rfl, ?_⟩) (by assumption) ?_
        rotate_left
        · (intro w' hSw; try dsimp only at hSw)
          go_simp <;> with_reducible rfl
        try simp only [Act.put, List.setIfInBounds_toArray, List.set_cons_zero, List.set_cons_succ]
        refine wpAnyH_take (i := 4) (oi := ({ dst := some 33, op := Go.Op.move (Go.Operand.tmp 0), type := 3, pos := "law.go:21", after := #[], guard := none } : Oper)) (v := ?_) rfl (by kernel_rfl) (by kernel_rfl) (by kernel_rfl) (fun _ _ _ h => h) (Or.inl ⟨by rfl, ?_⟩) (by assumption) ?_
        rotate_left
        · (intro w' hSw; try dsimp only at hSw)
          go_simp <;> with_reducible rfl
        try simp only [Act.put, List.setIfInBounds_toArray, List.set_cons_zero, List.set_cons_succ]
        refine wpAnyH_take (i := 5) (oi := ({ dst := some 34, op := Go.Op.move (Go.Operand.tmp 1), type := 3, pos := "law.go:21", after := #[], guard := none } : Oper)) (v := ?_) rfl (by kernel_rfl) (by kernel_rfl) (by kernel_rfl) (fun _ _ _ h => h) (Or.inl ⟨by rfl, ?_⟩) (by assumption) ?_
        rotate_left
        · (intro w' hSw; try dsimp only at hSw)
          go_simp <;> with_reducible rfl
        try simp only [Act.put, List.setIfInBounds_toArray, List.set_cons_zero, List.set_cons_succ]
        refine wpAnyH_ready (rs := [2]) (by kernel_rfl) (by simp) ?_
        refine AllReadyH.cons (o := ({ dst := some 31, op := Go.Op.call { callee := Go.Callee.value (Go.Operand.func 16), args := #[Go.Operand.tmp 29, Go.Operand.tmp 30], argTypes := #[3, 3] }, type := 23, pos := "law.go:21", after := #[{ on := 0, ground := Go.Ground.data }, { on := 1, ground := Go.Ground.data }], guard := none } : Oper)) rfl (fun K hK => ?_) AllReadyH.nil
        go_simp
        go_at_call 16
        (with_reducible refine (octets_Put.calls a0 a1 pl _ HP1.out).mono ?_)
        rintro e wA ⟨va, rfl, ho, hb⟩
        obtain ⟨Aa, ca, rfl⟩ := Kd.R_slice ho
        have NA := Lib.hid (Kd.R_reads' ho).2.2
        clear ho
        have BW := Lib.hid (below_step BW.out hb)
        clear hb hHeld
        go_wp2_with fail
        refine hK.out _ _ (HK.out _ BW.out) (fun hHeld => ?_)
        clear hK K
        try simp only [Act.put, List.setIfInBounds_toArray, List.set_cons_zero, List.set_cons_succ]
        have CA := NA
        clear NA
        refine wpAnyH_mono (S' := (fun w' => ((convert 23 9 (.slice Aw ow.length cw)).run Try.prog w' = .ok (.string (strOfNums ow)) w') ∧ ((convert 23 9 (.slice Aa pl.length ca)).run Try.prog w' = .ok (.string (strOfNums pl)) w'))) (fun _ h => h.1) ?_
        replace hHeld := And.intro hHeld (Kd.C_string (P := Try.prog) Try.underlying23 Try.underlying5 Try.underlying9 (c := ca) CA.out)
        refine wpAnyH_take (i := 3) (oi := ({ dst := some 32, op := Go.Op.convert 23 9 (Go.Operand.tmp 31), type := 9, pos := "law.go:21", after := #[{ on := 2, ground := Go.Ground.data }], guard := none } : Oper)) (v := ?_) rfl (by kernel_rfl) (by kernel_rfl) (by kernel_rfl) (fun _ _ _ h => h) (Or.inl ⟨by rfl, ?_⟩) (by assumption) ?_
        rotate_left
        · (intro w' hSw; try dsimp only at hSw)
          obtain ⟨s0, s1⟩ := hSw
          go_simp <;> with_reducible rfl
        try simp only [Act.put, List.setIfInBounds_toArray, List.set_cons_zero, List.set_cons_succ]
        refine wpAnyH_ready (rs := [6]) (by kernel_rfl) (by simp) ?_
        refine AllReadyH.cons (o := ({ dst := some 35, op := Go.Op.call { callee := Go.Callee.value (Go.Operand.func 25), args := #[Go.Operand.tmp 33, Go.Operand.tmp 34], argTypes := #[3, 3] }, type := 23, pos := "law.go:21", after := #[{ on := 4, ground := Go.Ground.data }, { on := 5, ground := Go.Ground.data }, { on := 2, ground := Go.Ground.chain }], guard := none } : Oper)) rfl (fun K hK => ?_) AllReadyH.nil
        go_simp
        go_at_call 25
        (with_reducible refine (mootref01_Put.calls 20 a0 a1 pl _ HP2.out).mono ?_)
        rintro e wB ⟨vb, rfl, ho, hb⟩
        obtain ⟨Ab, cb, rfl⟩ := Kd.R_slice ho
        have NB := Lib.hid (Kd.R_reads' ho).2.2
        clear ho
        have BW := Lib.hid (below_step BW.out hb)
        have CA := Lib.hid (Kd.C_below CA.out hb)
        clear hb hHeld
        go_wp2_with fail
        refine hK.out _ _ ⟨(HK.out _ BW.out), Kd.C_string (P := Try.prog) Try.underlying23 Try.underlying5 Try.underlying9 (c := ca) CA.out⟩ (fun hHeld => ?_)
        clear hK K
        try simp only [Act.put, List.setIfInBounds_toArray, List.set_cons_zero, List.set_cons_succ]
        have CB := NB
        clear NB
        refine wpAnyH_mono (S' := (fun w' => (((convert 23 9 (.slice Aw ow.length cw)).run Try.prog w' = .ok (.string (strOfNums ow)) w') ∧ ((convert 23 9 (.slice Aa pl.length ca)).run Try.prog w' = .ok (.string (strOfNums pl)) w')) ∧ ((convert 23 9 (.slice Ab pl.length cb)).run Try.prog w' = .ok (.string (strOfNums pl)) w'))) (fun _ h => h.1) ?_
        replace hHeld := And.intro hHeld (Kd.C_string (P := Try.prog) Try.underlying23 Try.underlying5 Try.underlying9 (c := cb) CB.out)
        refine wpAnyH_take (i := 7) (oi := ({ dst := some 36, op := Go.Op.convert 23 9 (Go.Operand.tmp 35), type := 9, pos := "law.go:21", after := #[{ on := 6, ground := Go.Ground.data }], guard := none } : Oper)) (v := ?_) rfl (by kernel_rfl) (by kernel_rfl) (by kernel_rfl) (fun _ _ _ h => h) (Or.inl ⟨by rfl, ?_⟩) (by assumption) ?_
        rotate_left
        · (intro w' hSw; try dsimp only at hSw)
          obtain ⟨⟨s0, s1⟩, s2⟩ := hSw
          go_simp <;> with_reducible rfl
        try simp only [Act.put, List.setIfInBounds_toArray, List.set_cons_zero, List.set_cons_succ]
        refine wpAnyH_take (i := 8) (oi := ({ dst := some 37, op := Go.Op.binOp Go.BinOp.eql 9 (Go.Operand.tmp 32) (Go.Operand.tmp 36) 9, type := 4, pos := "law.go:21", after := #[{ on := 3, ground := Go.Ground.data }, { on := 7, ground := Go.Ground.data }], guard := none } : Oper)) (v := ?_) rfl (by kernel_rfl) (by kernel_rfl) (by kernel_rfl) (fun _ _ _ h => h) (Or.inl ⟨by rfl, ?_⟩) (by assumption) ?_
        rotate_left
        · (intro w' hSw; try dsimp only at hSw)
          obtain ⟨⟨s0, s1⟩, s2⟩ := hSw
          go_simp <;> with_reducible rfl
        try simp only [Act.put, List.setIfInBounds_toArray, List.set_cons_zero, List.set_cons_succ]
        refine wpAnyH_take (i := 9) (oi := ({ dst := some 38, op := Go.Op.move (Go.Operand.tmp 37), type := 4, pos := "law.go:21", after := #[{ on := 8, ground := Go.Ground.data }, { on := 6, ground := Go.Ground.chain }], guard := none } : Oper)) (v := ?_) rfl (by kernel_rfl) (by kernel_rfl) (by kernel_rfl) (fun _ _ _ h => h) (Or.inl ⟨by rfl, ?_⟩) (by assumption) ?_
        rotate_left
        · (intro w' hSw; try dsimp only at hSw)
          obtain ⟨⟨s0, s1⟩, s2⟩ := hSw
          go_simp <;> with_reducible rfl
        try simp only [Act.put, List.setIfInBounds_toArray, List.set_cons_zero, List.set_cons_succ]
        refine wpAnyH_take (i := 10) (oi := ({ dst := some 39, op := Go.Op.move (Go.Operand.tmp 2), type := 23, pos := "law.go:21", after := #[{ on := 9, ground := Go.Ground.guard }], guard := some (9, true) } : Oper)) (v := ?_) rfl (by kernel_rfl) (by kernel_rfl) (by kernel_rfl) (fun _ _ _ h => h) (Or.inl ⟨by rfl, ?_⟩) (by assumption) ?_
        rotate_left
        · (intro w' hSw; try dsimp only at hSw)
          obtain ⟨⟨s0, s1⟩, s2⟩ := hSw
          go_simp <;> with_reducible rfl
        try simp only [Act.put, List.setIfInBounds_toArray, List.set_cons_zero, List.set_cons_succ]
        refine wpAnyH_take (i := 12) (oi := ({ dst := some 41, op := Go.Op.move (Go.Operand.tmp 2), type := 23, pos := "law.go:21", after := #[{ on := 9, ground := Go.Ground.guard }], guard := some (9, true) } : Oper)) (v := ?_) rfl (by kernel_rfl) (by kernel_rfl) (by kernel_rfl) (fun _ _ _ h => h) (Or.inl ⟨by rfl, ?_⟩) (by assumption) ?_
        rotate_left
        · (intro w' hSw; try dsimp only at hSw)
          obtain ⟨⟨s0, s1⟩, s2⟩ := hSw
          go_simp <;> with_reducible rfl
        try simp only [Act.put, List.setIfInBounds_toArray, List.set_cons_zero, List.set_cons_succ]
        refine wpAnyH_ready (rs := [11]) (by kernel_rfl) (by simp) ?_
        refine AllReadyH.cons (o := ({ dst := some 40, op := Go.Op.call { callee := Go.Callee.value (Go.Operand.func 17), args := #[Go.Operand.tmp 39], argTypes := #[23] }, type := 3, pos := "law.go:21", after := #[{ on := 10, ground := Go.Ground.data }, { on := 9, ground := Go.Ground.chain }, { on := 9, ground := Go.Ground.guard }], guard := some (9, true) } : Oper)) rfl (fun K hK => ?_) AllReadyH.nil
        go_simp
        go_at_call 17
        (with_reducible refine (octets_Get.calls _ A2 c2 l2 gv _ (Kd.C_below HR2.out (below_step HBE.out BW.out)) HC2.out HG1.out).mono ?_)
        rintro e wC ⟨rfl, hq⟩
        have hb := quiet_below hq
        clear hq
        have BW := Lib.hid (below_step BW.out hb)
        have CA := Lib.hid (Kd.C_below CA.out hb)
        have CB := Lib.hid (Kd.C_below CB.out hb)
        clear hb hHeld
        go_wp2_with fail
        refine hK.out _ _ ⟨⟨(HK.out _ BW.out), Kd.C_string (P := Try.prog) Try.underlying23 Try.underlying5 Try.underlying9 (c := ca) CA.out⟩, Kd.C_string (P := Try.prog) Try.underlying23 Try.underlying5 Try.underlying9 (c := cb) CB.out⟩ (fun hHeld => ?_)
        clear hK K
        try simp only [Act.put, List.setIfInBounds_toArray, List.set_cons_zero, List.set_cons_succ]
        refine wpAnyH_ready (rs := [13]) (by kernel_rfl) (by simp) ?_
        refine AllReadyH.cons (o := ({ dst := some 42, op := Go.Op.call { callee := Go.Callee.value (Go.Operand.func 26), args := #[Go.Operand.tmp 41], argTypes := #[23] }, type := 3, pos := "law.go:21", after := #[{ on := 12, ground := Go.Ground.data }, { on := 11, ground := Go.Ground.chain }, { on := 9, ground := Go.Ground.guard }], guard := some (9, true) } : Oper)) rfl (fun K hK => ?_) AllReadyH.nil
        go_simp
        go_at_call 26
        (with_reducible refine (mootref01_Get.calls _ A2 c2 l2 gv _ (Kd.C_below HR2.out (below_step HBE.out BW.out)) HC2.out HG2.out).mono ?_)
        rintro e wD ⟨rfl, hq⟩
        have hb := quiet_below hq
        clear hq
        have BW := Lib.hid (below_step BW.out hb)
        have CA := Lib.hid (Kd.C_below CA.out hb)
        have CB := Lib.hid (Kd.C_below CB.out hb)
        clear hb hHeld
        go_wp2_with fail
        refine hK.out _ _ ⟨⟨(HK.out _ BW.out), Kd.C_string (P := Try.prog) Try.underlying23 Try.underlying5 Try.underlying9 (c := ca) CA.out⟩, Kd.C_string (P := Try.prog) Try.underlying23 Try.underlying5 Try.underlying9 (c := cb) CB.out⟩ (fun hHeld => ?_)
        clear hK K
        try simp only [Act.put, List.setIfInBounds_toArray, List.set_cons_zero, List.set_cons_succ]
        refine wpAnyH_take (i := 14) (oi := ({ dst := some 43, op := Go.Op.binOp Go.BinOp.eql 3 (Go.Operand.tmp 40) (Go.Operand.tmp 42) 3, type := 4, pos := "law.go:21", after := #[{ on := 11, ground := Go.Ground.data }, { on := 13, ground := Go.Ground.data }, { on := 9, ground := Go.Ground.guard }], guard := some (9, true) } : Oper)) (v := ?_) rfl (by kernel_rfl) (by kernel_rfl) (by kernel_rfl) (fun _ _ _ h => h) (Or.inl ⟨by rfl, ?_⟩) (by assumption) ?_
        rotate_left
        · (intro w' hSw; try dsimp only at hSw)
          obtain ⟨⟨s0, s1⟩, s2⟩ := hSw
          go_simp <;> with_reducible rfl
        try simp only [Act.put, List.setIfInBounds_toArray, List.set_cons_zero, List.set_cons_succ]
        refine wpAnyH_take (i := 15) (oi := ({ dst := some 44, op := Go.Op.pick (Go.Operand.tmp 38) (Go.Operand.tmp 43) (Go.Operand.const (Go.Value.bool false)), type := 4, pos := "law.go:21", after := #[{ on := 9, ground := Go.Ground.data }, { on := 14, ground := Go.Ground.data }], guard := none } : Oper)) (v := ?_) rfl (by kernel_rfl) (by kernel_rfl) (by kernel_rfl) (fun _ _ _ h => h) (Or.inl ⟨by rfl, ?_⟩) (by assumption) ?_
        rotate_left
        · (intro w' hSw; try dsimp only at hSw)
          obtain ⟨⟨s0, s1⟩, s2⟩ := hSw
          go_simp <;> with_reducible rfl
        try simp only [Act.put, List.setIfInBounds_toArray, List.set_cons_zero, List.set_cons_succ]
        refine wpAnyH_take (i := 16) (oi := ({ dst := some 45, op := Go.Op.move (Go.Operand.tmp 44), type := 4, pos := "law.go:21", after := #[{ on := 15, ground := Go.Ground.data }, { on := 13, ground := Go.Ground.chain }], guard := none } : Oper)) (v := ?_) rfl (by kernel_rfl) (by kernel_rfl) (by kernel_rfl) (fun _ _ _ h => h) (Or.inl ⟨by rfl, ?_⟩) (by assumption) ?_
        rotate_left
        · (intro w' hSw; try dsimp only at hSw)
          obtain ⟨⟨s0, s1⟩, s2⟩ := hSw
          go_simp <;> with_reducible rfl
        try simp only [Act.put, List.setIfInBounds_toArray, List.set_cons_zero, List.set_cons_succ]
        refine wpAnyH_take (i := 17) (oi := ({ dst := some 46, op := Go.Op.move (Go.Operand.tmp 2), type := 23, pos := "law.go:21", after := #[{ on := 16, ground := Go.Ground.guard }], guard := some (16, true) } : Oper)) (v := ?_) rfl (by kernel_rfl) (by kernel_rfl) (by kernel_rfl) (fun _ _ _ h => h) (Or.inl ⟨by rfl, ?_⟩) (by assumption) ?_
        rotate_left
        · (intro w' hSw; try dsimp only at hSw)
          obtain ⟨⟨s0, s1⟩, s2⟩ := hSw
          go_simp <;> with_reducible rfl
        try simp only [Act.put, List.setIfInBounds_toArray, List.set_cons_zero, List.set_cons_succ]
        refine wpAnyH_take (i := 18) (oi := ({ dst := some 47, op := Go.Op.move (Go.Operand.tmp 3), type := 3, pos := "law.go:21", after := #[{ on := 16, ground := Go.Ground.guard }], guard := some (16, true) } : Oper)) (v := ?_) rfl (by kernel_rfl) (by kernel_rfl) (by kernel_rfl) (fun _ _ _ h => h) (Or.inl ⟨by rfl, ?_⟩) (by assumption) ?_
        rotate_left
        · (intro w' hSw; try dsimp only at hSw)
          obtain ⟨⟨s0, s1⟩, s2⟩ := hSw
          go_simp <;> with_reducible rfl
        try simp only [Act.put, List.setIfInBounds_toArray, List.set_cons_zero, List.set_cons_succ]
        refine wpAnyH_take (i := 20) (oi := ({ dst := some 49, op := Go.Op.move (Go.Operand.tmp 2), type := 23, pos := "law.go:21", after := #[{ on := 16, ground := Go.Ground.guard }], guard := some (16, true) } : Oper)) (v := ?_) rfl (by kernel_rfl) (by kernel_rfl) (by kernel_rfl) (fun _ _ _ h => h) (Or.inl ⟨by rfl, ?_⟩) (by assumption) ?_
        rotate_left
        · (intro w' hSw; try dsimp only at hSw)
          obtain ⟨⟨s0, s1⟩, s2⟩ := hSw
          go_simp <;> with_reducible rfl
        try simp only [Act.put, List.setIfInBounds_toArray, List.set_cons_zero, List.set_cons_succ]
        refine wpAnyH_take (i := 21) (oi := ({ dst := some 50, op := Go.Op.move (Go.Operand.tmp 3), type := 3, pos := "law.go:21", after := #[{ on := 16, ground := Go.Ground.guard }], guard := some (16, true) } : Oper)) (v := ?_) rfl (by kernel_rfl) (by kernel_rfl) (by kernel_rfl) (fun _ _ _ h => h) (Or.inl ⟨by rfl, ?_⟩) (by assumption) ?_
        rotate_left
        · (intro w' hSw; try dsimp only at hSw)
          obtain ⟨⟨s0, s1⟩, s2⟩ := hSw
          go_simp <;> with_reducible rfl
        try simp only [Act.put, List.setIfInBounds_toArray, List.set_cons_zero, List.set_cons_succ]
        refine wpAnyH_ready (rs := [19]) (by kernel_rfl) (by simp) ?_
        refine AllReadyH.cons (o := ({ dst := some 48, op := Go.Op.call { callee := Go.Callee.value (Go.Operand.func 19), args := #[Go.Operand.tmp 46, Go.Operand.tmp 47], argTypes := #[23, 3] }, type := 30, pos := "law.go:21", after := #[{ on := 17, ground := Go.Ground.data }, { on := 18, ground := Go.Ground.data }, { on := 16, ground := Go.Ground.chain }, { on := 16, ground := Go.Ground.guard }], guard := some (16, true) } : Oper)) rfl (fun K hK => ?_) AllReadyH.nil
        go_simp
        go_at_call 19
        (with_reducible refine (octets_Word.calls _ A2 c2 l2 a3 wv _ (Kd.C_below HR2.out (below_step HBE.out BW.out)) HC2.out HW1.out).mono ?_)
        rintro e wE ⟨rfl, hq⟩
        have hb := quiet_below hq
        clear hq
        have BW := Lib.hid (below_step BW.out hb)
        have CA := Lib.hid (Kd.C_below CA.out hb)
        have CB := Lib.hid (Kd.C_below CB.out hb)
        clear hb hHeld
        go_wp2_with fail
        refine hK.out _ _ ⟨⟨(HK.out _ BW.out), Kd.C_string (P := Try.prog) Try.underlying23 Try.underlying5 Try.underlying9 (c := ca) CA.out⟩, Kd.C_string (P := Try.prog) Try.underlying23 Try.underlying5 Try.underlying9 (c := cb) CB.out⟩ (fun hHeld => ?_)
        clear hK K
        try simp only [Act.put, List.setIfInBounds_toArray, List.set_cons_zero, List.set_cons_succ]
        refine wpAnyH_ready (rs := [22]) (by kernel_rfl) (by simp) ?_
        refine AllReadyH.cons (o := ({ dst := some 51, op := Go.Op.call { callee := Go.Callee.value (Go.Operand.func 27), args := #[Go.Operand.tmp 49, Go.Operand.tmp 50], argTypes := #[23, 3] }, type := 30, pos := "law.go:21", after := #[{ on := 20, ground := Go.Ground.data }, { on := 21, ground := Go.Ground.data }, { on := 19, ground := Go.Ground.chain }, { on := 16, ground := Go.Ground.guard }], guard := some (16, true) } : Oper)) rfl (fun K hK => ?_) AllReadyH.nil
        go_simp
        go_at_call 27
        (with_reducible refine (mootref01_Word.calls _ A2 c2 l2 a3 wv _ (Kd.C_below HR2.out (below_step HBE.out BW.out)) HC2.out HW2.out).mono ?_)
        rintro e wF ⟨rfl, hq⟩
        have hb := quiet_below hq
        clear hq
        have BW := Lib.hid (below_step BW.out hb)
        have CA := Lib.hid (Kd.C_below CA.out hb)
        have CB := Lib.hid (Kd.C_below CB.out hb)
        clear hb hHeld
        go_wp2_with fail
        refine hK.out _ _ ⟨⟨(HK.out _ BW.out), Kd.C_string (P := Try.prog) Try.underlying23 Try.underlying5 Try.underlying9 (c := ca) CA.out⟩, Kd.C_string (P := Try.prog) Try.underlying23 Try.underlying5 Try.underlying9 (c := cb) CB.out⟩ (fun hHeld => ?_)
        clear hK K
        try simp only [Act.put, List.setIfInBounds_toArray, List.set_cons_zero, List.set_cons_succ]
        refine wpAnyH_take (i := 23) (oi := ({ dst := some 52, op := Go.Op.binOp Go.BinOp.eql 30 (Go.Operand.tmp 48) (Go.Operand.tmp 51) 30, type := 4, pos := "law.go:21", after := #[{ on := 19, ground := Go.Ground.data }, { on := 22, ground := Go.Ground.data }, { on := 16, ground := Go.Ground.guard }], guard := some (16, true) } : Oper)) (v := ?_) rfl (by kernel_rfl) (by kernel_rfl) (by kernel_rfl) (fun _ _ _ h => h) (Or.inl ⟨by rfl, ?_⟩) (by assumption) ?_
        rotate_left
        · (intro w' hSw; try dsimp only at hSw)
          obtain ⟨⟨s0, s1⟩, s2⟩ := hSw
          go_simp <;> with_reducible rfl
        try simp only [Act.put, List.setIfInBounds_toArray, List.set_cons_zero, List.set_cons_succ]
        refine wpAnyH_take (i := 24) (oi := ({ dst := some 53, op := Go.Op.pick (Go.Operand.tmp 45) (Go.Operand.tmp 52) (Go.Operand.const (Go.Value.bool false)), type := 4, pos := "law.go:21", after := #[{ on := 16, ground := Go.Ground.data }, { on := 23, ground := Go.Ground.data }], guard := none } : Oper)) (v := ?_) rfl (by kernel_rfl) (by kernel_rfl) (by kernel_rfl) (fun _ _ _ h => h) (Or.inl ⟨by rfl, ?_⟩) (by assumption) ?_
        rotate_left
        · (intro w' hSw; try dsimp only at hSw)
          obtain ⟨⟨s0, s1⟩, s2⟩ := hSw
          go_simp <;> with_reducible rfl
        try simp only [Act.put, List.setIfInBounds_toArray, List.set_cons_zero, List.set_cons_succ]
        refine wpAnyH_take (i := 25) (oi := ({ dst := some 54, op := Go.Op.move (Go.Operand.tmp 53), type := 4, pos := "law.go:21", after := #[{ on := 24, ground := Go.Ground.data }, { on := 22, ground := Go.Ground.chain }], guard := none } : Oper)) (v := ?_) rfl (by kernel_rfl) (by kernel_rfl) (by kernel_rfl) (fun _ _ _ h => h) (Or.inl ⟨by rfl, ?_⟩) (by assumption) ?_
        rotate_left
        · (intro w' hSw; try dsimp only at hSw)
          obtain ⟨⟨s0, s1⟩, s2⟩ := hSw
          go_simp <;> with_reducible rfl
        try simp only [Act.put, List.setIfInBounds_toArray, List.set_cons_zero, List.set_cons_succ]
        refine wpAnyH_take (i := 26) (oi := ({ dst := some 55, op := Go.Op.move (Go.Operand.tmp 4), type := 28, pos := "law.go:21", after := #[{ on := 25, ground := Go.Ground.guard }], guard := some (25, true) } : Oper)) (v := ?_) rfl (by kernel_rfl) (by kernel_rfl) (by kernel_rfl) (fun _ _ _ h => h) (Or.inl ⟨by rfl, ?_⟩) (by assumption) ?_
        rotate_left
        · (intro w' hSw; try dsimp only at hSw)
          obtain ⟨⟨s0, s1⟩, s2⟩ := hSw
          go_simp <;> with_reducible rfl
        try simp only [Act.put, List.setIfInBounds_toArray, List.set_cons_zero, List.set_cons_succ]
        refine wpAnyH_take (i := 29) (oi := ({ dst := some 58, op := Go.Op.move (Go.Operand.tmp 13), type := 23, pos := "law.go:21", after := #[{ on := 25, ground := Go.Ground.guard }], guard := some (25, true) } : Oper)) (v := ?_) rfl (by kernel_rfl) (by kernel_rfl) (by kernel_rfl) (fun _ _ _ h => h) (Or.inl ⟨by rfl, ?_⟩) (by assumption) ?_
        rotate_left
        · (intro w' hSw; try dsimp only at hSw)
          obtain ⟨⟨s0, s1⟩, s2⟩ := hSw
          go_simp <;> with_reducible rfl
        try simp only [Act.put, List.setIfInBounds_toArray, List.set_cons_zero, List.set_cons_succ]
        refine wpAnyH_take (i := 30) (oi := ({ dst := some 59, op := Go.Op.convert 23 9 (Go.Operand.tmp 58), type := 9, pos := "law.go:21", after := #[{ on := 29, ground := Go.Ground.data }, { on := 25, ground := Go.Ground.guard }], guard := some (25, true) } : Oper)) (v := ?_) rfl (by kernel_rfl) (by kernel_rfl) (by kernel_rfl) (fun _ _ _ h => h) (Or.inl ⟨by rfl, ?_⟩) (by assumption) ?_
        rotate_left
        · (intro w' hSw; try dsimp only at hSw)
          obtain ⟨⟨s0, s1⟩, s2⟩ := hSw
          go_simp <;> with_reducible rfl
        try simp only [Act.put, List.setIfInBounds_toArray, List.set_cons_zero, List.set_cons_succ]
        refine wpAnyH_ready (rs := [27]) (by kernel_rfl) (by simp) ?_
        refine AllReadyH.cons (o := ({ dst := some 56, op := Go.Op.call { callee := Go.Callee.value (Go.Operand.func 18), args := #[Go.Operand.tmp 55], argTypes := #[28] }, type := 23, pos := "law.go:21", after := #[{ on := 26, ground := Go.Ground.data }, { on := 25, ground := Go.Ground.chain }, { on := 25, ground := Go.Ground.guard }], guard := some (25, true) } : Oper)) rfl (fun K hK => ?_) AllReadyH.nil
        go_simp
        go_at_call 18
        (with_reducible refine (octets_Words.calls _ A4 c4 l4 ow _ (Kd.C_below HR4.out (below_step HBE.out BW.out)) HC4.out HO1.out).mono ?_)
        rintro e wG ⟨vg, rfl, ho, hb⟩
        obtain ⟨Ag, cg, rfl⟩ := Kd.R_slice ho
        have NG := Lib.hid (Kd.R_reads' ho).2.2
        clear ho
        have BW := Lib.hid (below_step BW.out hb)
        have CA := Lib.hid (Kd.C_below CA.out hb)
        have CB := Lib.hid (Kd.C_below CB.out hb)
        clear hb hHeld
        go_wp2_with fail
        refine hK.out _ _ ⟨⟨(HK.out _ BW.out), Kd.C_string (P := Try.prog) Try.underlying23 Try.underlying5 Try.underlying9 (c := ca) CA.out⟩, Kd.C_string (P := Try.prog) Try.underlying23 Try.underlying5 Try.underlying9 (c := cb) CB.out⟩ (fun hHeld => ?_)
        clear hK K
        try simp only [Act.put, List.setIfInBounds_toArray, List.set_cons_zero, List.set_cons_succ]
        have CG := NG
        clear NG
        refine wpAnyH_mono (S' := (fun w' => ((((convert 23 9 (.slice Aw ow.length cw)).run Try.prog w' = .ok (.string (strOfNums ow)) w') ∧ ((convert 23 9 (.slice Aa pl.length ca)).run Try.prog w' = .ok (.string (strOfNums pl)) w')) ∧ ((convert 23 9 (.slice Ab pl.length cb)).run Try.prog w' = .ok (.string (strOfNums pl)) w')) ∧ ((convert 23 9 (.slice Ag ow.length cg)).run Try.prog w' = .ok (.string (strOfNums ow)) w'))) (fun _ h => h.1) ?_
        replace hHeld := And.intro hHeld (Kd.C_string (P := Try.prog) Try.underlying23 Try.underlying5 Try.underlying9 (c := cg) CG.out)
        refine wpAnyH_take (i := 28) (oi := ({ dst := some 57, op := Go.Op.convert 23 9 (Go.Operand.tmp 56), type := 9, pos := "law.go:21", after := #[{ on := 27, ground := Go.Ground.data }, { on := 25, ground := Go.Ground.guard }], guard := some (25, true) } : Oper)) (v := ?_) rfl (by kernel_rfl) (by kernel_rfl) (by kernel_rfl) (fun _ _ _ h => h) (Or.inl ⟨by rfl, ?_⟩) (by assumption) ?_
        rotate_left
        · (intro w' hSw; try dsimp only at hSw)
          obtain ⟨⟨⟨s0, s1⟩, s2⟩, s3⟩ := hSw
          go_simp <;> with_reducible rfl
        try simp only [Act.put, List.setIfInBounds_toArray, List.set_cons_zero, List.set_cons_succ]
        refine wpAnyH_take (i := 31) (oi := ({ dst := some 60, op := Go.Op.binOp Go.BinOp.eql 9 (Go.Operand.tmp 57) (Go.Operand.tmp 59) 9, type := 4, pos := "law.go:21", after := #[{ on := 28, ground := Go.Ground.data }, { on := 30, ground := Go.Ground.data }, { on := 25, ground := Go.Ground.guard }], guard := some (25, true) } : Oper)) (v := ?_) rfl (by kernel_rfl) (by kernel_rfl) (by kernel_rfl) (fun _ _ _ h => h) (Or.inl ⟨by rfl, ?_⟩) (by assumption) ?_
        rotate_left
        · (intro w' hSw; try dsimp only at hSw)
          obtain ⟨⟨⟨s0, s1⟩, s2⟩, s3⟩ := hSw
          go_simp <;> with_reducible rfl
        try simp only [Act.put, List.setIfInBounds_toArray, List.set_cons_zero, List.set_cons_succ]
        refine wpAnyH_take (i := 32) (oi := ({ dst := some 61, op := Go.Op.pick (Go.Operand.tmp 54) (Go.Operand.tmp 60) (Go.Operand.const (Go.Value.bool false)), type := 4, pos := "law.go:21", after := #[{ on := 25, ground := Go.Ground.data }, { on := 31, ground := Go.Ground.data }], guard := none } : Oper)) (v := ?_) rfl (by kernel_rfl) (by kernel_rfl) (by kernel_rfl) (fun _ _ _ h => h) (Or.inl ⟨by rfl, ?_⟩) (by assumption) ?_
        rotate_left
        · (intro w' hSw; try dsimp only at hSw)
          obtain ⟨⟨⟨s0, s1⟩, s2⟩, s3⟩ := hSw
          go_simp <;> with_reducible rfl
        try simp only [Act.put, List.setIfInBounds_toArray, List.set_cons_zero, List.set_cons_succ]
        refine wpAnyH_take (i := 33) (oi := ({ dst := some 62, op := Go.Op.move (Go.Operand.tmp 61), type := 4, pos := "law.go:21", after := #[{ on := 32, ground := Go.Ground.data }, { on := 27, ground := Go.Ground.chain }], guard := none } : Oper)) (v := ?_) rfl (by kernel_rfl) (by kernel_rfl) (by kernel_rfl) (fun _ _ _ h => h) (Or.inl ⟨by rfl, ?_⟩) (by assumption) ?_
        rotate_left
        · (intro w' hSw; try dsimp only at hSw)
          obtain ⟨⟨⟨s0, s1⟩, s2⟩, s3⟩ := hSw
          go_simp <;> with_reducible rfl
        try simp only [Act.put, List.setIfInBounds_toArray, List.set_cons_zero, List.set_cons_succ]
        refine wpAnyH_take (i := 34) (oi := ({ dst := some 63, op := Go.Op.move (Go.Operand.tmp 5), type := 40, pos := "law.go:21", after := #[{ on := 33, ground := Go.Ground.guard }], guard := some (33, true) } : Oper)) (v := ?_) rfl (by kernel_rfl) (by kernel_rfl) (by kernel_rfl) (fun _ _ _ h => h) (Or.inl ⟨by rfl, ?_⟩) (by assumption) ?_
        rotate_left
        · (intro w' hSw; try dsimp only at hSw)
          obtain ⟨⟨⟨s0, s1⟩, s2⟩, s3⟩ := hSw
          go_simp <;> with_reducible rfl
        try simp only [Act.put, List.setIfInBounds_toArray, List.set_cons_zero, List.set_cons_succ]
        refine wpAnyH_take (i := 37) (oi := ({ dst := some 66, op := Go.Op.move (Go.Operand.tmp 5), type := 40, pos := "law.go:21", after := #[{ on := 33, ground := Go.Ground.guard }], guard := some (33, true) } : Oper)) (v := ?_) rfl (by kernel_rfl) (by kernel_rfl) (by kernel_rfl) (fun _ _ _ h => h) (Or.inl ⟨by rfl, ?_⟩) (by assumption) ?_
        rotate_left
        · (intro w' hSw; try dsimp only at hSw)
          obtain ⟨⟨⟨s0, s1⟩, s2⟩, s3⟩ := hSw
          go_simp <;> with_reducible rfl
        try simp only [Act.put, List.setIfInBounds_toArray, List.set_cons_zero, List.set_cons_succ]
        refine wpAnyH_ready (rs := [35]) (by kernel_rfl) (by simp) ?_
        refine AllReadyH.cons (o := ({ dst := some 64, op := Go.Op.call { callee := Go.Callee.value (Go.Operand.func 20), args := #[Go.Operand.tmp 63], argTypes := #[40] }, type := 23, pos := "law.go:21", after := #[{ on := 34, ground := Go.Ground.data }, { on := 33, ground := Go.Ground.chain }, { on := 33, ground := Go.Ground.guard }], guard := some (33, true) } : Oper)) rfl (fun K hK => ?_) AllReadyH.nil
        go_simp
        go_at_call 20
        (with_reducible refine (octets_Join.calls _ A5 c5 l5 jl _ (Kd.C_below HR5.out (below_step HBE.out BW.out)) HC5.out HJ1.out).mono ?_)
        rintro e wH ⟨vh, rfl, ho, hb⟩
        obtain ⟨Ah, ch, rfl⟩ := Kd.R_slice ho
        have NH := Lib.hid (Kd.R_reads' ho).2.2
        clear ho
        have BW := Lib.hid (below_step BW.out hb)
        have CA := Lib.hid (Kd.C_below CA.out hb)
        have CB := Lib.hid (Kd.C_below CB.out hb)
        have CG := Lib.hid (Kd.C_below CG.out hb)
        clear hb hHeld
        go_wp2_with fail
        refine hK.out _ _ ⟨⟨⟨(HK.out _ BW.out), Kd.C_string (P := Try.prog) Try.underlying23 Try.underlying5 Try.underlying9 (c := ca) CA.out⟩, Kd.C_string (P := Try.prog) Try.underlying23 Try.underlying5 Try.underlying9 (c := cb) CB.out⟩, Kd.C_string (P := Try.prog) Try.underlying23 Try.underlying5 Try.underlying9 (c := cg) CG.out⟩ (fun hHeld => ?_)
        clear hK K
        try simp only [Act.put, List.setIfInBounds_toArray, List.set_cons_zero, List.set_cons_succ]
        have CH := NH
        clear NH
        refine wpAnyH_mono (S' := (fun w' => (((((convert 23 9 (.slice Aw ow.length cw)).run Try.prog w' = .ok (.string (strOfNums ow)) w') ∧ ((convert 23 9 (.slice Aa pl.length ca)).run Try.prog w' = .ok (.string (strOfNums pl)) w')) ∧ ((convert 23 9 (.slice Ab pl.length cb)).run Try.prog w' = .ok (.string (strOfNums pl)) w')) ∧ ((convert 23 9 (.slice Ag ow.length cg)).run Try.prog w' = .ok (.string (strOfNums ow)) w')) ∧ ((convert 23 9 (.slice Ah jl.length ch)).run Try.prog w' = .ok (.string (strOfNums jl)) w'))) (fun _ h => h.1) ?_
        replace hHeld := And.intro hHeld (Kd.C_string (P := Try.prog) Try.underlying23 Try.underlying5 Try.underlying9 (c := ch) CH.out)
        refine wpAnyH_take (i := 36) (oi := ({ dst := some 65, op := Go.Op.convert 23 9 (Go.Operand.tmp 64), type := 9, pos := "law.go:21", after := #[{ on := 35, ground := Go.Ground.data }, { on := 33, ground := Go.Ground.guard }], guard := some (33, true) } : Oper)) (v := ?_) rfl (by kernel_rfl) (by kernel_rfl) (by kernel_rfl) (fun _ _ _ h => h) (Or.inl ⟨by rfl, ?_⟩) (by assumption) ?_
        rotate_left
        · (intro w' hSw; try dsimp only at hSw)
          obtain ⟨⟨⟨⟨s0, s1⟩, s2⟩, s3⟩, s4⟩ := hSw
          go_simp <;> with_reducible rfl
        try simp only [Act.put, List.setIfInBounds_toArray, List.set_cons_zero, List.set_cons_succ]
        refine wpAnyH_ready (rs := [38]) (by kernel_rfl) (by simp) ?_
        refine AllReadyH.cons (o := ({ dst := some 67, op := Go.Op.call { callee := Go.Callee.value (Go.Operand.func 28), args := #[Go.Operand.tmp 66], argTypes := #[40] }, type := 23, pos := "law.go:21", after := #[{ on := 37, ground := Go.Ground.data }, { on := 35, ground := Go.Ground.chain }, { on := 33, ground := Go.Ground.guard }], guard := some (33, true) } : Oper)) rfl (fun K hK => ?_) AllReadyH.nil
        go_simp
        go_at_call 28
        (with_reducible refine (mootref01_Join.calls _ A5 c5 l5 jl _ (Kd.C_below HR5.out (below_step HBE.out BW.out)) HC5.out HJ2.out).mono ?_)
        rintro e wI ⟨vi, rfl, ho, hb⟩
        obtain ⟨Ai, ci, rfl⟩ := Kd.R_slice ho
        have NI := Lib.hid (Kd.R_reads' ho).2.2
        clear ho
        have BW := Lib.hid (below_step BW.out hb)
        have CA := Lib.hid (Kd.C_below CA.out hb)
        have CB := Lib.hid (Kd.C_below CB.out hb)
        have CG := Lib.hid (Kd.C_below CG.out hb)
        have CH := Lib.hid (Kd.C_below CH.out hb)
        clear hb hHeld
        go_wp2_with fail
        refine hK.out _ _ ⟨⟨⟨⟨(HK.out _ BW.out), Kd.C_string (P := Try.prog) Try.underlying23 Try.underlying5 Try.underlying9 (c := ca) CA.out⟩, Kd.C_string (P := Try.prog) Try.underlying23 Try.underlying5 Try.underlying9 (c := cb) CB.out⟩, Kd.C_string (P := Try.prog) Try.underlying23 Try.underlying5 Try.underlying9 (c := cg) CG.out⟩, Kd.C_string (P := Try.prog) Try.underlying23 Try.underlying5 Try.underlying9 (c := ch) CH.out⟩ (fun hHeld => ?_)
        clear hK K
        try simp only [Act.put, List.setIfInBounds_toArray, List.set_cons_zero, List.set_cons_succ]
        have CI := NI
        clear NI
        refine wpAnyH_mono (S' := (fun w' => ((((((convert 23 9 (.slice Aw ow.length cw)).run Try.prog w' = .ok (.string (strOfNums ow)) w') ∧ ((convert 23 9 (.slice Aa pl.length ca)).run Try.prog w' = .ok (.string (strOfNums pl)) w')) ∧ ((convert 23 9 (.slice Ab pl.length cb)).run Try.prog w' = .ok (.string (strOfNums pl)) w')) ∧ ((convert 23 9 (.slice Ag ow.length cg)).run Try.prog w' = .ok (.string (strOfNums ow)) w')) ∧ ((convert 23 9 (.slice Ah jl.length ch)).run Try.prog w' = .ok (.string (strOfNums jl)) w')) ∧ ((convert 23 9 (.slice Ai jl.length ci)).run Try.prog w' = .ok (.string (strOfNums jl)) w'))) (fun _ h => h.1) ?_
        replace hHeld := And.intro hHeld (Kd.C_string (P := Try.prog) Try.underlying23 Try.underlying5 Try.underlying9 (c := ci) CI.out)
        refine wpAnyH_take (i := 39) (oi := ({ dst := some 68, op := Go.Op.convert 23 9 (Go.Operand.tmp 67), type := 9, pos := "law.go:21", after := #[{ on := 38, ground := Go.Ground.data }, { on := 33, ground := Go.Ground.guard }], guard := some (33, true) } : Oper)) (v := ?_) rfl (by kernel_rfl) (by kernel_rfl) (by kernel_rfl) (fun _ _ _ h => h) (Or.inl ⟨by rfl, ?_⟩) (by assumption) ?_
        rotate_left
        · (intro w' hSw; try dsimp only at hSw)
          obtain ⟨⟨⟨⟨⟨s0, s1⟩, s2⟩, s3⟩, s4⟩, s5⟩ := hSw
          go_simp <;> with_reducible rfl
        try simp only [Act.put, List.setIfInBounds_toArray, List.set_cons_zero, List.set_cons_succ]
        refine wpAnyH_take (i := 40) (oi := ({ dst := some 69, op := Go.Op.binOp Go.BinOp.eql 9 (Go.Operand.tmp 65) (Go.Operand.tmp 68) 9, type := 4, pos := "law.go:21", after := #[{ on := 36, ground := Go.Ground.data }, { on := 39, ground := Go.Ground.data }, { on := 33, ground := Go.Ground.guard }], guard := some (33, true) } : Oper)) (v := ?_) rfl (by kernel_rfl) (by kernel_rfl) (by kernel_rfl) (fun _ _ _ h => h) (Or.inl ⟨by rfl, ?_⟩) (by assumption) ?_
        rotate_left
        · (intro w' hSw; try dsimp only at hSw)
          obtain ⟨⟨⟨⟨⟨s0, s1⟩, s2⟩, s3⟩, s4⟩, s5⟩ := hSw
          go_simp <;> with_reducible rfl
        try simp only [Act.put, List.setIfInBounds_toArray, List.set_cons_zero, List.set_cons_succ]
        refine wpAnyH_take (i := 41) (oi := ({ dst := some 70, op := Go.Op.pick (Go.Operand.tmp 62) (Go.Operand.tmp 69) (Go.Operand.const (Go.Value.bool false)), type := 4, pos := "law.go:21", after := #[{ on := 33, ground := Go.Ground.data }, { on := 40, ground := Go.Ground.data }], guard := none } : Oper)) (v := ?_) rfl (by kernel_rfl) (by kernel_rfl) (by kernel_rfl) (fun _ _ _ h => h) (Or.inl ⟨by rfl, ?_⟩) (by assumption) ?_
        rotate_left
        · (intro w' hSw; try dsimp only at hSw)
          obtain ⟨⟨⟨⟨⟨s0, s1⟩, s2⟩, s3⟩, s4⟩, s5⟩ := hSw
          go_simp <;> with_reducible rfl
        try simp only [Act.put, List.setIfInBounds_toArray, List.set_cons_zero, List.set_cons_succ]
        refine wpAnyH_take (i := 42) (oi := ({ dst := some 71, op := Go.Op.move (Go.Operand.tmp 70), type := 4, pos := "law.go:21", after := #[{ on := 41, ground := Go.Ground.data }, { on := 38, ground := Go.Ground.chain }], guard := none } : Oper)) (v := ?_) rfl (by kernel_rfl) (by kernel_rfl) (by kernel_rfl) (fun _ _ _ h => h) (Or.inl ⟨by rfl, ?_⟩) (by assumption) ?_
        rotate_left
        · (intro w' hSw; try dsimp only at hSw)
          obtain ⟨⟨⟨⟨⟨s0, s1⟩, s2⟩, s3⟩, s4⟩, s5⟩ := hSw
          go_simp <;> with_reducible rfl
        try simp only [Act.put, List.setIfInBounds_toArray, List.set_cons_zero, List.set_cons_succ]
        refine wpAnyH_ready (rs := [43]) (by kernel_rfl) (by simp) ?_
        refine AllReadyH.cons (o := ({ dst := some 72, op := Go.Op.call { callee := Go.Callee.value (Go.Operand.func 15), args := #[], argTypes := #[] }, type := 4, pos := "law.go:21", after := #[{ on := 42, ground := Go.Ground.chain }, { on := 42, ground := Go.Ground.guard }], guard := some (42, true) } : Oper)) rfl (fun K hK => ?_) AllReadyH.nil
        go_simp
        go_at_call 15
        (with_reducible refine (mootlaw01_alive.calls true _ alive01).mono ?_)
        rintro e wJ ⟨rfl, hb⟩
        have BW := Lib.hid (below_step BW.out hb)
        have CA := Lib.hid (Kd.C_below CA.out hb)
        have CB := Lib.hid (Kd.C_below CB.out hb)
        have CG := Lib.hid (Kd.C_below CG.out hb)
        have CH := Lib.hid (Kd.C_below CH.out hb)
        have CI := Lib.hid (Kd.C_below CI.out hb)
        clear hb hHeld
        go_wp2_with fail
        refine hK.out _ _ ⟨⟨⟨⟨⟨(HK.out _ BW.out), Kd.C_string (P := Try.prog) Try.underlying23 Try.underlying5 Try.underlying9 (c := ca) CA.out⟩, Kd.C_string (P := Try.prog) Try.underlying23 Try.underlying5 Try.underlying9 (c := cb) CB.out⟩, Kd.C_string (P := Try.prog) Try.underlying23 Try.underlying5 Try.underlying9 (c := cg) CG.out⟩, Kd.C_string (P := Try.prog) Try.underlying23 Try.underlying5 Try.underlying9 (c := ch) CH.out⟩, Kd.C_string (P := Try.prog) Try.underlying23 Try.underlying5 Try.underlying9 (c := ci) CI.out⟩ (fun hHeld => ?_)
        clear hK K
        try simp only [Act.put, List.setIfInBounds_toArray, List.set_cons_zero, List.set_cons_succ]
        refine wpAnyH_take (i := 44) (oi := ({ dst := some 73, op := Go.Op.pick (Go.Operand.tmp 71) (Go.Operand.tmp 72) (Go.Operand.const (Go.Value.bool false)), type := 4, pos := "law.go:21", after := #[{ on := 42, ground := Go.Ground.data }, { on := 43, ground := Go.Ground.data }], guard := none } : Oper)) (v := ?_) rfl (by kernel_rfl) (by kernel_rfl) (by kernel_rfl) (fun _ _ _ h => h) (Or.inl ⟨by rfl, ?_⟩) (by assumption) ?_
        rotate_left
        · (intro w' hSw; try dsimp only at hSw)
          obtain ⟨⟨⟨⟨⟨s0, s1⟩, s2⟩, s3⟩, s4⟩, s5⟩ := hSw
          go_simp <;> with_reducible rfl
        try simp only [Act.put, List.setIfInBounds_toArray, List.set_cons_zero, List.set_cons_succ]
        refine wpAnyH_take (i := 45) (oi := ({ dst := some 12, op := Go.Op.assign (Go.Operand.tmp 73), type := 4, pos := "law.go:21", after := #[{ on := 44, ground := Go.Ground.data }, { on := 43, ground := Go.Ground.chain }, { on := 0, ground := Go.Ground.phase }, { on := 1, ground := Go.Ground.phase }, { on := 2, ground := Go.Ground.phase }, { on := 3, ground := Go.Ground.phase }, { on := 4, ground := Go.Ground.phase }, { on := 5, ground := Go.Ground.phase }, { on := 6, ground := Go.Ground.phase }, { on := 7, ground := Go.Ground.phase }, { on := 8, ground := Go.Ground.phase }, { on := 9, ground := Go.Ground.phase }, { on := 10, ground := Go.Ground.phase }, { on := 11, ground := Go.Ground.phase }, { on := 12, ground := Go.Ground.phase }, { on := 13, ground := Go.Ground.phase }, { on := 14, ground := Go.Ground.phase }, { on := 15, ground := Go.Ground.phase }, { on := 16, ground := Go.Ground.phase }, { on := 17, ground := Go.Ground.phase }, { on := 18, ground := Go.Ground.phase }, { on := 19, ground := Go.Ground.phase }, { on := 20, ground := Go.Ground.phase }, { on := 21, ground := Go.Ground.phase }, { on := 22, ground := Go.Ground.phase }, { on := 23, ground := Go.Ground.phase }, { on := 24, ground := Go.Ground.phase }, { on := 25, ground := Go.Ground.phase }, { on := 26, ground := Go.Ground.phase }, { on := 27, ground := Go.Ground.phase }, { on := 28, ground := Go.Ground.phase }, { on := 29, ground := Go.Ground.phase }, { on := 30, ground := Go.Ground.phase }, { on := 31, ground := Go.Ground.phase }, { on := 32, ground := Go.Ground.phase }, { on := 33, ground := Go.Ground.phase }, { on := 34, ground := Go.Ground.phase }, { on := 35, ground := Go.Ground.phase }, { on := 36, ground := Go.Ground.phase }, { on := 37, ground := Go.Ground.phase }, { on := 38, ground := Go.Ground.phase }, { on := 39, ground := Go.Ground.phase }, { on := 40, ground := Go.Ground.phase }, { on := 41, ground := Go.Ground.phase }, { on := 42, ground := Go.Ground.phase }, { on := 43, ground := Go.Ground.phase }, { on := 44, ground := Go.Ground.phase }], guard := none } : Oper)) (v := ?_) rfl (by kernel_rfl) (by kernel_rfl) (by kernel_rfl) (fun _ _ _ h => h) (Or.inl ⟨by rfl, ?_⟩) (by assumption) ?_
        rotate_left
        · (intro w' hSw; try dsimp only at hSw)
          obtain ⟨⟨⟨⟨⟨s0, s1⟩, s2⟩, s3⟩, s4⟩, s5⟩ := hSw
          go_simp <;> with_reducible rfl
        try simp only [Act.put, List.setIfInBounds_toArray, List.set_cons_zero, List.set_cons_succ]
        refine wpAnyH_done (by kernel_rfl) ?_ _
        refine NoPanic.normal ?_
        all_goals go_wp2
        all_goals go_ret
        all_goals exact ⟨rfl, below_step HBE.out BW.out⟩
  · rw [if_neg hs] at h
    cases h
end Go.Proofs.Ytclmikbbjhdplaa.X
/- Arguments opened: what reads as data of a kind stands in memory as the print's words say it. -/
namespace Go.Proofs.Ytclmikbbjhdplaa.X
open Go.ChangeShapes Go.WideShapes Go.Deep
open Go.RowKit Go.Proofs.YtclmikbbjhdplaaW.PrintWords Go.Proofs.YtclmikbbjhdplaaW.PrintLast Go.Proofs.YtclmikbbjhdplaaW.PrintMore
set_option linter.unusedVariables false
set_option linter.unusedSimpArgs false

section
variable {H : Type} {enc : TypeId × Value → H} {P : Program} {w : World}

/-- What reads as data of type t is of kind d: some x, well formed, whose measure is at most the datum's bulk. -/
def Opens {α : Type} (enc : TypeId × Value → H) (P : Program) (w : World) (t : TypeId) (d : Kd α) (wf : α → Prop) (μ : α → Nat) : Prop :=
  ∀ (n : Nat) (cs : List Value) (y : DataW H × List MemPlace), DataW.trod enc P w 0 (fun _ => true) true n t cs = some y → ∃ x, d.K w x cs ∧ wf x ∧ μ x ≤ Rows.uptoBulk y.1

theorem Opens.int {t : TypeId} {k : IntKind} (hu : P.underlying t = some (.int k)) : Opens enc P w t (Kd.int k) (fun x => (Lit.int k x).wf = true) (fun _ => 1) := fun n cs y h => by
  obtain ⟨x, rfl, rfl, hw⟩ := DataW.trod_int hu h
  exact ⟨x, rfl, hw, by simp [Rows.uptoBulk]⟩
theorem Opens.bool {t : TypeId} (hu : P.underlying t = some .bool) : Opens enc P w t Kd.bool (fun _ => True) (fun _ => 1) := fun n cs y h => by
  obtain ⟨x, rfl, rfl⟩ := DataW.trod_bool hu h
  exact ⟨x, rfl, trivial, by simp [Rows.uptoBulk]⟩
theorem Opens.string {t : TypeId} (hu : P.underlying t = some .string) : Opens enc P w t Kd.string (fun _ => True) (fun s => s.size + 1) := fun n cs y h => by
  obtain ⟨x, rfl, rfl, hw⟩ := DataW.trod_string hu h
  exact ⟨x, rfl, trivial, by simp [Rows.uptoBulk]⟩

def sumM {α : Type} (μ : α → Nat) : List α → Nat
  | [] => 0
  | x :: l => μ x + sumM μ l
theorem sumM_append {α : Type} (μ : α → Nat) (l r : List α) : sumM μ (l ++ r) = sumM μ l + sumM μ r := by
  induction l with
  | nil => simp [sumM]
  | cons x l ih => simp only [List.cons_append, sumM, ih]; omega
theorem sumM_mem {α : Type} (μ : α → Nat) {l : List α} {x : α} (h : x ∈ l) : μ x ≤ sumM μ l := by
  induction l with
  | nil => cases h
  | cons y l ih =>
    simp only [sumM]
    rcases List.mem_cons.1 h with rfl | h
    · omega
    · have := ih h; omega
theorem sumM_len {α : Type} (μ : α → Nat) (hμ : ∀ x, 1 ≤ μ x) (l : List α) : l.length ≤ sumM μ l := by
  induction l with
  | nil => simp [sumM]
  | cons x l ih => have := hμ x; simp only [sumM, List.length_cons]; omega
theorem bulkAll_append (l r : List (DataW H)) : Rows.uptoBulkAll (l ++ r) = Rows.uptoBulkAll l + Rows.uptoBulkAll r := by
  induction l with
  | nil => simp [Rows.uptoBulkAll]
  | cons x l ih => simp only [List.cons_append, Rows.uptoBulkAll, ih]; omega
theorem sumM_range {α : Type} (μ : α → Nat) (X : Nat → α) (D : Nat → DataW H) : ∀ n, (∀ i, i < n → μ (X i) ≤ Rows.uptoBulk (D i)) → sumM μ ((List.range n).map X) ≤ Rows.uptoBulkAll ((List.range n).map D)
  | 0, _ => by simp [sumM]
  | n + 1, h => by
    have ih := sumM_range μ X D n (fun i hi => h i (by omega))
    have := h n (by omega)
    rw [List.range_succ, List.map_append, List.map_append, sumM_append, bulkAll_append]
    simp only [List.map_cons, List.map_nil, sumM, Rows.uptoBulkAll]
    omega

theorem Opens.slice {α : Type} [Inhabited α] {t e : TypeId} {d : Kd α} {wf : α → Prop} {μ : α → Nat} (ht : P.underlying t = some (.slice e)) (hsz : P.cellsOf e = d.sz) (h : Opens enc P w e d wf μ) :
    Opens enc P w t (Kd.slice e d) (fun xs => ∀ x ∈ xs, wf x) (fun xs => sumM μ xs + 1) := fun n cs y hy => by
  rcases open_slice ht hy with ⟨rfl, rfl⟩ | ⟨a, len, cap, m, n', D, Pl, rfl, _, hl, hm, hmm, rfl, hi⟩
  · exact ⟨[], ⟨none, 0, rfl, Nat.le_refl _, Kd.C_nil d w⟩, (fun x hx => by cases hx), by simp [Rows.uptoBulk, sumM]⟩
  · have hm' : m = cap := by simpa using hmm
    subst hm'
    obtain ⟨X, hX⟩ := choose_lt (α := α) (p := fun i x => ∃ cs', w.cells? 0 (a.add (i * P.cellsOf e)) (P.cellsOf e) = some cs' ∧ d.K w x cs' ∧ wf x ∧ μ x ≤ Rows.uptoBulk (D i)) (fun i hlt => by
      obtain ⟨cs', h1, h2⟩ := hi i hlt
      obtain ⟨x, k1, k2, k3⟩ := h n' cs' _ h2
      exact ⟨x, cs', h1, k1, k2, k3⟩)
    have hm63 : m ≤ 9223372036854775807 := by simpa [maxLen] using hm
    refine ⟨(List.range len).map X, ⟨some a, m, by simp, by simpa using hl, by simp, by simp; omega, fun _ => ⟨a, rfl, fun j p hj => ?_⟩⟩, ?_, ?_⟩
    · have hjl : j < len := by have := (List.getElem?_eq_some_iff.1 hj).1; simpa using this
      have hp : p = X j := by simpa [hjl] using hj.symm
      subst hp
      obtain ⟨cs', h1, k1, _, _⟩ := hX j (by omega)
      obtain ⟨_, hlen, hc⟩ := World.cells?_some h1
      rw [hsz] at hlen hc
      refine ⟨cs', hlen, k1, fun i u hu => ?_⟩
      have hil : i < d.sz := by have := (List.getElem?_eq_some_iff.1 hu).1; omega
      rw [← Go.Deep.add_add, hc i hil]
      exact hu
    · intro x hx
      obtain ⟨i, hi', rfl⟩ := List.mem_map.1 hx
      obtain ⟨_, _, _, k2, _⟩ := hX i (by have := List.mem_range.1 hi'; omega)
      exact k2
    · have := sumM_range μ X D len (fun i hi' => by obtain ⟨_, _, _, _, k3⟩ := hX i (by omega); exact k3)
      simp only [Rows.uptoBulk]
      omega

/-- A top argument that is a slice. -/
theorem Opens.arg_slice {α : Type} {t e : TypeId} {d : Kd α} {wf : List α → Prop} {μ : List α → Nat} {a : Option Addr} {len cap : Nat} {D : DataW H} {ps : List MemPlace}
    (h : Opens enc P w t (Kd.slice e d) wf μ) (ht : DataW.Trod enc P w 0 (fun _ => true) true t (.slice a len cap) D ps) : ∃ xs, len = xs.length ∧ len ≤ cap ∧ d.C w a xs.length xs ∧ wf xs ∧ μ xs ≤ Rows.uptoBulk D := by
  obtain ⟨fuel, hf⟩ := ht
  obtain ⟨xs, ⟨A, c, he, hc, hC⟩, h2, h3⟩ := h fuel _ _ hf
  simp [Value.cells] at he
  obtain ⟨rfl, rfl, rfl⟩ := he
  exact ⟨xs, rfl, hc, hC, h2, h3⟩
/-- .. and no longer than its weight allows. -/
theorem sized_any {t e : TypeId} {a : Option Addr} {len cap : Nat} {d : DataW H} {ps : List MemPlace} {ts : List TypeId} {ds : List (DataW H)} {j : Nat}
    (hsz : (DataW.weightsEach P ts ds).all (· ≤ reachBytes) = true) (ht : ts[j]? = some t) (hd : ds[j]? = some d) (hu : P.underlying t = some (.slice e)) {B : Nat} (hB : P.bytesOf e = B)
    (h : DataW.Trod enc P w 0 (fun _ => true) true t (.slice a len cap) d ps) : cap * B ≤ 140737488351232 := by
  obtain ⟨fuel, hf⟩ := h
  rcases open_slice hu hf with ⟨hcs, _⟩ | ⟨a', len', cap', m, n', D, Pl, hcs, _, hl, hm, hmm, hx, _⟩
  · simp [Value.cells] at hcs
    obtain ⟨rfl, rfl, rfl⟩ := hcs
    simp
  · simp [Value.cells] at hcs
    obtain ⟨rfl, rfl, rfl⟩ := hcs
    have hm' : m = cap := by simpa using hmm
    subst hm'
    simp only [Prod.mk.injEq] at hx
    obtain ⟨rfl, _⟩ := hx
    have z := sized_slice hsz ht hd hu
    rw [hB] at z
    have e1 : ((List.range len).map D).length + ((List.range (m - len)).map fun j => D (len + j)).length = m := by simp; omega
    rw [e1] at z
    exact z
end
end Go.Proofs.Ytclmikbbjhdplaa.X
/- How many octets there are, by an argument's bulk. -/
namespace Go.Proofs.Ytclmikbbjhdplaa.X
open Go.RowKit Go.Proofs.YtclmikbbjhdplaaW.PrintWords Go.Proofs.YtclmikbbjhdplaaW.PrintLast Go.Proofs.YtclmikbbjhdplaaW.PrintMore
theorem sum_ones {α : Type} : ∀ l : List α, sumM (fun _ => 1) l = l.length
  | [] => rfl
  | x :: l => by rw [sumM, sum_ones l, List.length_cons]; omega
theorem bulk_rows : ∀ l : List (List Int), tot l + l.length ≤ sumM (fun xs => sumM (fun _ => 1) xs + 1) l
  | [] => by simp [tot, sumM]
  | x :: l => by
    have := bulk_rows l
    rw [tot_cons, sumM, sum_ones x, List.length_cons]
    omega
end Go.Proofs.Ytclmikbbjhdplaa.X
/- The law OctetsTells (second form): numbers, octets and words are as the page says. Its condition: what comes in is of bulk at most 1048576. -/
namespace Go.Proofs.Ytclmikbbjhdplaa.Pure
open Go.RowKit Go.Proofs.Ytclmikbbjhdplaa.X
set_option linter.unusedVariables false
theorem OctetsTells (a0 a1 : Int) (l2 : List Int) (a3 : Int) (l4 : List Int) (l5 : List (List Int)) (w0 : (Lit.int .i64 a0).wf = true) (w1 : (Lit.int .i64 a1).wf = true) (w2 : ∀ z ∈ l2, (Lit.int .u8 z).wf = true) (w3 : (Lit.int .i64 a3).wf = true) (w4 : ∀ z ∈ l4, (Lit.int .u32 z).wf = true) (w5 : ∀ y ∈ l5, ∀ z ∈ y, (Lit.int .u8 z).wf = true)
    (hb : sumM (fun _ => 1) l2 + 1 + (sumM (fun _ => 1) l4 + 1) + (sumM (fun xs => sumM (fun _ => 1) xs + 1) l5 + 1) ≤ 1048576) : mootlaw01_OctetsTells.f a0 a1 l2 a3 l4 l5 = some true := by
  have hbr := bulk_rows l5
  rw [sum_ones, sum_ones] at hb
  have h2 : ∀ x ∈ l2, 0 ≤ x ∧ x < 256 := by
    intro x hx
    have := w2 x hx
    simp [Lit.wf, IntKind.min, IntKind.max, IntKind.signed, IntKind.bits] at this
    omega
  have h4 : ∀ x ∈ l4, 0 ≤ x ∧ x < 4294967296 := by
    intro x hx
    have := w4 x hx
    simp [Lit.wf, IntKind.min, IntKind.max, IntKind.signed, IntKind.bits] at this
    omega
  unfold mootlaw01_OctetsTells.f
  rw [if_pos ⟨⟨h2, by omega⟩, ⟨h4, by omega⟩, by omega, by omega⟩]
end Go.Proofs.Ytclmikbbjhdplaa.Pure
