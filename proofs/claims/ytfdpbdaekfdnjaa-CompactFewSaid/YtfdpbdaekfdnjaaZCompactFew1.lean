/- Texts of this session joined into one: XF34, XF41, XF53, HAlive30, XF45, HLScan, HRKind, HLists, HKept, XF25, HLKeeps, HLFew, HOpens, HLasts, HS45, HOpensS, HOpensR, PureCompactFew. -/
import Derived.Test.YtfdpbdaekfdnjaaZFrm
import Derived.Test.YtfdpbdaekfdnjaaZKeep
import Derived.BigQuiet
import Derived.StillTailTactics
import Derived.Test.YtfdpbdaekfdnjaaRows
import Derived.Deep.Slices
import Derived.ChangeSame
import Derived.SizedLaws
import Derived.ProofKit
-- Written by a program of this session (a turn of the kit's print with contracts by hand). Not trusted: Lean checks it.
namespace Go.Proofs.Ytfdpbdaekfdnjaa.X
open Go.RowKit Go.Proofs.YtfdpbdaekfdnjaaW.PrintWords Go.Proofs.YtfdpbdaekfdnjaaW.PrintLast Go.Proofs.YtfdpbdaekfdnjaaW.PrintMore
attribute [local go_sem] max2_int min2_int max_two min_two max_three min_three max_four min_four   -- for this text's walks alone
set_option linter.unusedVariables false
set_option linter.unusedSimpArgs false

/-! ### mootref01_Put: function 34 -/
def mootref01_Put.l0 : Nat → Int → Int → List Int → Int → Option (List Int)
  | 0, _, _, _, _ => none
  | k + 1, x0, x1, x5, x6 => if x6 < x1 then (if 0 ≤ (IntKind.u64.wrap (wrap64 (8 * (wrap64 ((wrap64 (x1 - 1)) - x6))))) then (if x5.length < 140737488355328 then (mootref01_Put.l0 k x0 x1 (x5 ++ [(shr .u64 (IntKind.u64.wrap (x0)) (IntKind.u64.wrap (wrap64 (8 * (wrap64 ((wrap64 (x1 - 1)) - x6)))))) % 256]) (wrap64 (x6 + 1))) else (none)) else (none)) else (some x5)
def mootref01_Put.f (k : Nat) (a0 : Int) (a1 : Int) : Option (List Int) := mootref01_Put.l0 k a0 (mn (mx a1 0) 8) ([] : List Int) 0
theorem mootref01_Put.mono_l : ∀ k, (∀ y0 y1 y2 y3, LeO (mootref01_Put.l0 k y0 y1 y2 y3) (mootref01_Put.l0 (k + 1) y0 y1 y2 y3))
  | 0 => fun _ _ _ _ r h => by simp [mootref01_Put.l0] at h
  | k + 1 => by
    have ih0 := mootref01_Put.mono_l k
    · intro y0 y1 y2 y3
      unfold mootref01_Put.l0
      repeat' first
      | (with_reducible exact ih0 _ _ _ _)
      | (with_reducible exact LeO.refl _)
      | (with_reducible exact LeO.none _)
      | (with_reducible refine LeO.ite ?_ ?_)
      | (with_reducible refine LeO.bind ?_ (fun _ => ?_))
      | exact ih0 _ _ _ _
      | exact LeO.none _
      | refine LeO.ite ?_ ?_
      | refine LeO.bind ?_ (fun _ => ?_)
theorem mootref01_Put.mono : ∀ a0 a1 k, LeO (mootref01_Put.f k a0 a1) (mootref01_Put.f (k + 1) a0 a1) := by
  intro a0 a1 k
  have ih0 := mootref01_Put.mono_l k
  unfold mootref01_Put.f
  repeat' first
      | (with_reducible exact ih0 _ _ _ _)
      | (with_reducible exact LeO.refl _)
      | (with_reducible exact LeO.none _)
      | (with_reducible refine LeO.ite ?_ ?_)
      | (with_reducible refine LeO.bind ?_ (fun _ => ?_))
      | exact ih0 _ _ _ _
      | exact LeO.none _
      | refine LeO.ite ?_ ?_
      | refine LeO.bind ?_ (fun _ => ?_)
set_option maxHeartbeats 8000000 in
set_option maxRecDepth 100000 in
theorem mootref01_Put.calls (k : Nat) (a0 : Int) (a1 : Int) (r : List Int) (w : World) (h : mootref01_Put.f k a0 a1 = some r) :
    Calls Try.prog 34 #[.int .i64 a0, .int .i64 a1] w fun e w' => ∃ v0_ : Value, e = .returned (v0_) ∧ Kd.R (Kd.int .u8) 5 w' w.heap.size (fun _ => True) v0_ r ∧ Below w.heap.size w w' := by
  have HB := Aside0.mk (Below.refl w.heap.size w)
  have H : (mootref01_Put.l0 k a0 (mn (mx a1 0) 8) ([] : List Int) 0) = some r := h
  clear h
  obtain ⟨ji3, hji3⟩ : ∃ j_ : Int, (mx a1 0) = j_ := ⟨_, rfl⟩
  replace H : (mootref01_Put.l0 k a0 (mn (ji3) 8) ([] : List Int) 0) = some r := by first | (rw [hji3] at H; exact H) | (simp only [hji3] at H ⊢; exact H)
  (try (have hji3l : 0 ≤ ji3 := by (rw [← hji3]; unfold mx; (repeat' split) <;> omega)))
  (try (have hji3m : 0 ≤ ji3 := by omega))
  have hji3_ : (if a1 < 0 then 0 else a1) = ji3 := hji3
  obtain ⟨ji4, hji4⟩ : ∃ j_ : Int, (mn (ji3) 8) = j_ := ⟨_, rfl⟩
  replace H : (mootref01_Put.l0 k a0 ji4 ([] : List Int) 0) = some r := by first | (rw [hji4] at H; exact H) | (simp only [hji4] at H ⊢; exact H)
  have hji4_ : (if 8 < (ji3) then 8 else (ji3)) = ji4 := hji4
  have H' := Aside0.mk H
  clear H
  go_enter Try.func34, Try.ntmps34
  go_wp2
  go_loopg [5, 6] k (fun kq v5 v6 w' => ∃ (x5_1 : List Int) (x6_1 : Int), v6 = .int .i64 x6_1 ∧ Aside0 (mootref01_Put.l0 kq a0 ji4 x5_1 x6_1 = some r) ∧ Aside0 (kq ≤ k) ∧ Aside0 (Kd.R (Kd.int .u8) 5 w' w.heap.size (fun _ => True) v5 x5_1) ∧ Aside0 (Below w.heap.size w w'))
  case atStart => exact ⟨(([] : List Int)), (0), (by first | rfl | (simp; done) | (simp [*]; done)), H', ⟨Nat.le_refl _⟩, ⟨by first | exact Kd.R_nil _ _ _ _ _ | exact Kd.N_nil _ _ _ _ _ | exact Kd.V_nil _ _ _ _ _ | exact Kd.Q_nil _ _ _ _ _ | exact Kd.S_nil _ _ _ _ _⟩, ⟨by repeat (first | (with_reducible first | exact HB.out | apply below_alloc | apply pw_below_drewN | apply below_drew1) | exact HB.out)⟩⟩
  case round =>
    clear H'
    clear hji4_ hji4 hji3_ hji3
    try clear p2
    try clear c3
    obtain ⟨x5_1, x6_1, rfl, HA, HK1, HO_5, HB⟩ := hrel
    cases gk with
    | zero => exact absurd HA.out (by simp [mootref01_Put.l0])
    | succ k1 =>
      have H := HA.out
      clear HA
      simp only [mootref01_Put.l0] at H
      by_cases c5 : x6_1 < ji4
      · rw [if_pos c5] at H
        have c5b0 : decide (x6_1 < ji4) = true := decide_eq_true c5
        clear c5
        obtain ⟨ji6, hji6⟩ : ∃ j_ : Int, (IntKind.u64.wrap (wrap64 (8 * (wrap64 ((wrap64 (ji4 - 1)) - x6_1))))) = j_ := ⟨_, rfl⟩
        replace H : (if 0 ≤ (ji6) then (if x5_1.length < 140737488355328 then (mootref01_Put.l0 k1 a0 ji4 (x5_1 ++ [(shr .u64 (IntKind.u64.wrap (a0)) (ji6)) % 256]) (wrap64 (x6_1 + 1))) else (none)) else (none)) = some r := by first | (rw [hji6] at H; exact H) | (simp only [hji6] at H ⊢; exact H)
        by_cases c7 : 0 ≤ (ji6)
        · rw [if_pos c7] at H
          have c7b0 := eq_true c7
          have c7b1 : decide (0 ≤ (ji6)) = true := decide_eq_true c7
          clear c7
          obtain ⟨ji8, hji8⟩ : ∃ j_ : Int, (shr .u64 (IntKind.u64.wrap (a0)) (ji6)) = j_ := ⟨_, rfl⟩
          replace H : (if x5_1.length < 140737488355328 then (mootref01_Put.l0 k1 a0 ji4 (x5_1 ++ [(ji8) % 256]) (wrap64 (x6_1 + 1))) else (none)) = some r := by first | (rw [hji8] at H; exact H) | (simp only [hji8] at H ⊢; exact H)
          have hji8_ : ((IntKind.u64.wrap (a0)) / 2 ^ min (ji6).toNat 64) = ji8 := hji8
          have hji8z : (ji6) ≤ 64 → ((IntKind.u64.wrap (a0)) / 2 ^ (ji6).toNat) = ji8 := shr_small hji8
          by_cases c9 : x5_1.length < 140737488355328
          · rw [if_pos c9] at H
            have LMc9 := Aside0.mk c9
            clear c9
            obtain ⟨y155, hy155⟩ : ∃ y_ : List Int, y_ = (x5_1 ++ [(ji8) % 256]) := ⟨_, rfl⟩
            replace H : (mootref01_Put.l0 k1 a0 ji4 y155 (wrap64 (x6_1 + 1))) = some r := by first | (rw [hy155]; with_reducible exact H) | (have H2_ := (Option.bind_some _ _).symm.trans H; rw [hy155]; with_reducible exact H2_) | (have H2_ := (Option.bind_some _ _).symm.trans H; with_reducible exact H2_) | with_reducible exact H | (rw [hy155]; exact H) | exact H
            have Ny155 := Aside0.mk hy155
            clear hy155
            have H' := Aside0.mk H
            clear H
            go_wp2_with (first | ((with_reducible refine gate_builtin (b := .append) (xs := #[.tmp 15, .tmp 26]) rfl ?_); at_builtin; refine Kd.R_append (Kd.int .u8) (w0 := w) w.heap.size rfl (.tmp 15) (.tmp 26) 22 5 (.int .u8 0) 1 rfl Try.underlying22 info5 rfl (by decide) (by omega) u5 x5_1 ((ji8) % 256) [.int .u8 ((ji8) % 256)] (fun _ => True) (fun _ => False) rfl rfl ?aP (fun _ hk => hk.elim) ?aF ?aO ?aB ?aS ?aL ?_; (case aP => exact rfl); (case aB => exact (by repeat (first | (with_reducible first | exact HB.out | apply below_alloc | apply pw_below_drewN | apply below_drew1) | exact HB.out))); (case aF => exact (fun _ _ => trivial)); (case aO => exact (by (with_reducible repeat (first | apply Kd.R_alloc | apply Kd.R_drewN | apply Kd.R_drew)); exact HO_5.out)); (case aS => exact (below_size (by repeat (first | (with_reducible first | exact HB.out | apply below_alloc | apply pw_below_drewN | apply below_drew1) | exact HB.out)))); (case aL => have := LMc9.out; omega); intro v156 w10 ho hb hg hat; rw [← Ny155.out] at ho; have n0_ := Aside0.mk (hb); have n1_ := Aside0.mk (ho); clear HB; clear HO_5; have HB := n0_; have HO157 := n1_; clear n0_ n1_; clear ho hb hg hat))
            go_roundg k1
            case measure => have := HK1.out; omega
            case rel => exact ⟨(y155), (wrap64 (x6_1 + 1)), (by first | rfl | (simp; done) | (simp [*]; done)), H', ⟨by have := HK1.out; omega⟩, ⟨by (with_reducible repeat (first | apply Kd.R_alloc | apply Kd.R_drewN | apply Kd.R_drew)); exact HO157.out⟩, ⟨by repeat (first | (with_reducible first | exact HB.out | apply below_alloc | apply pw_below_drewN | apply below_drew1) | exact HB.out)⟩⟩
          · rw [if_neg c9] at H
            exact absurd H (by simp)
        · rw [if_neg c7] at H
          exact absurd H (by simp)
      · rw [if_neg c5] at H
        have c5b0 : decide (x6_1 < ji4) = false := decide_eq_false c5
        clear c5
        obtain rfl := Option.some.inj H
        go_wp2
        go_ret
        exact ⟨_, by first | rfl | (simp [errW_none, errW_some] <;> rfl) | (simp only [← hji3, ← hji4]; first | rfl | (simp [errW_none, errW_some] <;> rfl)) | (simp [*, errW_none, errW_some] <;> rfl), by (with_reducible repeat (first | apply Kd.R_alloc | apply Kd.R_drewN | apply Kd.R_drew)); exact HO_5.out, by repeat (first | (with_reducible first | exact HB.out | apply below_alloc | apply pw_below_drewN | apply below_drew1) | exact HB.out)⟩

end Go.Proofs.Ytfdpbdaekfdnjaa.X
-- Written by a program of this session (a turn of the kit's print with contracts by hand). Not trusted: Lean checks it.
namespace Go.Proofs.Ytfdpbdaekfdnjaa.X
open Go.RowKit Go.Proofs.YtfdpbdaekfdnjaaW.PrintWords Go.Proofs.YtfdpbdaekfdnjaaW.PrintLast Go.Proofs.YtfdpbdaekfdnjaaW.PrintMore
attribute [local go_sem] max2_int min2_int max_two min_two max_three min_three max_four min_four   -- for this text's walks alone
set_option linter.unusedVariables false
set_option linter.unusedSimpArgs false

/-! ### mootlaw30_record: function 41 -/
def mootlaw30_record.f (k : Nat) (a0 : Int) (a1 : Int) : Option (List Int) := (mootref01_Put.f k a0 6).bind fun t194 => (if ([] : List Int).length + t194.length < 140737488355328 then ((some (([] : List Int) ++ t194 : List Int)).bind fun y197 => ((mootref01_Put.f k a1 6).bind fun t200 => (if y197.length + t200.length < 140737488355328 then (some (y197 ++ t200)) else (none)))) else (none))
theorem mootlaw30_record.mono : ∀ a0 a1 k, LeO (mootlaw30_record.f k a0 a1) (mootlaw30_record.f (k + 1) a0 a1) := by
  intro a0 a1 k
  unfold mootlaw30_record.f
  repeat' first
      | (with_reducible exact mootref01_Put.mono _ _ _)
      | (with_reducible exact LeO.refl _)
      | (with_reducible exact LeO.none _)
      | (with_reducible refine LeO.ite ?_ ?_)
      | (with_reducible refine LeO.bind ?_ (fun _ => ?_))
      | exact mootref01_Put.mono _ _ _
      | exact LeO.none _
      | refine LeO.ite ?_ ?_
      | refine LeO.bind ?_ (fun _ => ?_)
set_option maxHeartbeats 8000000 in
set_option maxRecDepth 100000 in
theorem mootlaw30_record.calls (k : Nat) (a0 : Int) (a1 : Int) (r : List Int) (w : World) (h : mootlaw30_record.f k a0 a1 = some r) :
    Calls Try.prog 41 #[.int .i64 a0, .int .i64 a1] w fun e w' => ∃ v0_ : Value, e = .returned (v0_) ∧ Kd.R (Kd.int .u8) 5 w' w.heap.size (fun _ => True) v0_ r ∧ Below w.heap.size w w' := by
  have HB := Aside0.mk (Below.refl w.heap.size w)
  have H : ((mootref01_Put.f k a0 6).bind fun t194 => (if ([] : List Int).length + t194.length < 140737488355328 then ((some (([] : List Int) ++ t194 : List Int)).bind fun y197 => ((mootref01_Put.f k a1 6).bind fun t200 => (if y197.length + t200.length < 140737488355328 then (some (y197 ++ t200)) else (none)))) else (none))) = some r := h
  clear h
  replace H := Option.bind_eq_some_iff.mp H
  obtain ⟨t194, A30, H⟩ := H
  replace H : (if ([] : List Int).length + t194.length < 140737488355328 then ((some (([] : List Int) ++ t194 : List Int)).bind fun y197 => ((mootref01_Put.f k a1 6).bind fun t200 => (if y197.length + t200.length < 140737488355328 then (some (y197 ++ t200)) else (none)))) else (none)) = some r := H
  have A3 := Aside0.mk A30
  clear A30
  by_cases c4 : ([] : List Int).length + t194.length < 140737488355328
  · rw [if_pos c4] at H
    have LMc4 := Aside0.mk c4
    clear c4
    obtain ⟨y197, hy197⟩ : ∃ y_ : List Int, y_ = (([] : List Int) ++ t194) := ⟨_, rfl⟩
    replace H : ((mootref01_Put.f k a1 6).bind fun t200 => (if y197.length + t200.length < 140737488355328 then (some (y197 ++ t200)) else (none))) = some r := by first | (rw [hy197]; with_reducible exact H) | (have H2_ := (Option.bind_some _ _).symm.trans H; rw [hy197]; with_reducible exact H2_) | (have H2_ := (Option.bind_some _ _).symm.trans H; with_reducible exact H2_) | with_reducible exact H | (rw [hy197]; exact H) | exact H
    have Ny197 := Aside0.mk hy197
    clear hy197
    replace H := Option.bind_eq_some_iff.mp H
    obtain ⟨t200, A50, H⟩ := H
    replace H : (if y197.length + t200.length < 140737488355328 then (some (y197 ++ t200)) else (none)) = some r := H
    have A5 := Aside0.mk A50
    clear A50
    by_cases c6 : y197.length + t200.length < 140737488355328
    · rw [if_pos c6] at H
      have LMc6 := Aside0.mk c6
      clear c6
      obtain ⟨y203, hy203⟩ : ∃ y_ : List Int, y_ = (y197 ++ t200) := ⟨_, rfl⟩
      replace H : (some y203) = some r := by first | (rw [hy203]; with_reducible exact H) | (have H2_ := (Option.bind_some _ _).symm.trans H; rw [hy203]; with_reducible exact H2_) | (have H2_ := (Option.bind_some _ _).symm.trans H; with_reducible exact H2_) | with_reducible exact H | (rw [hy203]; exact H) | exact H
      have Ny203 := Aside0.mk hy203
      clear hy203
      obtain rfl := Option.some.inj H
      go_enter Try.func41, Try.ntmps41
      go_wp2_with (first | ((with_reducible refine gate_callee (f := 34) rfl ?_); refine goesL_ (some 8) rfl rfl Try.func34 (by kernel_rfl) rfl #[.int .i64 a0, .int .i64 6] rfl (by (try simp only [List.map_toArray, List.map_cons, List.map_nil]); first | done | rfl | (simp only [List.length_drop, List.length_take]; rfl)) ?_; (with_reducible refine (mootref01_Put.calls k a0 6 t194 _ A3.out).mono ?_); rintro e w7 ⟨v195, rfl, ho0, hb⟩; refine ⟨_, rfl, ?_⟩; have n0_ := Aside0.mk (Kd.R_lower ho0 (below_size (by repeat (first | (with_reducible first | exact HB.out | apply below_alloc | apply pw_below_drewN | apply below_drew1) | exact HB.out)))); have n1_ := Aside0.mk (below_step (by repeat (first | (with_reducible first | exact HB.out | apply below_alloc | apply pw_below_drewN | apply below_drew1) | exact HB.out)) hb); clear HB; have HO196 := n0_; have HB := n1_; clear n0_ n1_; (try clear hb); (try clear hb2); (try clear hk); (try clear hi); (try clear ho0); obtain ⟨Ao9, co9, eo9⟩ := Kd.R_slice HO196.out; subst eo9) | ((with_reducible refine gate_builtin (b := .append) (xs := #[.tmp 6, .tmp 8]) rfl ?_); at_builtin; refine Kd.R_append_rows (Kd.int .u8) (w0 := w) w.heap.size rfl (.tmp 6) (.tmp 8) 22 5 (.int .u8 0) 1 rfl Try.underlying22 info5 rfl (by decide) (by omega) (.slice none 0 0) ([] : List Int) t194 _ _ _ (fun k_ => some k_ ≠ (.slice Ao9 t194.length co9 : Value).ownBlock) (fun _ => False) rfl rfl ?aO ?aR (fun _ _ h => h) (fun _ h => h.elim) ?aF ?aB ?aS ?aL ?_; (case aR => repeat (first | exact (Kd.R_reads' HO196.out).2.2 | (with_reducible refine Kd.C_alloc ?_ _) | (with_reducible refine Kd.C_drewN ?_ _) | (with_reducible refine Kd.C_drew ?_))); (case aB => exact (by repeat (first | (with_reducible first | exact HB.out | apply below_alloc | apply pw_below_drewN | apply below_drew1) | exact HB.out))); (case aF => exact (fun k_ hk => Kd.fresh' (Kd.R_lt (by (with_reducible repeat (first | apply Kd.R_alloc | apply Kd.R_drewN | apply Kd.R_drew)); exact HO196.out)) k_ hk)); (case aO => exact ((Kd.R_nil _ _ _ _ (fun k_ => some k_ ≠ (.slice Ao9 t194.length co9 : Value).ownBlock)))); (case aS => exact (below_size (by repeat (first | (with_reducible first | exact HB.out | apply below_alloc | apply pw_below_drewN | apply below_drew1) | exact HB.out)))); (case aL => have := LMc4.out; omega); intro v198 w8 ho hb hg hat; rw [← Ny197.out] at ho; have n0_ := Aside0.mk (Kd.R_after (Kd.R_apart_nil (by (with_reducible repeat (first | apply Kd.R_alloc | apply Kd.R_drewN | apply Kd.R_drew)); exact HO196.out)) hg hat); have n1_ := Aside0.mk (hb); have n2_ := Aside0.mk (ho); clear HO196; clear HB; have HO196 := n0_; have HB := n1_; have HO199 := n2_; clear n0_ n1_ n2_; clear ho hb hg hat) | ((with_reducible refine gate_callee (f := 34) rfl ?_); refine goesL_ (some 12) rfl rfl Try.func34 (by kernel_rfl) rfl #[.int .i64 a1, .int .i64 6] rfl (by (try simp only [List.map_toArray, List.map_cons, List.map_nil]); first | done | rfl | (simp only [List.length_drop, List.length_take]; rfl)) ?_; (with_reducible refine (mootref01_Put.calls k a1 6 t200 _ A5.out).mono ?_); rintro e w10 ⟨v201, rfl, ho0, hb⟩; refine ⟨_, rfl, ?_⟩; have n0_ := Aside0.mk (Kd.R_elder' (by (with_reducible repeat (first | apply Kd.R_alloc | apply Kd.R_drewN | apply Kd.R_drew)); exact HO196.out) (Kd.R_base ho0) hb); have n1_ := Aside0.mk (Kd.R_elder' (by (with_reducible repeat (first | apply Kd.R_alloc | apply Kd.R_drewN | apply Kd.R_drew)); exact HO199.out) (Kd.R_base ho0) hb); have n2_ := Aside0.mk (Kd.R_lower (Kd.R_new' (Kd.R_new' ho0 (Kd.R_lt (by (with_reducible repeat (first | apply Kd.R_alloc | apply Kd.R_drewN | apply Kd.R_drew)); exact HO196.out))) (Kd.R_lt (by (with_reducible repeat (first | apply Kd.R_alloc | apply Kd.R_drewN | apply Kd.R_drew)); exact HO199.out))) (below_size (by repeat (first | (with_reducible first | exact HB.out | apply below_alloc | apply pw_below_drewN | apply below_drew1) | exact HB.out)))); have n3_ := Aside0.mk (below_step (by repeat (first | (with_reducible first | exact HB.out | apply below_alloc | apply pw_below_drewN | apply below_drew1) | exact HB.out)) hb); clear HO196; clear HO199; clear HB; have HO196 := n0_; have HO199 := n1_; have HO202 := n2_; have HB := n3_; clear n0_ n1_ n2_ n3_; (try clear hb); (try clear hb2); (try clear hk); (try clear hi); (try clear ho0); obtain ⟨Ao12, co12, eo12⟩ := Kd.R_slice HO202.out; subst eo12) | ((with_reducible refine gate_builtin (b := .append) (xs := #[.tmp 10, .tmp 12]) rfl ?_); at_builtin; refine Kd.R_append_rows (Kd.int .u8) (w0 := w) w.heap.size rfl (.tmp 10) (.tmp 12) 22 5 (.int .u8 0) 1 rfl Try.underlying22 info5 rfl (by decide) (by omega) v198 y197 t200 _ _ _ (fun k_ => some k_ ≠ (.slice Ao9 t194.length co9 : Value).ownBlock ∧ some k_ ≠ (.slice Ao12 t200.length co12 : Value).ownBlock) (fun _ => False) rfl rfl ?aO ?aR (fun _ _ h => h) (fun _ h => h.elim) ?aF ?aB ?aS ?aL ?_; (case aR => repeat (first | exact (Kd.R_reads' HO202.out).2.2 | (with_reducible refine Kd.C_alloc ?_ _) | (with_reducible refine Kd.C_drewN ?_ _) | (with_reducible refine Kd.C_drew ?_))); (case aB => exact (by repeat (first | (with_reducible first | exact HB.out | apply below_alloc | apply pw_below_drewN | apply below_drew1) | exact HB.out))); (case aF => exact (fun k_ hk => ⟨Kd.fresh' (Kd.R_lt (by (with_reducible repeat (first | apply Kd.R_alloc | apply Kd.R_drewN | apply Kd.R_drew)); exact HO196.out)) k_ hk, Kd.fresh' (Kd.R_lt (by (with_reducible repeat (first | apply Kd.R_alloc | apply Kd.R_drewN | apply Kd.R_drew)); exact HO202.out)) k_ hk⟩)); (case aO => exact (by (with_reducible repeat (first | apply Kd.R_alloc | apply Kd.R_drewN | apply Kd.R_drew)); exact HO199.out)); (case aS => exact (below_size (by repeat (first | (with_reducible first | exact HB.out | apply below_alloc | apply pw_below_drewN | apply below_drew1) | exact HB.out)))); (case aL => have := LMc6.out; omega); intro v204 w11 ho hb hg hat; rw [← Ny203.out] at ho; have n0_ := Aside0.mk (Kd.R_after (ok := (fun k_ => some k_ ≠ (.slice Ao12 t200.length co12 : Value).ownBlock)) (by (with_reducible repeat (first | apply Kd.R_alloc | apply Kd.R_drewN | apply Kd.R_drew)); exact Kd.R_mono HO196.out (fun _ hk => ⟨hk.2, hk.1.2⟩)) hg hat); have n1_ := Aside0.mk (Kd.R_after (ok := (fun k_ => some k_ ≠ (.slice Ao9 t194.length co9 : Value).ownBlock)) (by (with_reducible repeat (first | apply Kd.R_alloc | apply Kd.R_drewN | apply Kd.R_drew)); exact Kd.R_mono HO202.out (fun _ hk => ⟨hk.1.2, hk.2⟩)) hg hat); have n2_ := Aside0.mk (hb); have n3_ := Aside0.mk (ho); clear HO196; clear HO202; clear HB; clear HO199; have HO196 := n0_; have HO202 := n1_; have HB := n2_; have HO205 := n3_; clear n0_ n1_ n2_ n3_; clear ho hb hg hat))
      go_ret
      exact ⟨_, by first | rfl | (simp [errW_none, errW_some] <;> rfl) | (simp [*, errW_none, errW_some] <;> rfl), by (with_reducible repeat (first | apply Kd.R_alloc | apply Kd.R_drewN | apply Kd.R_drew)); exact Kd.R_mono HO205.out (fun _ hk => trivial), by repeat (first | (with_reducible first | exact HB.out | apply below_alloc | apply pw_below_drewN | apply below_drew1) | exact HB.out)⟩
    · rw [if_neg c6] at H
      exact absurd H (by simp)
  · rw [if_neg c4] at H
    exact absurd H (by simp)

end Go.Proofs.Ytfdpbdaekfdnjaa.X
-- Written by a program of this session (a turn of the kit's print with contracts by hand). Not trusted: Lean checks it.
namespace Go.Proofs.Ytfdpbdaekfdnjaa.X
open Go.RowKit Go.Proofs.YtfdpbdaekfdnjaaW.PrintWords Go.Proofs.YtfdpbdaekfdnjaaW.PrintLast Go.Proofs.YtfdpbdaekfdnjaaW.PrintMore
attribute [local go_sem] max2_int min2_int max_two min_two max_three min_three max_four min_four   -- for this text's walks alone
set_option linter.unusedVariables false
set_option linter.unusedSimpArgs false

/-! ### compact_size: function 53 -/
def compact_size.l0 : Nat → Int → List (List Int) → Int → Int → Option (Int)
  | 0, _, _, _, _ => none
  | k + 1, x3, x6, x7, x8 => if x8 < x7 then (if 0 ≤ x8 then (if x8 < (x6.length : Int) then (compact_size.l0 k (wrap64 (x3 + (wrap64 (3 + ((rd_L1 x6 x8).length : Int))))) x6 x7 (wrap64 (x8 + 1))) else (none)) else (none)) else (some x3)
def compact_size.f (k : Nat) (l0 : List (List Int)) : Option (Int) := compact_size.l0 k 0 l0 (l0.length : Int) 0
theorem compact_size.mono_l : ∀ k, (∀ y0 y1 y2 y3, LeO (compact_size.l0 k y0 y1 y2 y3) (compact_size.l0 (k + 1) y0 y1 y2 y3))
  | 0 => fun _ _ _ _ r h => by simp [compact_size.l0] at h
  | k + 1 => by
    have ih0 := compact_size.mono_l k
    · intro y0 y1 y2 y3
      unfold compact_size.l0
      repeat' first
      | (with_reducible exact ih0 _ _ _ _)
      | (with_reducible exact LeO.refl _)
      | (with_reducible exact LeO.none _)
      | (with_reducible refine LeO.ite ?_ ?_)
      | (with_reducible refine LeO.bind ?_ (fun _ => ?_))
      | exact ih0 _ _ _ _
      | exact LeO.none _
      | refine LeO.ite ?_ ?_
      | refine LeO.bind ?_ (fun _ => ?_)
theorem compact_size.mono : ∀ a0 k, LeO (compact_size.f k a0) (compact_size.f (k + 1) a0) := by
  intro a0 k
  have ih0 := compact_size.mono_l k
  unfold compact_size.f
  repeat' first
      | (with_reducible exact ih0 _ _ _ _)
      | (with_reducible exact LeO.refl _)
      | (with_reducible exact LeO.none _)
      | (with_reducible refine LeO.ite ?_ ?_)
      | (with_reducible refine LeO.bind ?_ (fun _ => ?_))
      | exact ih0 _ _ _ _
      | exact LeO.none _
      | refine LeO.ite ?_ ?_
      | refine LeO.bind ?_ (fun _ => ?_)
set_option maxHeartbeats 8000000 in
set_option maxRecDepth 100000 in
theorem compact_size.calls (k : Nat) (A0 : Option Addr) (c0 : Nat) (l0 : List (List Int)) (r : Int) (w : World) (hr0 : Kd.C (Kd.slice 5 (Kd.int .u8)) w A0 l0.length l0) (hc0 : l0.length ≤ c0) (h : compact_size.f k l0 = some r) :
    Calls Try.prog 53 #[.slice A0 l0.length c0] w fun e w' => e = .returned (.int .i64 r) ∧ Drawn0 w w' := by
  have HR0 := Aside0.mk hr0
  have HC0 := Aside0.mk hc0
  clear hr0 hc0
  have H : (compact_size.l0 k 0 l0 (l0.length : Int) 0) = some r := h
  clear h
  have H' := Aside0.mk H
  clear H
  go_enter Try.func53, Try.ntmps53
  go_wp2
  go_loopg [3, 8] k (fun kq v3 v8 w' => ∃ (x3_1 : Int) (x8_1 : Int), v3 = .int .i64 x3_1 ∧ v8 = .int .i64 x8_1 ∧ Aside0 (compact_size.l0 kq x3_1 l0 (l0.length : Int) x8_1 = some r) ∧ Aside0 (kq ≤ k) ∧ Drawn0 w w')
  case atStart => exact ⟨(0), (0), (by first | rfl | (simp; done) | (simp [*]; done)), (by first | rfl | (simp; done) | (simp [*]; done)), H', ⟨Nat.le_refl _⟩, by repeat (first | exact Drawn0.refl _ | apply Drawn0.step)⟩
  case round =>
    clear H'
    obtain ⟨x3_1, x8_1, rfl, rfl, HA, HK1, ⟨m1, rfl⟩⟩ := hrel
    cases gk with
    | zero => exact absurd HA.out (by simp [compact_size.l0])
    | succ k1 =>
      have H := HA.out
      clear HA
      simp only [compact_size.l0] at H
      by_cases c2 : x8_1 < (l0.length : Int)
      · rw [if_pos c2] at H
        have c2b0 : decide (x8_1 < (l0.length : Int)) = true := decide_eq_true c2
        clear c2
        by_cases c3 : 0 ≤ x8_1
        · rw [if_pos c3] at H
          have c3b0 : decide (0 ≤ x8_1) = true := decide_eq_true c3
          clear c3
          by_cases c4 : x8_1 < (l0.length : Int)
          · rw [if_pos c4] at H
            have c4b0 : decide (x8_1 < (l0.length : Int)) = true := decide_eq_true c4
            clear c4
            have H' := Aside0.mk H
            clear H
            have p259 : 0 ≤ (x8_1 : Int) := of_decide_eq_true (by first | (with_reducible assumption) | assumption)
            have q259 : x8_1 < (l0.length : Int) := of_decide_eq_true (by first | (with_reducible assumption) | assumption)
            obtain ⟨ad259, A259_0, c259_0, e259, hx259_0, hl259_0, hi259_0⟩ := at_L1 HR0.out x8_1 p259 q259
            cases e259
            have HR259_0 := Aside0.mk hi259_0
            have HC259_0 := Aside0.mk hl259_0
            clear hi259_0 hl259_0
            replace p259 := eq_true p259
            replace q259 := eq_true q259
            go_wp2
            go_roundg k1
            case measure => have := HK1.out; omega
            case rel => exact ⟨(wrap64 (x3_1 + (wrap64 (3 + ((rd_L1 l0 x8_1).length : Int))))), (wrap64 (x8_1 + 1)), (by first | rfl | (simp; done) | (simp [*]; done)), (by first | rfl | (simp; done) | (simp [*]; done)), H', ⟨by have := HK1.out; omega⟩, by repeat (first | exact Drawn0.refl _ | apply Drawn0.step)⟩
          · rw [if_neg c4] at H
            exact absurd H (by simp)
        · rw [if_neg c3] at H
          exact absurd H (by simp)
      · rw [if_neg c2] at H
        have c2b0 : decide (x8_1 < (l0.length : Int)) = false := decide_eq_false c2
        clear c2
        obtain rfl := Option.some.inj H
        go_wp2
        go_ret
        exact ⟨by first | rfl | (simp; done) | (simp [*]; done), by repeat (first | exact Drawn0.refl _ | apply Drawn0.step)⟩

end Go.Proofs.Ytfdpbdaekfdnjaa.X
/- mootlaw30.alive: of two views the last counts. And what Gain comes to. -/
namespace Go.Proofs.Ytfdpbdaekfdnjaa.X
open Go.RowKit Go.Proofs.YtfdpbdaekfdnjaaW.PrintWords Go.Proofs.YtfdpbdaekfdnjaaW.PrintLast Go.Proofs.YtfdpbdaekfdnjaaW.PrintMore
set_option linter.unusedVariables false
set_option linter.unusedSimpArgs false

theorem two_C {W : World} {K : Nat} {A A2 : Option Addr} {c c2 : Nat} {x y : List Int} (hk : W.cell? ⟨K, 0, none⟩ = some (.slice A x.length c)) (hk2 : W.cell? ⟨K, 1, none⟩ = some (.slice A2 y.length c2)) (hc : x.length ≤ c) (hC : Kd.C (Kd.int .u8) W A x.length x) (hc2 : y.length ≤ c2) (hC2 : Kd.C (Kd.int .u8) W A2 y.length y) : Kd.C (Kd.slice 5 (Kd.int .u8)) W (some ⟨K, 0, none⟩) 2 [x, y] := by
  refine ⟨rfl, by omega, fun _ => ⟨_, rfl, fun j p hj => ?_⟩⟩
  rcases j with _ | _ | j
  · obtain rfl : x = p := by simpa using hj
    refine ⟨[.slice A x.length c], rfl, ⟨A, c, rfl, hc, hC⟩, fun i u hu => ?_⟩
    rcases i with _ | i
    · obtain rfl : Value.slice A x.length c = u := by simpa using hu
      rw [show ((⟨K, 0, none⟩ : Addr).add (0 * (Kd.slice 5 (Kd.int .u8)).sz + 0)) = ⟨K, 0, none⟩ by simp [Addr.add]]
      exact hk
    · simp at hu
  · obtain rfl : y = p := by simpa using hj
    refine ⟨[.slice A2 y.length c2], rfl, ⟨A2, c2, rfl, hc2, hC2⟩, fun i u hu => ?_⟩
    rcases i with _ | i
    · obtain rfl : Value.slice A2 y.length c2 = u := by simpa using hu
      rw [show ((⟨K, 0, none⟩ : Addr).add ((0 + 1) * (Kd.slice 5 (Kd.int .u8)).sz + 0)) = ⟨K, 1, none⟩ by rw [show (Kd.slice 5 (Kd.int .u8)).sz = 1 from rfl]; simp [Addr.add]]
      exact hk2
    · simp at hu
  · simp at hj
theorem rec3 : mootlaw30_record.f 9 1 3 = some [0, 0, 0, 0, 0, 1, 0, 0, 0, 0, 0, 3] := by decide +kernel
theorem rec4 : mootlaw30_record.f 9 1 4 = some [0, 0, 0, 0, 0, 1, 0, 0, 0, 0, 0, 4] := by decide +kernel
theorem keep34 : keepL [[0, 0, 0, 0, 0, 1, 0, 0, 0, 0, 0, 3], [0, 0, 0, 0, 0, 1, 0, 0, 0, 0, 0, 4]] = [[0, 0, 0, 0, 0, 1, 0, 0, 0, 0, 0, 4]] := by decide +kernel
theorem rec34 : ∀ x ∈ [[(0 : Int), 0, 0, 0, 0, 1, 0, 0, 0, 0, 0, 3], [0, 0, 0, 0, 0, 1, 0, 0, 0, 0, 0, 4]], Octets x ∧ x.length ≤ 140737488355328 := by decide +kernel
set_option maxRecDepth 100000 in
set_option maxHeartbeats 4000000 in
theorem alive30_calls (w : World) : Calls Try.prog 21 #[] w fun e w' => e = .returned (.bool true) ∧ Below w.heap.size w w' := by
  obtain ⟨r3, hr3⟩ : ∃ r3, [(0 : Int), 0, 0, 0, 0, 1, 0, 0, 0, 0, 0, 3] = r3 := ⟨_, rfl⟩
  obtain ⟨r4, hr4⟩ : ∃ r4, [(0 : Int), 0, 0, 0, 0, 1, 0, 0, 0, 0, 0, 4] = r4 := ⟨_, rfl⟩
  have h3 := rec3
  have h4 := rec4
  have hk := keep34
  have hO := rec34
  rw [hr3] at h3
  rw [hr4] at h4
  rw [hr3, hr4] at hk hO
  have H3 := Lib.hid h3
  have H4 := Lib.hid h4
  have HKL := Lib.hid hk
  have HO := Lib.hid hO
  clear h3 h4 hk hO hr3 hr4
  have hmix : Try.prog.follows .mixedOrders = true := by kernel_rfl
  go_enter Try.func21, Try.ntmps21
  go_upto_region 2 with (first | (go_at_call 41; (with_reducible refine (mootlaw30_record.calls 9 1 3 r3 _ H3.out).mono ?_); rintro e w1 ⟨v1, rfl, hR1, hb1⟩; obtain ⟨A1, c1, rfl⟩ := Kd.R_slice hR1; have R1 := Lib.hid hR1; have B1 := Lib.hid hb1; clear hR1 hb1 H3) | (go_at_call 41; (with_reducible refine (mootlaw30_record.calls 9 1 4 r4 _ H4.out).mono ?_); rintro e w2 ⟨v2, rfl, hR2, hb2⟩; obtain ⟨A2, c2, rfl⟩ := Kd.R_slice hR2; have R2 := Lib.hid hR2; have B2 := Lib.hid hb2; clear hR2 hb2) | (go_at_call 35; go_must (refine (keep_calls (some ⟨w2.heap.size, 0, none⟩) 2 [r3, r4] _ (two_C ((blk_cell (blk_new w2 (.cells #[.slice A1 r3.length c1, .slice A2 r4.length c2] 22)) 0).trans rfl) ((blk_cell (blk_new w2 (.cells #[.slice A1 r3.length c1, .slice A2 r4.length c2] 22)) 1).trans rfl) (Kd.R_reads' R1.out).2.1 (Kd.C_below (Kd.C_below (Kd.R_reads' R1.out).2.2 B2.out) (below_alloc (Below.refl _ _) _)) (Kd.R_reads' R2.out).2.1 (Kd.C_below (Kd.R_reads' R2.out).2.2 (below_alloc (Below.refl _ _) _))) (by simp) HO.out (by simp)).mono ?_; rintro e w3 ⟨v3, rfl, hR3, hb3⟩; rw [HKL.out] at hR3; obtain ⟨A3, c3, rfl⟩ := Kd.R_slice hR3; have R3 := Lib.hid (Kd.R_reads' hR3).2.2; have B3 := Lib.hid (below_step (below_alloc (below_step B1.out B2.out) _) hb3); clear hR3 hb3)))
  obtain ⟨ad3, A5, c5, rfl, x0, hlc5, hC5⟩ := at_L1 R3.out 0 (by omega) (by simp)
  have hrd : rd_L1 [r4] 0 = r4 := rfl
  rw [hrd] at x0 hlc5 hC5
  rw [show (0 : Int).toNat = 0 from rfl] at x0
  have C5 := Lib.hid hC5
  have s5 : (convert 22 9 (.slice A5 r4.length c5)).run Try.prog w3.drew = .ok (.string (strOfNums r4)) w3.drew := Kd.C_string (P := Try.prog) Try.underlying22 Try.underlying5 Try.underlying9 (c := c5) (Kd.C_drew hC5)
  clear hC5 hrd hlc5 R1 R2 B1 B2 HO HKL R3
  obtain ⟨sx, hsx⟩ : ∃ sx, strOfNums r4 = sx := ⟨_, rfl⟩
  rw [hsx] at s5
  have HSX := Lib.hid hsx
  clear hsx
  have ha0 : ad3.add 0 = ad3 := by simp [Addr.add]
  rw [ha0] at x0
  have x1 : w3.drew.cell? ad3 = some (.slice A5 r4.length c5) := x0
  clear ha0 x0
  go_region_with (go_at_call 41; go_must (refine (mootlaw30_record.calls 9 1 4 r4 _ H4.out).mono ?_; rintro e w4 ⟨v4, rfl, hR4, hb4⟩; obtain ⟨A4, c4, rfl⟩ := Kd.R_slice hR4; have C4 := Lib.hid (Kd.R_reads' hR4).2.2; have B4 := Lib.hid (below_step (below_drew B3.out) hb4); have s4 : (convert 22 9 (.slice A4 r4.length c4)).run Try.prog w4 = .ok (.string sx) w4 := (by rw [← HSX.out]; exact Kd.C_string (P := Try.prog) Try.underlying22 Try.underlying5 Try.underlying9 (c := c4) C4.out); have s6 : (convert 22 9 (.slice A5 r4.length c5)).run Try.prog w4 = .ok (.string sx) w4 := (by rw [← HSX.out]; exact Kd.C_string (P := Try.prog) Try.underlying22 Try.underlying5 Try.underlying9 (c := c5) (Kd.C_below (Kd.C_drew C5.out) hb4)); have x2 : w4.cell? ad3 = some (.slice A5 r4.length c5) := (hb4.cell (World.block_lt_of_cell? _ _ x1)).trans x1; clear hR4 hb4))
  all_goals go_wp2
  all_goals go_ret
  all_goals exact ⟨rfl, B4.out⟩
set_option maxRecDepth 100000 in
set_option maxHeartbeats 4000000 in
theorem gain_calls (A : Option Addr) (c : Nat) (l : List (List Int)) (n m : Int) (w : World) (hC : Kd.C (Kd.slice 5 (Kd.int .u8)) w A l.length l) (hc : l.length ≤ c) (hO : ∀ x ∈ l, Octets x ∧ x.length ≤ 140737488355328) (hl : l.length ≤ 1000000000) (k : Nat) (hn : compact_size.f k l = some n) (hm : compact_size.f k (keepL l) = some m) :
    Calls Try.prog 38 #[.slice A l.length c] w fun e w' => e = .returned (.int .i64 (wrap64 (n - m))) ∧ Below w.heap.size w w' := by
  have HC := Lib.hid hC
  have HO := Lib.hid hO
  have HN := Lib.hid hn
  have HM := Lib.hid hm
  clear hC hO hn hm
  go_enter Try.func38, Try.ntmps38
  go_wp2_with (first | (go_at_call 53; (with_reducible refine (compact_size.calls k A c l n _ HC.out hc HN.out).mono ?_); rintro e w1 ⟨rfl, ⟨nd, rfl⟩⟩; clear HN) | (go_at_call 35; go_must (refine (keep_calls A c l _ (Kd.C_drewN HC.out _) hc HO.out hl).mono ?_; rintro e w2 ⟨v2, rfl, hR2, hb2⟩; obtain ⟨A2, c2, rfl⟩ := Kd.R_slice hR2; have R2 := Lib.hid (Kd.R_reads' hR2).2; have B2 := Lib.hid hb2; clear hR2 hb2)) | (go_at_call 53; (with_reducible refine (compact_size.calls k A2 c2 (keepL l) m _ R2.out.2 R2.out.1 HM.out).mono ?_); rintro e w3 ⟨rfl, ⟨nd3, rfl⟩⟩))
  go_ret
  exact ⟨rfl, pw_below_drewN (below_step (pw_below_drewN (Below.refl _ _) _) B2.out) _⟩
end Go.Proofs.Ytfdpbdaekfdnjaa.X
-- Written by a program of this session (a turn of the kit's print with contracts by hand). Not trusted: Lean checks it.
namespace Go.Proofs.Ytfdpbdaekfdnjaa.X
open Go.RowKit Go.Proofs.YtfdpbdaekfdnjaaW.PrintWords Go.Proofs.YtfdpbdaekfdnjaaW.PrintLast Go.Proofs.YtfdpbdaekfdnjaaW.PrintMore
attribute [local go_sem] max2_int min2_int max_two min_two max_three min_three max_four min_four   -- for this text's walks alone
set_option linter.unusedVariables false
set_option linter.unusedSimpArgs false

/-! ### mootref01_Get: function 45 -/
def mootref01_Get.l0 : Nat → List Int → Int → Int → Option (Int)
  | 0, _, _, _ => none
  | k + 1, x0, x3, x4 => if x4 < (x0.length : Int) then (if 0 ≤ x4 then (mootref01_Get.l0 k x0 (Int.tmod (IntKind.u64.wrap ((IntKind.u64.wrap (x3 * 256)) + (IntKind.u64.wrap (rd x0 x4)))) 4611686018427387904) (wrap64 (x4 + 1))) else (none)) else (some (wrap64 (x3)))
def mootref01_Get.f (k : Nat) (l0 : List Int) : Option (Int) := mootref01_Get.l0 k l0 0 0
theorem mootref01_Get.mono_l : ∀ k, (∀ y0 y1 y2, LeO (mootref01_Get.l0 k y0 y1 y2) (mootref01_Get.l0 (k + 1) y0 y1 y2))
  | 0 => fun _ _ _ r h => by simp [mootref01_Get.l0] at h
  | k + 1 => by
    have ih0 := mootref01_Get.mono_l k
    · intro y0 y1 y2
      unfold mootref01_Get.l0
      repeat' first
      | (with_reducible exact ih0 _ _ _)
      | (with_reducible exact LeO.refl _)
      | (with_reducible exact LeO.none _)
      | (with_reducible refine LeO.ite ?_ ?_)
      | (with_reducible refine LeO.bind ?_ (fun _ => ?_))
      | exact ih0 _ _ _
      | exact LeO.none _
      | refine LeO.ite ?_ ?_
      | refine LeO.bind ?_ (fun _ => ?_)
theorem mootref01_Get.mono : ∀ a0 k, LeO (mootref01_Get.f k a0) (mootref01_Get.f (k + 1) a0) := by
  intro a0 k
  have ih0 := mootref01_Get.mono_l k
  unfold mootref01_Get.f
  repeat' first
      | (with_reducible exact ih0 _ _ _)
      | (with_reducible exact LeO.refl _)
      | (with_reducible exact LeO.none _)
      | (with_reducible refine LeO.ite ?_ ?_)
      | (with_reducible refine LeO.bind ?_ (fun _ => ?_))
      | exact ih0 _ _ _
      | exact LeO.none _
      | refine LeO.ite ?_ ?_
      | refine LeO.bind ?_ (fun _ => ?_)
set_option maxHeartbeats 8000000 in
set_option maxRecDepth 100000 in
theorem mootref01_Get.calls (k : Nat) (A0 : Option Addr) (c0 : Nat) (l0 : List Int) (r : Int) (w : World) (hr0 : Kd.C (Kd.int .u8) w A0 l0.length l0) (hc0 : l0.length ≤ c0) (h : mootref01_Get.f k l0 = some r) :
    Calls Try.prog 45 #[.slice A0 l0.length c0] w fun e w' => e = .returned (.int .i64 r) ∧ Drawn0 w w' := by
  have HR0 := Aside0.mk hr0
  have HC0 := Aside0.mk hc0
  clear hr0 hc0
  have H : (mootref01_Get.l0 k l0 0 0) = some r := h
  clear h
  have H' := Aside0.mk H
  clear H
  go_enter Try.func45, Try.ntmps45
  go_wp2
  go_loopg [3, 4] k (fun kq v3 v4 w' => ∃ (x3_1 : Int) (x4_1 : Int), v3 = .int .u64 x3_1 ∧ v4 = .int .i64 x4_1 ∧ Aside0 (mootref01_Get.l0 kq l0 x3_1 x4_1 = some r) ∧ Aside0 (kq ≤ k) ∧ Drawn0 w w')
  case atStart => exact ⟨(0), (0), (by first | rfl | (simp; done) | (simp [*]; done)), (by first | rfl | (simp; done) | (simp [*]; done)), H', ⟨Nat.le_refl _⟩, by repeat (first | exact Drawn0.refl _ | apply Drawn0.step)⟩
  case round =>
    clear H'
    obtain ⟨x3_1, x4_1, rfl, rfl, HA, HK1, ⟨m1, rfl⟩⟩ := hrel
    cases gk with
    | zero => exact absurd HA.out (by simp [mootref01_Get.l0])
    | succ k1 =>
      have H := HA.out
      clear HA
      simp only [mootref01_Get.l0] at H
      by_cases c2 : x4_1 < (l0.length : Int)
      · rw [if_pos c2] at H
        have c2b0 : decide (x4_1 < (l0.length : Int)) = true := decide_eq_true c2
        clear c2
        by_cases c3 : 0 ≤ x4_1
        · rw [if_pos c3] at H
          have c3b0 : decide (0 ≤ x4_1) = true := decide_eq_true c3
          clear c3
          have H' := Aside0.mk H
          clear H
          have p133 : 0 ≤ (x4_1 : Int) := of_decide_eq_true (by first | (with_reducible assumption) | assumption)
          have q133 : x4_1 < (l0.length : Int) := of_decide_eq_true (by first | (with_reducible assumption) | assumption)
          obtain ⟨ad133, e133, hx133_0⟩ := Kd.at_int HR0.out x4_1 p133 q133
          cases e133
          replace p133 := eq_true p133
          replace q133 := eq_true q133
          go_wp2
          go_roundg k1
          case measure => have := HK1.out; omega
          case rel => exact ⟨(Int.tmod (IntKind.u64.wrap ((IntKind.u64.wrap (x3_1 * 256)) + (IntKind.u64.wrap (rd l0 x4_1)))) 4611686018427387904), (wrap64 (x4_1 + 1)), (by first | rfl | (simp; done) | (simp [*]; done)), (by first | rfl | (simp; done) | (simp [*]; done)), H', ⟨by have := HK1.out; omega⟩, by repeat (first | exact Drawn0.refl _ | apply Drawn0.step)⟩
        · rw [if_neg c3] at H
          exact absurd H (by simp)
      · rw [if_neg c2] at H
        have c2b0 : decide (x4_1 < (l0.length : Int)) = false := decide_eq_false c2
        clear c2
        obtain rfl := Option.some.inj H
        go_wp2
        go_ret
        exact ⟨by first | rfl | (simp; done) | (simp [*]; done), by repeat (first | exact Drawn0.refl _ | apply Drawn0.step)⟩

end Go.Proofs.Ytfdpbdaekfdnjaa.X
/- The law's own scan of octets, and numbers of the reference. -/
namespace Go.Proofs.Ytfdpbdaekfdnjaa.X
open Go.RowKit Go.Proofs.YtfdpbdaekfdnjaaW.PrintWords Go.Proofs.YtfdpbdaekfdnjaaW.PrintLast Go.Proofs.YtfdpbdaekfdnjaaW.PrintMore
set_option linter.unusedVariables false
set_option linter.unusedSimpArgs false
theorem refget_l0 (l : List Int) (hl : Octets l) (hm : l.length < 4611686018427387904) (d : Nat) : ∀ (k i : Nat) (acc u : Int), 0 ≤ u → u < 18446744073709551616 → acc = u % 4611686018427387904 → i + d = l.length → d < k →
    mootref01_Get.l0 k l acc (i : Int) = some (getF u (l.drop i) % 4611686018427387904) := by
  induction d with
  | zero =>
    intro k i acc u h0 h1 ha hd hk
    obtain ⟨k, rfl⟩ : ∃ m, k = m + 1 := ⟨k - 1, by omega⟩
    rw [mootref01_Get.l0, if_neg (by omega), List.drop_of_length_le (by omega)]
    simp only [getF, List.foldl_nil, Option.some.injEq]
    unfold wrap64
    omega
  | succ d ih =>
    intro k i acc u h0 h1 ha hd hk
    obtain ⟨k, rfl⟩ : ∃ m, k = m + 1 := ⟨k - 1, by omega⟩
    have hi : i < l.length := by omega
    have hr := hl _ (List.getElem_mem hi)
    have e3 : wrap64 ((i : Int) + 1) = ((i + 1 : Nat) : Int) := by rw [wrap64_id _ (by omega) (by omega)]; rfl
    rw [mootref01_Get.l0, if_pos (by omega), if_pos (by omega), e3, rd_at l i hi, List.drop_eq_getElem_cons hi]
    rw [show getF u (l[i] :: l.drop (i + 1)) = getF ((u * 256 + l[i]) % 18446744073709551616) (l.drop (i + 1)) from rfl]
    refine ih k (i + 1) _ _ (by omega) (by omega) ?_ (by omega) (by omega)
    rw [IntKind.wrap_u64, IntKind.wrap_u64, IntKind.wrap_u64]
    generalize l[i] = c at hr ⊢
    rw [Int.tmod_eq_emod_of_nonneg (by omega)]
    omega
theorem refget_f (l : List Int) (hl : Octets l) (hm : l.length < 4611686018427387904) (k : Nat) (hk : l.length < k) : mootref01_Get.f k l = some (getF 0 l % 4611686018427387904) := by
  have := refget_l0 l hl hm l.length k 0 0 0 (by omega) (by omega) (by omega) (by omega) hk
  simpa [mootref01_Get.f] using this
theorem refget_cut {W : World} {A : Option Addr} {c : Nat} {b : List Int} (hC : Kd.C (Kd.int .u8) W A b.length b) (hc : b.length ≤ c) (hO : Octets b) (at_ : Nat) (h : at_ + 3 ≤ b.length) (m : Nat) (hm : lenAt b at_ = (m : Int)) :
    Calls Try.prog 45 #[cutV A c at_ 3] W fun e w' => e = .returned (.int .i64 (m : Int)) ∧ Drawn0 W w' := by
  have hl : ((b.take (at_ + 3)).drop at_).length = 3 := by rw [List.length_drop, List.length_take]; omega
  have := mootref01_Get.calls 4 (cutA A c at_) (c - at_) ((b.take (at_ + 3)).drop at_) (lenAt b at_) W (by rw [hl]; exact cut_C hC hc at_ 3 h) (by omega) (refget_f _ (octets_cut b hO _ _) (by omega) 4 (by omega))
  rw [hl, hm] at this
  exact this
theorem piece_FK {w W : World} {A : Option Addr} {c : Nat} {b : List Int} (hC : Kd.C (Kd.int .u8) w A b.length b) (hB : Below w.heap.size w W) (hc : b.length ≤ c) (lo n : Nat) (h : lo + n ≤ b.length) :
    Kd.FK (Kd.slice 5 (Kd.int .u8)) W (fun k => k < w.heap.size) (pieceL b (lo, n)) [.slice (cutA A c lo) n (c - lo)] := by
  have hl : (pieceL b (lo, n)).length = n := by simp only [pieceL, List.length_drop, List.length_take]; omega
  have hF := Kd.F_mid (lo := lo) (hi := lo + n) (Kd.F_below (Kd.C_F (Kd.heap_int .u8) hC) hB) (by omega) h hc
  have := Kd.FK_slice_mk (e := 5) (d := Kd.int .u8) (W := W) (ok := fun k => k < w.heap.size) (A := cutA A c lo) (c := c - lo) (l := pieceL b (lo, n)) (by rw [hl]; omega) hF
  rw [hl] at this
  exact this
theorem N_base {W : World} {base : Nat} {ok : Nat → Prop} {v : Value} {rows : List (List Int)} (h : Kd.N (Kd.slice 5 (Kd.int .u8)) 22 W base ok v rows) : ∀ k, v.ownBlock = some k → base ≤ k := by
  obtain ⟨_, rs, _, hR, _⟩ := h
  obtain ⟨inner, ho⟩ := Kd.R_own hR
  exact fun k hk => own_base ho k hk

theorem lscan_end {w W : World} {b : List Int} {d at_ : Nat} {pre : List (Piece b)} {v : Value} (he : pre.map (·.1) = scanN b (b.length + 1) 0) (hc : CameF b d at_ pre) (hN : Kd.N (Kd.slice 5 (Kd.int .u8)) 22 W w.heap.size (fun _ => True) v (pre.map (fun x => pieceL b x.1))) (hB : Below w.heap.size w W) :
    ∃ A1 c1, Ending.returned (.tuple #[v, .int .i64 (at_ : Int)]) = .returned (.tuple #[.slice A1 (scanL b).length c1, .int .i64 (scanEnd b : Int)]) ∧ Kd.C (Kd.slice 5 (Kd.int .u8)) W A1 (scanL b).length (scanL b) ∧ Below w.heap.size w W := by
  have e1 : pre.map (fun x => pieceL b x.1) = scanL b := by rw [scanL, ← he, List.map_map]; rfl
  have e2 : at_ = scanEnd b := by
    have := hc.2.2.2.2
    rw [scanEnd, ← he, endN, ← this, List.getLast?_map, Option.map_map]
    rfl
  rw [e1] at hN
  obtain ⟨A1, c1, rfl⟩ := Kd.N_slice hN
  exact ⟨A1, c1, by rw [e2], (Kd.N_reads' hN).2.2, hB⟩

set_option maxRecDepth 100000 in
set_option maxHeartbeats 40000000 in
theorem lscan_calls (A : Option Addr) (c : Nat) (b : List Int) (w : World) (hC : Kd.C (Kd.int .u8) w A b.length b) (hc : b.length ≤ c) (hO : Octets b) (hlen : b.length ≤ 100000000000) :
    Calls Try.prog 32 #[.slice A b.length c] w fun e w' => ∃ A1 c1, e = .returned (.tuple #[.slice A1 (scanL b).length c1, .int .i64 (scanEnd b : Int)]) ∧ Kd.C (Kd.slice 5 (Kd.int .u8)) w' A1 (scanL b).length (scanL b) ∧ Below w.heap.size w w' := by
  have HC := Lib.hid hC
  have HO := Lib.hid hO
  clear hC hO
  go_enter Try.func32, Try.ntmps32
  go_wp2
  go_loopg [4, 5] (b.length + 1) (fun kq v4 v5 w' => ∃ (d at_ : Nat) (pre : List (Piece b)), v5 = .int .i64 (at_ : Int) ∧ Hid (kq = d + 1) ∧ Hid (CameF b (d + 1) at_ pre) ∧ Hid (Kd.N (Kd.slice 5 (Kd.int .u8)) 22 w' w.heap.size (fun _ => True) v4 (pre.map (fun x => pieceL b x.1))) ∧ Hid (Below w.heap.size w w'))
  case atStart => exact ⟨b.length, 0, [], rfl, Lib.hid rfl, Lib.hid (CameF.start b), Lib.hid (Kd.N_nil _ _ _ _ _), Lib.hid (Below.refl _ _)⟩
  case round =>
    obtain ⟨d, at_, pre, rfl, hk8, hcame, hN, hB⟩ := hrel
    have hle := hcame.out.2.2.1
    have e1 : wrap64 ((b.length : Int) - (at_ : Int)) = (b.length : Int) - at_ := wrap64_id _ (by omega) (by omega)
    by_cases h3 : at_ + 3 ≤ b.length
    · have c1 : decide ((b.length : Int) - (at_ : Int) ≥ 3) = true := decide_eq_true (by omega)
      have c2 : decide (3 ≤ (b.length : Int) - (at_ : Int)) = true := decide_eq_true (by omega)
      have e2 : wrap64 ((at_ : Int) + 3) = (at_ : Int) + 3 := wrap64_id _ (by omega) (by omega)
      have hcut := cut_run A b.length c at_ 3 h3 hc (at_ : Int) ((at_ : Int) + 3) rfl (by omega)
      obtain ⟨m, hm⟩ := Int.eq_ofNat_of_zero_le (lenAt_nonneg b at_)
      have hmn : (lenAt b at_).toNat = m := by rw [hm]; rfl
      have HM := Lib.hid hm
      have HMN := Lib.hid hmn
      clear hm hmn
      by_cases h4 : 16384 < m
      · have c3 : decide ((m : Int) > 16384) = true := decide_eq_true (by omega)
        have c4 : decide (16384 < (m : Int)) = true := decide_eq_true (by omega)
        have c5 : decide (16384 < m) = true := decide_eq_true h4
        have hen := hcame.out.end2 (.inl (by rw [HMN.out]; exact h4))
        have HEN := Lib.hid hen
        clear hen h4
        go_wp2_with (go_at_call 45; (with_reducible refine (refget_cut (Kd.C_below HC.out hB.out) hc HO.out at_ h3 m HM.out).mono ?_); rintro e w1 ⟨rfl, ⟨nd, rfl⟩⟩)
        go_ret2
        exact lscan_end HEN.out hcame.out (Kd.N_drewN hN.out nd) (pw_below_drewN hB.out nd)
      · have c3 : decide ((m : Int) > 16384) = false := decide_eq_false (by omega)
        have c4 : decide (16384 < (m : Int)) = false := decide_eq_false (by omega)
        have c5 : decide (16384 < m) = false := decide_eq_false h4
        have e3 : wrap64 ((b.length : Int) - (at_ : Int) - 3) = (b.length : Int) - at_ - 3 := wrap64_id _ (by omega) (by omega)
        by_cases h5 : b.length < at_ + 3 + m
        · have c6 : decide ((m : Int) > (b.length : Int) - at_ - 3) = true := decide_eq_true (by omega)
          have c7 : decide ((b.length : Int) - at_ - 3 < (m : Int)) = true := decide_eq_true (by omega)
          have hen := hcame.out.end2 (.inr (by rw [HMN.out]; exact h5))
          have HEN := Lib.hid hen
          clear hen h4 h5
          go_wp2_with (go_at_call 45; (with_reducible refine (refget_cut (Kd.C_below HC.out hB.out) hc HO.out at_ h3 m HM.out).mono ?_); rintro e w1 ⟨rfl, ⟨nd, rfl⟩⟩)
          go_ret2
          exact lscan_end HEN.out hcame.out (Kd.N_drewN hN.out nd) (pw_below_drewN hB.out nd)
        · have c6 : decide ((m : Int) > (b.length : Int) - at_ - 3) = false := decide_eq_false (by omega)
          have c7 : decide ((b.length : Int) - at_ - 3 < (m : Int)) = false := decide_eq_false (by omega)
          have hx : at_ + 3 + m ≤ b.length := by omega
          have e4 : wrap64 ((at_ : Int) + 3 + (m : Int)) = (at_ : Int) + 3 + (m : Int) := wrap64_id _ (by omega) (by omega)
          have hcut2 := cut_run A b.length c (at_ + 3) m hx hc ((at_ : Int) + 3) ((at_ : Int) + 3 + (m : Int)) (by omega) (by omega)
          simp only [cutV] at hcut2
          have e8 : (((at_ + 3 + m : Nat)) : Int) = (at_ : Int) + 3 + (m : Int) := by omega
          have E8 := Lib.hid e8
          have hst := hcame.out.step hx HMN.out (by omega) hx
          have hrl : (pre.map (fun x => pieceL b x.1)).length + 1 ≤ 1000000000000 := by rw [List.length_map]; have := hcame.out.2.2.2.1; omega
          have HRL := Lib.hid hrl
          have HST := Lib.hid hst
          have HX := Lib.hid hx
          clear hst h4 h5 e8 hrl
          go_wp2_with (first | (go_at_call 45; (with_reducible refine (refget_cut (Kd.C_below HC.out hB.out) hc HO.out at_ h3 m HM.out).mono ?_); rintro e w1 ⟨rfl, ⟨nd, rfl⟩⟩) | ((with_reducible refine gate_builtin (b := .append) (xs := #[.tmp 31, .tmp 40]) rfl ?_); at_builtin; refine Kd.N_append (Kd.slice 5 (Kd.int .u8)) (w0 := w) w.heap.size rfl (.tmp 31) (.tmp 40) 33 22 (.slice none 0 0) 24 rfl Try.underlying33 info22 rfl (by decide) (by decide) u4 (pre.map (fun x => pieceL b x.1)) (pieceL b (at_ + 3, m)) [.slice (cutA A c (at_ + 3)) m (c - (at_ + 3))] (fun _ => True) (fun k => k < w.heap.size) rfl rfl (piece_FK HC.out (pw_below_drewN hB.out nd) hc (at_ + 3) m HX.out) (fun k hk => ⟨trivial, fun e => by have := N_base hN.out k e.symm; omega⟩) (fun _ _ => trivial) (Kd.N_drewN hN.out nd) (pw_below_drewN hB.out nd) (below_size (pw_below_drewN hB.out nd)) ?aL ?_; (case aL => have := HRL.out; omega); intro v9 w3 ho hb hg hat; have HN3 := Lib.hid ho; have HB3 := Lib.hid hb; clear ho hb hg hat))
          obtain ⟨d1, rfl⟩ : ∃ d1, d = d1 + 1 := ⟨d - 1, by have := HST.out.2.1; have := HST.out.2.2.1; omega⟩
          obtain ⟨k1, rfl⟩ : ∃ k1, gk = k1 + 1 := ⟨gk - 1, by have := hk8.out; omega⟩
          go_roundg k1
          case measure => omega
          case rel => exact ⟨d1, _, _, congrArg (Value.int .i64) E8.out.symm, Lib.hid (by have := hk8.out; omega), Lib.hid HST.out, Lib.hid (by rw [List.map_append]; exact HN3.out), Lib.hid HB3.out⟩
    · have c1 : decide ((b.length : Int) - (at_ : Int) ≥ 3) = false := decide_eq_false (by omega)
      have c2 : decide (3 ≤ (b.length : Int) - (at_ : Int)) = false := decide_eq_false (by omega)
      have hen := hcame.out.end1 h3
      have HEN := Lib.hid hen
      clear hen h3
      go_wp2
      go_ret2
      exact lscan_end HEN.out hcame.out hN.out hB.out
end Go.Proofs.Ytfdpbdaekfdnjaa.X
/- The law's own kind of a record, by the page's reader. -/
namespace Go.Proofs.Ytfdpbdaekfdnjaa.X
open Go.RowKit Go.Proofs.YtfdpbdaekfdnjaaW.PrintWords Go.Proofs.YtfdpbdaekfdnjaaW.PrintLast Go.Proofs.YtfdpbdaekfdnjaaW.PrintMore
set_option linter.unusedVariables false
set_option linter.unusedSimpArgs false

theorem put2 {W : World} {g : Nat} {c0 c1 : Value} (hg : W.heap[g]? = some (.cells #[c0, c1] 81 (0, 0))) (x0 x1 : Value) :
    ((W.setCell ⟨g, 0, none⟩ x0).setCell ⟨g, 1, none⟩ x1).heap[g]? = some (.cells #[x0, x1] 81 (0, 0)) := blk_put (blk_put hg 0 x0 rfl) 1 x1 rfl
/-- The error of a record's first number. -/
def errN (b : List Int) : Int := if b.length < 6 then 8 else if 7 < getF 0 (b.take 6) % 4611686018427387904 then 4 else 0
theorem errN_kind {b : List Int} (h : errN b ≠ 0) : kindN b = 0 := by
  unfold errN at h
  unfold kindN
  by_cases h1 : b.length < 6
  · rw [if_pos h1]
  · rw [if_neg h1] at h ⊢
    by_cases h2 : 7 < getF 0 (b.take 6) % 4611686018427387904
    · rw [if_pos h2]
    · rw [if_neg h2] at h; exact absurd rfl h
set_option maxRecDepth 100000 in
set_option maxHeartbeats 4000000 in
theorem getnum_calls (A : Option Addr) (c : Nat) (b : List Int) (w : World) (hC : Kd.C (Kd.int .u8) w A b.length b) (hc : b.length ≤ c) (hO : Octets b) (hl : b.length ≤ 140737488355328) :
    Calls Try.prog 52 #[.agg #[.slice A b.length c, .int .i64 0], .int .i64 7] w fun e w' => (∃ A2 n2 c2, e = .returned (.tuple #[.int .i64 (kindN b : Int), .agg #[.slice A2 n2 c2, .int .i64 (errN b)]])) ∧ Below w.heap.size w w' := by
  have HC := Lib.hid hC
  clear hC
  by_cases hn : b.length < 6
  · have hk : kindN b = 0 := by rw [kindN, if_pos hn]
    have d0 : decide ((b.length : Int) < 6) = true := decide_eq_true (by omega)
    have d1 : decide (b.length < 6) = true := decide_eq_true hn
    have he : errN b = 8 := by rw [errN, if_pos hn]
    rw [hk, he]
    clear hO hl hn hk he
    go_enter Try.func52, Try.ntmps52
    go_wp2
    have g2 : ((w.alloc (.cells #[.slice A b.length c, .int .i64 0] 81)).alloc (.cells #[.slice none 0 0, .int .i64 8] 81)).heap[w.heap.size + 1]? = some (.cells #[.slice none 0 0, .int .i64 8] 81 (0, 0)) := by
      have := blk_new (w.alloc (.cells #[.slice A b.length c, .int .i64 0] 81)) (.cells #[.slice none 0 0, .int .i64 8] 81)
      rwa [World.size_alloc] at this
    refine bodyPost_ret (results_tc rfl _ _ (w.heap.size + 1) 81 _ (0, 0) _ rfl g2 Try.underlying81 rfl (by kernel_rfl)) rfl ?_
    exact ⟨⟨none, 0, 0, rfl⟩, below_alloc (below_alloc (Below.refl _ _) _) _⟩
  · obtain ⟨w0, hw0⟩ : ∃ w0, (w.alloc (.cells #[.slice A b.length c, .int .i64 0] 81)).alloc (.cells #[.slice none 0 0, .int .i64 0] 81) = w0 := ⟨_, rfl⟩
    have hB0 : Below w.heap.size w w0 := by rw [← hw0]; exact below_alloc (below_alloc (Below.refl _ _) _) _
    have b1 : w0.heap[w.heap.size]? = some (.cells #[.slice A b.length c, .int .i64 0] 81 (0, 0)) := by rw [← hw0]; exact blk_alloc (blk_new _ _) _
    have b2 : w0.heap[w.heap.size + 1]? = some (.cells #[.slice none 0 0, .int .i64 0] 81 (0, 0)) := by
      rw [← hw0]
      have := blk_new (w.alloc (.cells #[.slice A b.length c, .int .i64 0] 81)) (.cells #[.slice none 0 0, .int .i64 0] 81)
      rwa [World.size_alloc] at this
    have d0 : decide ((b.length : Int) < 6) = false := decide_eq_false (by omega)
    have d1 : decide (b.length < 6) = false := decide_eq_false hn
    have hl6 : (b.take 6).length = 6 := by rw [List.length_take]; omega
    obtain ⟨q, hq⟩ : ∃ q, b.take 6 = q := ⟨_, rfl⟩
    rw [hq] at hl6
    obtain ⟨x, hx⟩ : ∃ x, getF 0 q % 4611686018427387904 = x := ⟨_, rfl⟩
    have hx0 : 0 ≤ x := by rw [← hx]; omega
    have hOq : Octets q := by rw [← hq]; exact fun z hz => hO z (List.mem_of_mem_take hz)
    have hg0 : mootref01_Get.f 7 q = some x := by rw [refget_f q hOq (by omega) 7 (by omega), hx]
    have hk : kindN b = if 7 < x then 0 else x.toNat := by rw [kindN, if_neg hn, hq, hx]
    have he : errN b = if 7 < x then 4 else 0 := by rw [errN, if_neg hn, hq, hx]
    have hcall : ∀ n, Calls Try.prog 45 #[.slice A 6 c] (w0.drewN n) fun e w' => e = .returned (.int .i64 x) ∧ Drawn0 (w0.drewN n) w' := fun n => by
      have hCq : Kd.C (Kd.int .u8) (w0.drewN n) A q.length q := by rw [← hq]; exact Kd.C_take (Kd.C_drewN (Kd.C_below HC.out hB0) n) (by omega)
      have := mootref01_Get.calls 7 A c q x _ hCq (by omega) hg0
      rwa [hl6] at this
    have HCALL := Lib.hid hcall
    have hcut := cut_to (P := Try.prog) 22 5 .i64 Try.underlying22 (info_parts info5).choose_spec.1 A b.length c (6 : Int) (by omega) (by omega) hc
    have hfrom : ∃ A6 n6 c6, ∀ W : World, (Instr.slice 22 (.slice A b.length c) (some (.int .i64 6)) none none).run Try.prog W = .ok (.slice A6 n6 c6) W := by
      obtain ⟨i0, hi0, _, hsz0, _⟩ := info_parts info5
      exact ⟨_, _, _, cut_from (P := Try.prog) 22 5 .i64 Try.underlying22 hi0 1 hsz0 A b.length c 6 (by omega) (by omega)⟩
    obtain ⟨A6, n6, c6, hfrom⟩ := hfrom
    rw [show (6 : Int).toNat = 6 from rfl] at hcut
    have f1 := blk_cell b1 0
    have f1b := blk_cell b1 1
    have HB1 := Lib.hid b1
    have HB2 := Lib.hid b2
    have HB0 := Lib.hid hB0
    have hcall0 := hcall 0
    have HX0 := Lib.hid hx0
    clear hOq hg0 hq hx hl6 hO hn hcall b1 hx0
    have f2 := blk_cell b2 0
    have f3 := blk_cell b2 1
    have r2 := blk_frozen b2 0
    have r3 := blk_frozen b2 1
    clear b2
    by_cases h7 : 7 < x
    · have e1 : kindN b = 0 := by rw [hk, if_pos h7]
      rw [e1, he, if_pos h7]
      have p1 : decide (x > 7) = true := decide_eq_true h7
      have p2 : decide (7 < x) = true := decide_eq_true h7
      clear hk he e1 h7
      by_cases hbig : 1099511627776 < x
      · have p3 : decide (x > 1099511627776) = true := decide_eq_true hbig
        have p4 : decide (1099511627776 < x) = true := decide_eq_true hbig
        clear hbig
        go_enter Try.func52, Try.ntmps52
        go_wp2_with (first | (rw [hw0]) | (go_at_call 45; go_must (refine hcall0.mono ?_; rintro e w2 ⟨rfl, ⟨nd, rfl⟩⟩)))
        have g2 := put2 (W := w0.drewN nd) HB2.out (.slice none 0 0) (.int .i64 4)
        refine bodyPost_ret (results_tc rfl _ _ (w.heap.size + 1) 81 _ (0, 0) _ rfl g2 Try.underlying81 rfl (by kernel_rfl)) rfl ?_
        exact ⟨⟨none, 0, 0, rfl⟩, below_set (below_set (pw_below_drewN HB0.out _) (by omega)) (by omega)⟩
      · have p3 : decide (x > 1099511627776) = false := decide_eq_false hbig
        have p4 : decide (1099511627776 < x) = false := decide_eq_false hbig
        clear hbig
        go_enter Try.func52, Try.ntmps52
        go_wp2_with (first | (rw [hw0]) | (go_at_call 45; go_must (refine hcall0.mono ?_; rintro e w2 ⟨rfl, ⟨nd, rfl⟩⟩)))
        have g2 := put2 (W := w0.drewN nd) HB2.out (.slice none 0 0) (.int .i64 4)
        refine bodyPost_ret (results_tc rfl _ _ (w.heap.size + 1) 81 _ (0, 0) _ rfl g2 Try.underlying81 rfl (by kernel_rfl)) rfl ?_
        exact ⟨⟨none, 0, 0, rfl⟩, below_set (below_set (pw_below_drewN HB0.out _) (by omega)) (by omega)⟩
    · have e1 : ((kindN b : Nat) : Int) = x := by have := HX0.out; rw [hk, if_neg h7]; omega
      rw [e1, he, if_neg h7]
      have p1 : decide (x > 7) = false := decide_eq_false h7
      have p2 : decide (7 < x) = false := decide_eq_false h7
      have p3 : decide (x > 1099511627776) = false := decide_eq_false (by omega)
      have p4 : decide (1099511627776 < x) = false := decide_eq_false (by omega)
      clear hk he e1 h7
      go_enter Try.func52, Try.ntmps52
      go_wp2_with (first | (rw [hw0]) | (go_at_call 45; go_must (refine hcall0.mono ?_; rintro e w2 ⟨rfl, ⟨nd, rfl⟩⟩)))
      go_region
      all_goals go_wp2
      all_goals (have g2 := put2 (W := w0.drewN nd) HB2.out (.slice A6 n6 c6) (.int .i64 0))
      all_goals (refine bodyPost_ret (results_tc rfl _ _ (w.heap.size + 1) 81 _ (0, 0) _ rfl g2 Try.underlying81 rfl (by kernel_rfl)) rfl ?_)
      all_goals (exact ⟨⟨A6, n6, c6, rfl⟩, below_set (below_set (pw_below_drewN HB0.out _) (by omega)) (by omega)⟩)
set_option maxRecDepth 100000 in
set_option maxHeartbeats 4000000 in
theorem rkind_calls (A : Option Addr) (c : Nat) (b : List Int) (w : World) (hC : Kd.C (Kd.int .u8) w A b.length b) (hc : b.length ≤ c) (hO : Octets b) (hl : b.length ≤ 140737488355328) :
    Calls Try.prog 37 #[.slice A b.length c] w fun e w' => e = .returned (.int .i64 (kindN b : Int)) ∧ Below w.heap.size w w' := by
  have hg := getnum_calls A c b w hC hc hO hl
  have hek := @errN_kind b
  obtain ⟨x, hx⟩ : ∃ x, errN b = x := ⟨_, rfl⟩
  obtain ⟨k, hk⟩ : ∃ k, kindN b = k := ⟨_, rfl⟩
  rw [hx] at hg hek
  rw [hk] at hg hek ⊢
  have HG := Lib.hid hg
  clear hC hc hO hl hx hk hg
  by_cases h0 : x = 0
  · subst h0
    clear hek
    go_enter Try.func37, Try.ntmps37
    go_wp2_with (go_at_call 52; go_must (refine HG.out.mono ?_; rintro e w1 ⟨⟨A2, n2, c2, rfl⟩, hb⟩; have HB := Lib.hid hb; clear hb))
    go_ret
    exact ⟨rfl, by repeat (first | exact HB.out | apply below_alloc)⟩
  · have hk0 : k = 0 := hek h0
    subst hk0
    have n1 : (x = 0) = False := eq_false h0
    have n2 : (x == 0) = false := beq_eq_false_iff_ne.mpr h0
    clear hek
    go_enter Try.func37, Try.ntmps37
    go_wp2_with (go_at_call 52; go_must (refine HG.out.mono ?_; rintro e w1 ⟨⟨A2, n2, c2, rfl⟩, hb⟩; have HB := Lib.hid hb; clear hb))
    go_ret
    exact ⟨rfl, by repeat (first | exact HB.out | apply below_alloc)⟩
def mootlaw30_kind.f (l0 : List Int) : Option Int := if Octets l0 ∧ l0.length ≤ 140737488355328 then some (kindN l0 : Int) else none
theorem mootlaw30_kind.calls (A0 : Option Addr) (c0 : Nat) (l0 : List Int) (r : Int) (w : World) (hr0 : Kd.C (Kd.int .u8) w A0 l0.length l0) (hc0 : l0.length ≤ c0) (h : mootlaw30_kind.f l0 = some r) :
    Calls Try.prog 37 #[.slice A0 l0.length c0] w fun e w' => e = .returned (.int .i64 r) ∧ Below w.heap.size w w' := by
  unfold mootlaw30_kind.f at h
  split at h
  · rename_i hc
    obtain rfl := Option.some.inj h
    exact rkind_calls A0 c0 l0 w hr0 hc0 hc.1 hc.2
  · cases h
end Go.Proofs.Ytfdpbdaekfdnjaa.X
/- mootplain.Lists of one list of rows, told twice: true. -/
namespace Go.Proofs.Ytfdpbdaekfdnjaa.X
open Go.RowKit Go.Proofs.YtfdpbdaekfdnjaaW.PrintWords Go.Proofs.YtfdpbdaekfdnjaaW.PrintLast Go.Proofs.YtfdpbdaekfdnjaaW.PrintMore
set_option linter.unusedVariables false
set_option linter.unusedSimpArgs false
set_option maxRecDepth 100000 in
set_option maxHeartbeats 40000000 in
theorem lists_same (A0 A1 : Option Addr) (c0 c1 : Nat) (l : List (List Int)) (w : World) (hC0 : Kd.C (Kd.slice 5 (Kd.int .u8)) w A0 l.length l) (hC1 : Kd.C (Kd.slice 5 (Kd.int .u8)) w A1 l.length l) (hl : l.length ≤ 4611686018427387904) :
    Calls Try.prog 27 #[.slice A0 l.length c0, .slice A1 l.length c1] w fun e w' => e = .returned (.bool true) ∧ Drawn0 w w' := by
  have HC0 := Lib.hid hC0
  have HC1 := Lib.hid hC1
  clear hC0 hC1
  go_enter Try.func27, Try.ntmps27
  go_wp2
  go_loopg [5] (l.length + 1) (fun kq v5 w' => ∃ i : Nat, v5 = .int .i64 (i : Int) ∧ Hid (i ≤ l.length) ∧ Hid (kq + i = l.length + 1) ∧ Hid (∃ n, w' = w.drewN n))
  case atStart => exact ⟨0, rfl, Lib.hid (Nat.zero_le _), Lib.hid rfl, Lib.hid ⟨0, rfl⟩⟩
  case round =>
    obtain ⟨i, rfl, hi, hk8, hW⟩ := hrel
    obtain ⟨n, rfl⟩ := hW.out
    by_cases ci : i < l.length
    · have d1 : decide ((i : Int) < (l.length : Int)) = true := decide_eq_true (by omega)
      have d2 : decide (i < l.length) = true := decide_eq_true ci
      have p0 : (0 ≤ (i : Int)) = True := eq_true (by omega)
      have p1 : ((i : Int) < (l.length : Int)) = True := eq_true (by omega)
      have q1 : (i < l.length) = True := eq_true ci
      obtain ⟨ad0, A2, c2, rfl, hx0, hl0, hi0⟩ := at_L1 HC0.out i (by omega) (by omega)
      obtain ⟨ad1, A3, c3, rfl, hx1, hl1, hi1⟩ := at_L1 HC1.out i (by omega) (by omega)
      rw [Int.toNat_natCast] at hx0 hx1
      obtain ⟨b, hb⟩ : ∃ b, rd_L1 l (i : Int) = b := ⟨_, rfl⟩
      rw [hb] at hx0 hx1 hi0 hi1
      have s0 : ∀ k, (convert 22 9 (.slice A2 b.length c2)).run Try.prog (w.drewN k) = .ok (.string (strOfNums b)) (w.drewN k) := fun k => Kd.C_string (P := Try.prog) Try.underlying22 Try.underlying5 Try.underlying9 (c := c2) (Kd.C_drewN hi0 k)
      have s1 : ∀ k, (convert 22 9 (.slice A3 b.length c3)).run Try.prog (w.drewN k) = .ok (.string (strOfNums b)) (w.drewN k) := fun k => Kd.C_string (P := Try.prog) Try.underlying22 Try.underlying5 Try.underlying9 (c := c3) (Kd.C_drewN hi1 k)
      clear hl0 hl1 hi0 hi1 hb
      have CI := Lib.hid ci
      clear ci
      go_wp2
      go_quiet (fail)
      go_wp2
      obtain ⟨k1, rfl⟩ : ∃ k1, gk = k1 + 1 := ⟨gk - 1, by have := hk8.out; have := CI.out; omega⟩
      go_roundg k1
      case measure => omega
      case rel => exact ⟨i + 1, congrArg (Value.int .i64) (by have := CI.out; rw [wrap64_id _ (by omega) (by omega)]; rfl), Lib.hid CI.out, Lib.hid (by have := hk8.out; omega), Lib.hid ⟨_, rfl⟩⟩
    · have d1 : decide ((i : Int) < (l.length : Int)) = false := decide_eq_false (by omega)
      have d2 : decide (i < l.length) = false := decide_eq_false ci
      go_wp2
      go_ret
      exact ⟨rfl, ⟨n, rfl⟩⟩
end Go.Proofs.Ytfdpbdaekfdnjaa.X
/- The law's own kept: what counts, by the page. -/
namespace Go.Proofs.Ytfdpbdaekfdnjaa.X
open Go.RowKit Go.Proofs.YtfdpbdaekfdnjaaW.PrintWords Go.Proofs.YtfdpbdaekfdnjaaW.PrintLast Go.Proofs.YtfdpbdaekfdnjaaW.PrintMore
set_option linter.unusedVariables false
set_option linter.unusedSimpArgs false

theorem getD_at {l : List (List Int)} {m : Nat} (h : m < l.length) : l.getD m [] = l[m] := by rw [List.getD_eq_getElem?_getD, List.getElem?_eq_getElem h, Option.getD_some]
theorem later_iff (l : List (List Int)) (i k : Nat) : (∀ x ∈ l.drop (i + 1), kindN x ≠ k) ↔ ∀ m, i < m → m < l.length → kindN (l.getD m []) ≠ k := by
  constructor
  · intro h m h1 h2
    rw [getD_at h2]
    refine h _ ?_
    rw [List.mem_iff_getElem]
    exact ⟨m - (i + 1), by rw [List.length_drop]; omega, by rw [List.getElem_drop]; congr 1; omega⟩
  · intro h x hx
    obtain ⟨j, hj, rfl⟩ := List.mem_iff_getElem.1 hx
    rw [List.length_drop] at hj
    have := h (i + 1 + j) (by omega) (by omega)
    rw [getD_at (by omega)] at this
    rw [List.getElem_drop]
    exact this
theorem ahead_iff (l : List (List Int)) (i : Nat) (b : List Int) (hi : i ≤ l.length) : b ∉ l.take i ↔ ∀ m, m < i → l.getD m [] ≠ b := by
  constructor
  · intro h m h1 e
    rw [getD_at (by omega)] at e
    refine h ?_
    rw [List.mem_iff_getElem]
    exact ⟨m, by rw [List.length_take]; omega, by rw [List.getElem_take]; exact e⟩
  · intro h hb
    obtain ⟨j, hj, e⟩ := List.mem_iff_getElem.1 hb
    rw [List.length_take] at hj
    rw [List.getElem_take] at e
    refine h j (by omega) ?_
    rw [getD_at (by omega)]
    exact e
/-- Does the record at i count? -/
def CountsAt (l : List (List Int)) (i : Nat) : Prop := kindN (l.getD i []) ≠ 0 ∧ (∀ m, i < m → m < l.length → (kindN (l.getD i []) = 6 ∨ kindN (l.getD m []) ≠ kindN (l.getD i []))) ∧ ∀ m, m < i → (kindN (l.getD i []) ≠ 6 ∨ l.getD m [] ≠ l.getD i [])
/-- What the outer loop keeps. -/
structure KeptI (w : World) (l : List (List Int)) (i : Nat) (v : Value) (out : List (List Int)) (W : World) : Prop where
  row : Kd.N (Kd.slice 5 (Kd.int .u8)) 22 W w.heap.size (fun _ => True) v out
  below : Below w.heap.size w W
  len : out.length ≤ i
  left : out ++ keptR (l.take i) (l.drop i) = keptR [] l
theorem KeptI.on {w : World} {l : List (List Int)} {i : Nat} {v : Value} {out : List (List Int)} {W W1 : World} (h : KeptI w l i v out W) (hb : Below W.heap.size W W1) : KeptI w l i v out W1 :=
  ⟨Kd.N_below h.row hb, below_step h.below hb, h.len, h.left⟩
theorem kept_next (l : List (List Int)) (i : Nat) (hi : i < l.length) : keptR (l.take i) (l.drop i) = if kindN (l.getD i []) ≠ 0 ∧ (kindN (l.getD i []) = 6 ∨ ∀ x ∈ l.drop (i + 1), kindN x ≠ kindN (l.getD i [])) ∧ (kindN (l.getD i []) ≠ 6 ∨ l.getD i [] ∉ l.take i) then l.getD i [] :: keptR (l.take (i + 1)) (l.drop (i + 1)) else keptR (l.take (i + 1)) (l.drop (i + 1)) := by
  rw [List.drop_eq_getElem_cons hi, keptR, ← getD_at hi, List.take_succ_eq_append_getElem hi, ← getD_at hi]
theorem counts_iff (l : List (List Int)) (i : Nat) (hi : i < l.length) : CountsAt l i ↔ kindN (l.getD i []) ≠ 0 ∧ (kindN (l.getD i []) = 6 ∨ ∀ x ∈ l.drop (i + 1), kindN x ≠ kindN (l.getD i [])) ∧ (kindN (l.getD i []) ≠ 6 ∨ l.getD i [] ∉ l.take i) := by
  rw [later_iff, ahead_iff _ _ _ (Nat.le_of_lt hi), CountsAt]
  generalize hb : l.getD i [] = b
  generalize hk : kindN b = k
  by_cases h6 : k = 6
  · simp [h6]
  · simp [h6]
theorem KeptI.skip {w : World} {l : List (List Int)} {i : Nat} {v : Value} {out : List (List Int)} {W : World} (h : KeptI w l i v out W) (hi : i < l.length) (hn : ¬ CountsAt l i) : KeptI w l (i + 1) v out W := by
  refine ⟨h.row, h.below, Nat.le_succ_of_le h.len, ?_⟩
  have h1 := h.left
  rwa [kept_next l i hi, if_neg (fun hc => hn ((counts_iff l i hi).2 hc))] at h1
theorem KeptI.push {w : World} {l : List (List Int)} {i : Nat} {v v1 : Value} {out : List (List Int)} {W W1 : World} (h : KeptI w l i v out W) (hi : i < l.length) (hc : CountsAt l i) (hN : Kd.N (Kd.slice 5 (Kd.int .u8)) 22 W1 w.heap.size (fun _ => True) v1 (out ++ [l.getD i []])) (hB : Below w.heap.size w W1) : KeptI w l (i + 1) v1 (out ++ [l.getD i []]) W1 := by
  refine ⟨hN, hB, by simp; exact h.len, ?_⟩
  have h1 := h.left
  rw [kept_next l i hi, if_pos ((counts_iff l i hi).1 hc)] at h1
  rw [List.append_assoc]
  exact h1
set_option maxRecDepth 100000 in
set_option maxHeartbeats 40000000 in
theorem kept_calls (A : Option Addr) (c : Nat) (l : List (List Int)) (w : World) (hC : Kd.C (Kd.slice 5 (Kd.int .u8)) w A l.length l) (hc : l.length ≤ c) (hO : ∀ x ∈ l, Octets x ∧ x.length ≤ 140737488355328) (hl : l.length ≤ 1000000000) :
    Calls Try.prog 24 #[.slice A l.length c] w fun e w' => ∃ A1 c1, e = .returned (.slice A1 (keptR [] l).length c1) ∧ (keptR [] l).length ≤ c1 ∧ Kd.C (Kd.slice 5 (Kd.int .u8)) w' A1 (keptR [] l).length (keptR [] l) ∧ Below w.heap.size w w' := by
  have HC := Lib.hid hC
  have HO := Lib.hid hO
  have HLL := Lib.hid hl
  clear hC hO
  go_enter Try.func24, Try.ntmps24
  go_wp2
  go_loopg [3, 4] (l.length + 1) (fun kq v3 v4 w' => ∃ (i : Nat) (out : List (List Int)), v4 = .int .i64 (i : Int) ∧ Hid (i ≤ l.length ∧ kq + i = l.length + 1) ∧ Hid (KeptI w l i v3 out w'))
  case atStart => exact ⟨0, [], rfl, Lib.hid ⟨Nat.zero_le _, rfl⟩, Lib.hid ⟨Kd.N_nil _ _ _ _ _, Below.refl _ _, Nat.zero_le _, rfl⟩⟩
  case round =>
    obtain ⟨i, out, rfl, hi, hI⟩ := hrel
    by_cases ci : i < l.length
    · have c1 : decide ((i : Int) < (l.length : Int)) = true := decide_eq_true (by omega)
      have c2 : decide (i < l.length) = true := decide_eq_true ci
      obtain ⟨K1, rfl⟩ : ∃ k1, gk = k1 + 1 := ⟨gk - 1, by have := hi.out; omega⟩
      obtain ⟨ad, A2, c3, rfl, x0, hlc, hCx⟩ := at_L1 HC.out (i : Int) (by omega) (by omega)
      rw [Int.toNat_natCast] at x0
      have hrd : rd_L1 l (i : Int) = l.getD i [] := by unfold rd_L1; rw [Int.toNat_natCast]
      rw [hrd] at x0 hlc hCx
      have x1 : wr.cell? (ad.add i) = some (.slice A2 (l.getD i []).length c3) := hI.out.below.cell (World.block_lt_of_cell? w _ x0) |>.trans x0
      have hox := HO.out (l.getD i []) (by rw [getD_at ci]; exact List.getElem_mem ci)
      have hF := Kd.F_below (Kd.C_F (Kd.heap_int .u8) hCx) hI.out.below
      obtain ⟨b, hb⟩ : ∃ b, l.getD i [] = b := ⟨_, rfl⟩
      obtain ⟨k, hk⟩ : ∃ k, kindN b = k := ⟨_, rfl⟩
      rw [hb] at x0 x1 hlc hCx hox hF
      have HX0 := Lib.hid x0
      have HLC := Lib.hid hlc
      have HCX := Lib.hid hCx
      have HOX := Lib.hid hox
      have HB := Lib.hid hb
      have HK := Lib.hid hk
      have HCI := Lib.hid ci
      have p0 : (0 ≤ (i : Int)) = True := eq_true (by omega)
      have p1 : ((i : Int) < (l.length : Int)) = True := eq_true (by omega)
      have p2 : (i < l.length) = True := eq_true ci
      have e1 : wrap64 ((i : Int) + 1) = ((i + 1 : Nat) : Int) := by rw [wrap64_id _ (by omega) (by omega)]; rfl
      have E1 := Lib.hid e1
      clear hlc hCx hox hb hk ci hrd x0 hF e1
      go_wp2_with (go_at_call 37; go_must (refine (rkind_calls A2 c3 b _ (Kd.C_below HCX.out hI.out.below) HLC.out HOX.out.1 HOX.out.2).mono ?_; rw [HK.out]; rintro e w1 ⟨rfl, hb1⟩; have I1 := Lib.hid (hI.out.on hb1); clear hb1 x1))
      clear hI
      go_loopg [6, 7] (l.length + 1) (fun kq v6 v7 w' => ∃ (is : Bool) (n : Nat), v6 = .bool is ∧ v7 = .int .i64 (n : Int) ∧ Hid (i < n ∧ n ≤ l.length ∧ kq + n = l.length + 1 + (i + 1)) ∧ Hid (KeptI w l i u3 out w') ∧ Hid (is = true ↔ k ≠ 0 ∧ ∀ m, i < m → m < n → (k = 6 ∨ kindN (l.getD m []) ≠ k)))
      case atStart => exact ⟨_, i + 1, rfl, congrArg (Value.int .i64) E1.out, Lib.hid ⟨Nat.lt_succ_self _, HCI.out, rfl⟩, I1, Lib.hid (by
        constructor
        · intro h
          refine ⟨fun e => ?_, fun m h1 h2 => by omega⟩
          subst e
          simp at h
        · rintro ⟨h, _⟩
          simpa using h)⟩
      case round =>
        clear I1
        obtain ⟨is, n, rfl, rfl, hn, hI, hs⟩ := hrel
        by_cases cn : n < l.length
        · have d1 : decide ((n : Int) < (l.length : Int)) = true := decide_eq_true (by omega)
          have d2 : decide (n < l.length) = true := decide_eq_true cn
          have q0 : (0 ≤ (n : Int)) = True := eq_true (by omega)
          have q1 : ((n : Int) < (l.length : Int)) = True := eq_true (by omega)
          have q2 : (n < l.length) = True := eq_true cn
          obtain ⟨K2, rfl⟩ : ∃ k1, gk = k1 + 1 := ⟨gk - 1, by have := hn.out; omega⟩
          have HN2 : Hid (i < n + 1 ∧ n + 1 ≤ l.length ∧ K2 + (n + 1) = l.length + 1 + (i + 1)) := Lib.hid (by have := hn.out; omega)
          cases is
          · clear cn
            go_wp2
            go_roundg K2
            case measure => omega
            case rel => exact ⟨false, n + 1, rfl, congrArg (Value.int .i64) (by have := hn.out; have := HLL.out; unfold wrap64; omega), HN2, hI, Lib.hid ⟨fun h => (by cases h), fun h => hs.out.2 ⟨h.1, fun m h1 h2 => h.2 m h1 (by omega)⟩⟩⟩
          · by_cases h6 : k = 6
            · subst h6
              clear cn
              go_wp2
              go_roundg K2
              case measure => omega
              case rel => exact ⟨true, n + 1, rfl, congrArg (Value.int .i64) (by have := hn.out; have := HLL.out; unfold wrap64; omega), HN2, hI, Lib.hid ⟨fun _ => ⟨by decide, fun m _ _ => .inl (by first | trivial | rfl)⟩, fun _ => rfl⟩⟩
            · have n6 : ((k : Int) = 6) = False := eq_false (by omega)
              have m6 : ((k : Int) == 6) = false := beq_eq_false_iff_ne.mpr (by omega)
              have m7 : (k = 6) = False := eq_false h6
              obtain ⟨ad2, A4, c4, e_, y0, ylc, yC⟩ := at_L1 HC.out (n : Int) (by omega) (by omega)
              injection e_ with e_
              subst e_
              rw [Int.toNat_natCast] at y0
              have yrd : rd_L1 l (n : Int) = l.getD n [] := by unfold rd_L1; rw [Int.toNat_natCast]
              rw [yrd] at y0 ylc yC
              have y1 : wr.cell? (ad.add n) = some (.slice A4 (l.getD n []).length c4) := (hI.out.below.cell (World.block_lt_of_cell? w _ y0)).trans y0
              have yox := HO.out (l.getD n []) (by rw [getD_at (by omega)]; exact List.getElem_mem _)
              obtain ⟨y, hy⟩ : ∃ y, l.getD n [] = y := ⟨_, rfl⟩
              rw [hy] at y0 y1 ylc yC yox
              have HYC := Lib.hid yC
              have HYL := Lib.hid ylc
              have HYO := Lib.hid yox
              have HY := Lib.hid hy
              obtain ⟨kd, hkd⟩ : ∃ kd, kindN y = kd := ⟨_, rfl⟩
              have HKD := Lib.hid hkd
              have H6 := Lib.hid h6
              clear yC ylc yox hy hkd cn y0 yrd h6
              by_cases hkk : kd = k
              · subst hkk
                go_wp2_with (go_at_call 37; go_must (refine (rkind_calls A4 c4 y _ (Kd.C_below HYC.out hI.out.below) HYL.out HYO.out.1 HYO.out.2).mono ?_; rw [HKD.out]; rintro e w2 ⟨rfl, hb2⟩; have I2 := Lib.hid (hI.out.on hb2); clear hb2 y1))
                go_roundg K2
                case measure => omega
                case rel => exact ⟨false, n + 1, rfl, congrArg (Value.int .i64) (by have := hn.out; have := HLL.out; unfold wrap64; omega), HN2, I2, Lib.hid ⟨fun h => (by cases h), fun h => absurd (by rw [HY.out]; exact HKD.out) ((h.2 n (by have := hn.out; omega) (by omega)).resolve_left H6.out)⟩⟩
              · have n8 : ((kd : Int) = (k : Int)) = False := eq_false (by omega)
                have m8 : ((kd : Int) == (k : Int)) = false := beq_eq_false_iff_ne.mpr (by omega)
                have m9 : (kd = k) = False := eq_false hkk
                have HKK := Lib.hid hkk
                clear hkk
                go_wp2_with (go_at_call 37; go_must (refine (rkind_calls A4 c4 y _ (Kd.C_below HYC.out hI.out.below) HYL.out HYO.out.1 HYO.out.2).mono ?_; rw [HKD.out]; rintro e w2 ⟨rfl, hb2⟩; have I2 := Lib.hid (hI.out.on hb2); clear hb2 y1))
                go_roundg K2
                case measure => omega
                case rel => exact ⟨true, n + 1, (by first | rfl | exact congrArg Value.bool (by rw [bne, m8]; rfl)), congrArg (Value.int .i64) (by have := hn.out; have := HLL.out; unfold wrap64; omega), HN2, I2, Lib.hid ⟨fun _ => ⟨(hs.out.1 (by first | trivial | rfl)).1, fun m h1 h2 => by
                  rcases Nat.lt_or_ge m n with h | h
                  · exact (hs.out.1 (by first | trivial | rfl)).2 m h1 h
                  · have : m = n := by omega
                    subst this
                    exact .inr (by rw [HY.out, HKD.out]; exact HKK.out)⟩, fun _ => rfl⟩⟩
        · have d1 : decide ((n : Int) < (l.length : Int)) = false := decide_eq_false (by omega)
          have d2 : decide (n < l.length) = false := decide_eq_false cn
          have hs2 : is = true ↔ k ≠ 0 ∧ ∀ m, i < m → m < l.length → (k = 6 ∨ kindN (l.getD m []) ≠ k) := by
            have h1 := hs.out
            have h2 := hn.out
            rwa [show n = l.length by omega] at h1
          have HS2 := Lib.hid hs2
          clear hs2 hs cn
          go_wp2
          go_loopg [6, 8] (l.length + 1) (fun kq v6 v8 w' => ∃ (is2 : Bool) (n : Nat), v6 = .bool is2 ∧ v8 = .int .i64 (n : Int) ∧ Hid (n ≤ i ∧ kq + n = l.length + 1) ∧ Hid (KeptI w l i u3 out w') ∧ Hid (is2 = true ↔ is = true ∧ ∀ m, m < n → (k ≠ 6 ∨ l.getD m [] ≠ b)))
          case atStart => exact ⟨is, 0, rfl, rfl, Lib.hid ⟨Nat.zero_le _, rfl⟩, hI, Lib.hid ⟨fun h => ⟨h, fun m hm => absurd hm (Nat.not_lt_zero _)⟩, fun h => h.1⟩⟩
          case round =>
            clear hI d1 d2 hn
            obtain ⟨is2, n, rfl, rfl, hn, hI, hs⟩ := hrel
            have x1 : wr.cell? (ad.add i) = some (.slice A2 b.length c3) := (hI.out.below.cell (World.block_lt_of_cell? w _ HX0.out)).trans HX0.out
            by_cases cn : n < i
            · have d1 : decide ((n : Int) < (i : Int)) = true := decide_eq_true (by omega)
              have d2 : decide (n < i) = true := decide_eq_true cn
              have hci := HCI.out
              have q0 : (0 ≤ (n : Int)) = True := eq_true (by omega)
              have q1 : ((n : Int) < (l.length : Int)) = True := eq_true (by omega)
              have q2 : (n < l.length) = True := eq_true (by omega)
              obtain ⟨K3, rfl⟩ : ∃ k1, gk = k1 + 1 := ⟨gk - 1, by have := hn.out; omega⟩
              have HN2 : Hid (n + 1 ≤ i ∧ K3 + (n + 1) = l.length + 1) := Lib.hid (by have := hn.out; omega)
              cases is2
              · clear cn hci
                go_wp2
                (try go_quiet (fail))
                (try go_wp2)
                go_roundg K3
                case measure => omega
                case rel => exact ⟨false, n + 1, rfl, congrArg (Value.int .i64) (by have := hn.out; have := HLL.out; unfold wrap64; omega), HN2, Lib.hid (hI.out.on (pw_below_drewN (Below.refl _ _) _)), Lib.hid ⟨fun h => (by cases h), fun h => hs.out.2 ⟨h.1, fun m h1 => h.2 m (by omega)⟩⟩⟩
              · by_cases h6 : k = 6
                · subst h6
                  obtain ⟨ad2, A4, c4, e_, y0, ylc, yC⟩ := at_L1 HC.out (n : Int) (by omega) (by omega)
                  injection e_ with e_
                  subst e_
                  rw [Int.toNat_natCast] at y0
                  have yrd : rd_L1 l (n : Int) = l.getD n [] := by unfold rd_L1; rw [Int.toNat_natCast]
                  rw [yrd] at y0 ylc yC
                  have y1 : wr.cell? (ad.add n) = some (.slice A4 (l.getD n []).length c4) := (hI.out.below.cell (World.block_lt_of_cell? w _ y0)).trans y0
                  have yox := HO.out (l.getD n []) (by rw [getD_at (by omega)]; exact List.getElem_mem _)
                  obtain ⟨y, hy⟩ : ∃ y, l.getD n [] = y := ⟨_, rfl⟩
                  rw [hy] at y0 y1 ylc yC yox
                  have s0 : ∀ k, (convert 22 9 (.slice A4 y.length c4)).run Try.prog (wr.drewN k) = .ok (.string (strOfNums y)) (wr.drewN k) := fun k => Kd.C_string (P := Try.prog) Try.underlying22 Try.underlying5 Try.underlying9 (c := c4) (Kd.C_drewN (Kd.C_below yC hI.out.below) k)
                  have s1 : ∀ k, (convert 22 9 (.slice A2 b.length c3)).run Try.prog (wr.drewN k) = .ok (.string (strOfNums b)) (wr.drewN k) := fun k => Kd.C_string (P := Try.prog) Try.underlying22 Try.underlying5 Try.underlying9 (c := c3) (Kd.C_drewN (Kd.C_below HCX.out hI.out.below) k)
                  have hse := str_beq yox.1 HOX.out.1
                  obtain ⟨sy, hsy⟩ : ∃ sy, strOfNums y = sy := ⟨_, rfl⟩
                  obtain ⟨sb, hsb⟩ : ∃ sb, strOfNums b = sb := ⟨_, rfl⟩
                  rw [hsy, hsb] at hse
                  rw [hsy] at s0
                  rw [hsb] at s1
                  have HY := Lib.hid hy
                  clear yC ylc yox hy cn y0 yrd hsy hsb hci
                  by_cases hyb : y = b
                  · have t1 : (sy.toList == sb.toList) = true := by rw [hse]; exact decide_eq_true hyb
                    have t2 : (sy.toList != sb.toList) = false := by rw [bne, t1]; rfl
                    have HYB := Lib.hid hyb
                    clear hyb hse
                    go_wp2
                    go_quiet (fail)
                    go_wp2
                    go_roundg K3
                    case measure => omega
                    case rel => exact ⟨false, n + 1, (by first | rfl | rw [t2] | (simp only [t1, t2]; rfl)), congrArg (Value.int .i64) (by have := hn.out; have := HLL.out; unfold wrap64; omega), HN2, Lib.hid (hI.out.on (pw_below_drewN (Below.refl _ _) _)), Lib.hid ⟨fun h => (by cases h), fun h => absurd (by rw [HY.out]; exact HYB.out) ((h.2 n (Nat.lt_succ_self _)).resolve_left (fun h => h (by first | trivial | rfl)))⟩⟩
                  · have t1 : (sy.toList == sb.toList) = false := by rw [hse]; exact decide_eq_false hyb
                    have t2 : (sy.toList != sb.toList) = true := by rw [bne, t1]; rfl
                    have HYB := Lib.hid hyb
                    clear hyb hse
                    go_wp2
                    go_quiet (fail)
                    go_wp2
                    go_roundg K3
                    case measure => omega
                    case rel => exact ⟨true, n + 1, (by first | rfl | rw [t2] | (simp only [t1, t2]; rfl)), congrArg (Value.int .i64) (by have := hn.out; have := HLL.out; unfold wrap64; omega), HN2, Lib.hid (hI.out.on (pw_below_drewN (Below.refl _ _) _)), Lib.hid ⟨fun _ => ⟨(hs.out.1 (by first | trivial | rfl)).1, fun m h1 => by
                      rcases Nat.lt_or_ge m n with h | h
                      · exact (hs.out.1 (by first | trivial | rfl)).2 m h
                      · have : m = n := by omega
                        subst this
                        exact .inr (by rw [HY.out]; exact HYB.out)⟩, fun _ => rfl⟩⟩
                · have n6 : ((k : Int) = 6) = False := eq_false (by omega)
                  have m6 : ((k : Int) == 6) = false := beq_eq_false_iff_ne.mpr (by omega)
                  have m7 : (k = 6) = False := eq_false h6
                  have H6 := Lib.hid h6
                  clear cn h6 hci
                  go_wp2
                  (try go_quiet (fail))
                  (try go_wp2)
                  go_roundg K3
                  case measure => omega
                  case rel => exact ⟨true, n + 1, rfl, congrArg (Value.int .i64) (by have := hn.out; have := HLL.out; unfold wrap64; omega), HN2, Lib.hid (hI.out.on (pw_below_drewN (Below.refl _ _) _)), Lib.hid ⟨fun _ => ⟨(hs.out.1 (by first | trivial | rfl)).1, fun m h1 => .inl H6.out⟩, fun _ => rfl⟩⟩
            · have d1 : decide ((n : Int) < (i : Int)) = false := decide_eq_false (by omega)
              have d2 : decide (n < i) = false := decide_eq_false cn
              have hcnt : is2 = true ↔ CountsAt l i := by
                have h1 := hs.out
                have h2 := hn.out
                rw [show n = i by omega, HS2.out] at h1
                rw [h1, CountsAt, HB.out, HK.out]
                exact ⟨fun h => ⟨h.1.1, h.1.2, h.2⟩, fun h => ⟨⟨h.1, h.2.1⟩, h.2.2⟩⟩
              have HCNT := Lib.hid hcnt
              clear hcnt hs cn HS2
              cases is2
              · go_wp2
                have I9 := Lib.hid (hI.out.skip HCI.out (fun h => by have := HCNT.out.2 h; cases this))
                go_roundg K1
                case measure => omega
                case rel => exact ⟨i + 1, out, congrArg (Value.int .i64) E1.out, Lib.hid ⟨HCI.out, by have := hi.out; omega⟩, I9⟩
              · have hcc := HCNT.out.1 (by first | trivial | rfl)
                have HCC := Lib.hid hcc
                clear hcc
                go_wp2_with ((with_reducible refine gate_builtin (b := .append) (xs := #[.tmp 68, .tmp 73]) rfl ?_); at_builtin; go_must (refine Kd.N_append (Kd.slice 5 (Kd.int .u8)) (w0 := w) w.heap.size rfl (.tmp 68) (.tmp 73) 33 22 (.slice none 0 0) 24 rfl Try.underlying33 info22 rfl (by decide) (by decide) u3 out b [.slice A2 b.length c3] (fun _ => True) (fun k => k < w.heap.size) rfl rfl (Kd.FK_slice_mk HLC.out (Kd.F_below (Kd.C_F (Kd.heap_int .u8) HCX.out) hI.out.below)) (fun k hk => ⟨trivial, fun e => by have := Kd.N_base hI.out.row k e.symm; omega⟩) (fun _ _ => trivial) hI.out.row hI.out.below hI.out.below.size (by have := hI.out.len; have := HCI.out; omega) ?_; intro v9 w9 ho hb hg hat; have I9 := Lib.hid (hI.out.push HCI.out HCC.out (by rw [HB.out]; exact ho) hb); clear ho hb hg hat))
                go_roundg K1
                case measure => omega
                case rel => exact ⟨i + 1, _, congrArg (Value.int .i64) E1.out, Lib.hid ⟨HCI.out, by have := hi.out; omega⟩, I9⟩
    · have hil : i = l.length := by have := hi.out; omega
      have c1 : decide ((i : Int) < (l.length : Int)) = false := decide_eq_false (by omega)
      have c2 : decide (i < l.length) = false := decide_eq_false ci
      have he : out = keptR [] l := by
        have := hI.out.left
        rwa [hil, List.drop_length, keptR, List.append_nil] at this
      have HE := Lib.hid he
      clear he hil ci hi
      obtain ⟨A1, c3, rfl⟩ := Kd.N_slice hI.out.row
      go_wp2
      go_ret
      exact ⟨A1, c3, by rw [← HE.out]; rfl, by rw [← HE.out]; exact (Kd.N_reads' hI.out.row).2.1, by rw [← HE.out]; exact (Kd.N_reads' hI.out.row).2.2, hI.out.below⟩
end Go.Proofs.Ytfdpbdaekfdnjaa.X
-- Written by a program of this session (a turn of the kit's print with contracts by hand). Not trusted: Lean checks it.
namespace Go.Proofs.Ytfdpbdaekfdnjaa.X
open Go.RowKit Go.Proofs.YtfdpbdaekfdnjaaW.PrintWords Go.Proofs.YtfdpbdaekfdnjaaW.PrintLast Go.Proofs.YtfdpbdaekfdnjaaW.PrintMore
attribute [local go_sem] max2_int min2_int max_two min_two max_three min_three max_four min_four   -- for this text's walks alone
set_option linter.unusedVariables false
set_option linter.unusedSimpArgs false

/-! ### mootlaw30_size: function 25 -/
def mootlaw30_size.l0 : Nat → List (List Int) → Int → Int → Option (Int)
  | 0, _, _, _ => none
  | k + 1, x0, x3, x4 => if x4 < (x0.length : Int) then (if 0 ≤ x4 then (mootlaw30_size.l0 k x0 (wrap64 ((wrap64 (x3 + 3)) + ((rd_L1 x0 x4).length : Int))) (wrap64 (x4 + 1))) else (none)) else (some x3)
def mootlaw30_size.f (k : Nat) (l0 : List (List Int)) : Option (Int) := mootlaw30_size.l0 k l0 0 0
theorem mootlaw30_size.mono_l : ∀ k, (∀ y0 y1 y2, LeO (mootlaw30_size.l0 k y0 y1 y2) (mootlaw30_size.l0 (k + 1) y0 y1 y2))
  | 0 => fun _ _ _ r h => by simp [mootlaw30_size.l0] at h
  | k + 1 => by
    have ih0 := mootlaw30_size.mono_l k
    · intro y0 y1 y2
      unfold mootlaw30_size.l0
      repeat' first
      | (with_reducible exact ih0 _ _ _)
      | (with_reducible exact LeO.refl _)
      | (with_reducible exact LeO.none _)
      | (with_reducible refine LeO.ite ?_ ?_)
      | (with_reducible refine LeO.bind ?_ (fun _ => ?_))
      | exact ih0 _ _ _
      | exact LeO.none _
      | refine LeO.ite ?_ ?_
      | refine LeO.bind ?_ (fun _ => ?_)
theorem mootlaw30_size.mono : ∀ a0 k, LeO (mootlaw30_size.f k a0) (mootlaw30_size.f (k + 1) a0) := by
  intro a0 k
  have ih0 := mootlaw30_size.mono_l k
  unfold mootlaw30_size.f
  repeat' first
      | (with_reducible exact ih0 _ _ _)
      | (with_reducible exact LeO.refl _)
      | (with_reducible exact LeO.none _)
      | (with_reducible refine LeO.ite ?_ ?_)
      | (with_reducible refine LeO.bind ?_ (fun _ => ?_))
      | exact ih0 _ _ _
      | exact LeO.none _
      | refine LeO.ite ?_ ?_
      | refine LeO.bind ?_ (fun _ => ?_)
set_option maxHeartbeats 8000000 in
set_option maxRecDepth 100000 in
theorem mootlaw30_size.calls (k : Nat) (A0 : Option Addr) (c0 : Nat) (l0 : List (List Int)) (r : Int) (w : World) (hr0 : Kd.C (Kd.slice 5 (Kd.int .u8)) w A0 l0.length l0) (hc0 : l0.length ≤ c0) (h : mootlaw30_size.f k l0 = some r) :
    Calls Try.prog 25 #[.slice A0 l0.length c0] w fun e w' => e = .returned (.int .i64 r) ∧ Drawn0 w w' := by
  have HR0 := Aside0.mk hr0
  have HC0 := Aside0.mk hc0
  clear hr0 hc0
  have H : (mootlaw30_size.l0 k l0 0 0) = some r := h
  clear h
  have H' := Aside0.mk H
  clear H
  go_enter Try.func25, Try.ntmps25
  go_wp2
  go_loopg [3, 4] k (fun kq v3 v4 w' => ∃ (x3_1 : Int) (x4_1 : Int), v3 = .int .i64 x3_1 ∧ v4 = .int .i64 x4_1 ∧ Aside0 (mootlaw30_size.l0 kq l0 x3_1 x4_1 = some r) ∧ Aside0 (kq ≤ k) ∧ Drawn0 w w')
  case atStart => exact ⟨(0), (0), (by first | rfl | (simp; done) | (simp [*]; done)), (by first | rfl | (simp; done) | (simp [*]; done)), H', ⟨Nat.le_refl _⟩, by repeat (first | exact Drawn0.refl _ | apply Drawn0.step)⟩
  case round =>
    clear H'
    obtain ⟨x3_1, x4_1, rfl, rfl, HA, HK1, ⟨m1, rfl⟩⟩ := hrel
    cases gk with
    | zero => exact absurd HA.out (by simp [mootlaw30_size.l0])
    | succ k1 =>
      have H := HA.out
      clear HA
      simp only [mootlaw30_size.l0] at H
      by_cases c2 : x4_1 < (l0.length : Int)
      · rw [if_pos c2] at H
        have c2b0 : decide (x4_1 < (l0.length : Int)) = true := decide_eq_true c2
        clear c2
        by_cases c3 : 0 ≤ x4_1
        · rw [if_pos c3] at H
          have c3b0 : decide (0 ≤ x4_1) = true := decide_eq_true c3
          clear c3
          have H' := Aside0.mk H
          clear H
          have p243 : 0 ≤ (x4_1 : Int) := of_decide_eq_true (by first | (with_reducible assumption) | assumption)
          have q243 : x4_1 < (l0.length : Int) := of_decide_eq_true (by first | (with_reducible assumption) | assumption)
          obtain ⟨ad243, A243_0, c243_0, e243, hx243_0, hl243_0, hi243_0⟩ := at_L1 HR0.out x4_1 p243 q243
          cases e243
          have HR243_0 := Aside0.mk hi243_0
          have HC243_0 := Aside0.mk hl243_0
          clear hi243_0 hl243_0
          replace p243 := eq_true p243
          replace q243 := eq_true q243
          go_wp2
          go_roundg k1
          case measure => have := HK1.out; omega
          case rel => exact ⟨(wrap64 ((wrap64 (x3_1 + 3)) + ((rd_L1 l0 x4_1).length : Int))), (wrap64 (x4_1 + 1)), (by first | rfl | (simp; done) | (simp [*]; done)), (by first | rfl | (simp; done) | (simp [*]; done)), H', ⟨by have := HK1.out; omega⟩, by repeat (first | exact Drawn0.refl _ | apply Drawn0.step)⟩
        · rw [if_neg c3] at H
          exact absurd H (by simp)
      · rw [if_neg c2] at H
        have c2b0 : decide (x4_1 < (l0.length : Int)) = false := decide_eq_false c2
        clear c2
        obtain rfl := Option.some.inj H
        go_wp2
        go_ret
        exact ⟨by first | rfl | (simp; done) | (simp [*]; done), by repeat (first | exact Drawn0.refl _ | apply Drawn0.step)⟩

end Go.Proofs.Ytfdpbdaekfdnjaa.X
/- The law CompactKeeps: its body's contract. -/
namespace Go.Proofs.Ytfdpbdaekfdnjaa.X
open Go.RowKit Go.Proofs.YtfdpbdaekfdnjaaW.PrintWords Go.Proofs.YtfdpbdaekfdnjaaW.PrintLast Go.Proofs.YtfdpbdaekfdnjaaW.PrintMore
set_option linter.unusedVariables false
set_option linter.unusedSimpArgs false

/-- How many octets frames of records have. -/
def sizeL (l : List (List Int)) : Nat := (l.map (fun b => 3 + b.length)).sum
theorem sizeL_le (l : List (List Int)) (h : ∀ x ∈ l, x.length ≤ 140737488355328) : sizeL l ≤ l.length * 140737488355331 := by
  induction l with
  | nil => simp [sizeL]
  | cons b l ih =>
    have h1 := ih (fun x hx => h x (List.mem_cons_of_mem _ hx))
    have h2 := h b List.mem_cons_self
    simp only [sizeL, List.map_cons, List.sum_cons, List.length_cons] at h1 ⊢
    omega
theorem rd_L1_at {l : List (List Int)} {i : Nat} (h : i < l.length) : rd_L1 l (i : Int) = l[i] := by unfold rd_L1; rw [Int.toNat_natCast]; exact getD_at h
theorem csize_l0 (l : List (List Int)) (hb : sizeL l ≤ 4611686018427387904) (hn : l.length ≤ 1000000000) : ∀ (d k i : Nat), i + d = l.length → d < k → compact_size.l0 k (sizeL (l.take i) : Int) l (l.length : Int) (i : Int) = some (sizeL l : Int)
  | 0, k, i, hd, hk => by
    obtain ⟨k, rfl⟩ : ∃ m, k = m + 1 := ⟨k - 1, by omega⟩
    rw [compact_size.l0, if_neg (by omega), show i = l.length by omega, List.take_length]
  | d + 1, k, i, hd, hk => by
    obtain ⟨k, rfl⟩ : ∃ m, k = m + 1 := ⟨k - 1, by omega⟩
    have hi : i < l.length := by omega
    have hs : sizeL (l.take (i + 1)) = sizeL (l.take i) + (3 + l[i].length) := by
      rw [sizeL, sizeL, List.take_succ_eq_append_getElem hi, List.map_append, List.sum_append]
      simp
    have hle : sizeL (l.take (i + 1)) ≤ sizeL l := by
      have h1 : sizeL l = sizeL (l.take (i + 1)) + sizeL (l.drop (i + 1)) := by
        simp only [sizeL]
        rw [← List.sum_append, ← List.map_append, List.take_append_drop]
      omega
    rw [compact_size.l0, if_pos (by omega), if_pos (by omega), if_pos (by omega), rd_L1_at hi, wrap64_id (3 + _) (by omega) (by omega), wrap64_id ((i : Int) + 1) (by omega) (by omega), wrap64_id _ (by omega) (by omega)]
    have := csize_l0 l hb hn d k (i + 1) (by omega) (by omega)
    rw [hs] at this
    exact this
theorem csize_f (l : List (List Int)) (hb : sizeL l ≤ 4611686018427387904) (hn : l.length ≤ 1000000000) (k : Nat) (hk : l.length < k) : compact_size.f k l = some (sizeL l : Int) := by
  have := csize_l0 l hb hn l.length k 0 (by omega) hk
  simpa [compact_size.f, sizeL] using this
theorem lsize_l0 (l : List (List Int)) (hb : sizeL l ≤ 4611686018427387904) (hn : l.length ≤ 1000000000) : ∀ (d k i : Nat), i + d = l.length → d < k → mootlaw30_size.l0 k l (sizeL (l.take i) : Int) (i : Int) = some (sizeL l : Int)
  | 0, k, i, hd, hk => by
    obtain ⟨k, rfl⟩ : ∃ m, k = m + 1 := ⟨k - 1, by omega⟩
    rw [mootlaw30_size.l0, if_neg (by omega), show i = l.length by omega, List.take_length]
  | d + 1, k, i, hd, hk => by
    obtain ⟨k, rfl⟩ : ∃ m, k = m + 1 := ⟨k - 1, by omega⟩
    have hi : i < l.length := by omega
    have hs : sizeL (l.take (i + 1)) = sizeL (l.take i) + (3 + l[i].length) := by
      rw [sizeL, sizeL, List.take_succ_eq_append_getElem hi, List.map_append, List.sum_append]
      simp
    have hle : sizeL (l.take (i + 1)) ≤ sizeL l := by
      have h1 : sizeL l = sizeL (l.take (i + 1)) + sizeL (l.drop (i + 1)) := by
        simp only [sizeL]
        rw [← List.sum_append, ← List.map_append, List.take_append_drop]
      omega
    rw [mootlaw30_size.l0, if_pos (by omega), if_pos (by omega), rd_L1_at hi, wrap64_id (_ + 3) (by omega) (by omega), wrap64_id ((i : Int) + 1) (by omega) (by omega), wrap64_id _ (by omega) (by omega)]
    have := lsize_l0 l hb hn d k (i + 1) (by omega) (by omega)
    rw [hs] at this
    rw [show ((sizeL (l.take i) : Nat) : Int) + 3 + (l[i].length : Int) = ((sizeL (l.take i) + (3 + l[i].length) : Nat) : Int) by omega]
    exact this
theorem lsize_f (l : List (List Int)) (hb : sizeL l ≤ 4611686018427387904) (hn : l.length ≤ 1000000000) (k : Nat) (hk : l.length < k) : mootlaw30_size.f k l = some (sizeL l : Int) := by
  have := lsize_l0 l hb hn l.length k 0 (by omega) hk
  simpa [mootlaw30_size.f, sizeL] using this
theorem keep_len (l : List (List Int)) : (keepL l).length ≤ l.length := (keep_sub l).length_le
theorem keep_all {l : List (List Int)} (hO : ∀ x ∈ l, Octets x ∧ x.length ≤ 140737488355328) : ∀ x ∈ keepL l, Octets x ∧ x.length ≤ 140737488355328 := fun x hx => hO x (keep_mem hx)
theorem take60 (A : Option Addr) (l : List (List Int)) (c : Nat) (h : 60 < l.length) (hc : l.length ≤ c) : ∀ W : World, (Instr.slice 33 (.slice A l.length c) none (some (.int .i64 60)) none).run Try.prog W = .ok (.slice A 60 c) W := by
  have hcut := cut_to (P := Try.prog) 33 22 .i64 Try.underlying33 (info_parts info22).choose_spec.1 A l.length c (60 : Int) (by omega) (by omega) hc
  exact hcut
def mootlaw30_CompactKeeps.f (l0 : List (List Int)) (l1 : List Int) : Option Bool := if (∀ x ∈ l0, Octets x ∧ x.length ≤ 140737488355328) ∧ Octets l1 ∧ l1.length ≤ 140737488355328 then some true else none
set_option maxRecDepth 100000 in
set_option maxHeartbeats 40000000 in
theorem mootlaw30_CompactKeeps.calls (A0 : Option Addr) (c0 : Nat) (l0 : List (List Int)) (A1 : Option Addr) (c1 : Nat) (l1 : List Int) (r : Bool) (w : World) (hr0 : Kd.C (Kd.slice 5 (Kd.int .u8)) w A0 l0.length l0) (hc0 : l0.length ≤ c0) (hr1 : Kd.C (Kd.int .u8) w A1 l1.length l1) (hc1 : l1.length ≤ c1) (h : mootlaw30_CompactKeeps.f l0 l1 = some r) :
    Calls Try.prog 10 #[.slice A0 l0.length c0, .slice A1 l1.length c1] w fun e w' => e = .returned (.bool r) ∧ Below w.heap.size w w' := by
  unfold mootlaw30_CompactKeeps.f at h
  split at h
  · rename_i hcond
    obtain rfl := Option.some.inj h
    clear h
    obtain ⟨hO, hO1, hl1⟩ := hcond
    have HC1 := Lib.hid hr1
    have HO1 := Lib.hid hO1
    have HL1 := Lib.hid hl1
    have HLC1 := Lib.hid hc1
    by_cases h60 : 60 < l0.length
    · have hcut := take60 A0 l0 c0 h60 hc0
      have d1 : decide ((l0.length : Int) > 60) = true := decide_eq_true (by omega)
      have d2 : decide (60 < (l0.length : Int)) = true := decide_eq_true (by omega)
      have d3 : decide (60 < l0.length) = true := decide_eq_true h60
      obtain ⟨l, hl⟩ : ∃ l, l0.take 60 = l := ⟨_, rfl⟩
      have hll : l.length = 60 := by rw [← hl, List.length_take]; omega
      have hC : Kd.C (Kd.slice 5 (Kd.int .u8)) w A0 60 l := by
        have := Kd.C_take (m := 60) hr0 (by omega)
        rwa [hl, hll] at this
      have hOl : ∀ x ∈ l, Octets x ∧ x.length ≤ 140737488355328 := fun x hx => hO x (by rw [← hl] at hx; exact List.mem_of_mem_take hx)
      have hcl : 60 ≤ c0 := by omega
      clear hr0 hO h60 hl hr1 hO1 hl1 hc1
      obtain ⟨N, hN⟩ : ∃ N, l.length = N := ⟨_, rfl⟩
      have hcut2 : ∀ W : World, (Instr.slice 33 (.slice A0 l0.length c0) none (some (.int .i64 60)) none).run Try.prog W = .ok (.slice A0 l.length c0) W := by rw [hll]; exact hcut
      rw [← hll] at hC hcl
      clear hcut
      have hle : l.length ≤ 60 := by omega
      clear hll hN
      have hkl := keep_len l
      have HC := Lib.hid hC
      have HOL := Lib.hid hOl
      have HCL := Lib.hid hcl
      have hs1 := sizeL_le l (fun x hx => (hOl x hx).2)
      have hs2 := sizeL_le (keepL l) (fun x hx => (keep_all hOl x hx).2)
      have hn1 := csize_f l (by omega) (by omega) 61 (by omega)
      have hn2 := csize_f (keepL l) (by omega) (by omega) 61 (by omega)
      have hn3 := lsize_f l (by omega) (by omega) 61 (by omega)
      have hn4 := lsize_f (keepL l) (by omega) (by omega) 61 (by omega)
      have hag := keep_again l
      obtain ⟨S1, hS1⟩ : ∃ s : Int, (sizeL l : Int) = s := ⟨_, rfl⟩
      obtain ⟨S2, hS2⟩ : ∃ s : Int, (sizeL (keepL l) : Int) = s := ⟨_, rfl⟩
      obtain ⟨G, hG⟩ : ∃ G, wrap64 (S1 - S2) = G := ⟨_, rfl⟩
      rw [hS1] at hn1 hn3
      rw [hS2] at hn2 hn4
      have hkk := keep_kept l
      obtain ⟨m, hm⟩ : ∃ m, keepL l = m := ⟨_, rfl⟩
      rw [hm] at hn2 hn4 hag hkk hkl
      have hOm : ∀ x ∈ m, Octets x ∧ x.length ≤ 140737488355328 := by rw [← hm]; exact keep_all hOl
      have HN1 := Lib.hid hn1
      have HN2 : Hid (compact_size.f 61 (keepL l) = some S2) := Lib.hid (by rw [hm]; exact hn2)
      have HN3 := Lib.hid hn3
      have HN4 := Lib.hid hn4
      have HAG := Lib.hid hag
      have HKK := Lib.hid hkk
      have HM := Lib.hid hm
      have HOM := Lib.hid hOm
      have HKL := Lib.hid hkl
      have HLE := Lib.hid hle
      clear hC hOl hcl hs1 hs2 hn1 hn2 hn3 hn4 hag hS1 hS2 hkk hm hOm hkl hle
      go_enter Try.func10, Try.ntmps10
      go_wp2_with (first | (go_at_call 21; (with_reducible refine (alive30_calls _).mono ?_); rintro e w1 ⟨rfl, hb⟩; have B := Lib.hid hb; clear hb) | (go_at_call 24; go_must (refine (kept_calls A0 c0 l _ (Kd.C_below HC.out B.out) HCL.out HOL.out (by have := HLE.out; omega)).mono ?_; rintro e w2 ⟨A2, c2, rfl, hlc2, hC2, hb2⟩; rw [← HKK.out] at hlc2 hC2; rw [← HKK.out]; have B2 := Lib.hid (below_step B.out hb2); have C2 := Lib.hid hC2; have LC2 := Lib.hid hlc2; clear hb2 hC2 hlc2 B)) | (go_at_call 35; (with_reducible refine (keep_calls A0 c0 l _ (Kd.C_below HC.out B2.out) HCL.out HOL.out (by have := HLE.out; omega)).mono ?_; rintro e w3 ⟨v3, rfl, hR3, hb3⟩; rw [HM.out] at hR3; obtain ⟨A3, c3, rfl⟩ := Kd.R_slice hR3; have C3 := Lib.hid (Kd.R_reads' hR3).2.2; have LC3 := Lib.hid (Kd.R_reads' hR3).2.1; have D2 := Lib.hid (Kd.C_below C2.out hb3); have B3 := Lib.hid (below_step B2.out hb3); clear hb3 hR3 C2 B2)) | (go_at_call 36; go_must (refine (kind_calls A1 c1 l1 _ (Kd.C_below HC1.out B3.out) HLC1.out HO1.out HL1.out).mono ?_; rintro e w4 ⟨rfl, hb4⟩; have C4 := Lib.hid (Kd.C_below C3.out hb4); have D4 := Lib.hid (Kd.C_below D2.out hb4); have B4 := Lib.hid (below_step B3.out hb4); clear hb4 C3 D2 B3)) | (go_at_call 37; go_must (refine (rkind_calls A1 c1 l1 _ (Kd.C_below HC1.out B4.out) HLC1.out HO1.out HL1.out).mono ?_; rintro e w5 ⟨rfl, hb5⟩; have C5 := Lib.hid (Kd.C_below C4.out hb5); have D5 := Lib.hid (Kd.C_below D4.out hb5); have B5 := Lib.hid (below_step B4.out hb5); clear hb5 C4 D4 B4)) | (go_at_call 27; (with_reducible refine (lists_same A3 A2 c3 c2 m _ C5.out D5.out (by have := HLE.out; have := HKL.out; omega)).mono ?_; rintro e w6 ⟨rfl, ⟨n6, rfl⟩⟩; have C6 := Lib.hid (Kd.C_drewN C5.out n6); have D6 := Lib.hid (Kd.C_drewN D5.out n6); have B6 := Lib.hid (pw_below_drewN B5.out n6); clear C5 D5 B5)) | (go_at_call 38; go_must (refine (gain_calls A0 c0 l S1 S2 _ (Kd.C_below HC.out B6.out) HCL.out HOL.out (by have := HLE.out; omega) 61 HN1.out HN2.out).mono ?_; rintro e w7 ⟨rfl, hb7⟩; have C7 := Lib.hid (Kd.C_below C6.out hb7); have D7 := Lib.hid (Kd.C_below D6.out hb7); have B7 := Lib.hid (below_step B6.out hb7); clear hb7 C6 D6 B6)) | (go_at_call 25; (with_reducible refine (mootlaw30_size.calls 61 A0 c0 l S1 _ (Kd.C_below HC.out B7.out) HCL.out HN3.out).mono ?_; rintro e w8 ⟨rfl, ⟨n8, rfl⟩⟩; have C8 := Lib.hid (Kd.C_drewN C7.out n8); have D8 := Lib.hid (Kd.C_drewN D7.out n8); have B8 := Lib.hid (pw_below_drewN B7.out n8))) | (go_at_call 25; go_must (refine (mootlaw30_size.calls 61 A2 c2 m S2 _ D8.out LC2.out HN4.out).mono ?_; rintro e w9 ⟨rfl, ⟨n9, rfl⟩⟩; have C9 := Lib.hid (Kd.C_drewN C7.out (n8 + n9)); have D9 := Lib.hid (Kd.C_drewN D7.out (n8 + n9)); have B9 := Lib.hid (pw_below_drewN B7.out (n8 + n9)); clear C8 D8 B8 C7 D7 B7)) | (go_at_call 35; go_must (refine (keep_calls A3 c3 m _ C9.out LC3.out HOM.out (by have := HLE.out; have := HKL.out; omega)).mono ?_; rintro e wa ⟨va, rfl, hRa, hba⟩; rw [HAG.out] at hRa; obtain ⟨A4, c4, rfl⟩ := Kd.R_slice hRa; have Ca := Lib.hid (Kd.R_reads' hRa).2.2; have Da := Lib.hid (Kd.C_below D9.out hba); have Ba := Lib.hid (below_step B9.out hba); clear hba hRa C9 D9 B9)) | (go_at_call 27; go_must (refine (lists_same A4 A2 c4 c2 m _ Ca.out Da.out (by have := HLE.out; have := HKL.out; omega)).mono ?_; rintro e wb ⟨rfl, ⟨nb, rfl⟩⟩)))
      go_ret
      exact ⟨rfl, pw_below_drewN Ba.out _⟩
    · have d1 : decide ((l0.length : Int) > 60) = false := decide_eq_false (by omega)
      have d2 : decide (60 < (l0.length : Int)) = false := decide_eq_false (by omega)
      have d3 : decide (60 < l0.length) = false := decide_eq_false h60
      have hle : l0.length ≤ 60 := by omega
      obtain ⟨l, rfl⟩ : ∃ l, l = l0 := ⟨_, rfl⟩
      have hC := hr0
      have hOl := hO
      have hcl := hc0
      clear hr0 hO h60 hr1 hO1 hl1 hc1 hc0
      have hkl := keep_len l
      have HC := Lib.hid hC
      have HOL := Lib.hid hOl
      have HCL := Lib.hid hcl
      have hs1 := sizeL_le l (fun x hx => (hOl x hx).2)
      have hs2 := sizeL_le (keepL l) (fun x hx => (keep_all hOl x hx).2)
      have hn1 := csize_f l (by omega) (by omega) 61 (by omega)
      have hn2 := csize_f (keepL l) (by omega) (by omega) 61 (by omega)
      have hn3 := lsize_f l (by omega) (by omega) 61 (by omega)
      have hn4 := lsize_f (keepL l) (by omega) (by omega) 61 (by omega)
      have hag := keep_again l
      obtain ⟨S1, hS1⟩ : ∃ s : Int, (sizeL l : Int) = s := ⟨_, rfl⟩
      obtain ⟨S2, hS2⟩ : ∃ s : Int, (sizeL (keepL l) : Int) = s := ⟨_, rfl⟩
      obtain ⟨G, hG⟩ : ∃ G, wrap64 (S1 - S2) = G := ⟨_, rfl⟩
      rw [hS1] at hn1 hn3
      rw [hS2] at hn2 hn4
      have hkk := keep_kept l
      obtain ⟨m, hm⟩ : ∃ m, keepL l = m := ⟨_, rfl⟩
      rw [hm] at hn2 hn4 hag hkk hkl
      have hOm : ∀ x ∈ m, Octets x ∧ x.length ≤ 140737488355328 := by rw [← hm]; exact keep_all hOl
      have HN1 := Lib.hid hn1
      have HN2 : Hid (compact_size.f 61 (keepL l) = some S2) := Lib.hid (by rw [hm]; exact hn2)
      have HN3 := Lib.hid hn3
      have HN4 := Lib.hid hn4
      have HAG := Lib.hid hag
      have HKK := Lib.hid hkk
      have HM := Lib.hid hm
      have HOM := Lib.hid hOm
      have HKL := Lib.hid hkl
      have HLE := Lib.hid hle
      clear hC hOl hcl hs1 hs2 hn1 hn2 hn3 hn4 hag hS1 hS2 hkk hm hOm hkl hle
      go_enter Try.func10, Try.ntmps10
      go_wp2_with (first | (go_at_call 21; (with_reducible refine (alive30_calls _).mono ?_); rintro e w1 ⟨rfl, hb⟩; have B := Lib.hid hb; clear hb) | (go_at_call 24; go_must (refine (kept_calls A0 c0 l _ (Kd.C_below HC.out B.out) HCL.out HOL.out (by have := HLE.out; omega)).mono ?_; rintro e w2 ⟨A2, c2, rfl, hlc2, hC2, hb2⟩; rw [← HKK.out] at hlc2 hC2; rw [← HKK.out]; have B2 := Lib.hid (below_step B.out hb2); have C2 := Lib.hid hC2; have LC2 := Lib.hid hlc2; clear hb2 hC2 hlc2 B)) | (go_at_call 35; (with_reducible refine (keep_calls A0 c0 l _ (Kd.C_below HC.out B2.out) HCL.out HOL.out (by have := HLE.out; omega)).mono ?_; rintro e w3 ⟨v3, rfl, hR3, hb3⟩; rw [HM.out] at hR3; obtain ⟨A3, c3, rfl⟩ := Kd.R_slice hR3; have C3 := Lib.hid (Kd.R_reads' hR3).2.2; have LC3 := Lib.hid (Kd.R_reads' hR3).2.1; have D2 := Lib.hid (Kd.C_below C2.out hb3); have B3 := Lib.hid (below_step B2.out hb3); clear hb3 hR3 C2 B2)) | (go_at_call 36; go_must (refine (kind_calls A1 c1 l1 _ (Kd.C_below HC1.out B3.out) HLC1.out HO1.out HL1.out).mono ?_; rintro e w4 ⟨rfl, hb4⟩; have C4 := Lib.hid (Kd.C_below C3.out hb4); have D4 := Lib.hid (Kd.C_below D2.out hb4); have B4 := Lib.hid (below_step B3.out hb4); clear hb4 C3 D2 B3)) | (go_at_call 37; go_must (refine (rkind_calls A1 c1 l1 _ (Kd.C_below HC1.out B4.out) HLC1.out HO1.out HL1.out).mono ?_; rintro e w5 ⟨rfl, hb5⟩; have C5 := Lib.hid (Kd.C_below C4.out hb5); have D5 := Lib.hid (Kd.C_below D4.out hb5); have B5 := Lib.hid (below_step B4.out hb5); clear hb5 C4 D4 B4)) | (go_at_call 27; (with_reducible refine (lists_same A3 A2 c3 c2 m _ C5.out D5.out (by have := HLE.out; have := HKL.out; omega)).mono ?_; rintro e w6 ⟨rfl, ⟨n6, rfl⟩⟩; have C6 := Lib.hid (Kd.C_drewN C5.out n6); have D6 := Lib.hid (Kd.C_drewN D5.out n6); have B6 := Lib.hid (pw_below_drewN B5.out n6); clear C5 D5 B5)) | (go_at_call 38; go_must (refine (gain_calls A0 c0 l S1 S2 _ (Kd.C_below HC.out B6.out) HCL.out HOL.out (by have := HLE.out; omega) 61 HN1.out HN2.out).mono ?_; rintro e w7 ⟨rfl, hb7⟩; have C7 := Lib.hid (Kd.C_below C6.out hb7); have D7 := Lib.hid (Kd.C_below D6.out hb7); have B7 := Lib.hid (below_step B6.out hb7); clear hb7 C6 D6 B6)) | (go_at_call 25; (with_reducible refine (mootlaw30_size.calls 61 A0 c0 l S1 _ (Kd.C_below HC.out B7.out) HCL.out HN3.out).mono ?_; rintro e w8 ⟨rfl, ⟨n8, rfl⟩⟩; have C8 := Lib.hid (Kd.C_drewN C7.out n8); have D8 := Lib.hid (Kd.C_drewN D7.out n8); have B8 := Lib.hid (pw_below_drewN B7.out n8))) | (go_at_call 25; go_must (refine (mootlaw30_size.calls 61 A2 c2 m S2 _ D8.out LC2.out HN4.out).mono ?_; rintro e w9 ⟨rfl, ⟨n9, rfl⟩⟩; have C9 := Lib.hid (Kd.C_drewN C7.out (n8 + n9)); have D9 := Lib.hid (Kd.C_drewN D7.out (n8 + n9)); have B9 := Lib.hid (pw_below_drewN B7.out (n8 + n9)); clear C8 D8 B8 C7 D7 B7)) | (go_at_call 35; go_must (refine (keep_calls A3 c3 m _ C9.out LC3.out HOM.out (by have := HLE.out; have := HKL.out; omega)).mono ?_; rintro e wa ⟨va, rfl, hRa, hba⟩; rw [HAG.out] at hRa; obtain ⟨A4, c4, rfl⟩ := Kd.R_slice hRa; have Ca := Lib.hid (Kd.R_reads' hRa).2.2; have Da := Lib.hid (Kd.C_below D9.out hba); have Ba := Lib.hid (below_step B9.out hba); clear hba hRa C9 D9 B9)) | (go_at_call 27; go_must (refine (lists_same A4 A2 c4 c2 m _ Ca.out Da.out (by have := HLE.out; have := HKL.out; omega)).mono ?_; rintro e wb ⟨rfl, ⟨nb, rfl⟩⟩)))
      go_ret
      exact ⟨rfl, pw_below_drewN Ba.out _⟩
  · cases h
end Go.Proofs.Ytfdpbdaekfdnjaa.X
/- The law CompactFew: its body's contract. -/
namespace Go.Proofs.Ytfdpbdaekfdnjaa.X
open Go.RowKit Go.Proofs.YtfdpbdaekfdnjaaW.PrintWords Go.Proofs.YtfdpbdaekfdnjaaW.PrintLast Go.Proofs.YtfdpbdaekfdnjaaW.PrintMore
set_option linter.unusedVariables false
set_option linter.unusedSimpArgs false

/-- Which kinds have been met, as cells. -/
def seenC (ks : List Bool) : Array Value := (ks.map Value.bool).toArray
theorem seenC_kind (ks : List Bool) (hk : ks.length = 8) (k : Nat) (h : k < 8) : (seenC ks)[k]? = some (.bool (ks.getD k false)) := by
  have hl : k < ks.length := by omega
  simp [seenC, hl, List.getD_eq_getElem?_getD]
theorem seenC_put (ks : List Bool) (k : Nat) : (seenC ks).setIfInBounds k (.bool true) = seenC (ks.set k true) := by
  apply Array.ext'
  simp only [seenC, Array.toList_setIfInBounds]
  rw [List.map_set]
/-- What the loop over what was kept keeps: out: what was kept; l: what was there. -/
structure FewI (w : World) (l out : List (List Int)) (g i j at_ : Nat) (ks : List Bool) (A1 : Option Addr) (W : World) : Prop where
  seen : W.heap[g]? = some (.cells (seenC ks) 4 (0, 0))
  len : ks.length = 8
  new : w.heap.size ≤ g
  below : Below w.heap.size w W
  row : Kd.F (Kd.slice 5 (Kd.int .u8)) W (fun k => k < g) A1 out.length out
  sub : (out.drop j).Sublist (l.drop at_)
  le : at_ ≤ l.length
  kinds : ∀ k, ks.getD k false = true → ∃ j, j < i ∧ kindN (out.getD j []) = k
theorem FewI.on {w : World} {l out : List (List Int)} {g i j at_ : Nat} {ks : List Bool} {A1 : Option Addr} {W W1 : World} (h : FewI w l out g i j at_ ks A1 W) (hb : Below W.heap.size W W1) : FewI w l out g i j at_ ks A1 W1 :=
  ⟨(hb.block _ (blk_lt h.seen)).trans h.seen, h.len, h.new, below_step h.below hb, Kd.F_below h.row hb, h.sub, h.le, h.kinds⟩
theorem FewI.put {w : World} {l out : List (List Int)} {g i at_ : Nat} {ks : List Bool} {A1 : Option Addr} {W : World} (h : FewI w l out g i i at_ ks A1 W) (k : Nat) (hk : k < 8) (hkd : kindN (out.getD i []) = k) : FewI w l out g (i + 1) i at_ (ks.set k true) A1 (W.setCell ⟨g, k, none⟩ (.bool true)) := by
  refine ⟨blk_put h.seen k _ (seenC_put ks k), by rw [List.length_set]; exact h.len, h.new, below_set h.below h.new, Kd.F_far h.row (fun m hm => by dsimp only; omega) _, h.sub, h.le, fun m hm => ?_⟩
  by_cases e : k = m
  · subst e
    exact ⟨i, Nat.lt_succ_self _, hkd⟩
  · rw [List.getD_eq_getElem?_getD, List.getElem?_set, if_neg e, ← List.getD_eq_getElem?_getD] at hm
    obtain ⟨j, hj, e2⟩ := h.kinds m hm
    exact ⟨j, Nat.lt_succ_of_lt hj, e2⟩
theorem FewI.miss {w : World} {l out : List (List Int)} {g i j at_ : Nat} {ks : List Bool} {A1 : Option Addr} {W : World} (h : FewI w l out g i j at_ ks A1 W) (hj : j < out.length) (ha : at_ < l.length) (hn : l.getD at_ [] ≠ out.getD j []) : FewI w l out g i j (at_ + 1) ks A1 W := by
  refine ⟨h.seen, h.len, h.new, h.below, h.row, ?_, ha, h.kinds⟩
  have h1 := h.sub
  rw [List.drop_eq_getElem_cons hj, List.drop_eq_getElem_cons ha] at h1
  rw [getD_at ha, getD_at hj] at hn
  rw [List.drop_eq_getElem_cons hj]
  rcases List.sublist_cons_iff.1 h1 with h2 | ⟨r, e, h2⟩
  · exact h2
  · exact absurd (List.cons.inj e).1.symm hn
theorem FewI.hit {w : World} {l out : List (List Int)} {g i j at_ : Nat} {ks : List Bool} {A1 : Option Addr} {W : World} (h : FewI w l out g i j at_ ks A1 W) (hj : j < out.length) : FewI w l out g i (j + 1) at_ ks A1 W := by
  refine ⟨h.seen, h.len, h.new, h.below, h.row, ?_, h.le, h.kinds⟩
  have h1 := h.sub
  rw [List.drop_eq_getElem_cons hj] at h1
  exact List.Sublist.trans (List.sublist_cons_self _ _) h1
theorem FewI.there {w : World} {l out : List (List Int)} {g i j at_ : Nat} {ks : List Bool} {A1 : Option Addr} {W : World} (h : FewI w l out g i j at_ ks A1 W) (hj : j < out.length) : at_ < l.length := by
  rcases Nat.lt_or_ge at_ l.length with h2 | h2
  · exact h2
  · have h1 := h.sub
    rw [List.drop_eq_getElem_cons hj, List.drop_of_length_le h2] at h1
    cases h1
theorem few_fresh {out : List (List Int)} (hg : Good out) (i j : Nat) (hj : j < i) (hi : i < out.length) (h : kindN (out.getD j []) = kindN (out.getD i [])) : kindN (out.getD i []) = 6 := by
  have hjl : j < out.length := Nat.lt_trans hj hi
  rw [getD_at hi, getD_at hjl] at h
  have := List.pairwise_iff_getElem.1 hg.2 j i hjl hi hj h.symm
  rw [getD_at hi, ← h]
  exact this.1
theorem FewI.unseen {w : World} {l out : List (List Int)} {g i at_ : Nat} {ks : List Bool} {A1 : Option Addr} {W : World} (h : FewI w l out g i i at_ ks A1 W) (hg : Good out) (hi : i < out.length) (h6 : kindN (out.getD i []) ≠ 6) : ks.getD (kindN (out.getD i [])) false = false := by
  cases hv : ks.getD (kindN (out.getD i [])) false with
  | false => rfl
  | true =>
    obtain ⟨j, hj, e⟩ := h.kinds _ hv
    exact absurd (few_fresh hg i j hj hi e) h6
theorem make8 : ∀ W : World, (Instr.makeSlice 57 (.int .i64 8) (.int .i64 8)).run Try.prog W = .ok (.slice (some ⟨W.heap.size, 0, none⟩) 8 8) (W.alloc (.cells (seenC (List.replicate 8 false)) 4)) := by
  intro W
  have h := run_make_row' (P := Try.prog) 57 4 (.bool false) 1 Try.underlying57 (by kernel_rfl) rfl .i64 .i64 8 (by omega) (by omega) W
  have e : madeCells #[Value.bool false] 8 = seenC (List.replicate 8 false) := by kernel_rfl
  rw [e] at h
  exact h
def mootlaw30_CompactFew.f (l0 : List (List Int)) : Option Bool := if (∀ x ∈ l0, Octets x ∧ x.length ≤ 140737488355328) then some true else none
set_option maxRecDepth 100000 in
set_option maxHeartbeats 40000000 in
theorem mootlaw30_CompactFew.calls (A0 : Option Addr) (c0 : Nat) (l0 : List (List Int)) (r : Bool) (w : World) (hr0 : Kd.C (Kd.slice 5 (Kd.int .u8)) w A0 l0.length l0) (hc0 : l0.length ≤ c0) (h : mootlaw30_CompactFew.f l0 = some r) :
    Calls Try.prog 9 #[.slice A0 l0.length c0] w fun e w' => e = .returned (.bool r) ∧ Below w.heap.size w w' := by
  unfold mootlaw30_CompactFew.f at h
  split at h
  · rename_i hO
    obtain rfl := Option.some.inj h
    clear h
    by_cases h60 : 60 < l0.length
    · have hcut := take60 A0 l0 c0 h60 hc0
      have d1 : decide ((l0.length : Int) > 60) = true := decide_eq_true (by omega)
      have d2 : decide (60 < (l0.length : Int)) = true := decide_eq_true (by omega)
      have d3 : decide (60 < l0.length) = true := decide_eq_true h60
      obtain ⟨l, hl⟩ : ∃ l, l0.take 60 = l := ⟨_, rfl⟩
      have hll : l.length = 60 := by rw [← hl, List.length_take]; omega
      have hC : Kd.C (Kd.slice 5 (Kd.int .u8)) w A0 60 l := by
        have := Kd.C_take (m := 60) hr0 (by omega)
        rwa [hl, hll] at this
      have hOl : ∀ x ∈ l, Octets x ∧ x.length ≤ 140737488355328 := fun x hx => hO x (by rw [← hl] at hx; exact List.mem_of_mem_take hx)
      have hcl : 60 ≤ c0 := by omega
      have hcut2 : ∀ W : World, (Instr.slice 33 (.slice A0 l0.length c0) none (some (.int .i64 60)) none).run Try.prog W = .ok (.slice A0 l.length c0) W := by rw [hll]; exact hcut
      clear hr0 hO h60 hl
      rw [← hll] at hC hcl
      clear hcut
      have hle : l.length ≤ 60 := by omega
      clear hll
      have hkl := keep_len l
      have hgood := keep_good l
      have hsub := keep_sub l
      have hOm := keep_all hOl
      have HC := Lib.hid hC
      have HOL := Lib.hid hOl
      have HCL := Lib.hid hcl
      have HLE := Lib.hid hle
      obtain ⟨out, hout⟩ : ∃ out, keepL l = out := ⟨_, rfl⟩
      rw [hout] at hkl hgood hsub hOm
      have HOUT := Lib.hid hout
      have HGOOD := Lib.hid hgood
      have HSUB := Lib.hid hsub
      have HOM := Lib.hid hOm
      have HKL := Lib.hid hkl
      clear hC hOl hcl hle hkl hgood hsub hOm hout
      have hmk := make8
      go_enter Try.func9, Try.ntmps9
      go_wp2_with (first | (go_at_call 21; (with_reducible refine (alive30_calls _).mono ?_); rintro e w1 ⟨rfl, hb⟩; have B := Lib.hid hb; clear hb) | (go_at_call 35; go_must (refine (keep_calls A0 c0 l _ (Kd.C_below HC.out B.out) HCL.out HOL.out (by have := HLE.out; omega)).mono ?_; rintro e w3 ⟨v3, rfl, hR3, hb3⟩; rw [HOUT.out] at hR3; obtain ⟨A3, c3, rfl⟩ := Kd.R_slice hR3; have C3 := Lib.hid (Kd.R_reads' hR3).2.2; have LC3 := Lib.hid (Kd.R_reads' hR3).2.1; have B3 := Lib.hid (below_step B.out hb3); clear hb3 hR3 B)))
      go_loopg [4, 6] (out.length + 1) (fun kq v4 v6 w' => ∃ (i at_ : Nat) (ks : List Bool), v4 = .int .i64 (at_ : Int) ∧ v6 = .int .i64 (i : Int) ∧ Hid (i ≤ out.length ∧ kq + i = out.length + 1) ∧ Hid (FewI w l out w3.heap.size i i at_ ks A3 w'))
      case atStart => exact ⟨0, 0, List.replicate 8 false, rfl, rfl, Lib.hid ⟨Nat.zero_le _, rfl⟩, Lib.hid ⟨blk_new _ _, rfl, B3.out.size, below_alloc B3.out _, Kd.F_alloc (Kd.C_F (Kd.heap_slice 5 (Kd.heap_int .u8)) C3.out) _, HSUB.out, Nat.zero_le _, fun k hk => by
        exfalso
        rw [List.getD_eq_getElem?_getD, List.getElem?_replicate] at hk
        split at hk <;> simp at hk⟩⟩
      case round =>
        obtain ⟨i, at_, ks, rfl, rfl, hi, hI⟩ := hrel
        by_cases ci : i < out.length
        · have e1 : decide ((i : Int) < (out.length : Int)) = true := decide_eq_true (by omega)
          have e2 : decide (i < out.length) = true := decide_eq_true ci
          obtain ⟨K1, rfl⟩ : ∃ k1, gk = k1 + 1 := ⟨gk - 1, by have := hi.out; omega⟩
          obtain ⟨ad, A2, c4, rfl, x0, hlc, hCx⟩ := at_L1 (Kd.F_now hI.out.row) (i : Int) (by omega) (by omega)
          rw [Int.toNat_natCast] at x0
          have hrd : rd_L1 out (i : Int) = out.getD i [] := by unfold rd_L1; rw [Int.toNat_natCast]
          rw [hrd] at x0 hlc hCx
          have hox := HOM.out (out.getD i []) (by rw [getD_at ci]; exact List.getElem_mem ci)
          have hk0 := HGOOD.out.1 (out.getD i []) (by rw [getD_at ci]; exact List.getElem_mem ci)
          have hk7 := kindN_le (out.getD i [])
          have hun := hI.out.unseen HGOOD.out ci
          obtain ⟨b, hb⟩ : ∃ b, out.getD i [] = b := ⟨_, rfl⟩
          obtain ⟨k, hk⟩ : ∃ k, kindN b = k := ⟨_, rfl⟩
          rw [hb] at x0 hlc hCx hox hk0 hk7 hun
          rw [hk] at hk0 hk7 hun
          have HLC := Lib.hid hlc
          have HCX := Lib.hid hCx
          have HOX := Lib.hid hox
          have HB := Lib.hid hb
          have HK := Lib.hid hk
          have HCI := Lib.hid ci
          have K8 : Hid (k < 8) := Lib.hid (by omega)
          have p0 : (0 ≤ (i : Int)) = True := eq_true (by omega)
          have p1 : ((i : Int) < (out.length : Int)) = True := eq_true (by omega)
          have p2 : (i < out.length) = True := eq_true ci
          have k1 : decide ((k : Int) < 1) = false := decide_eq_false (by omega)
          have k2 : decide ((k : Int) > 7) = false := decide_eq_false (by omega)
          have k3 : decide (7 < (k : Int)) = false := decide_eq_false (by omega)
          have k4 : (0 ≤ (k : Int)) = True := eq_true (by omega)
          have k5 : ((k : Int) < 8) = True := eq_true (by omega)
          have k6 : (k < 8) = True := eq_true (by omega)
          have k7 : decide (7 < k) = false := decide_eq_false (by omega)
          have k9 : decide (k < 1) = false := decide_eq_false (by omega)
          have k10 : (k = 0) = False := eq_false hk0
          have E1 : Hid (wrap64 ((i : Int) + 1) = ((i + 1 : Nat) : Int)) := Lib.hid (by have := HKL.out; have := HLE.out; rw [wrap64_id _ (by omega) (by omega)]; rfl)
          have hun2 : k = 6 ∨ (k ≠ 6 ∧ ks.getD k false = false) := by
            by_cases h6 : k = 6
            · exact .inl h6
            · exact .inr ⟨h6, hun h6⟩
          clear hlc hCx hox hb hk ci hrd hk0 hk7 hun
          have HXC := Lib.hid x0
          rcases hun2 with h6 | ⟨h6, hun⟩
          · subst h6
            clear k1 k2 k3 k4 k5 k6 k7 k9 k10
            go_wp2_with (go_at_call 36; go_must (refine (kind_calls A2 c4 b _ HCX.out HLC.out HOX.out.1 HOX.out.2).mono ?_; rw [HK.out]; rintro e w5 ⟨rfl, hb5⟩; have I5 := Lib.hid (hI.out.on hb5); have s5 := (blk_cell I5.out.seen 6).trans (seenC_kind ks I5.out.len 6 K8.out); have r5 := blk_frozen I5.out.seen 6; clear hb5 x0))
            have I6 := Lib.hid (I5.out.put 6 K8.out (by rw [HB.out]; exact HK.out))
            clear I5 s5 r5 hI
            go_loopg [4] (l.length + 1) (fun kq v4 w' => ∃ n : Nat, v4 = .int .i64 (n : Int) ∧ Hid (at_ ≤ n ∧ kq + n = l.length + 1 + at_) ∧ Hid (FewI w l out w3.heap.size (i + 1) i n (ks.set 6 true) (some ad) w'))
            case atStart => exact ⟨at_, rfl, Lib.hid ⟨Nat.le_refl _, rfl⟩, I6⟩
            case round =>
              clear I6
              obtain ⟨n, rfl, hn, hI⟩ := hrel
              have cn := hI.out.there HCI.out
              have HCN := Lib.hid cn
              have d1b : decide ((n : Int) < (l.length : Int)) = true := decide_eq_true (by omega)
              have d2b : decide (n < l.length) = true := decide_eq_true cn
              have d3b : decide ((n : Int) ≥ (l.length : Int)) = false := decide_eq_false (by omega)
              have d4b : decide ((l.length : Int) ≤ (n : Int)) = false := decide_eq_false (by omega)
              have d5b : decide (l.length ≤ n) = false := decide_eq_false (by omega)
              have q0 : (0 ≤ (n : Int)) = True := eq_true (by omega)
              have q1 : ((n : Int) < (l.length : Int)) = True := eq_true (by omega)
              have q2 : (n < l.length) = True := eq_true cn
              obtain ⟨K2, rfl⟩ : ∃ k1, gk = k1 + 1 := ⟨gk - 1, by have := hn.out; omega⟩
              obtain ⟨ad2, A4, c5, rfl, y0, ylc, yC⟩ := at_L1 (Kd.C_below HC.out hI.out.below) (n : Int) (by omega) (by omega)
              rw [Int.toNat_natCast] at y0
              have yrd : rd_L1 l (n : Int) = l.getD n [] := by unfold rd_L1; rw [Int.toNat_natCast]
              rw [yrd] at y0 ylc yC
              have yox := HOL.out (l.getD n []) (by rw [getD_at cn]; exact List.getElem_mem _)
              obtain ⟨ad3, A5, c6, e_, x0, xlc, xC⟩ := at_L1 (Kd.F_now hI.out.row) (i : Int) (by omega) (by have := HCI.out; omega)
              injection e_ with e_
              subst e_
              rw [Int.toNat_natCast] at x0
              have xrd : rd_L1 out (i : Int) = b := by rw [← HB.out]; unfold rd_L1; rw [Int.toNat_natCast]
              rw [xrd] at x0 xlc xC
              obtain ⟨y, hy⟩ : ∃ y, l.getD n [] = y := ⟨_, rfl⟩
              rw [hy] at y0 ylc yC yox
              have s0 : ∀ k, (convert 22 9 (.slice A4 y.length c5)).run Try.prog (wr.drewN k) = .ok (.string (strOfNums y)) (wr.drewN k) := fun k => Kd.C_string (P := Try.prog) Try.underlying22 Try.underlying5 Try.underlying9 (c := c5) (Kd.C_drewN yC k)
              have s1 : ∀ k, (convert 22 9 (.slice A5 b.length c6)).run Try.prog (wr.drewN k) = .ok (.string (strOfNums b)) (wr.drewN k) := fun k => Kd.C_string (P := Try.prog) Try.underlying22 Try.underlying5 Try.underlying9 (c := c6) (Kd.C_drewN xC k)
              have hse := str_beq yox.1 HOX.out.1
              obtain ⟨sy, hsy⟩ : ∃ sy, strOfNums y = sy := ⟨_, rfl⟩
              obtain ⟨sb, hsb⟩ : ∃ sb, strOfNums b = sb := ⟨_, rfl⟩
              rw [hsy, hsb] at hse
              rw [hsy] at s0
              rw [hsb] at s1
              have HY := Lib.hid hy
              clear ylc yC yox xlc xC xrd yrd hsy hsb hy cn
              by_cases hyb : y = b
              · have t1 : (sy.toList == sb.toList) = true := by rw [hse]; exact decide_eq_true hyb
                have t2 : (sy.toList != sb.toList) = false := by rw [bne, t1]; rfl
                have t3 : (sy.toList = sb.toList) = True := eq_true (by simpa using t1)
                clear hyb hse
                go_wp2
                go_quiet (fail)
                go_wp2
                go_roundg K1
                case measure => omega
                case rel => exact ⟨i + 1, n, _, rfl, congrArg (Value.int .i64) E1.out, Lib.hid ⟨HCI.out, by have := hi.out; omega⟩, Lib.hid ((hI.out.hit HCI.out).on (pw_below_drewN (Below.refl _ _) _))⟩
              · have t1 : (sy.toList == sb.toList) = false := by rw [hse]; exact decide_eq_false hyb
                have t2 : (sy.toList != sb.toList) = true := by rw [bne, t1]; rfl
                have t3 : (sy.toList = sb.toList) = False := eq_false (fun e => by rw [e] at t1; simp at t1)
                have HYB := Lib.hid hyb
                clear hyb hse
                go_wp2
                go_quiet (fail)
                go_wp2
                go_roundg K2
                case measure => omega
                case rel => exact ⟨n + 1, congrArg (Value.int .i64) (by have := HCN.out; have := HLE.out; unfold wrap64; omega), Lib.hid ⟨by have := hn.out; omega, by have := hn.out; omega⟩, Lib.hid ((hI.out.miss HCI.out HCN.out (by rw [HY.out, HB.out]; exact HYB.out)).on (pw_below_drewN (Below.refl _ _) _))⟩
          · have n6 : ((k : Int) = 6) = False := eq_false (by omega)
            have m6 : ((k : Int) == 6) = false := beq_eq_false_iff_ne.mpr (by omega)
            have m7 : (k = 6) = False := eq_false h6
            have HUN := Lib.hid hun
            clear h6 hun
            go_wp2_with (go_at_call 36; go_must (refine (kind_calls A2 c4 b _ HCX.out HLC.out HOX.out.1 HOX.out.2).mono ?_; rw [HK.out]; rintro e w5 ⟨rfl, hb5⟩; have I5 := Lib.hid (hI.out.on hb5); have s5 := (blk_cell I5.out.seen k).trans (seenC_kind ks I5.out.len k K8.out); rw [HUN.out] at s5; have r5 := blk_frozen I5.out.seen k; clear hb5 x0))
            have I6 := Lib.hid (I5.out.put k K8.out (by rw [HB.out]; exact HK.out))
            clear I5 s5 r5 hI
            go_loopg [4] (l.length + 1) (fun kq v4 w' => ∃ n : Nat, v4 = .int .i64 (n : Int) ∧ Hid (at_ ≤ n ∧ kq + n = l.length + 1 + at_) ∧ Hid (FewI w l out w3.heap.size (i + 1) i n (ks.set k true) (some ad) w'))
            case atStart => exact ⟨at_, rfl, Lib.hid ⟨Nat.le_refl _, rfl⟩, I6⟩
            case round =>
              clear I6
              obtain ⟨n, rfl, hn, hI⟩ := hrel
              have cn := hI.out.there HCI.out
              have HCN := Lib.hid cn
              have d1b : decide ((n : Int) < (l.length : Int)) = true := decide_eq_true (by omega)
              have d2b : decide (n < l.length) = true := decide_eq_true cn
              have d3b : decide ((n : Int) ≥ (l.length : Int)) = false := decide_eq_false (by omega)
              have d4b : decide ((l.length : Int) ≤ (n : Int)) = false := decide_eq_false (by omega)
              have d5b : decide (l.length ≤ n) = false := decide_eq_false (by omega)
              have q0 : (0 ≤ (n : Int)) = True := eq_true (by omega)
              have q1 : ((n : Int) < (l.length : Int)) = True := eq_true (by omega)
              have q2 : (n < l.length) = True := eq_true cn
              obtain ⟨K2, rfl⟩ : ∃ k1, gk = k1 + 1 := ⟨gk - 1, by have := hn.out; omega⟩
              obtain ⟨ad2, A4, c5, rfl, y0, ylc, yC⟩ := at_L1 (Kd.C_below HC.out hI.out.below) (n : Int) (by omega) (by omega)
              rw [Int.toNat_natCast] at y0
              have yrd : rd_L1 l (n : Int) = l.getD n [] := by unfold rd_L1; rw [Int.toNat_natCast]
              rw [yrd] at y0 ylc yC
              have yox := HOL.out (l.getD n []) (by rw [getD_at cn]; exact List.getElem_mem _)
              obtain ⟨ad3, A5, c6, e_, x0, xlc, xC⟩ := at_L1 (Kd.F_now hI.out.row) (i : Int) (by omega) (by have := HCI.out; omega)
              injection e_ with e_
              subst e_
              rw [Int.toNat_natCast] at x0
              have xrd : rd_L1 out (i : Int) = b := by rw [← HB.out]; unfold rd_L1; rw [Int.toNat_natCast]
              rw [xrd] at x0 xlc xC
              obtain ⟨y, hy⟩ : ∃ y, l.getD n [] = y := ⟨_, rfl⟩
              rw [hy] at y0 ylc yC yox
              have s0 : ∀ k, (convert 22 9 (.slice A4 y.length c5)).run Try.prog (wr.drewN k) = .ok (.string (strOfNums y)) (wr.drewN k) := fun k => Kd.C_string (P := Try.prog) Try.underlying22 Try.underlying5 Try.underlying9 (c := c5) (Kd.C_drewN yC k)
              have s1 : ∀ k, (convert 22 9 (.slice A5 b.length c6)).run Try.prog (wr.drewN k) = .ok (.string (strOfNums b)) (wr.drewN k) := fun k => Kd.C_string (P := Try.prog) Try.underlying22 Try.underlying5 Try.underlying9 (c := c6) (Kd.C_drewN xC k)
              have hse := str_beq yox.1 HOX.out.1
              obtain ⟨sy, hsy⟩ : ∃ sy, strOfNums y = sy := ⟨_, rfl⟩
              obtain ⟨sb, hsb⟩ : ∃ sb, strOfNums b = sb := ⟨_, rfl⟩
              rw [hsy, hsb] at hse
              rw [hsy] at s0
              rw [hsb] at s1
              have HY := Lib.hid hy
              clear ylc yC yox xlc xC xrd yrd hsy hsb hy cn
              by_cases hyb : y = b
              · have t1 : (sy.toList == sb.toList) = true := by rw [hse]; exact decide_eq_true hyb
                have t2 : (sy.toList != sb.toList) = false := by rw [bne, t1]; rfl
                have t3 : (sy.toList = sb.toList) = True := eq_true (by simpa using t1)
                clear hyb hse
                go_wp2
                go_quiet (fail)
                go_wp2
                go_roundg K1
                case measure => omega
                case rel => exact ⟨i + 1, n, _, rfl, congrArg (Value.int .i64) E1.out, Lib.hid ⟨HCI.out, by have := hi.out; omega⟩, Lib.hid ((hI.out.hit HCI.out).on (pw_below_drewN (Below.refl _ _) _))⟩
              · have t1 : (sy.toList == sb.toList) = false := by rw [hse]; exact decide_eq_false hyb
                have t2 : (sy.toList != sb.toList) = true := by rw [bne, t1]; rfl
                have t3 : (sy.toList = sb.toList) = False := eq_false (fun e => by rw [e] at t1; simp at t1)
                have HYB := Lib.hid hyb
                clear hyb hse
                go_wp2
                go_quiet (fail)
                go_wp2
                go_roundg K2
                case measure => omega
                case rel => exact ⟨n + 1, congrArg (Value.int .i64) (by have := HCN.out; have := HLE.out; unfold wrap64; omega), Lib.hid ⟨by have := hn.out; omega, by have := hn.out; omega⟩, Lib.hid ((hI.out.miss HCI.out HCN.out (by rw [HY.out, HB.out]; exact HYB.out)).on (pw_below_drewN (Below.refl _ _) _))⟩
        · have e1 : decide ((i : Int) < (out.length : Int)) = false := decide_eq_false (by omega)
          have e2 : decide (i < out.length) = false := decide_eq_false ci
          go_wp2
          go_ret
          exact ⟨rfl, hI.out.below⟩
    · have d1 : decide ((l0.length : Int) > 60) = false := decide_eq_false (by omega)
      have d2 : decide (60 < (l0.length : Int)) = false := decide_eq_false (by omega)
      have d3 : decide (60 < l0.length) = false := decide_eq_false h60
      have hle : l0.length ≤ 60 := by omega
      obtain ⟨l, rfl⟩ : ∃ l, l = l0 := ⟨_, rfl⟩
      have hC := hr0
      have hOl := hO
      have hcl := hc0
      clear hr0 hO h60 hc0
      have hkl := keep_len l
      have hgood := keep_good l
      have hsub := keep_sub l
      have hOm := keep_all hOl
      have HC := Lib.hid hC
      have HOL := Lib.hid hOl
      have HCL := Lib.hid hcl
      have HLE := Lib.hid hle
      obtain ⟨out, hout⟩ : ∃ out, keepL l = out := ⟨_, rfl⟩
      rw [hout] at hkl hgood hsub hOm
      have HOUT := Lib.hid hout
      have HGOOD := Lib.hid hgood
      have HSUB := Lib.hid hsub
      have HOM := Lib.hid hOm
      have HKL := Lib.hid hkl
      clear hC hOl hcl hle hkl hgood hsub hOm hout
      have hmk := make8
      go_enter Try.func9, Try.ntmps9
      go_wp2_with (first | (go_at_call 21; (with_reducible refine (alive30_calls _).mono ?_); rintro e w1 ⟨rfl, hb⟩; have B := Lib.hid hb; clear hb) | (go_at_call 35; go_must (refine (keep_calls A0 c0 l _ (Kd.C_below HC.out B.out) HCL.out HOL.out (by have := HLE.out; omega)).mono ?_; rintro e w3 ⟨v3, rfl, hR3, hb3⟩; rw [HOUT.out] at hR3; obtain ⟨A3, c3, rfl⟩ := Kd.R_slice hR3; have C3 := Lib.hid (Kd.R_reads' hR3).2.2; have LC3 := Lib.hid (Kd.R_reads' hR3).2.1; have B3 := Lib.hid (below_step B.out hb3); clear hb3 hR3 B)))
      go_loopg [4, 6] (out.length + 1) (fun kq v4 v6 w' => ∃ (i at_ : Nat) (ks : List Bool), v4 = .int .i64 (at_ : Int) ∧ v6 = .int .i64 (i : Int) ∧ Hid (i ≤ out.length ∧ kq + i = out.length + 1) ∧ Hid (FewI w l out w3.heap.size i i at_ ks A3 w'))
      case atStart => exact ⟨0, 0, List.replicate 8 false, rfl, rfl, Lib.hid ⟨Nat.zero_le _, rfl⟩, Lib.hid ⟨blk_new _ _, rfl, B3.out.size, below_alloc B3.out _, Kd.F_alloc (Kd.C_F (Kd.heap_slice 5 (Kd.heap_int .u8)) C3.out) _, HSUB.out, Nat.zero_le _, fun k hk => by
        exfalso
        rw [List.getD_eq_getElem?_getD, List.getElem?_replicate] at hk
        split at hk <;> simp at hk⟩⟩
      case round =>
        obtain ⟨i, at_, ks, rfl, rfl, hi, hI⟩ := hrel
        by_cases ci : i < out.length
        · have e1 : decide ((i : Int) < (out.length : Int)) = true := decide_eq_true (by omega)
          have e2 : decide (i < out.length) = true := decide_eq_true ci
          obtain ⟨K1, rfl⟩ : ∃ k1, gk = k1 + 1 := ⟨gk - 1, by have := hi.out; omega⟩
          obtain ⟨ad, A2, c4, rfl, x0, hlc, hCx⟩ := at_L1 (Kd.F_now hI.out.row) (i : Int) (by omega) (by omega)
          rw [Int.toNat_natCast] at x0
          have hrd : rd_L1 out (i : Int) = out.getD i [] := by unfold rd_L1; rw [Int.toNat_natCast]
          rw [hrd] at x0 hlc hCx
          have hox := HOM.out (out.getD i []) (by rw [getD_at ci]; exact List.getElem_mem ci)
          have hk0 := HGOOD.out.1 (out.getD i []) (by rw [getD_at ci]; exact List.getElem_mem ci)
          have hk7 := kindN_le (out.getD i [])
          have hun := hI.out.unseen HGOOD.out ci
          obtain ⟨b, hb⟩ : ∃ b, out.getD i [] = b := ⟨_, rfl⟩
          obtain ⟨k, hk⟩ : ∃ k, kindN b = k := ⟨_, rfl⟩
          rw [hb] at x0 hlc hCx hox hk0 hk7 hun
          rw [hk] at hk0 hk7 hun
          have HLC := Lib.hid hlc
          have HCX := Lib.hid hCx
          have HOX := Lib.hid hox
          have HB := Lib.hid hb
          have HK := Lib.hid hk
          have HCI := Lib.hid ci
          have K8 : Hid (k < 8) := Lib.hid (by omega)
          have p0 : (0 ≤ (i : Int)) = True := eq_true (by omega)
          have p1 : ((i : Int) < (out.length : Int)) = True := eq_true (by omega)
          have p2 : (i < out.length) = True := eq_true ci
          have k1 : decide ((k : Int) < 1) = false := decide_eq_false (by omega)
          have k2 : decide ((k : Int) > 7) = false := decide_eq_false (by omega)
          have k3 : decide (7 < (k : Int)) = false := decide_eq_false (by omega)
          have k4 : (0 ≤ (k : Int)) = True := eq_true (by omega)
          have k5 : ((k : Int) < 8) = True := eq_true (by omega)
          have k6 : (k < 8) = True := eq_true (by omega)
          have k7 : decide (7 < k) = false := decide_eq_false (by omega)
          have k9 : decide (k < 1) = false := decide_eq_false (by omega)
          have k10 : (k = 0) = False := eq_false hk0
          have E1 : Hid (wrap64 ((i : Int) + 1) = ((i + 1 : Nat) : Int)) := Lib.hid (by have := HKL.out; have := HLE.out; rw [wrap64_id _ (by omega) (by omega)]; rfl)
          have hun2 : k = 6 ∨ (k ≠ 6 ∧ ks.getD k false = false) := by
            by_cases h6 : k = 6
            · exact .inl h6
            · exact .inr ⟨h6, hun h6⟩
          clear hlc hCx hox hb hk ci hrd hk0 hk7 hun
          have HXC := Lib.hid x0
          rcases hun2 with h6 | ⟨h6, hun⟩
          · subst h6
            clear k1 k2 k3 k4 k5 k6 k7 k9 k10
            go_wp2_with (go_at_call 36; go_must (refine (kind_calls A2 c4 b _ HCX.out HLC.out HOX.out.1 HOX.out.2).mono ?_; rw [HK.out]; rintro e w5 ⟨rfl, hb5⟩; have I5 := Lib.hid (hI.out.on hb5); have s5 := (blk_cell I5.out.seen 6).trans (seenC_kind ks I5.out.len 6 K8.out); have r5 := blk_frozen I5.out.seen 6; clear hb5 x0))
            have I6 := Lib.hid (I5.out.put 6 K8.out (by rw [HB.out]; exact HK.out))
            clear I5 s5 r5 hI
            go_loopg [4] (l.length + 1) (fun kq v4 w' => ∃ n : Nat, v4 = .int .i64 (n : Int) ∧ Hid (at_ ≤ n ∧ kq + n = l.length + 1 + at_) ∧ Hid (FewI w l out w3.heap.size (i + 1) i n (ks.set 6 true) (some ad) w'))
            case atStart => exact ⟨at_, rfl, Lib.hid ⟨Nat.le_refl _, rfl⟩, I6⟩
            case round =>
              clear I6
              obtain ⟨n, rfl, hn, hI⟩ := hrel
              have cn := hI.out.there HCI.out
              have HCN := Lib.hid cn
              have d1b : decide ((n : Int) < (l.length : Int)) = true := decide_eq_true (by omega)
              have d2b : decide (n < l.length) = true := decide_eq_true cn
              have d3b : decide ((n : Int) ≥ (l.length : Int)) = false := decide_eq_false (by omega)
              have d4b : decide ((l.length : Int) ≤ (n : Int)) = false := decide_eq_false (by omega)
              have d5b : decide (l.length ≤ n) = false := decide_eq_false (by omega)
              have q0 : (0 ≤ (n : Int)) = True := eq_true (by omega)
              have q1 : ((n : Int) < (l.length : Int)) = True := eq_true (by omega)
              have q2 : (n < l.length) = True := eq_true cn
              obtain ⟨K2, rfl⟩ : ∃ k1, gk = k1 + 1 := ⟨gk - 1, by have := hn.out; omega⟩
              obtain ⟨ad2, A4, c5, rfl, y0, ylc, yC⟩ := at_L1 (Kd.C_below HC.out hI.out.below) (n : Int) (by omega) (by omega)
              rw [Int.toNat_natCast] at y0
              have yrd : rd_L1 l (n : Int) = l.getD n [] := by unfold rd_L1; rw [Int.toNat_natCast]
              rw [yrd] at y0 ylc yC
              have yox := HOL.out (l.getD n []) (by rw [getD_at cn]; exact List.getElem_mem _)
              obtain ⟨ad3, A5, c6, e_, x0, xlc, xC⟩ := at_L1 (Kd.F_now hI.out.row) (i : Int) (by omega) (by have := HCI.out; omega)
              injection e_ with e_
              subst e_
              rw [Int.toNat_natCast] at x0
              have xrd : rd_L1 out (i : Int) = b := by rw [← HB.out]; unfold rd_L1; rw [Int.toNat_natCast]
              rw [xrd] at x0 xlc xC
              obtain ⟨y, hy⟩ : ∃ y, l.getD n [] = y := ⟨_, rfl⟩
              rw [hy] at y0 ylc yC yox
              have s0 : ∀ k, (convert 22 9 (.slice A4 y.length c5)).run Try.prog (wr.drewN k) = .ok (.string (strOfNums y)) (wr.drewN k) := fun k => Kd.C_string (P := Try.prog) Try.underlying22 Try.underlying5 Try.underlying9 (c := c5) (Kd.C_drewN yC k)
              have s1 : ∀ k, (convert 22 9 (.slice A5 b.length c6)).run Try.prog (wr.drewN k) = .ok (.string (strOfNums b)) (wr.drewN k) := fun k => Kd.C_string (P := Try.prog) Try.underlying22 Try.underlying5 Try.underlying9 (c := c6) (Kd.C_drewN xC k)
              have hse := str_beq yox.1 HOX.out.1
              obtain ⟨sy, hsy⟩ : ∃ sy, strOfNums y = sy := ⟨_, rfl⟩
              obtain ⟨sb, hsb⟩ : ∃ sb, strOfNums b = sb := ⟨_, rfl⟩
              rw [hsy, hsb] at hse
              rw [hsy] at s0
              rw [hsb] at s1
              have HY := Lib.hid hy
              clear ylc yC yox xlc xC xrd yrd hsy hsb hy cn
              by_cases hyb : y = b
              · have t1 : (sy.toList == sb.toList) = true := by rw [hse]; exact decide_eq_true hyb
                have t2 : (sy.toList != sb.toList) = false := by rw [bne, t1]; rfl
                have t3 : (sy.toList = sb.toList) = True := eq_true (by simpa using t1)
                clear hyb hse
                go_wp2
                go_quiet (fail)
                go_wp2
                go_roundg K1
                case measure => omega
                case rel => exact ⟨i + 1, n, _, rfl, congrArg (Value.int .i64) E1.out, Lib.hid ⟨HCI.out, by have := hi.out; omega⟩, Lib.hid ((hI.out.hit HCI.out).on (pw_below_drewN (Below.refl _ _) _))⟩
              · have t1 : (sy.toList == sb.toList) = false := by rw [hse]; exact decide_eq_false hyb
                have t2 : (sy.toList != sb.toList) = true := by rw [bne, t1]; rfl
                have t3 : (sy.toList = sb.toList) = False := eq_false (fun e => by rw [e] at t1; simp at t1)
                have HYB := Lib.hid hyb
                clear hyb hse
                go_wp2
                go_quiet (fail)
                go_wp2
                go_roundg K2
                case measure => omega
                case rel => exact ⟨n + 1, congrArg (Value.int .i64) (by have := HCN.out; have := HLE.out; unfold wrap64; omega), Lib.hid ⟨by have := hn.out; omega, by have := hn.out; omega⟩, Lib.hid ((hI.out.miss HCI.out HCN.out (by rw [HY.out, HB.out]; exact HYB.out)).on (pw_below_drewN (Below.refl _ _) _))⟩
          · have n6 : ((k : Int) = 6) = False := eq_false (by omega)
            have m6 : ((k : Int) == 6) = false := beq_eq_false_iff_ne.mpr (by omega)
            have m7 : (k = 6) = False := eq_false h6
            have HUN := Lib.hid hun
            clear h6 hun
            go_wp2_with (go_at_call 36; go_must (refine (kind_calls A2 c4 b _ HCX.out HLC.out HOX.out.1 HOX.out.2).mono ?_; rw [HK.out]; rintro e w5 ⟨rfl, hb5⟩; have I5 := Lib.hid (hI.out.on hb5); have s5 := (blk_cell I5.out.seen k).trans (seenC_kind ks I5.out.len k K8.out); rw [HUN.out] at s5; have r5 := blk_frozen I5.out.seen k; clear hb5 x0))
            have I6 := Lib.hid (I5.out.put k K8.out (by rw [HB.out]; exact HK.out))
            clear I5 s5 r5 hI
            go_loopg [4] (l.length + 1) (fun kq v4 w' => ∃ n : Nat, v4 = .int .i64 (n : Int) ∧ Hid (at_ ≤ n ∧ kq + n = l.length + 1 + at_) ∧ Hid (FewI w l out w3.heap.size (i + 1) i n (ks.set k true) (some ad) w'))
            case atStart => exact ⟨at_, rfl, Lib.hid ⟨Nat.le_refl _, rfl⟩, I6⟩
            case round =>
              clear I6
              obtain ⟨n, rfl, hn, hI⟩ := hrel
              have cn := hI.out.there HCI.out
              have HCN := Lib.hid cn
              have d1b : decide ((n : Int) < (l.length : Int)) = true := decide_eq_true (by omega)
              have d2b : decide (n < l.length) = true := decide_eq_true cn
              have d3b : decide ((n : Int) ≥ (l.length : Int)) = false := decide_eq_false (by omega)
              have d4b : decide ((l.length : Int) ≤ (n : Int)) = false := decide_eq_false (by omega)
              have d5b : decide (l.length ≤ n) = false := decide_eq_false (by omega)
              have q0 : (0 ≤ (n : Int)) = True := eq_true (by omega)
              have q1 : ((n : Int) < (l.length : Int)) = True := eq_true (by omega)
              have q2 : (n < l.length) = True := eq_true cn
              obtain ⟨K2, rfl⟩ : ∃ k1, gk = k1 + 1 := ⟨gk - 1, by have := hn.out; omega⟩
              obtain ⟨ad2, A4, c5, rfl, y0, ylc, yC⟩ := at_L1 (Kd.C_below HC.out hI.out.below) (n : Int) (by omega) (by omega)
              rw [Int.toNat_natCast] at y0
              have yrd : rd_L1 l (n : Int) = l.getD n [] := by unfold rd_L1; rw [Int.toNat_natCast]
              rw [yrd] at y0 ylc yC
              have yox := HOL.out (l.getD n []) (by rw [getD_at cn]; exact List.getElem_mem _)
              obtain ⟨ad3, A5, c6, e_, x0, xlc, xC⟩ := at_L1 (Kd.F_now hI.out.row) (i : Int) (by omega) (by have := HCI.out; omega)
              injection e_ with e_
              subst e_
              rw [Int.toNat_natCast] at x0
              have xrd : rd_L1 out (i : Int) = b := by rw [← HB.out]; unfold rd_L1; rw [Int.toNat_natCast]
              rw [xrd] at x0 xlc xC
              obtain ⟨y, hy⟩ : ∃ y, l.getD n [] = y := ⟨_, rfl⟩
              rw [hy] at y0 ylc yC yox
              have s0 : ∀ k, (convert 22 9 (.slice A4 y.length c5)).run Try.prog (wr.drewN k) = .ok (.string (strOfNums y)) (wr.drewN k) := fun k => Kd.C_string (P := Try.prog) Try.underlying22 Try.underlying5 Try.underlying9 (c := c5) (Kd.C_drewN yC k)
              have s1 : ∀ k, (convert 22 9 (.slice A5 b.length c6)).run Try.prog (wr.drewN k) = .ok (.string (strOfNums b)) (wr.drewN k) := fun k => Kd.C_string (P := Try.prog) Try.underlying22 Try.underlying5 Try.underlying9 (c := c6) (Kd.C_drewN xC k)
              have hse := str_beq yox.1 HOX.out.1
              obtain ⟨sy, hsy⟩ : ∃ sy, strOfNums y = sy := ⟨_, rfl⟩
              obtain ⟨sb, hsb⟩ : ∃ sb, strOfNums b = sb := ⟨_, rfl⟩
              rw [hsy, hsb] at hse
              rw [hsy] at s0
              rw [hsb] at s1
              have HY := Lib.hid hy
              clear ylc yC yox xlc xC xrd yrd hsy hsb hy cn
              by_cases hyb : y = b
              · have t1 : (sy.toList == sb.toList) = true := by rw [hse]; exact decide_eq_true hyb
                have t2 : (sy.toList != sb.toList) = false := by rw [bne, t1]; rfl
                have t3 : (sy.toList = sb.toList) = True := eq_true (by simpa using t1)
                clear hyb hse
                go_wp2
                go_quiet (fail)
                go_wp2
                go_roundg K1
                case measure => omega
                case rel => exact ⟨i + 1, n, _, rfl, congrArg (Value.int .i64) E1.out, Lib.hid ⟨HCI.out, by have := hi.out; omega⟩, Lib.hid ((hI.out.hit HCI.out).on (pw_below_drewN (Below.refl _ _) _))⟩
              · have t1 : (sy.toList == sb.toList) = false := by rw [hse]; exact decide_eq_false hyb
                have t2 : (sy.toList != sb.toList) = true := by rw [bne, t1]; rfl
                have t3 : (sy.toList = sb.toList) = False := eq_false (fun e => by rw [e] at t1; simp at t1)
                have HYB := Lib.hid hyb
                clear hyb hse
                go_wp2
                go_quiet (fail)
                go_wp2
                go_roundg K2
                case measure => omega
                case rel => exact ⟨n + 1, congrArg (Value.int .i64) (by have := HCN.out; have := HLE.out; unfold wrap64; omega), Lib.hid ⟨by have := hn.out; omega, by have := hn.out; omega⟩, Lib.hid ((hI.out.miss HCI.out HCN.out (by rw [HY.out, HB.out]; exact HYB.out)).on (pw_below_drewN (Below.refl _ _) _))⟩
        · have e1 : decide ((i : Int) < (out.length : Int)) = false := decide_eq_false (by omega)
          have e2 : decide (i < out.length) = false := decide_eq_false ci
          go_wp2
          go_ret
          exact ⟨rfl, hI.out.below⟩
  · cases h
end Go.Proofs.Ytfdpbdaekfdnjaa.X
/- Arguments opened: what reads as data of a kind stands in memory as the print's words say it. -/
namespace Go.Proofs.Ytfdpbdaekfdnjaa.X
open Go.ChangeShapes Go.WideShapes Go.Deep
open Go.RowKit Go.Proofs.YtfdpbdaekfdnjaaW.PrintWords Go.Proofs.YtfdpbdaekfdnjaaW.PrintLast Go.Proofs.YtfdpbdaekfdnjaaW.PrintMore
set_option linter.unusedVariables false
set_option linter.unusedSimpArgs false

section
variable {H : Type} {enc : TypeId × Value → H} {P : Program} {w : World}

/-- What reads as data of type t is of kind d: some x, well formed, whose measure is at most the datum's bulk. -/
def Opens {α : Type} (enc : TypeId × Value → H) (P : Program) (w : World) (t : TypeId) (d : Kd α) (wf : α → Prop) (μ : α → Nat) : Prop :=
  ∀ (n : Nat) (cs : List Value) (y : DataW H × List MemPlace), DataW.trod enc P w 0 (fun _ => true) true n t cs = some y → ∃ x, d.K w x cs ∧ wf x ∧ μ x ≤ Rows.uptoBulk y.1

theorem Opens.int {t : TypeId} {k : IntKind} (hu : P.underlying t = some (.int k)) : Opens enc P w t (Kd.int k) (fun x => (Lit.int k x).wf = true) (fun _ => 1) := fun n cs y h => by
  obtain ⟨x, rfl, rfl, hw⟩ := DataW.trod_int hu h
  exact ⟨x, rfl, hw, by simp [Rows.uptoBulk]⟩
theorem Opens.bool {t : TypeId} (hu : P.underlying t = some .bool) : Opens enc P w t Kd.bool (fun _ => True) (fun _ => 1) := fun n cs y h => by
  obtain ⟨x, rfl, rfl⟩ := DataW.trod_bool hu h
  exact ⟨x, rfl, trivial, by simp [Rows.uptoBulk]⟩
theorem Opens.string {t : TypeId} (hu : P.underlying t = some .string) : Opens enc P w t Kd.string (fun _ => True) (fun s => s.size + 1) := fun n cs y h => by
  obtain ⟨x, rfl, rfl, hw⟩ := DataW.trod_string hu h
  exact ⟨x, rfl, trivial, by simp [Rows.uptoBulk]⟩

def sumM {α : Type} (μ : α → Nat) : List α → Nat
  | [] => 0
  | x :: l => μ x + sumM μ l
theorem sumM_append {α : Type} (μ : α → Nat) (l r : List α) : sumM μ (l ++ r) = sumM μ l + sumM μ r := by
  induction l with
  | nil => simp [sumM]
  | cons x l ih => simp only [List.cons_append, sumM, ih]; omega
theorem sumM_mem {α : Type} (μ : α → Nat) {l : List α} {x : α} (h : x ∈ l) : μ x ≤ sumM μ l := by
  induction l with
  | nil => cases h
  | cons y l ih =>
    simp only [sumM]
    rcases List.mem_cons.1 h with rfl | h
    · omega
    · have := ih h; omega
theorem sumM_len {α : Type} (μ : α → Nat) (hμ : ∀ x, 1 ≤ μ x) (l : List α) : l.length ≤ sumM μ l := by
  induction l with
  | nil => simp [sumM]
  | cons x l ih => have := hμ x; simp only [sumM, List.length_cons]; omega
theorem bulkAll_append (l r : List (DataW H)) : Rows.uptoBulkAll (l ++ r) = Rows.uptoBulkAll l + Rows.uptoBulkAll r := by
  induction l with
  | nil => simp [Rows.uptoBulkAll]
  | cons x l ih => simp only [List.cons_append, Rows.uptoBulkAll, ih]; omega
theorem sumM_range {α : Type} (μ : α → Nat) (X : Nat → α) (D : Nat → DataW H) : ∀ n, (∀ i, i < n → μ (X i) ≤ Rows.uptoBulk (D i)) → sumM μ ((List.range n).map X) ≤ Rows.uptoBulkAll ((List.range n).map D)
  | 0, _ => by simp [sumM]
  | n + 1, h => by
    have ih := sumM_range μ X D n (fun i hi => h i (by omega))
    have := h n (by omega)
    rw [List.range_succ, List.map_append, List.map_append, sumM_append, bulkAll_append]
    simp only [List.map_cons, List.map_nil, sumM, Rows.uptoBulkAll]
    omega

theorem Opens.slice {α : Type} [Inhabited α] {t e : TypeId} {d : Kd α} {wf : α → Prop} {μ : α → Nat} (ht : P.underlying t = some (.slice e)) (hsz : P.cellsOf e = d.sz) (h : Opens enc P w e d wf μ) :
    Opens enc P w t (Kd.slice e d) (fun xs => ∀ x ∈ xs, wf x) (fun xs => sumM μ xs + 1) := fun n cs y hy => by
  rcases open_slice ht hy with ⟨rfl, rfl⟩ | ⟨a, len, cap, m, n', D, Pl, rfl, _, hl, hm, hmm, rfl, hi⟩
  · exact ⟨[], ⟨none, 0, rfl, Nat.le_refl _, Kd.C_nil d w⟩, (fun x hx => by cases hx), by simp [Rows.uptoBulk, sumM]⟩
  · have hm' : m = cap := by simpa using hmm
    subst hm'
    obtain ⟨X, hX⟩ := choose_lt (α := α) (p := fun i x => ∃ cs', w.cells? 0 (a.add (i * P.cellsOf e)) (P.cellsOf e) = some cs' ∧ d.K w x cs' ∧ wf x ∧ μ x ≤ Rows.uptoBulk (D i)) (fun i hlt => by
      obtain ⟨cs', h1, h2⟩ := hi i hlt
      obtain ⟨x, k1, k2, k3⟩ := h n' cs' _ h2
      exact ⟨x, cs', h1, k1, k2, k3⟩)
    have hm63 : m ≤ 9223372036854775807 := by simpa [maxLen] using hm
    refine ⟨(List.range len).map X, ⟨some a, m, by simp, by simpa using hl, by simp, by simp; omega, fun _ => ⟨a, rfl, fun j p hj => ?_⟩⟩, ?_, ?_⟩
    · have hjl : j < len := by have := (List.getElem?_eq_some_iff.1 hj).1; simpa using this
      have hp : p = X j := by simpa [hjl] using hj.symm
      subst hp
      obtain ⟨cs', h1, k1, _, _⟩ := hX j (by omega)
      obtain ⟨_, hlen, hc⟩ := World.cells?_some h1
      rw [hsz] at hlen hc
      refine ⟨cs', hlen, k1, fun i u hu => ?_⟩
      have hil : i < d.sz := by have := (List.getElem?_eq_some_iff.1 hu).1; omega
      rw [← Go.Deep.add_add, hc i hil]
      exact hu
    · intro x hx
      obtain ⟨i, hi', rfl⟩ := List.mem_map.1 hx
      obtain ⟨_, _, _, k2, _⟩ := hX i (by have := List.mem_range.1 hi'; omega)
      exact k2
    · have := sumM_range μ X D len (fun i hi' => by obtain ⟨_, _, _, _, k3⟩ := hX i (by omega); exact k3)
      simp only [Rows.uptoBulk]
      omega

/-- A top argument that is a slice. -/
theorem Opens.arg_slice {α : Type} {t e : TypeId} {d : Kd α} {wf : List α → Prop} {μ : List α → Nat} {a : Option Addr} {len cap : Nat} {D : DataW H} {ps : List MemPlace}
    (h : Opens enc P w t (Kd.slice e d) wf μ) (ht : DataW.Trod enc P w 0 (fun _ => true) true t (.slice a len cap) D ps) : ∃ xs, len = xs.length ∧ len ≤ cap ∧ d.C w a xs.length xs ∧ wf xs ∧ μ xs ≤ Rows.uptoBulk D := by
  obtain ⟨fuel, hf⟩ := ht
  obtain ⟨xs, ⟨A, c, he, hc, hC⟩, h2, h3⟩ := h fuel _ _ hf
  simp [Value.cells] at he
  obtain ⟨rfl, rfl, rfl⟩ := he
  exact ⟨xs, rfl, hc, hC, h2, h3⟩
/-- .. and no longer than its weight allows. -/
theorem sized_any {t e : TypeId} {a : Option Addr} {len cap : Nat} {d : DataW H} {ps : List MemPlace} {ts : List TypeId} {ds : List (DataW H)} {j : Nat}
    (hsz : (DataW.weightsEach P ts ds).all (· ≤ reachBytes) = true) (ht : ts[j]? = some t) (hd : ds[j]? = some d) (hu : P.underlying t = some (.slice e)) {B : Nat} (hB : P.bytesOf e = B)
    (h : DataW.Trod enc P w 0 (fun _ => true) true t (.slice a len cap) d ps) : cap * B ≤ 140737488351232 := by
  obtain ⟨fuel, hf⟩ := h
  rcases open_slice hu hf with ⟨hcs, _⟩ | ⟨a', len', cap', m, n', D, Pl, hcs, _, hl, hm, hmm, hx, _⟩
  · simp [Value.cells] at hcs
    obtain ⟨rfl, rfl, rfl⟩ := hcs
    simp
  · simp [Value.cells] at hcs
    obtain ⟨rfl, rfl, rfl⟩ := hcs
    have hm' : m = cap := by simpa using hmm
    subst hm'
    simp only [Prod.mk.injEq] at hx
    obtain ⟨rfl, _⟩ := hx
    have z := sized_slice hsz ht hd hu
    rw [hB] at z
    have e1 : ((List.range len).map D).length + ((List.range (m - len)).map fun j => D (len + j)).length = m := by simp; omega
    rw [e1] at z
    exact z
end
end Go.Proofs.Ytfdpbdaekfdnjaa.X
/- The law DiskLasts, walked: what was flushed is there behind a crash. -/
namespace Go.Proofs.Ytfdpbdaekfdnjaa.X
open Go.RowKit Go.Proofs.YtfdpbdaekfdnjaaW.PrintWords Go.Proofs.YtfdpbdaekfdnjaaW.PrintLast Go.Proofs.YtfdpbdaekfdnjaaW.PrintMore
set_option linter.unusedVariables false
set_option linter.unusedSimpArgs false
theorem str_append (a b : List Int) : strOfNums a ++ strOfNums b = strOfNums (a ++ b) := by
  apply ByteArray.ext
  rw [ByteArray.data_append]
  unfold strOfNums
  simp
theorem str_take (xs : List Int) (k : Nat) : ((strOfNums xs).extract 0 k) = strOfNums (xs.take k) := by
  apply ByteArray.ext
  rw [ByteArray.data_extract]
  unfold strOfNums
  simp [List.map_take]
def mootlaw12_DiskLasts.f (l0 l1 : List Int) (a2 : Int) : Option Bool := if l0.length ≤ 140737488351232 ∧ l1.length ≤ 140737488351232 then some true else none
set_option maxRecDepth 100000 in
set_option maxHeartbeats 4000000 in
theorem mootlaw12_DiskLasts.calls (A0 : Option Addr) (c0 : Nat) (l0 : List Int) (A1 : Option Addr) (c1 : Nat) (l1 : List Int) (a2 : Int) (r : Bool) (w : World) (hr0 : Kd.C (Kd.int .u8) w A0 l0.length l0) (hc0 : l0.length ≤ c0) (hr1 : Kd.C (Kd.int .u8) w A1 l1.length l1) (hc1 : l1.length ≤ c1) (h : mootlaw12_DiskLasts.f l0 l1 a2 = some r) :
    Calls Try.prog 3 #[.slice A0 l0.length c0, .slice A1 l1.length c1, .int .i64 a2] w fun e w' => e = .returned (.bool r) ∧ Below w.heap.size w w' := by
  unfold mootlaw12_DiskLasts.f at h
  by_cases hs : l0.length ≤ 140737488351232 ∧ l1.length ≤ 140737488351232
  · rw [if_pos hs] at h
    obtain rfl := Option.some.inj h
    obtain ⟨hs0, hs1⟩ := hs
    clear h
    have e0 : wrap64 ((l0.length : Int) + l1.length) = (l0.length : Int) + l1.length := by unfold wrap64; omega
    go_enter Try.func3, Try.ntmps3
    by_cases hc : 1000 < l0.length + l1.length
    · have b0 : decide ((1000 : Int) < (l0.length : Int) + l1.length) = true := decide_eq_true (by omega)
      go_wp2_with (first | (go_at_call 14; go_must ((with_reducible refine (alive12_calls _).mono ?_); rintro e w1 ⟨rfl, hb⟩)))
      go_ret
      exact ⟨rfl, hb⟩
    · have b0 : decide ((1000 : Int) < (l0.length : Int) + l1.length) = false := decide_eq_false (by omega)
      obtain ⟨m, hm⟩ : ∃ m, l0.length + keepN a2 (l0 ++ l1).length l0.length = m := ⟨_, rfl⟩
      have hk := keepN_le a2 (l0 ++ l1).length l0.length (by simp)
      obtain ⟨t, ht⟩ : ∃ t, (l0 ++ l1).take m = t := ⟨_, rfl⟩
      have HT := Lib.hid ht
      have HM := Lib.hid hm
      have HC := Lib.hid hc
      have HK := Lib.hid hk
      have hlen : l0.length ≤ t.length ∧ t.length ≤ l0.length + l1.length ∧ t.length = m := by
        have := HT.out
        have := HM.out
        have := HK.out
        rw [← HT.out, List.length_take]
        simp only [List.length_append] at *
        omega
      have hx : ((strOfNums l0 ++ strOfNums l1).extract 0 (strOfNums t).size).toList = (strOfNums t).toList := by
        rw [str_append, str_take, strOfNums_size, hlen.2.2, HT.out]
      have hlz : (((t.length : Int) - m) == 0) = true := beq_iff_eq.mpr (by omega)
      have HX := Lib.hid hx
      have HLEN := Lib.hid hlen
      have HLZ := Lib.hid hlz
      clear hx hlen hlz
      have HR0 := Lib.hid hr0
      have HR1 := Lib.hid hr1
      have hlim : (9223372036854775807 < (strOfNums l0).size + (strOfNums l1).size) = False := eq_false (by rw [strOfNums_size, strOfNums_size]; omega)
      clear ht hm hc hk hr0 hr1
      go_wp2_with (first | (go_at_call 14; go_must ((with_reducible refine (alive12_calls _).mono ?_); rintro e w1 ⟨rfl, hb⟩)) | (go_at_call 15; (with_reducible refine (DS.new hb 1000 1000 (by decide)).mono ?_); rintro e w2 ⟨rfl, h2⟩; clear hb) | (go_at_call 16; (with_reducible refine (DS.append h2 A0 c0 l0 (Kd.C_below HR0.out h2.below) 0 l0 (fun h => absurd h (by have := HC.out; simp only [List.length_nil]; omega)) (fun h => ⟨rfl, by simp⟩)).mono ?_); rintro e w3 ⟨rfl, h3⟩; clear h2) | (go_at_call 17; (with_reducible refine h3.flush.mono ?_); rintro e w4 ⟨rfl, h4⟩; clear h3) | (go_at_call 16; (with_reducible refine (DS.append h4 A1 c1 l1 (Kd.C_below HR1.out h4.below) 0 (l0 ++ l1) (fun h => absurd h (by have := HC.out; omega)) (fun h => ⟨rfl, rfl⟩)).mono ?_); rintro e w5 ⟨rfl, h5⟩; clear h4) | (go_at_call 18; (with_reducible refine (h5.crash a2 m HM.out).mono ?_); rintro e w6 ⟨rfl, h6⟩; rw [HT.out] at h6; clear h5; have s0 := Kd.C_string (P := Try.prog) Try.underlying22 Try.underlying5 Try.underlying9 (c := c0) (Kd.C_below HR0.out h6.below); have s1 := Kd.C_string (P := Try.prog) Try.underlying22 Try.underlying5 Try.underlying9 (c := c1) (Kd.C_below HR1.out h6.below)) | (go_at_call 19; (with_reducible refine h6.read.mono ?_); rintro e w7 ⟨Ar, cr, rfl, hcr, hCr, h7, _⟩; have s2 := Kd.C_string (P := Try.prog) Try.underlying22 Try.underlying5 Try.underlying9 (c := cr) hCr; clear h6) | (go_at_call 20; (with_reducible refine h7.loose.mono ?_); rintro e w8 ⟨rfl, h8, _⟩))
      all_goals go_ret
      all_goals first | exact ⟨rfl, h8.below⟩ | exact ⟨congrArg (fun b => Ending.returned (.bool b)) HLZ.out, h8.below⟩ | (exfalso; have := HLEN.out; first | (exact absurd HX.out ‹_›) | (simp only [strOfNums_size] at *; omega))
  · rw [if_neg hs] at h
    cases h
end Go.Proofs.Ytfdpbdaekfdnjaa.X
/- The struct of type 45 (Op), as the print words a struct; and DS's calls that tell more. -/
namespace Go.Proofs.Ytfdpbdaekfdnjaa.X
open Go.RowKit Go.Proofs.YtfdpbdaekfdnjaaW.PrintWords Go.Proofs.YtfdpbdaekfdnjaaW.PrintLast Go.Proofs.YtfdpbdaekfdnjaaW.PrintMore
set_option linter.unusedVariables false
set_option linter.unusedSimpArgs false
structure S45 where
  f0 : Int
  f1 : Int
  f2 : List Int
def z45 : S45 := ⟨(0 : Int), (0 : Int), ([] : List Int)⟩
def k45 : Kd S45 := Kd.iso (Kd.pair (Kd.int .i64) (Kd.pair (Kd.int .i64) (Kd.slice 5 (Kd.int .u8)))) (fun x : S45 => (x.f0, x.f1, x.f2))
theorem k45_open {w : World} {x : S45} {cs : List Value} (h : k45.K w x cs) : ∃ A2 c2, cs = [.int .i64 x.f0, .int .i64 x.f1, .slice A2 x.f2.length c2] ∧ x.f2.length ≤ c2 ∧ (Kd.int .u8).C w A2 x.f2.length x.f2 := by
  obtain ⟨_, _, rfl, rfl, ⟨_, _, rfl, rfl, ⟨A3, c3, rfl, l3, g3⟩⟩⟩ := h
  exact ⟨A3, c3, rfl, l3, g3⟩
theorem k45_mk (w : World) (x : S45) {A2 : Option Addr} {c2 : Nat} (l2 : x.f2.length ≤ c2) (g2 : (Kd.int .u8).C w A2 x.f2.length x.f2) : k45.K w x [.int .i64 x.f0, .int .i64 x.f1, .slice A2 x.f2.length c2] := ⟨[.int .i64 x.f0], [.int .i64 x.f1, .slice A2 x.f2.length c2], rfl, rfl, ⟨[.int .i64 x.f1], [.slice A2 x.f2.length c2], rfl, rfl, ⟨A2, c2, rfl, l2, g2⟩⟩⟩
def rd_T45 (xs : List S45) (i : Int) : S45 := xs.getD i.toNat z45
theorem at_T45 {w : World} {A : Option Addr} {n : Nat} {xs : List S45} (h : Kd.C k45 w A n xs) (i : Int) (h0 : 0 ≤ i) (h1 : i < n) : ∃ ad A2 c2, A = some ad ∧ w.cell? (ad.add (i.toNat * 3)) = some (.int .i64 (rd_T45 xs i).f0) ∧ w.cell? ⟨(ad.add (i.toNat * 3)).block, (ad.add (i.toNat * 3)).off + 1, none⟩ = some (.int .i64 (rd_T45 xs i).f1) ∧ w.cell? ⟨(ad.add (i.toNat * 3)).block, (ad.add (i.toNat * 3)).off + 2, none⟩ = some (.slice A2 (rd_T45 xs i).f2.length c2) ∧ (rd_T45 xs i).f2.length ≤ c2 ∧ (Kd.int .u8).C w A2 (rd_T45 xs i).f2.length (rd_T45 xs i).f2 := by
  obtain ⟨ad, c, e, _, hK, hc0⟩ := Kd.C_get h z45 i h0 h1
  have hc : ∀ j u, c[j]? = some u → w.cell? (ad.add (i.toNat * 3 + j)) = some u := hc0
  obtain ⟨A2, c2, rfl, l2, g2⟩ := k45_open hK
  exact ⟨ad, A2, c2, e, hc 0 _ rfl, by rw [← add_field _ _ 1 (by omega)]; exact hc 1 _ rfl, by rw [← add_field _ _ 2 (by omega)]; exact hc 2 _ rfl, l2, g2⟩
theorem i45 : (Try.prog.info? 45).map (fun i => (i.zero, i.size)) = some (some (.agg #[.int .i64 0, .int .i64 0, .slice none 0 0]), 3) := by kernel_rfl
theorem s45 : (Try.prog.info? 45).map (·.size) = some 3 := by kernel_rfl
theorem one45 (a b : Int) (A : Option Addr) (n c : Nat) : #[Value.int .i64 a, .int .i64 b, .slice A n c].all (·.oneCell') = true := by simp [Value.oneCell']
theorem DS.crash2 {w W : World} {g : Nat} {xs : List Int} {sure : Nat} {room : Int} (h : DS w W g xs sure room) (keep : Int) (m : Nat) (hm : sure + keepN keep xs.length sure = m) :
    Calls Try.prog 18 #[.pointer (some ⟨g, 0, none⟩), .int .i64 keep] W fun e w' => e = .returned (.tuple #[]) ∧ DS w w' g (xs.take m) m room ∧ Touch (· = g) W w' := by
  obtain ⟨v, hd⟩ := h.d
  have hk := keepN_le keep xs.length sure h.hs
  refine (crash_calls W w.heap.size g v xs sure room keep hd h.hs).mono ?_
  rintro e w' ⟨rfl, v1, hd1, ht, _⟩
  rw [hm] at hd1 hk
  have hx := h.hx
  exact ⟨rfl, ⟨⟨v1, hd1⟩, ht.below h.below (fun k hk => by rw [hk]; exact hd.ge), by rw [List.length_take]; omega, h.r0, h.r1, by rw [List.length_take]; omega⟩, ht⟩
theorem DS.cut_no {w W : World} {g : Nat} {xs : List Int} {sure : Nat} {room : Int} (h : DS w W g xs sure room) (n : Int) (hn : ¬ (0 ≤ n ∧ n ≤ xs.length)) :
    Calls Try.prog 28 #[.pointer (some ⟨g, 0, none⟩), .int .i64 n] W fun e w' => e = .returned (.int .i64 4) ∧ DS w w' g xs sure room := by
  obtain ⟨v, hd⟩ := h.d
  refine (cut_calls W w.heap.size g v xs sure room n hd).mono ?_
  rintro e w' ⟨h1, _⟩
  obtain ⟨rfl, rfl⟩ := h1 hn
  exact ⟨rfl, h⟩
theorem DS.cut_yes {w W : World} {g : Nat} {xs : List Int} {sure : Nat} {room : Int} (h : DS w W g xs sure room) (n : Nat) (hn : n ≤ xs.length) :
    Calls Try.prog 28 #[.pointer (some ⟨g, 0, none⟩), .int .i64 (n : Int)] W fun e w' => e = .returned (.int .i64 0) ∧ DS w w' g (xs.take n) n room := by
  obtain ⟨v, hd⟩ := h.d
  refine (cut_calls W w.heap.size g v xs sure room n hd).mono ?_
  rintro e w' ⟨_, h2⟩
  obtain ⟨rfl, v1, hd1, ht, _⟩ := h2 ⟨by omega, by omega⟩
  rw [Int.toNat_natCast] at hd1
  have hx := h.hx
  exact ⟨rfl, ⟨v1, hd1⟩, ht.below h.below (fun k hk => by rw [hk]; exact hd.ge), by rw [List.length_take]; omega, h.r0, h.r1, by rw [List.length_take]; omega⟩
end Go.Proofs.Ytfdpbdaekfdnjaa.X
/- A list of Ops opened, with the bound that its weights give to each text in it. -/
namespace Go.Proofs.Ytfdpbdaekfdnjaa.X
open Go.ChangeShapes Go.WideShapes Go.Deep
open Go.RowKit Go.Proofs.YtfdpbdaekfdnjaaW.PrintWords Go.Proofs.YtfdpbdaekfdnjaaW.PrintLast Go.Proofs.YtfdpbdaekfdnjaaW.PrintMore
set_option linter.unusedVariables false
set_option linter.unusedSimpArgs false
section
variable {H : Type} {enc : TypeId × Value → H} {P : Program} {w : World}
/-- What reads as data of type t, no part of which weighs more than an address reaches, is of kind d. -/
def OpensW {α : Type} (enc : TypeId × Value → H) (P : Program) (w : World) (t : TypeId) (d : Kd α) (wf : α → Prop) : Prop :=
  ∀ (n : Nat) (cs : List Value) (y : DataW H × List MemPlace), DataW.trod enc P w 0 (fun _ => true) true n t cs = some y → (∀ m ∈ y.1.weights P t, m ≤ reachBytes) → ∃ x, d.K w x cs ∧ wf x
theorem weightsAll_mem {e : TypeId} {d : DataW H} {m : Nat} : ∀ {l : List (DataW H)}, d ∈ l → m ∈ d.weights P e → m ∈ DataW.weightsAll P e l
  | x :: l, hd, hm => by
    simp only [DataW.weightsAll, List.mem_append]
    rcases List.mem_cons.1 hd with rfl | h
    · exact Or.inl hm
    · exact Or.inr (weightsAll_mem h hm)
theorem OpensW.slice {α : Type} [Inhabited α] {t e : TypeId} {d : Kd α} {wf : α → Prop} (ht : P.underlying t = some (.slice e)) (hsz : P.cellsOf e = d.sz) (h : OpensW enc P w e d wf) :
    OpensW enc P w t (Kd.slice e d) (fun xs => ∀ x ∈ xs, wf x) := fun n cs y hy hw => by
  rcases open_slice ht hy with ⟨rfl, rfl⟩ | ⟨a, len, cap, m, n', D, Pl, rfl, _, hl, hm, hmm, rfl, hi⟩
  · exact ⟨[], ⟨none, 0, rfl, Nat.le_refl _, Kd.C_nil d w⟩, (fun x hx => by cases hx)⟩
  · have hm' : m = cap := by simpa using hmm
    subst hm'
    obtain ⟨X, hX⟩ := choose_lt (α := α) (n := len) (p := fun i x => ∃ cs', w.cells? 0 (a.add (i * P.cellsOf e)) (P.cellsOf e) = some cs' ∧ d.K w x cs' ∧ wf x) (fun i hlt => by
      obtain ⟨cs', h1, h2⟩ := hi i (by omega)
      obtain ⟨x, k1, k2⟩ := h n' cs' _ h2 (fun q hq => hw q (by
        simp only [DataW.weights, ht, List.mem_cons, List.mem_append]
        exact Or.inr (Or.inl (weightsAll_mem (List.mem_map.2 ⟨i, List.mem_range.2 hlt, rfl⟩) hq))))
      exact ⟨x, cs', h1, k1, k2⟩)
    have hm63 : m ≤ 9223372036854775807 := by simpa [maxLen] using hm
    refine ⟨(List.range len).map X, ⟨some a, m, by simp, by simpa using hl, by simp, by simp; omega, fun _ => ⟨a, rfl, fun j p hj => ?_⟩⟩, ?_⟩
    · have hjl : j < len := by have := (List.getElem?_eq_some_iff.1 hj).1; simpa using this
      have hp : p = X j := by simpa [hjl] using hj.symm
      subst hp
      obtain ⟨cs', h1, k1, _⟩ := hX j hjl
      obtain ⟨_, hlen, hc⟩ := World.cells?_some h1
      rw [hsz] at hlen hc
      refine ⟨cs', hlen, k1, fun i u hu => ?_⟩
      have hil : i < d.sz := by have := (List.getElem?_eq_some_iff.1 hu).1; omega
      rw [← Go.Deep.add_add, hc i hil]
      exact hu
    · intro x hx
      obtain ⟨i, hi', rfl⟩ := List.mem_map.1 hx
      obtain ⟨_, _, _, k2⟩ := hX i (List.mem_range.1 hi')
      exact k2
theorem OpensW.arg_slice {α : Type} {t e : TypeId} {d : Kd α} {wf : List α → Prop} {a : Option Addr} {len cap : Nat} {D : DataW H} {ps : List MemPlace} {ts : List TypeId} {ds : List (DataW H)} {j : Nat}
    (h : OpensW enc P w t (Kd.slice e d) wf) (hsz : (DataW.weightsEach P ts ds).all (· ≤ reachBytes) = true) (hj : ts[j]? = some t) (hd : ds[j]? = some D) (ht : DataW.Trod enc P w 0 (fun _ => true) true t (.slice a len cap) D ps) : ∃ xs, len = xs.length ∧ len ≤ cap ∧ d.C w a xs.length xs ∧ wf xs ∧ True := by
  obtain ⟨fuel, hf⟩ := ht
  obtain ⟨xs, ⟨A, c, he, hc, hC⟩, h2⟩ := h fuel _ _ hf (fun m hm => by
    have := List.all_eq_true.1 hsz _ (DataW.weights_mem_each hj hd m hm)
    simpa using this)
  simp [Value.cells] at he
  obtain ⟨rfl, rfl, rfl⟩ := he
  exact ⟨xs, rfl, hc, hC, h2, trivial⟩
end
instance : Inhabited S45 := ⟨z45⟩
theorem OpensW.T45 {H : Type} {enc : TypeId × Value → H} {w : World} : OpensW enc Try.prog w 45 k45 (fun x => x.f2.length ≤ 140737488351232) := fun n cs y h hwt => by
  obtain ⟨xs, m, _, hy, hlen, hxl, hg⟩ := DataW.trod_struct Try.underlying45 h
  have hcs : cs.length = 3 := hlen.trans (by kernel_rfl)
  match cs, hcs with
  | [c0, c1, c2], _ =>
  match xs, hxl with
  | [y0, y1, y2], _ =>
    have g0 : DataW.trod enc Try.prog w 0 (fun _ => true) true m 3 (([c0, c1, c2].drop 0).take (Try.prog.cellsOf 3)) = some y0 := hg 0 _ rfl
    rw [show Try.prog.cellsOf 3 = 1 from by kernel_rfl] at g0
    have g1 : DataW.trod enc Try.prog w 0 (fun _ => true) true m 3 (([c0, c1, c2].drop 1).take (Try.prog.cellsOf 3)) = some y1 := hg 1 _ rfl
    rw [show Try.prog.cellsOf 3 = 1 from by kernel_rfl] at g1
    have g2 : DataW.trod enc Try.prog w 0 (fun _ => true) true m 22 (([c0, c1, c2].drop 2).take (Try.prog.cellsOf 22)) = some y2 := hg 2 _ rfl
    rw [show Try.prog.cellsOf 22 = 1 from by kernel_rfl] at g2
    obtain ⟨x0, q0, w0, m0⟩ := (Opens.int Try.underlying3) _ [c0] _ g0
    obtain ⟨x1, q1, w1, m1⟩ := (Opens.int Try.underlying3) _ [c1] _ g1
    obtain ⟨x2, q2, w2, m2⟩ := (Opens.slice Try.underlying22 (by kernel_rfl) (Opens.int Try.underlying5)) _ [c2] _ g2
    have u0 : [c0] = [.int .i64 x0] := q0
    simp only [List.cons.injEq, and_true] at u0
    subst u0
    have u1 : [c1] = [.int .i64 x1] := q1
    simp only [List.cons.injEq, and_true] at u1
    subst u1
    obtain ⟨A2, p2, u2, lq2, gq2⟩ := q2
    simp only [List.cons.injEq, and_true] at u2
    subst u2
    refine ⟨⟨x0, x1, x2⟩, k45_mk w ⟨x0, x1, x2⟩ lq2 gq2, ?_⟩
    subst hy
    have hall : (DataW.weightsEach Try.prog [3, 3, 22] [y0.1, y1.1, y2.1]).all (· ≤ reachBytes) = true := by
      refine List.all_eq_true.2 fun q hq => ?_
      have := hwt q (by simpa [DataW.weights, Try.underlying45] using hq)
      simpa using this
    have := sized_any (enc := enc) (w := w) (P := Try.prog) (a := A2) (len := x2.length) (cap := p2) (d := y2.1) (ps := y2.2) hall (j := 2) (t := 22) rfl rfl Try.underlying22 (B := 1) (by kernel_rfl) ⟨m, g2⟩
    show x2.length ≤ 140737488351232
    have lq : x2.length ≤ p2 := lq2
    omega
end Go.Proofs.Ytfdpbdaekfdnjaa.X
/- A list of rows opened, with the bound that its weights give to each row in it. -/
namespace Go.Proofs.Ytfdpbdaekfdnjaa.X
open Go.ChangeShapes Go.WideShapes Go.Deep
open Go.RowKit Go.Proofs.YtfdpbdaekfdnjaaW.PrintWords Go.Proofs.YtfdpbdaekfdnjaaW.PrintLast Go.Proofs.YtfdpbdaekfdnjaaW.PrintMore
set_option linter.unusedVariables false
set_option linter.unusedSimpArgs false
theorem OpensW.T22 {H : Type} {enc : TypeId × Value → H} {w : World} : OpensW enc Try.prog w 22 (Kd.slice 5 (Kd.int .u8)) (fun x => (∀ z ∈ x, (Lit.int .u8 z).wf = true) ∧ x.length ≤ 140737488351232) := fun n cs y h hwt => by
  obtain ⟨x2, q2, w2, m2⟩ := (Opens.slice Try.underlying22 (by kernel_rfl) (Opens.int Try.underlying5)) _ cs _ h
  obtain ⟨A2, p2, u2, lq2, gq2⟩ := q2
  subst u2
  refine ⟨x2, ⟨A2, p2, rfl, lq2, gq2⟩, w2, ?_⟩
  have hall : (DataW.weightsEach Try.prog [22] [y.1]).all (· ≤ reachBytes) = true := by
    refine List.all_eq_true.2 fun q hq => ?_
    have := hwt q (by simpa [DataW.weightsEach] using hq)
    simpa using this
  have := sized_any (enc := enc) (w := w) (P := Try.prog) (a := A2) (len := x2.length) (cap := p2) (d := y.1) (ps := y.2) hall (j := 0) (t := 22) rfl rfl Try.underlying22 (B := 1) (by kernel_rfl) ⟨n, h⟩
  omega
end Go.Proofs.Ytfdpbdaekfdnjaa.X
/- The law CompactFew over lists. No condition but those of the types and of what an address reaches. -/
namespace Go.Proofs.Ytfdpbdaekfdnjaa.Pure
open Go.RowKit Go.Proofs.Ytfdpbdaekfdnjaa.X
set_option linter.unusedVariables false
theorem CompactFew (l0 : List (List Int)) (w0 : ∀ x ∈ l0, (∀ z ∈ x, (Lit.int .u8 z).wf = true) ∧ x.length ≤ 140737488351232) (z0 : l0.length * 24 ≤ 140737488351232) : mootlaw30_CompactFew.f l0 = some true := by
  unfold mootlaw30_CompactFew.f
  rw [if_pos (fun x hx => ⟨fun z hz => by
    have := (w0 x hx).1 z hz
    simp [Lit.wf, IntKind.min, IntKind.max, IntKind.signed, IntKind.bits] at this
    omega, by have := (w0 x hx).2; omega⟩)]
end Go.Proofs.Ytfdpbdaekfdnjaa.Pure
