/- Texts of this session joined into one: XF11, PureWotsDigits. -/
import Derived.Test.YtclmikbbjhdplaaZSha
import Derived.Test.YtclmikbbjhdplaaZWots
-- Written by a program of this session (a turn of the kit's print with contracts by hand). Not trusted: Lean checks it.
namespace Go.Proofs.Ytclmikbbjhdplaa.X
open Go.RowKit Go.Proofs.YtclmikbbjhdplaaW.PrintWords Go.Proofs.YtclmikbbjhdplaaW.PrintLast Go.Proofs.YtclmikbbjhdplaaW.PrintMore
attribute [local go_sem] max2_int min2_int max_two min_two max_three min_three max_four min_four   -- for this text's walks alone
set_option linter.unusedVariables false
set_option linter.unusedSimpArgs false

/-! ### mootlaw03_WotsDigits: function 11 -/
mutual
def mootlaw03_WotsDigits.l0 : Nat → List Int → Int → Int → Int → Option (Bool)
  | 0, _, _, _, _ => none
  | k + 1, x3, x4, x5, x6 => if x6 < 11 then (mootlaw03_WotsDigits.j1 k x3 x4 x5 x6 ((x3.length : Int) == 11)) else (mootlaw03_WotsDigits.j1 k x3 x4 x5 x6 false)
def mootlaw03_WotsDigits.j1 : Nat → List Int → Int → Int → Int → Bool → Option (Bool)
  | 0, _, _, _, _, _ => none
  | k + 1, x3, x4, x5, x6, x17 => if x17 = true then (if 0 ≤ x6 then (if x6 < (x3.length : Int) then (if (rd x3 x6) < 0 then (mootlaw03_WotsDigits.j2 k x3 x4 x5 x6 true) else (mootlaw03_WotsDigits.j2 k x3 x4 x5 x6 (decide ((rd x3 x6) > 3)))) else (none)) else (none)) else (if (x3.length : Int) = 11 then (some ((wrap64 (x4 + x5)) == 24)) else (some false))
def mootlaw03_WotsDigits.j2 : Nat → List Int → Int → Int → Int → Bool → Option (Bool)
  | 0, _, _, _, _, _ => none
  | k + 1, x3, x4, x5, x6, x31 => if x31 = true then (some false) else (if x6 < 8 then (if 0 ≤ x6 then (if x6 < (x3.length : Int) then (mootlaw03_WotsDigits.l0 k x3 (wrap64 (x4 + (rd x3 x6))) x5 (wrap64 (x6 + 1))) else (none)) else (none)) else (if 0 ≤ x6 then (if x6 < (x3.length : Int) then (mootlaw03_WotsDigits.l0 k x3 x4 (wrap64 ((wrap64 (4 * x5)) + (rd x3 x6))) (wrap64 (x6 + 1))) else (none)) else (none)))
end
def mootlaw03_WotsDigits.f (k : Nat) (l0 : List Int) : Option (Bool) := (mootlaw03_alive.f).bind fun t404 => (if t404 = true then ((wots_Parts.f l0).bind fun t405 => (mootlaw03_WotsDigits.l0 k t405 0 0 0)) else (some false))
theorem mootlaw03_WotsDigits.mono_l : ∀ k, (∀ y0 y1 y2 y3, LeO (mootlaw03_WotsDigits.l0 k y0 y1 y2 y3) (mootlaw03_WotsDigits.l0 (k + 1) y0 y1 y2 y3)) ∧ (∀ y0 y1 y2 y3 y4, LeO (mootlaw03_WotsDigits.j1 k y0 y1 y2 y3 y4) (mootlaw03_WotsDigits.j1 (k + 1) y0 y1 y2 y3 y4)) ∧ (∀ y0 y1 y2 y3 y4, LeO (mootlaw03_WotsDigits.j2 k y0 y1 y2 y3 y4) (mootlaw03_WotsDigits.j2 (k + 1) y0 y1 y2 y3 y4))
  | 0 => ⟨fun _ _ _ _ r h => by simp [mootlaw03_WotsDigits.l0] at h, fun _ _ _ _ _ r h => by simp [mootlaw03_WotsDigits.j1] at h, fun _ _ _ _ _ r h => by simp [mootlaw03_WotsDigits.j2] at h⟩
  | k + 1 => by
    obtain ⟨ih0, ih1, ih2⟩ := mootlaw03_WotsDigits.mono_l k
    refine ⟨?_, ?_, ?_⟩
    · intro y0 y1 y2 y3
      unfold mootlaw03_WotsDigits.l0
      repeat' first
      | (with_reducible exact ih0 _ _ _ _)
      | (with_reducible exact ih1 _ _ _ _ _)
      | (with_reducible exact ih2 _ _ _ _ _)
      | (with_reducible exact LeO.refl _)
      | (with_reducible exact LeO.none _)
      | (with_reducible refine LeO.ite ?_ ?_)
      | (with_reducible refine LeO.bind ?_ (fun _ => ?_))
      | exact ih0 _ _ _ _
      | exact ih1 _ _ _ _ _
      | exact ih2 _ _ _ _ _
      | exact LeO.none _
      | refine LeO.ite ?_ ?_
      | refine LeO.bind ?_ (fun _ => ?_)
    · intro y0 y1 y2 y3 y4
      unfold mootlaw03_WotsDigits.j1
      repeat' first
      | (with_reducible exact ih0 _ _ _ _)
      | (with_reducible exact ih1 _ _ _ _ _)
      | (with_reducible exact ih2 _ _ _ _ _)
      | (with_reducible exact LeO.refl _)
      | (with_reducible exact LeO.none _)
      | (with_reducible refine LeO.ite ?_ ?_)
      | (with_reducible refine LeO.bind ?_ (fun _ => ?_))
      | exact ih0 _ _ _ _
      | exact ih1 _ _ _ _ _
      | exact ih2 _ _ _ _ _
      | exact LeO.none _
      | refine LeO.ite ?_ ?_
      | refine LeO.bind ?_ (fun _ => ?_)
    · intro y0 y1 y2 y3 y4
      unfold mootlaw03_WotsDigits.j2
      repeat' first
      | (with_reducible exact ih0 _ _ _ _)
      | (with_reducible exact ih1 _ _ _ _ _)
      | (with_reducible exact ih2 _ _ _ _ _)
      | (with_reducible exact LeO.refl _)
      | (with_reducible exact LeO.none _)
      | (with_reducible refine LeO.ite ?_ ?_)
      | (with_reducible refine LeO.bind ?_ (fun _ => ?_))
      | exact ih0 _ _ _ _
      | exact ih1 _ _ _ _ _
      | exact ih2 _ _ _ _ _
      | exact LeO.none _
      | refine LeO.ite ?_ ?_
      | refine LeO.bind ?_ (fun _ => ?_)
theorem mootlaw03_WotsDigits.mono : ∀ a0 k, LeO (mootlaw03_WotsDigits.f k a0) (mootlaw03_WotsDigits.f (k + 1) a0) := by
  intro a0 k
  obtain ⟨ih0, ih1, ih2⟩ := mootlaw03_WotsDigits.mono_l k
  unfold mootlaw03_WotsDigits.f
  repeat' first
      | (with_reducible exact ih0 _ _ _ _)
      | (with_reducible exact ih1 _ _ _ _ _)
      | (with_reducible exact ih2 _ _ _ _ _)
      | (with_reducible exact LeO.refl _)
      | (with_reducible exact LeO.none _)
      | (with_reducible refine LeO.ite ?_ ?_)
      | (with_reducible refine LeO.bind ?_ (fun _ => ?_))
      | exact ih0 _ _ _ _
      | exact ih1 _ _ _ _ _
      | exact ih2 _ _ _ _ _
      | exact LeO.none _
      | refine LeO.ite ?_ ?_
      | refine LeO.bind ?_ (fun _ => ?_)
set_option maxHeartbeats 8000000 in
set_option maxRecDepth 100000 in
theorem mootlaw03_WotsDigits.calls (k : Nat) (A0 : Option Addr) (c0 : Nat) (l0 : List Int) (r : Bool) (w : World) (hr0 : Kd.C (Kd.int .u8) w A0 l0.length l0) (hc0 : l0.length ≤ c0) (h : mootlaw03_WotsDigits.f k l0 = some r) :
    Calls Try.prog 11 #[.slice A0 l0.length c0] w fun e w' => e = .returned (.bool r) ∧ Below w.heap.size w w' := by
  have HR0 := Aside0.mk hr0
  have HC0 := Aside0.mk hc0
  clear hr0 hc0
  have HB := Aside0.mk (Below.refl w.heap.size w)
  have H : ((mootlaw03_alive.f).bind fun t404 => (if t404 = true then ((wots_Parts.f l0).bind fun t405 => (mootlaw03_WotsDigits.l0 k t405 0 0 0)) else (some false))) = some r := h
  clear h
  replace H := Option.bind_eq_some_iff.mp H
  obtain ⟨t404, A20, H⟩ := H
  replace H : (if t404 = true then ((wots_Parts.f l0).bind fun t405 => (mootlaw03_WotsDigits.l0 k t405 0 0 0)) else (some false)) = some r := H
  have A2 := Aside0.mk A20
  clear A20
  by_cases c3 : t404 = true
  · subst c3
    have H1 : ((wots_Parts.f l0).bind fun t405 => (mootlaw03_WotsDigits.l0 k t405 0 0 0)) = some r := by rw [if_pos rfl] at H; exact H
    clear H
    have H := H1
    clear H1
    replace H := Option.bind_eq_some_iff.mp H
    obtain ⟨t405, A40, H⟩ := H
    replace H : (mootlaw03_WotsDigits.l0 k t405 0 0 0) = some r := H
    have A4 := Aside0.mk A40
    clear A40
    have H' := Aside0.mk H
    clear H
    go_enter Try.func11, Try.ntmps11
    go_wp2_with (first | ((with_reducible refine gate_callee (f := 24) rfl ?_); refine goesL_ (some 7) rfl rfl Try.func24 (by kernel_rfl) rfl #[] rfl (by (try simp only [List.map_toArray, List.map_cons, List.map_nil]); first | done | rfl | (simp only [List.length_drop, List.length_take]; rfl)) ?_; (with_reducible refine (mootlaw03_alive.calls  true _ A2.out).mono ?_); rintro e w5 ⟨rfl, hb⟩; refine ⟨_, rfl, ?_⟩; have n0_ := Aside0.mk (below_step (by repeat (first | (with_reducible first | exact HB.out | apply below_alloc | apply pw_below_drewN | apply below_drew1) | exact HB.out)) hb); clear HB; have HB := n0_; clear n0_; (try clear hb); (try clear hb2); (try clear hk); (try clear hi)) | ((with_reducible refine gate_callee (f := 38) rfl ?_); refine goesL_ (some 10) rfl rfl Try.func38 (by kernel_rfl) rfl #[.slice A0 l0.length c0] rfl (by (try simp only [List.map_toArray, List.map_cons, List.map_nil]); first | done | rfl | (simp only [List.length_drop, List.length_take]; rfl)) ?_; (with_reducible refine (wots_Parts.calls _ _ l0 t405 _ ?side1 ?side2 A4.out).mono ?_); (case side1 => repeat (first | exact (Kd.C_below HR0.out HB.out) | (with_reducible refine Kd.C_alloc ?_ _) | (with_reducible refine Kd.C_drewN ?_ _) | (with_reducible refine Kd.C_drew ?_))); (case side2 => exact HC0.out); rintro e w6 ⟨v406, rfl, ho0, hb⟩; refine ⟨_, rfl, ?_⟩; have n0_ := Aside0.mk (Kd.R_lower ho0 (below_size (by repeat (first | (with_reducible first | exact HB.out | apply below_alloc | apply pw_below_drewN | apply below_drew1) | exact HB.out)))); have n1_ := Aside0.mk (below_step (by repeat (first | (with_reducible first | exact HB.out | apply below_alloc | apply pw_below_drewN | apply below_drew1) | exact HB.out)) hb); clear HB; have HO407 := n0_; have HB := n1_; clear n0_ n1_; (try clear hb); (try clear hb2); (try clear hk); (try clear hi); (try clear ho0)))
    go_loopg [4, 5, 6] k (fun kq v4 v5 v6 w' => ∃ (x4_1 : Int) (x5_1 : Int) (x6_1 : Int), v4 = .int .i64 x4_1 ∧ v5 = .int .i64 x5_1 ∧ v6 = .int .i64 x6_1 ∧ Aside0 (mootlaw03_WotsDigits.l0 kq t405 x4_1 x5_1 x6_1 = some r) ∧ Aside0 (kq ≤ k) ∧ Aside0 (Kd.R (Kd.int .i64) 3 w' w.heap.size (fun _ => True) v406 t405) ∧ Aside0 (Below w.heap.size w w'))
    case atStart => exact ⟨(0), (0), (0), (by first | rfl | (simp; done) | (simp [*]; done)), (by first | rfl | (simp; done) | (simp [*]; done)), (by first | rfl | (simp; done) | (simp [*]; done)), H', ⟨Nat.le_refl _⟩, ⟨by (with_reducible repeat (first | apply Kd.R_alloc | apply Kd.R_drewN | apply Kd.R_drew)); exact HO407.out⟩, ⟨by repeat (first | (with_reducible first | exact HB.out | apply below_alloc | apply pw_below_drewN | apply below_drew1) | exact HB.out)⟩⟩
    case round =>
      clear H'
      try clear c1
      try clear c2
      try clear p2
      try clear c3
      obtain ⟨x4_1, x5_1, x6_1, rfl, rfl, rfl, HA, HK1, HO_3, HB⟩ := hrel
      cases gk with
      | zero => exact absurd HA.out (by simp [mootlaw03_WotsDigits.l0])
      | succ k1 =>
        have H := HA.out
        clear HA
        simp only [mootlaw03_WotsDigits.l0] at H
        have HC7 := Aside0.mk H
        clear H
        go_upto_region 6 with (fail)
        go_cut [17] (fun v17 wc => ∃ (kq : Nat) (x17_6 : Bool), v17 = .bool x17_6 ∧ Aside0 (mootlaw03_WotsDigits.j1 kq t405 x4_1 x5_1 x6_1 x17_6 = some r) ∧ Aside0 (kq ≤ k1) ∧ Aside0 (Kd.R (Kd.int .i64) 3 wc w.heap.size (fun _ => True) v406 t405) ∧ Aside0 (Below w.heap.size w wc))
        case first =>
          have H := HC7.out
          clear HC7
          by_cases c8 : x6_1 < 11
          · rw [if_pos c8] at H
            have c8b0 : decide (x6_1 < 11) = true := decide_eq_true c8
            clear c8
            (first | rw [c8b0] | (simp only [i64_w, i32_w]; rw [c8b0]) | skip)
            have H' := Aside0.mk H
            clear H
            obtain ⟨Ao9, co9, eo9⟩ := Kd.R_slice HO_3.out
            subst eo9
            go_wp2
            go_meet
            case rel => exact ⟨_, (((t405.length : Int) == 11)), (by first | rfl | (simp; done) | (simp [*]; done)), H', ⟨by have := HK1.out; first | omega | exact Nat.le_refl _⟩, ⟨by (with_reducible repeat (first | apply Kd.R_alloc | apply Kd.R_drewN | apply Kd.R_drew)); exact HO_3.out⟩, ⟨by repeat (first | (with_reducible first | exact HB.out | apply below_alloc | apply pw_below_drewN | apply below_drew1) | exact HB.out)⟩⟩
          · rw [if_neg c8] at H
            have c8b0 : decide (x6_1 < 11) = false := decide_eq_false c8
            clear c8
            (first | rw [c8b0] | (simp only [i64_w, i32_w]; rw [c8b0]) | skip)
            have H' := Aside0.mk H
            clear H
            go_wp2
            go_meet
            case rel => exact ⟨_, (false), (by first | rfl | (simp; done) | (simp [*]; done)), H', ⟨by have := HK1.out; first | omega | exact Nat.le_refl _⟩, ⟨by (with_reducible repeat (first | apply Kd.R_alloc | apply Kd.R_drewN | apply Kd.R_drew)); exact HO_3.out⟩, ⟨by repeat (first | (with_reducible first | exact HB.out | apply below_alloc | apply pw_below_drewN | apply below_drew1) | exact HB.out)⟩⟩
        case rest =>
          clear HC7
          try clear c1
          try clear c2
          try clear p2
          try clear c3
          try clear c8
          try clear c8b0
          try clear p2
          obtain ⟨kq, x17_6, rfl, HA, HJ6, HO_3, HB⟩ := hcut
          cases kq with
          | zero => exact absurd HA.out (by simp [mootlaw03_WotsDigits.j1])
          | succ kj6 =>
            have H := HA.out
            clear HA
            simp only [mootlaw03_WotsDigits.j1] at H
            by_cases c10 : x17_6 = true
            · subst c10
              have H1 : (if 0 ≤ x6_1 then (if x6_1 < (t405.length : Int) then (if (rd t405 x6_1) < 0 then (mootlaw03_WotsDigits.j2 kj6 t405 x4_1 x5_1 x6_1 true) else (mootlaw03_WotsDigits.j2 kj6 t405 x4_1 x5_1 x6_1 (decide ((rd t405 x6_1) > 3)))) else (none)) else (none)) = some r := by rw [if_pos rfl] at H; exact H
              clear H
              have H := H1
              clear H1
              have HC11 := Aside0.mk H
              clear H
              go_upto_region 8 with (fail)
              go_cut [31] (fun v31 wc => ∃ (kq : Nat) (x31_10 : Bool), v31 = .bool x31_10 ∧ Aside0 (mootlaw03_WotsDigits.j2 kq t405 x4_1 x5_1 x6_1 x31_10 = some r) ∧ Aside0 (kq ≤ kj6) ∧ Aside0 (Kd.R (Kd.int .i64) 3 wc w.heap.size (fun _ => True) v406 t405) ∧ Aside0 (Below w.heap.size w wc))
              case first =>
                have H := HC11.out
                clear HC11
                by_cases c12 : 0 ≤ x6_1
                · rw [if_pos c12] at H
                  have c12b0 : decide (0 ≤ x6_1) = true := decide_eq_true c12
                  clear c12
                  (first | rw [c12b0] | (simp only [i64_w, i32_w]; rw [c12b0]) | skip)
                  by_cases c13 : x6_1 < (t405.length : Int)
                  · rw [if_pos c13] at H
                    have c13b0 : decide (x6_1 < (t405.length : Int)) = true := decide_eq_true c13
                    clear c13
                    by_cases c14 : (rd t405 x6_1) < 0
                    · rw [if_pos c14] at H
                      have c14b0 : decide ((rd t405 x6_1) < 0) = true := decide_eq_true c14
                      clear c14
                      have H' := Aside0.mk H
                      clear H
                      obtain ⟨Ao15, co15, eo15⟩ := Kd.R_slice HO_3.out
                      subst eo15
                      have p408 : 0 ≤ (x6_1 : Int) := of_decide_eq_true (by first | (with_reducible assumption) | assumption)
                      have q408 : x6_1 < (t405.length : Int) := of_decide_eq_true (by first | (with_reducible assumption) | assumption)
                      obtain ⟨ad408, e408, hx408_0⟩ := Kd.at_int (Kd.R_reads' HO_3.out).2.2 x6_1 p408 q408
                      cases e408
                      replace p408 := eq_true p408
                      replace q408 := eq_true q408
                      go_wp2
                      go_meet
                      case rel => exact ⟨_, (true), (by first | rfl | (simp; done) | (simp [*]; done)), H', ⟨by have := HK1.out; have := HJ6.out; first | omega | exact Nat.le_refl _⟩, ⟨by (with_reducible repeat (first | apply Kd.R_alloc | apply Kd.R_drewN | apply Kd.R_drew)); exact HO_3.out⟩, ⟨by repeat (first | (with_reducible first | exact HB.out | apply below_alloc | apply pw_below_drewN | apply below_drew1) | exact HB.out)⟩⟩
                    · rw [if_neg c14] at H
                      have c14b0 : decide ((rd t405 x6_1) < 0) = false := decide_eq_false c14
                      clear c14
                      have H' := Aside0.mk H
                      clear H
                      obtain ⟨Ao16, co16, eo16⟩ := Kd.R_slice HO_3.out
                      subst eo16
                      have p408 : 0 ≤ (x6_1 : Int) := of_decide_eq_true (by first | (with_reducible assumption) | assumption)
                      have q408 : x6_1 < (t405.length : Int) := of_decide_eq_true (by first | (with_reducible assumption) | assumption)
                      obtain ⟨ad408, e408, hx408_0⟩ := Kd.at_int (Kd.R_reads' HO_3.out).2.2 x6_1 p408 q408
                      cases e408
                      replace p408 := eq_true p408
                      replace q408 := eq_true q408
                      have p409 : 0 ≤ (x6_1 : Int) := of_decide_eq_true (by first | (with_reducible assumption) | assumption)
                      have q409 : x6_1 < (t405.length : Int) := of_decide_eq_true (by first | (with_reducible assumption) | assumption)
                      obtain ⟨ad409, e409, hx409_0⟩ := Kd.at_int (Kd.R_reads' HO_3.out).2.2 x6_1 p409 q409
                      obtain rfl : ad408 = ad409 := (by injection e409)
                      replace p409 := eq_true p409
                      replace q409 := eq_true q409
                      go_wp2
                      go_meet
                      case rel => exact ⟨_, (decide ((rd t405 x6_1) > 3)), (by first | rfl | (simp; done) | (simp [*]; done)), H', ⟨by have := HK1.out; have := HJ6.out; first | omega | exact Nat.le_refl _⟩, ⟨by (with_reducible repeat (first | apply Kd.R_alloc | apply Kd.R_drewN | apply Kd.R_drew)); exact HO_3.out⟩, ⟨by repeat (first | (with_reducible first | exact HB.out | apply below_alloc | apply pw_below_drewN | apply below_drew1) | exact HB.out)⟩⟩
                  · rw [if_neg c13] at H
                    exact absurd H (by simp)
                · rw [if_neg c12] at H
                  exact absurd H (by simp)
              case rest =>
                clear HC11
                try clear c1
                try clear c2
                try clear p2
                try clear c3
                try clear p4
                try clear q4
                try clear hx4
                try clear c8
                try clear c8b0
                try clear c10
                try clear c11
                try clear c12
                try clear c12b0
                try clear c13
                try clear c13b0
                try clear c14
                try clear c14b0
                try clear hx408_0
                try clear hx409_0
                try clear p2
                try clear p408
                try clear p409
                try clear q408
                try clear q409
                obtain ⟨kq, x31_10, rfl, HA, HJ10, HO_3, HB⟩ := hcut
                cases kq with
                | zero => exact absurd HA.out (by simp [mootlaw03_WotsDigits.j2])
                | succ kj10 =>
                  have H := HA.out
                  clear HA
                  simp only [mootlaw03_WotsDigits.j2] at H
                  by_cases c17 : x31_10 = true
                  · subst c17
                    have H1 : (some false) = some r := by rw [if_pos rfl] at H; exact H
                    clear H
                    have H := H1
                    clear H1
                    obtain rfl := Option.some.inj H
                    go_wp2
                    go_ret
                    exact ⟨by first | rfl | (simp [errW_none, errW_some] <;> rfl) | (simp [*, errW_none, errW_some] <;> rfl), by repeat (first | (with_reducible first | exact HB.out | apply below_alloc | apply pw_below_drewN | apply below_drew1) | exact HB.out)⟩
                  · replace c17 := Bool.eq_false_iff.mpr c17
                    subst c17
                    have H1 : (if x6_1 < 8 then (if 0 ≤ x6_1 then (if x6_1 < (t405.length : Int) then (mootlaw03_WotsDigits.l0 kj10 t405 (wrap64 (x4_1 + (rd t405 x6_1))) x5_1 (wrap64 (x6_1 + 1))) else (none)) else (none)) else (if 0 ≤ x6_1 then (if x6_1 < (t405.length : Int) then (mootlaw03_WotsDigits.l0 kj10 t405 x4_1 (wrap64 ((wrap64 (4 * x5_1)) + (rd t405 x6_1))) (wrap64 (x6_1 + 1))) else (none)) else (none))) = some r := by rw [if_neg (show ¬ (false = true) by decide)] at H; exact H
                    clear H
                    have H := H1
                    clear H1
                    by_cases c18 : x6_1 < 8
                    · rw [if_pos c18] at H
                      have c18b0 : decide (x6_1 < 8) = true := decide_eq_true c18
                      clear c18
                      by_cases c19 : 0 ≤ x6_1
                      · rw [if_pos c19] at H
                        have c19b0 : decide (0 ≤ x6_1) = true := decide_eq_true c19
                        clear c19
                        by_cases c20 : x6_1 < (t405.length : Int)
                        · rw [if_pos c20] at H
                          have c20b0 : decide (x6_1 < (t405.length : Int)) = true := decide_eq_true c20
                          clear c20
                          have H' := Aside0.mk H
                          clear H
                          obtain ⟨Ao21, co21, eo21⟩ := Kd.R_slice HO_3.out
                          subst eo21
                          have p410 : 0 ≤ (x6_1 : Int) := of_decide_eq_true (by first | (with_reducible assumption) | assumption)
                          have q410 : x6_1 < (t405.length : Int) := of_decide_eq_true (by first | (with_reducible assumption) | assumption)
                          obtain ⟨ad410, e410, hx410_0⟩ := Kd.at_int (Kd.R_reads' HO_3.out).2.2 x6_1 p410 q410
                          cases e410
                          replace p410 := eq_true p410
                          replace q410 := eq_true q410
                          go_wp2
                          go_roundg kj10
                          case measure => have := HK1.out; have := HJ6.out; have := HJ10.out; omega
                          case rel => exact ⟨(wrap64 (x4_1 + (rd t405 x6_1))), (x5_1), (wrap64 (x6_1 + 1)), (by first | rfl | (simp; done) | (simp [*]; done)), (by first | rfl | (simp; done) | (simp [*]; done)), (by first | rfl | (simp; done) | (simp [*]; done)), H', ⟨by have := HK1.out; have := HJ6.out; have := HJ10.out; omega⟩, ⟨by (with_reducible repeat (first | apply Kd.R_alloc | apply Kd.R_drewN | apply Kd.R_drew)); exact HO_3.out⟩, ⟨by repeat (first | (with_reducible first | exact HB.out | apply below_alloc | apply pw_below_drewN | apply below_drew1) | exact HB.out)⟩⟩
                        · rw [if_neg c20] at H
                          exact absurd H (by simp)
                      · rw [if_neg c19] at H
                        exact absurd H (by simp)
                    · rw [if_neg c18] at H
                      have c18b0 : decide (x6_1 < 8) = false := decide_eq_false c18
                      clear c18
                      by_cases c22 : 0 ≤ x6_1
                      · rw [if_pos c22] at H
                        have c22b0 : decide (0 ≤ x6_1) = true := decide_eq_true c22
                        clear c22
                        by_cases c23 : x6_1 < (t405.length : Int)
                        · rw [if_pos c23] at H
                          have c23b0 : decide (x6_1 < (t405.length : Int)) = true := decide_eq_true c23
                          clear c23
                          have H' := Aside0.mk H
                          clear H
                          obtain ⟨Ao24, co24, eo24⟩ := Kd.R_slice HO_3.out
                          subst eo24
                          have p411 : 0 ≤ (x6_1 : Int) := of_decide_eq_true (by first | (with_reducible assumption) | assumption)
                          have q411 : x6_1 < (t405.length : Int) := of_decide_eq_true (by first | (with_reducible assumption) | assumption)
                          obtain ⟨ad411, e411, hx411_0⟩ := Kd.at_int (Kd.R_reads' HO_3.out).2.2 x6_1 p411 q411
                          cases e411
                          replace p411 := eq_true p411
                          replace q411 := eq_true q411
                          go_wp2
                          go_roundg kj10
                          case measure => have := HK1.out; have := HJ6.out; have := HJ10.out; omega
                          case rel => exact ⟨(x4_1), (wrap64 ((wrap64 (4 * x5_1)) + (rd t405 x6_1))), (wrap64 (x6_1 + 1)), (by first | rfl | (simp; done) | (simp [*]; done)), (by first | rfl | (simp; done) | (simp [*]; done)), (by first | rfl | (simp; done) | (simp [*]; done)), H', ⟨by have := HK1.out; have := HJ6.out; have := HJ10.out; omega⟩, ⟨by (with_reducible repeat (first | apply Kd.R_alloc | apply Kd.R_drewN | apply Kd.R_drew)); exact HO_3.out⟩, ⟨by repeat (first | (with_reducible first | exact HB.out | apply below_alloc | apply pw_below_drewN | apply below_drew1) | exact HB.out)⟩⟩
                        · rw [if_neg c23] at H
                          exact absurd H (by simp)
                      · rw [if_neg c22] at H
                        exact absurd H (by simp)
            · replace c10 := Bool.eq_false_iff.mpr c10
              subst c10
              have H1 : (if (t405.length : Int) = 11 then (some ((wrap64 (x4_1 + x5_1)) == 24)) else (some false)) = some r := by rw [if_neg (show ¬ (false = true) by decide)] at H; exact H
              clear H
              have H := H1
              clear H1
              by_cases c25 : (t405.length : Int) = 11
              · rw [if_pos c25] at H
                have c25b0 : ((t405.length : Int) == 11) = true := beq_iff_eq.mpr c25
                have c25b1 : ((t405.length : Int) != 11) = false := bne_eq_false_iff_eq.mpr c25
                clear c25
                obtain rfl := Option.some.inj H
                obtain ⟨Ao26, co26, eo26⟩ := Kd.R_slice HO_3.out
                subst eo26
                go_wp2
                go_ret
                exact ⟨by first | rfl | (simp [errW_none, errW_some] <;> rfl) | (simp [*, errW_none, errW_some] <;> rfl), by repeat (first | (with_reducible first | exact HB.out | apply below_alloc | apply pw_below_drewN | apply below_drew1) | exact HB.out)⟩
              · rw [if_neg c25] at H
                have c25b0 : ((t405.length : Int) == 11) = false := beq_eq_false_iff_ne.mpr c25
                have c25b1 : ((t405.length : Int) != 11) = true := bne_iff_ne.mpr c25
                obtain rfl := Option.some.inj H
                obtain ⟨Ao27, co27, eo27⟩ := Kd.R_slice HO_3.out
                subst eo27
                go_wp2
                go_ret
                exact ⟨by first | rfl | (simp [errW_none, errW_some] <;> rfl) | (simp [*, errW_none, errW_some] <;> rfl), by repeat (first | (with_reducible first | exact HB.out | apply below_alloc | apply pw_below_drewN | apply below_drew1) | exact HB.out)⟩
  · replace c3 := Bool.eq_false_iff.mpr c3
    subst c3
    have H1 : (some false) = some r := by rw [if_neg (show ¬ (false = true) by decide)] at H; exact H
    clear H
    have H := H1
    clear H1
    obtain rfl := Option.some.inj H
    go_enter Try.func11, Try.ntmps11
    go_wp2_with (first | ((with_reducible refine gate_callee (f := 24) rfl ?_); refine goesL_ (some 7) rfl rfl Try.func24 (by kernel_rfl) rfl #[] rfl (by (try simp only [List.map_toArray, List.map_cons, List.map_nil]); first | done | rfl | (simp only [List.length_drop, List.length_take]; rfl)) ?_; (with_reducible refine (mootlaw03_alive.calls  false _ A2.out).mono ?_); rintro e w28 ⟨rfl, hb⟩; refine ⟨_, rfl, ?_⟩; have n0_ := Aside0.mk (below_step (by repeat (first | (with_reducible first | exact HB.out | apply below_alloc | apply pw_below_drewN | apply below_drew1) | exact HB.out)) hb); clear HB; have HB := n0_; clear n0_; (try clear hb); (try clear hb2); (try clear hk); (try clear hi)))
    go_ret
    exact ⟨by first | rfl | (simp [errW_none, errW_some] <;> rfl) | (simp [*, errW_none, errW_some] <;> rfl), by repeat (first | (with_reducible first | exact HB.out | apply below_alloc | apply pw_below_drewN | apply below_drew1) | exact HB.out)⟩

/-- THE ONE PURE STATEMENT of mootlaw03_WotsDigits: yours. -/
def mootlaw03_WotsDigits.Pure : Prop := ∀ (l0 : List Int), l0.length ≤ maxLen → l0.length * 1 ≤ 140737488351232 → (∀ x ∈ l0, (Lit.int .u8 x).wf = true) → ∃ k, mootlaw03_WotsDigits.f k l0 = some true
theorem mootlaw03_WotsDigits.walk (P : mootlaw03_WotsDigits.Pure) (a0 : Option Addr) (len0 cap0 : Nat) (z0 : List Int) (w : World) (w0 : (a0 = none ∧ len0 = 0 ∧ cap0 = 0 ∧ z0 = []) ∨ ∃ x, a0 = some x ∧ len0 ≤ cap0 ∧ cap0 ≤ maxLen ∧ z0.length = cap0 ∧ (∀ i, i < z0.length → w.cell? (x.add i) = some (.int .u8 (z0.getD i 0))) ∧ ∀ n ∈ z0, (Lit.int .u8 n).wf = true) (y0 : len0 * 1 ≤ 140737488351232) :
    Calls Try.prog 11 #[.slice a0 len0 cap0] w fun e w' => e = .returned (.bool true) ∧ Below w.heap.size w w' := by
  obtain ⟨l0, rfl, hr0, hm0, hw0, hc0⟩ := ReadsInt.ofRowC w0
  obtain ⟨k, h⟩ := P l0 hm0 y0 hw0
  refine (mootlaw03_WotsDigits.calls k _ _ l0 true w (Kd.C_of_reads (d := (0 : Int)) (h1 := fun _ => rfl) hr0) hc0 h).mono ?_
  rintro e w' ⟨rfl, hd⟩
  exact ⟨rfl, hd⟩

end Go.Proofs.Ytclmikbbjhdplaa.X
/- The law WotsDigits over numbers and lists: digits are from 0 to 3, and all together tell 24. No condition. -/
namespace Go.Proofs.Ytclmikbbjhdplaa.Pure
open Go.RowKit Go.Proofs.Ytclmikbbjhdplaa.X Go.Proofs.YtclmikbbjhdplaaW.PrintWords Go.Proofs.YtclmikbbjhdplaaW.PrintLast Go.Proofs.YtclmikbbjhdplaaW.PrintMore
set_option linter.unusedVariables false
set_option linter.unusedSimpArgs false

theorem low_step (k : Nat) (d : List Int) (s t : Int) (i : Nat) (hd : d.length = 11) (hi : i < 8) (hr : 0 ≤ rd d (i : Int) ∧ rd d (i : Int) ≤ 3) (hs : 0 ≤ s ∧ s ≤ 100) :
    mootlaw03_WotsDigits.l0 (k + 3) d s t (i : Int) = mootlaw03_WotsDigits.l0 k d (s + rd d (i : Int)) t ((i + 1 : Nat) : Int) := by
  have e11 : ((d.length : Int) == 11) = true := by rw [hd]; rfl
  have hw : wrap64 ((i : Int) + 1) = ((i + 1 : Nat) : Int) := by rw [wrap64_id _ (by omega) (by omega)]; rfl
  have hw2 : wrap64 (s + rd d (i : Int)) = s + rd d (i : Int) := wrap64_id _ (by omega) (by omega)
  have e3 : decide (rd d (i : Int) > 3) = false := decide_eq_false (by omega)
  rw [mootlaw03_WotsDigits.l0, if_pos (by omega), e11, mootlaw03_WotsDigits.j1, if_pos rfl, if_pos (by omega), if_pos (by omega), if_neg (by omega), e3, mootlaw03_WotsDigits.j2, if_neg (by simp), if_pos (by omega), if_pos (by omega), if_pos (by omega), hw, hw2]
theorem high_step (k : Nat) (d : List Int) (s t : Int) (i : Nat) (hd : d.length = 11) (h8 : 8 ≤ i) (hi : i < 11) (hr : 0 ≤ rd d (i : Int) ∧ rd d (i : Int) ≤ 3) (ht : 0 ≤ t ∧ t ≤ 100) :
    mootlaw03_WotsDigits.l0 (k + 3) d s t (i : Int) = mootlaw03_WotsDigits.l0 k d s (4 * t + rd d (i : Int)) ((i + 1 : Nat) : Int) := by
  have e11 : ((d.length : Int) == 11) = true := by rw [hd]; rfl
  have hw : wrap64 ((i : Int) + 1) = ((i + 1 : Nat) : Int) := by rw [wrap64_id _ (by omega) (by omega)]; rfl
  have hw1 : wrap64 (4 * t) = 4 * t := wrap64_id _ (by omega) (by omega)
  have hw2 : wrap64 (4 * t + rd d (i : Int)) = 4 * t + rd d (i : Int) := wrap64_id _ (by omega) (by omega)
  have e3 : decide (rd d (i : Int) > 3) = false := decide_eq_false (by omega)
  rw [mootlaw03_WotsDigits.l0, if_pos (by omega), e11, mootlaw03_WotsDigits.j1, if_pos rfl, if_pos (by omega), if_pos (by omega), if_neg (by omega), e3, mootlaw03_WotsDigits.j2, if_neg (by simp), if_neg (by omega), if_pos (by omega), if_pos (by omega), hw, hw1, hw2]
def sumN (d : List Int) : Nat → Int
  | 0 => 0
  | n + 1 => sumN d n + rd d (n : Int)
theorem sumN_range (d : List Int) (hr : ∀ i : Nat, i < 11 → 0 ≤ rd d (i : Int) ∧ rd d (i : Int) ≤ 3) : ∀ n : Nat, n ≤ 11 → 0 ≤ sumN d n ∧ sumN d n ≤ 3 * n
  | 0, _ => by simp [sumN]
  | n + 1, h => by
    have := sumN_range d hr n (by omega)
    have := hr n (by omega)
    simp only [sumN]
    omega
theorem low_loop (d : List Int) (hd : d.length = 11) (hr : ∀ i : Nat, i < 11 → 0 ≤ rd d (i : Int) ∧ rd d (i : Int) ≤ 3) (k : Nat) : ∀ n : Nat, n ≤ 8 → mootlaw03_WotsDigits.l0 (k + 3 * n) d (sumN d (8 - n)) 0 ((8 - n : Nat) : Int) = mootlaw03_WotsDigits.l0 k d (sumN d 8) 0 ((8 : Nat) : Int)
  | 0, _ => rfl
  | n + 1, h => by
    have h1 := sumN_range d hr (8 - (n + 1)) (by omega)
    rw [show k + 3 * (n + 1) = (k + 3 * n) + 3 by omega, low_step _ d _ _ _ hd (by omega) (hr _ (by omega)) (by omega)]
    have e : 8 - (n + 1) + 1 = 8 - n := by omega
    have e2 : sumN d (8 - (n + 1)) + rd d ((8 - (n + 1) : Nat) : Int) = sumN d (8 - n) := by rw [← e]; rfl
    rw [e2, e]
    exact low_loop d hd hr k n (by omega)
theorem WotsDigits : mootlaw03_WotsDigits.Pure := by
  intro l h1 h2 hw
  have hd := partsL_len l
  have hr := partsL_at l
  obtain ⟨d, hdd⟩ : ∃ d, partsL l = d := ⟨_, rfl⟩
  have hsum : sumN d 8 = 24 - lackF (numP l) := by
    rw [← hdd]
    have e : sumN (partsL l) 8 = 0 + dg (numP l) 16384 + dg (numP l) 4096 + dg (numP l) 1024 + dg (numP l) 256 + dg (numP l) 64 + dg (numP l) 16 + dg (numP l) 4 + dg (numP l) 1 := rfl
    rw [e]
    unfold lackF
    omega
  have hlk := (lack8 (numP l)).2
  have t8 : rd d ((8 : Nat) : Int) = dg (lackF (numP l)) 16 := by rw [← hdd]; rfl
  have t9 : rd d ((9 : Nat) : Int) = dg (lackF (numP l)) 4 := by rw [← hdd]; rfl
  have t10 : rd d ((10 : Nat) : Int) = dg (lackF (numP l)) 1 := by rw [← hdd]; rfl
  rw [hdd] at hd hr
  have q8 := hr 8 (by omega)
  have q9 := hr 9 (by omega)
  have q10 := hr 10 (by omega)
  refine ⟨36, ?_⟩
  unfold mootlaw03_WotsDigits.f
  rw [alive03, Option.bind_some, if_pos rfl, parts_f l (by omega), Option.bind_some, hdd]
  have h := low_loop d hd hr 12 8 (by omega)
  have e0 : ((8 - 8 : Nat) : Int) = 0 := rfl
  have es : sumN d (8 - 8) = 0 := rfl
  rw [e0, es] at h
  have h' : mootlaw03_WotsDigits.l0 (12 + 3 * 8) d 0 0 0 = mootlaw03_WotsDigits.l0 36 d 0 0 0 := rfl
  rw [← h', h, high_step 9 d _ _ 8 hd (by omega) (by omega) q8 (by omega), high_step 6 d _ _ 9 hd (by omega) (by omega) q9 (by omega), high_step 3 d _ _ 10 hd (by omega) (by omega) q10 (by omega)]
  have e11 : ((d.length : Int)) = 11 := by rw [hd]; rfl
  rw [mootlaw03_WotsDigits.l0, if_neg (by omega), mootlaw03_WotsDigits.j1, if_neg (by simp), if_pos e11, t8, t9, t10, hsum]
  generalize lackF (numP l) = z at hlk
  unfold dg
  rw [wrap64_id _ (by omega) (by omega)]
  refine congrArg some (beq_iff_eq.mpr ?_)
  omega
end Go.Proofs.Ytclmikbbjhdplaa.Pure
