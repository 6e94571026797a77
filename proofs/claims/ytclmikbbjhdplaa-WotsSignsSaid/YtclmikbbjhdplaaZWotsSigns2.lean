/- Texts of this session joined into one: XF60, HParts, XF21, HSecret, XF22, XF24, XF46, XF25, XF28, XF35, QRef, XF58, QRefSha, HRefInv, HRefR12, HRefR14, HRefR20, HRefR21, HRefSha, XF41, XF61, HRefChain, HRefSecret, XF47. -/
import Derived.Test.YtclmikbbjhdplaaZWotsSigns1
import Derived.Deep.Cut
import Derived.Deep.RegionWith
import Derived.StillTailTactics
import Derived.BigRegion
import Derived.Deep.RegionLaw
import Derived.Deep.RegionHeld3
-- Written by a program of this session (a turn of the kit's print with contracts by hand). Not trusted: Lean checks it.
namespace Go.Proofs.Ytclmikbbjhdplaa.X
open Go.RowKit Go.Proofs.YtclmikbbjhdplaaW.PrintWords Go.Proofs.YtclmikbbjhdplaaW.PrintLast Go.Proofs.YtclmikbbjhdplaaW.PrintMore
attribute [local go_sem] max2_int min2_int max_two min_two max_three min_three max_four min_four   -- for this text's walks alone
set_option linter.unusedVariables false
set_option linter.unusedSimpArgs false

/-! ### wots_digits: function 60 -/
def wots_digits.l0 : Nat → Int → Int → List Int → Int → Int → Option (List Int)
  | 0, _, _, _, _, _ => none
  | k + 1, x0, x1, x5, x10, x11 => if x11 < x10 then (if 0 ≤ (wrap64 (2 * (wrap64 ((wrap64 (x1 - 1)) - x11)))) then (if 0 ≤ x11 then (if x11 < (x5.length : Int) then (wots_digits.l0 k x0 x1 (x5.set (x11 : Int).toNat (Go.bits .and .i64 (shr .i64 x0 (wrap64 (2 * (wrap64 ((wrap64 (x1 - 1)) - x11))))) 3)) x10 (wrap64 (x11 + 1))) else (none)) else (none)) else (none)) else (some x5)
def wots_digits.f (k : Nat) (a0 : Int) (a1 : Int) : Option (List Int) := if 0 ≤ a1 then (if (a1 : Int).toNat ≤ 35184372088832 then ((some (List.replicate (a1 : Int).toNat 0 : List Int)).bind fun y356 => (wots_digits.l0 k a0 a1 y356 (y356.length : Int) 0)) else (none)) else (none)
theorem wots_digits.mono_l : ∀ k, (∀ y0 y1 y2 y3 y4, LeO (wots_digits.l0 k y0 y1 y2 y3 y4) (wots_digits.l0 (k + 1) y0 y1 y2 y3 y4))
  | 0 => fun _ _ _ _ _ r h => by simp [wots_digits.l0] at h
  | k + 1 => by
    have ih0 := wots_digits.mono_l k
    · intro y0 y1 y2 y3 y4
      unfold wots_digits.l0
      repeat' first
      | (with_reducible exact ih0 _ _ _ _ _)
      | (with_reducible exact LeO.refl _)
      | (with_reducible exact LeO.none _)
      | (with_reducible refine LeO.ite ?_ ?_)
      | (with_reducible refine LeO.bind ?_ (fun _ => ?_))
      | exact ih0 _ _ _ _ _
      | exact LeO.none _
      | refine LeO.ite ?_ ?_
      | refine LeO.bind ?_ (fun _ => ?_)
theorem wots_digits.mono : ∀ a0 a1 k, LeO (wots_digits.f k a0 a1) (wots_digits.f (k + 1) a0 a1) := by
  intro a0 a1 k
  have ih0 := wots_digits.mono_l k
  unfold wots_digits.f
  repeat' first
      | (with_reducible exact ih0 _ _ _ _ _)
      | (with_reducible exact LeO.refl _)
      | (with_reducible exact LeO.none _)
      | (with_reducible refine LeO.ite ?_ ?_)
      | (with_reducible refine LeO.bind ?_ (fun _ => ?_))
      | exact ih0 _ _ _ _ _
      | exact LeO.none _
      | refine LeO.ite ?_ ?_
      | refine LeO.bind ?_ (fun _ => ?_)
set_option maxHeartbeats 8000000 in
set_option maxRecDepth 100000 in
theorem wots_digits.calls (k : Nat) (a0 : Int) (a1 : Int) (r : List Int) (w : World) (h : wots_digits.f k a0 a1 = some r) :
    Calls Try.prog 60 #[.int .i64 a0, .int .i64 a1] w fun e w' => ∃ v0_ : Value, e = .returned (v0_) ∧ Kd.R (Kd.int .i64) 3 w' w.heap.size (fun _ => True) v0_ r ∧ Below w.heap.size w w' := by
  have HB := Aside0.mk (Below.refl w.heap.size w)
  have H : (if 0 ≤ a1 then (if (a1 : Int).toNat ≤ 35184372088832 then ((some (List.replicate (a1 : Int).toNat 0 : List Int)).bind fun y356 => (wots_digits.l0 k a0 a1 y356 (y356.length : Int) 0)) else (none)) else (none)) = some r := h
  clear h
  by_cases c3 : 0 ≤ a1
  · rw [if_pos c3] at H
    have c3b0 := eq_true c3
    have c3b1 : decide (0 ≤ a1) = true := decide_eq_true c3
    clear c3
    by_cases c4 : (a1 : Int).toNat ≤ 35184372088832
    · rw [if_pos c4] at H
      have c4b0 := eq_true c4
      have c4b1 : decide ((a1 : Int).toNat ≤ 35184372088832) = true := decide_eq_true c4
      clear c4
      obtain ⟨y356, hy356⟩ : ∃ y_ : List Int, y_ = (List.replicate (a1 : Int).toNat 0) := ⟨_, rfl⟩
      replace H : (wots_digits.l0 k a0 a1 y356 (y356.length : Int) 0) = some r := by first | (rw [hy356]; with_reducible exact H) | (have H2_ := (Option.bind_some _ _).symm.trans H; rw [hy356]; with_reducible exact H2_) | (have H2_ := (Option.bind_some _ _).symm.trans H; with_reducible exact H2_) | with_reducible exact H | (rw [hy356]; exact H) | exact H
      have Ny356 := Aside0.mk hy356
      clear hy356
      have H' := Aside0.mk H
      clear H
      go_enter Try.func60, Try.ntmps60
      go_wp2_with (first | ((with_reducible refine gate_dst (N := 8) rfl ?_); refine Kd.R_make (Kd.int .i64) _ 3 rfl (N := 8) rfl 50 _ _ rfl a1 rfl rfl Try.underlying50 (.int .i64 0) 8 info3 rfl (by decide) (by omega) 0 (ok := fun _ => True) (okp := fun _ => True) rfl (fun _ hk => hk) trivial (of_decide_eq_true (by first | (with_reducible assumption) | assumption)) (Nat.le_trans (Nat.mul_le_mul_right _ (of_decide_eq_true (by first | (with_reducible assumption) | assumption) : a1.toNat ≤ 35184372088832)) (by omega)) (Below.refl _ _) (Nat.le_refl _) ?_; intro v357 w5 ho6 hb hg_ hnew_; clear hg_ hnew_; (first | rw [← Ny356.out] at ho6 | (simp only [Int.reduceToNat] at ho6; rw [← Ny356.out] at ho6)); have n0_ := Aside0.mk (Kd.R_lower ho6 (below_size (by repeat (first | (with_reducible first | exact HB.out | apply below_alloc | apply pw_below_drewN | apply below_drew1) | exact HB.out)))); have n1_ := Aside0.mk (below_step (by repeat (first | (with_reducible first | exact HB.out | apply below_alloc | apply pw_below_drewN | apply below_drew1) | exact HB.out)) hb); clear HB; have HO358 := n0_; have HB := n1_; clear n0_ n1_; clear hb ho6; obtain ⟨Ao7, co7, eo7⟩ := Kd.R_slice HO358.out; subst eo7))
      go_loopg [11] k (fun kq v11 w' => ∃ (x5_1 : List Int) (x11_1 : Int), v11 = .int .i64 x11_1 ∧ Aside0 (wots_digits.l0 kq a0 a1 x5_1 (y356.length : Int) x11_1 = some r) ∧ Aside0 (kq ≤ k) ∧ Aside0 (Kd.R (Kd.int .i64) 3 w' w.heap.size (fun _ => True) (.slice Ao7 y356.length co7) x5_1) ∧ Aside0 (Below w.heap.size w w'))
      case atStart => exact ⟨(y356), (0), (by first | rfl | (simp; done) | (simp [*]; done)), H', ⟨Nat.le_refl _⟩, ⟨by (with_reducible repeat (first | apply Kd.R_alloc | apply Kd.R_drewN | apply Kd.R_drew)); exact HO358.out⟩, ⟨by repeat (first | (with_reducible first | exact HB.out | apply below_alloc | apply pw_below_drewN | apply below_drew1) | exact HB.out)⟩⟩
      case round =>
        clear H'
        try clear p2
        try clear c3
        try clear c3b0
        try clear c3b1
        try clear c4
        try clear c4b0
        try clear c4b1
        try clear c6
        obtain ⟨x5_1, x11_1, rfl, HA, HK1, HO_5, HB⟩ := hrel
        have hl5_1 := (Kd.R_reads' HO_5.out).1
        rw [hl5_1] at HO_5
        (try simp only [hl5_1])
        cases gk with
        | zero => exact absurd HA.out (by simp [wots_digits.l0])
        | succ k1 =>
          have H := HA.out
          clear HA
          simp only [wots_digits.l0] at H
          by_cases c8 : x11_1 < (y356.length : Int)
          · rw [if_pos c8] at H
            have c8b0 : decide (x11_1 < (y356.length : Int)) = true := decide_eq_true c8
            clear c8
            obtain ⟨ji9, hji9⟩ : ∃ j_ : Int, (wrap64 (2 * (wrap64 ((wrap64 (a1 - 1)) - x11_1)))) = j_ := ⟨_, rfl⟩
            replace H : (if 0 ≤ (ji9) then (if 0 ≤ x11_1 then (if x11_1 < (x5_1.length : Int) then (wots_digits.l0 k1 a0 a1 (x5_1.set (x11_1 : Int).toNat (Go.bits .and .i64 (shr .i64 a0 (ji9)) 3)) (y356.length : Int) (wrap64 (x11_1 + 1))) else (none)) else (none)) else (none)) = some r := by first | (rw [hji9] at H; exact H) | (simp only [hji9] at H ⊢; exact H)
            have hji9w : (IntKind.i64.wrap (2 * (wrap64 ((wrap64 (a1 - 1)) - x11_1)))) = ji9 := (i64_w _).trans hji9
            by_cases c10 : 0 ≤ (ji9)
            · rw [if_pos c10] at H
              have c10b0 := eq_true c10
              have c10b1 : decide (0 ≤ (ji9)) = true := decide_eq_true c10
              clear c10
              obtain ⟨ji11, hji11⟩ : ∃ j_ : Int, (shr .i64 a0 (ji9)) = j_ := ⟨_, rfl⟩
              replace H : (if 0 ≤ x11_1 then (if x11_1 < (x5_1.length : Int) then (wots_digits.l0 k1 a0 a1 (x5_1.set (x11_1 : Int).toNat (Go.bits .and .i64 (ji11) 3)) (y356.length : Int) (wrap64 (x11_1 + 1))) else (none)) else (none)) = some r := by first | (rw [hji11] at H; exact H) | (simp only [hji11] at H ⊢; exact H)
              have hji11_ : (a0 / 2 ^ min (ji9).toNat 64) = ji11 := hji11
              have hji11z : (ji9) ≤ 64 → (a0 / 2 ^ (ji9).toNat) = ji11 := shr_small hji11
              by_cases c12 : 0 ≤ x11_1
              · rw [if_pos c12] at H
                have c12b0 : decide (0 ≤ x11_1) = true := decide_eq_true c12
                clear c12
                by_cases c13 : x11_1 < (x5_1.length : Int)
                · rw [if_pos c13] at H
                  have c13b0 : decide (x11_1 < (x5_1.length : Int)) = true := decide_eq_true c13
                  clear c13
                  obtain ⟨y359, hy359⟩ : ∃ y_ : List Int, y_ = (x5_1.set (x11_1 : Int).toNat (Go.bits .and .i64 (ji11) 3)) := ⟨_, rfl⟩
                  replace H : (wots_digits.l0 k1 a0 a1 y359 (y356.length : Int) (wrap64 (x11_1 + 1))) = some r := by first | (rw [hy359]; with_reducible exact H) | (have H2_ := (Option.bind_some _ _).symm.trans H; rw [hy359]; with_reducible exact H2_) | (have H2_ := (Option.bind_some _ _).symm.trans H; with_reducible exact H2_) | with_reducible exact H | (rw [hy359]; exact H) | exact H
                  have Ny359 := Aside0.mk hy359
                  clear hy359
                  have H' := Aside0.mk H
                  clear H
                  have p14 : 0 ≤ (x11_1 : Int) := of_decide_eq_true (by first | (with_reducible assumption) | assumption)
                  have q14 : (x11_1 : Int) < ((x5_1.length : Int) : Int) := of_decide_eq_true (by first | (with_reducible assumption) | assumption)
                  obtain ⟨go14, co14, eo14, gb14, gl14, cl14, HG14⟩ := Kd.R_form HO_5.out (by omega)
                  (first | cases eo14 | (injection eo14 with ea_ en_ ec_; (first | subst ea_ | (injection ea_ with ea_; subst ea_)); subst ec_; clear en_))
                  have GB14 := Aside0.mk gb14
                  have GG14 := Aside0.mk HG14
                  clear gb14 gl14 HG14
                  obtain ⟨hx14_0, hf14_0⟩ := Kd.R_celln 0 HO_5.out (x11_1 : Int) p14 q14
                  replace p14 := eq_true p14
                  replace q14 := eq_true q14
                  have HP15 := Kd.R_putg HO_5.out (x11_1 : Int) (Go.bits .and .i64 (ji11) 3)
                  go_wp2_with (first | ((with_reducible refine gate_store (t := 3) (p := 24) rfl ?_); refine store_event (t := 3) (p := 24) (v := ?vo_w16) (w1 := (wr.setCell ⟨go14, (x11_1 : Int).toNat, none⟩ (.int .i64 (Go.bits .and .i64 (ji11) 3)))) ?hg ?ho ?hn ?hr ?_; (case ho => rfl); (case hg => rfl); (case hn => rfl); (case hr => first | (go_simp; done) | (go_simp; rfl)); intro w16 hw; have hg : wr.grownBy w16 (some go14) := (by rw [hw]; exact HP15.2); have hp_ : Kd.R (Kd.int .i64) 3 w16 w.heap.size (fun _ => True) (.slice (some ⟨go14, 0, none⟩) x5_1.length co7) y359 := (by rw [hw, Ny359.out]; exact HP15.1); clear HP15; have n0_ := Aside0.mk (hp_); have n1_ := Aside0.mk ((by rw [hw]; exact below_set (HB.out) GB14.out : Below w.heap.size w w16)); clear HO_5; clear HB; have HO_5 := n0_; have HB := n1_; clear n0_ n1_; clear hg hw hp_))
                  (try simp only [← hl5_1])
                  go_roundg k1
                  case measure => have := HK1.out; omega
                  case rel => exact ⟨(y359), (wrap64 (x11_1 + 1)), (by first | rfl | (simp; done) | (simp [*]; done)), H', ⟨by have := HK1.out; omega⟩, ⟨by (try simp only [hl5_1]); (with_reducible repeat (first | apply Kd.R_alloc | apply Kd.R_drewN | apply Kd.R_drew)); exact HO_5.out⟩, ⟨by repeat (first | (with_reducible first | exact HB.out | apply below_alloc | apply pw_below_drewN | apply below_drew1) | exact HB.out)⟩⟩
                · rw [if_neg c13] at H
                  exact absurd H (by simp)
              · rw [if_neg c12] at H
                exact absurd H (by simp)
            · rw [if_neg c10] at H
              exact absurd H (by simp)
          · rw [if_neg c8] at H
            have c8b0 : decide (x11_1 < (y356.length : Int)) = false := decide_eq_false c8
            clear c8
            rw [hl5_1] at c8b0
            obtain rfl := Option.some.inj H
            go_wp2
            go_ret
            exact ⟨_, by first | rfl | (simp [errW_none, errW_some] <;> rfl) | (simp [*, errW_none, errW_some] <;> rfl), by (with_reducible repeat (first | apply Kd.R_alloc | apply Kd.R_drewN | apply Kd.R_drew)); exact HO_5.out, by repeat (first | (with_reducible first | exact HB.out | apply below_alloc | apply pw_below_drewN | apply below_drew1) | exact HB.out)⟩
    · rw [if_neg c4] at H
      exact absurd H (by simp)
  · rw [if_neg c3] at H
    exact absurd H (by simp)

end Go.Proofs.Ytclmikbbjhdplaa.X
/- wots.Parts: a text's digits. -/
namespace Go.Proofs.Ytclmikbbjhdplaa.X
open Go.RowKit Go.Proofs.YtclmikbbjhdplaaW.PrintWords Go.Proofs.YtclmikbbjhdplaaW.PrintLast Go.Proofs.YtclmikbbjhdplaaW.PrintMore
set_option linter.unusedVariables false
set_option linter.unusedSimpArgs false

/-- What the first n digits lack. -/
def lackN (d : List Int) : Nat → Int
  | 0 => 0
  | n + 1 => wrap64 (lackN d n + wrap64 (3 - rd d (n : Int)))
def wots_Parts.f (l0 : List Int) : Option (List Int) :=
  (sha_Sum.f l0).bind fun s => (octets_Word.f 6 s 0).bind fun x => if 0 ≤ x ∧ x < 4294967296 then (wots_digits.f 20 (x / 65536) 8).bind fun d => (wots_digits.f 20 (lackN d d.length) 3).bind fun e => if d.length = 8 ∧ e.length = 3 then some (d ++ e) else none else none
set_option maxRecDepth 100000 in
set_option maxHeartbeats 4000000 in
theorem wots_Parts.calls (A0 : Option Addr) (c0 : Nat) (l0 : List Int) (r : List Int) (w : World) (hr0 : Kd.C (Kd.int .u8) w A0 l0.length l0) (hc0 : l0.length ≤ c0) (h : wots_Parts.f l0 = some r) :
    Calls Try.prog 38 #[.slice A0 l0.length c0] w fun e w' => ∃ v0_ : Value, e = .returned (v0_) ∧ Kd.R (Kd.int .i64) 3 w' w.heap.size (fun _ => True) v0_ r ∧ Below w.heap.size w w' := by
  unfold wots_Parts.f at h
  obtain ⟨s, hs, h⟩ := Option.bind_eq_some_iff.mp h
  obtain ⟨x, hx, h⟩ := Option.bind_eq_some_iff.mp h
  by_cases hxx : 0 ≤ x ∧ x < 4294967296
  · rw [if_pos hxx] at h
    obtain ⟨d, hd, h⟩ := Option.bind_eq_some_iff.mp h
    obtain ⟨e, he, h⟩ := Option.bind_eq_some_iff.mp h
    by_cases hl : d.length = 8 ∧ e.length = 3
    · rw [if_pos hl] at h
      obtain rfl := Option.some.inj h
      obtain ⟨hx0, hx1⟩ := hxx
      have HS := Lib.hid hs
      have HX := Lib.hid hx
      have HD := Lib.hid hd
      have HE := Lib.hid he
      have HL := Lib.hid hl
      have HR0 := Lib.hid hr0
      have HC0 := Lib.hid hc0
      clear h hs hx hd he hl hr0 hc0
      go_enter Try.func38, Try.ntmps38
      go_wp2_with (first | (go_at_call 31; go_must ((with_reducible refine (sha_Sum.calls _ _ l0 s _ HR0.out HC0.out HS.out).mono ?_); rintro e1 w1 ⟨v8, rfl, ho, hb⟩; obtain ⟨A1, c1, rfl⟩ := Kd.R_slice ho; have hR1 := Kd.R_reads' ho; have B1 := hb; clear ho hb)) | (go_at_call 19; go_must ((with_reducible refine (octets_Word.calls 6 _ _ s 0 x _ hR1.2.2 hR1.2.1 HX.out).mono ?_); rintro e1 w2 ⟨rfl, hdr⟩; have B2 : Below w.heap.size w w2 := (by obtain ⟨n, rfl⟩ := hdr; exact pw_below_drewN B1 n); clear B1 hR1 hdr)) | (go_at_call_of 60 (Value.int .i64 8); go_must ((with_reducible refine (wots_digits.calls 20 _ _ d _ HD.out).mono ?_); rintro e1 w3 ⟨v12, rfl, ho, hb⟩; obtain ⟨A3, c3, rfl⟩ := Kd.R_slice ho; have B3 := Lib.hid (below_step B2 hb); have R3 := Lib.hid (Kd.R_lower ho B2.size); clear ho hb B2)))
      obtain ⟨k, hk⟩ : ∃ k, lackN d d.length = k := ⟨_, rfl⟩
      rw [hk] at HE
      have HK := Lib.hid hk
      clear hk
      go_loopg [4, 15] 9 (fun kq v4 v15 w' => ∃ i : Nat, v4 = .int .i64 (lackN d i) ∧ v15 = .int .i64 (i : Int) ∧ Hid (i ≤ 8 ∧ kq + i = 9) ∧ w' = w3)
      case atStart => exact ⟨0, rfl, rfl, Lib.hid ⟨by omega, rfl⟩, rfl⟩
      case round =>
        obtain ⟨i, rfl, rfl, hi, rfl⟩ := hrel
        by_cases c : i < d.length
        · have c1 : decide ((i : Int) < (d.length : Int)) = true := decide_eq_true (by omega)
          have c2 : decide (i < d.length) = true := decide_eq_true c
          have p0 : 0 ≤ (i : Int) := by omega
          have p1 : (i : Int) < (d.length : Int) := by omega
          obtain ⟨ad, e0, x0⟩ := Kd.at_int (Kd.R_reads' R3.out).2.2 (i : Int) p0 p1
          cases e0
          rw [Int.toNat_natCast] at x0
          have HCN := Lib.hid c
          have e4 : wrap64 (lackN d i + wrap64 (3 - rd d (i : Int))) = lackN d (i + 1) := rfl
          replace p0 := eq_true p0
          replace p1 := eq_true p1
          go_wp2
          obtain ⟨k1, rfl⟩ : ∃ k1, gk = k1 + 1 := ⟨gk - 1, by have := hi.out; omega⟩
          go_roundg k1
          case measure => omega
          case rel => exact ⟨i + 1, by rw [e4], congrArg (Value.int .i64) (by have := hi.out; unfold wrap64; omega), Lib.hid ⟨by have := HL.out; have := HCN.out; omega, by have := hi.out; omega⟩, rfl⟩
        · have hi8 : i = d.length := by have := hi.out; have := HL.out; omega
          subst hi8
          rw [HK.out]
          have c1 : decide ((d.length : Int) < (d.length : Int)) = false := decide_eq_false (by omega)
          clear c hi
          go_wp2_with (first | (go_at_call_of 60 (Value.int .i64 3); go_must ((with_reducible refine (wots_digits.calls 20 _ _ e _ HE.out).mono ?_); rintro e1 w4 ⟨v26, rfl, ho, hb⟩; obtain ⟨A4, c4, rfl⟩ := Kd.R_slice ho; have B4 := below_step B3.out hb; have R4 := Kd.R_below R3.out hb; have C4 := (Kd.R_reads' ho).2.2; clear ho hb)) | ((with_reducible refine gate_builtin (b := .append) (xs := #[.tmp 24, .tmp 26]) rfl ?_); at_builtin; refine Kd.R_append_rows (Kd.int .i64) (w0 := w) w.heap.size rfl (.tmp 24) (.tmp 26) 50 3 (.int .i64 0) 8 rfl Try.underlying50 info3 rfl (by decide) (by omega) (.slice A3 d.length c3) d e A4 e.length c4 (fun _ => True) (fun _ => False) rfl rfl R4 C4 (fun x cs hp => hp) (fun _ hk => hk.elim) (fun _ _ => trivial) B4 B4.size (by have := HL.out; omega) ?_; intro v1 w5 hR5 hb5 hg5 hat5))
          go_ret
          exact ⟨_, rfl, hR5, hb5⟩
    · rw [if_neg hl] at h
      cases h
  · rw [if_neg hxx] at h
    cases h
end Go.Proofs.Ytclmikbbjhdplaa.X
-- Written by a program of this session (a turn of the kit's print with contracts by hand). Not trusted: Lean checks it.
namespace Go.Proofs.Ytclmikbbjhdplaa.X
open Go.RowKit Go.Proofs.YtclmikbbjhdplaaW.PrintWords Go.Proofs.YtclmikbbjhdplaaW.PrintLast Go.Proofs.YtclmikbbjhdplaaW.PrintMore
attribute [local go_sem] max2_int min2_int max_two min_two max_three min_three max_four min_four   -- for this text's walks alone
set_option linter.unusedVariables false
set_option linter.unusedSimpArgs false

/-! ### wots_Open: function 21 -/
def wots_Open.l0 : Nat → List ByteArray → List ByteArray → List Int → Int → Int → Option (ByteArray)
  | 0, _, _, _, _, _ => none
  | k + 1, x1, x5, x12, x13, x14 => if x14 < x13 then (if 0 ≤ x14 then (if x14 < (x12.length : Int) then (if x14 < (x1.length : Int) then (if ((rdOf ByteArray.empty x1 x14).size : Int) = 8 then ((wots_Chain.f (rdOf ByteArray.empty x1 x14) (wrap64 (3 - (rd x12 x14)))).bind fun t374 => (if x5.length < 8796093022208 then (wots_Open.l0 k x1 (x5 ++ [t374]) x12 x13 (wrap64 (x14 + 1))) else (none))) else (some (⟨#[]⟩ : ByteArray))) else (none)) else (none)) else (none)) else ((wots_ended.f k x5).bind fun t378 => (some t378))
def wots_Open.f (k : Nat) (l0 : List Int) (l1 : List ByteArray) : Option (ByteArray) := if (l1.length : Int) = 11 then ((wots_Parts.f l0).bind fun t368 => (wots_Open.l0 k l1 ([] : List ByteArray) t368 (t368.length : Int) 0)) else (some (⟨#[]⟩ : ByteArray))
theorem wots_Open.mono_l : ∀ k, (∀ y0 y1 y2 y3 y4, LeO (wots_Open.l0 k y0 y1 y2 y3 y4) (wots_Open.l0 (k + 1) y0 y1 y2 y3 y4))
  | 0 => fun _ _ _ _ _ r h => by simp [wots_Open.l0] at h
  | k + 1 => by
    have ih0 := wots_Open.mono_l k
    · intro y0 y1 y2 y3 y4
      unfold wots_Open.l0
      repeat' first
      | (with_reducible exact ih0 _ _ _ _ _)
      | (with_reducible exact wots_ended.mono _ _)
      | (with_reducible exact LeO.refl _)
      | (with_reducible exact LeO.none _)
      | (with_reducible refine LeO.ite ?_ ?_)
      | (with_reducible refine LeO.bind ?_ (fun _ => ?_))
      | exact ih0 _ _ _ _ _
      | exact wots_ended.mono _ _
      | exact LeO.none _
      | refine LeO.ite ?_ ?_
      | refine LeO.bind ?_ (fun _ => ?_)
theorem wots_Open.mono : ∀ a0 a1 k, LeO (wots_Open.f k a0 a1) (wots_Open.f (k + 1) a0 a1) := by
  intro a0 a1 k
  have ih0 := wots_Open.mono_l k
  unfold wots_Open.f
  repeat' first
      | (with_reducible exact ih0 _ _ _ _ _)
      | (with_reducible exact wots_ended.mono _ _)
      | (with_reducible exact LeO.refl _)
      | (with_reducible exact LeO.none _)
      | (with_reducible refine LeO.ite ?_ ?_)
      | (with_reducible refine LeO.bind ?_ (fun _ => ?_))
      | exact ih0 _ _ _ _ _
      | exact wots_ended.mono _ _
      | exact LeO.none _
      | refine LeO.ite ?_ ?_
      | refine LeO.bind ?_ (fun _ => ?_)
set_option maxHeartbeats 8000000 in
set_option maxRecDepth 100000 in
theorem wots_Open.calls (k : Nat) (A0 : Option Addr) (c0 : Nat) (l0 : List Int) (A1 : Option Addr) (c1 : Nat) (l1 : List ByteArray) (r : ByteArray) (w : World) (hr0 : Kd.C (Kd.int .u8) w A0 l0.length l0) (hc0 : l0.length ≤ c0) (hr1 : Kd.C Kd.string w A1 l1.length l1) (hc1 : l1.length ≤ c1) (h : wots_Open.f k l0 l1 = some r) :
    Calls Try.prog 21 #[.slice A0 l0.length c0, .slice A1 l1.length c1] w fun e w' => e = .returned (.string r) ∧ Below w.heap.size w w' := by
  have HR0 := Aside0.mk hr0
  have HC0 := Aside0.mk hc0
  clear hr0 hc0
  have HR1 := Aside0.mk hr1
  have HC1 := Aside0.mk hc1
  clear hr1 hc1
  have HB := Aside0.mk (Below.refl w.heap.size w)
  have H : (if (l1.length : Int) = 11 then ((wots_Parts.f l0).bind fun t368 => (wots_Open.l0 k l1 ([] : List ByteArray) t368 (t368.length : Int) 0)) else (some (⟨#[]⟩ : ByteArray))) = some r := h
  clear h
  by_cases c3 : (l1.length : Int) = 11
  · rw [if_pos c3] at H
    have c3b0 : ((l1.length : Int) == 11) = true := beq_iff_eq.mpr c3
    have c3b1 : ((l1.length : Int) != 11) = false := bne_eq_false_iff_eq.mpr c3
    clear c3
    replace H := Option.bind_eq_some_iff.mp H
    obtain ⟨t368, A40, H⟩ := H
    replace H : (wots_Open.l0 k l1 ([] : List ByteArray) t368 (t368.length : Int) 0) = some r := H
    have A4 := Aside0.mk A40
    clear A40
    have H' := Aside0.mk H
    clear H
    go_enter Try.func21, Try.ntmps21
    go_wp2_with (first | ((with_reducible refine gate_callee (f := 38) rfl ?_); refine goesL_ (some 12) rfl rfl Try.func38 (by kernel_rfl) rfl #[.slice A0 l0.length c0] rfl (by (try simp only [List.map_toArray, List.map_cons, List.map_nil]); first | done | rfl | (simp only [List.length_drop, List.length_take]; rfl)) ?_; (with_reducible refine (wots_Parts.calls _ _ l0 t368 _ ?side1 ?side2 A4.out).mono ?_); (case side1 => repeat (first | exact HR0.out | (with_reducible refine Kd.C_alloc ?_ _) | (with_reducible refine Kd.C_drewN ?_ _) | (with_reducible refine Kd.C_drew ?_))); (case side2 => exact HC0.out); rintro e w5 ⟨v369, rfl, ho0, hb⟩; refine ⟨_, rfl, ?_⟩; have n0_ := Aside0.mk (Kd.R_lower ho0 (below_size (by repeat (first | (with_reducible first | exact HB.out | apply below_alloc | apply pw_below_drewN | apply below_drew1) | exact HB.out)))); have n1_ := Aside0.mk (below_step (by repeat (first | (with_reducible first | exact HB.out | apply below_alloc | apply pw_below_drewN | apply below_drew1) | exact HB.out)) hb); clear HB; have HO370 := n0_; have HB := n1_; clear n0_ n1_; (try clear hb); (try clear hb2); (try clear hk); (try clear hi); (try clear ho0); obtain ⟨Ao6, co6, eo6⟩ := Kd.R_slice HO370.out; subst eo6))
    go_loopg [5, 14] k (fun kq v5 v14 w' => ∃ (x5_1 : List ByteArray) (x14_1 : Int), v14 = .int .i64 x14_1 ∧ Aside0 (wots_Open.l0 kq l1 x5_1 t368 (t368.length : Int) x14_1 = some r) ∧ Aside0 (kq ≤ k) ∧ Aside0 (Kd.R Kd.string 9 w' w.heap.size (fun _ => True) v5 x5_1) ∧ Aside0 (Kd.R (Kd.int .i64) 3 w' w.heap.size (fun _ => True) (.slice Ao6 t368.length co6) t368) ∧ Aside0 (Below w.heap.size w w'))
    case atStart => exact ⟨(([] : List ByteArray)), (0), (by first | rfl | (simp; done) | (simp [*]; done)), H', ⟨Nat.le_refl _⟩, ⟨by first | exact Kd.R_nil _ _ _ _ _ | exact Kd.N_nil _ _ _ _ _ | exact Kd.V_nil _ _ _ _ _ | exact Kd.Q_nil _ _ _ _ _ | exact Kd.S_nil _ _ _ _ _⟩, ⟨by (with_reducible repeat (first | apply Kd.R_alloc | apply Kd.R_drewN | apply Kd.R_drew)); exact HO370.out⟩, ⟨by repeat (first | (with_reducible first | exact HB.out | apply below_alloc | apply pw_below_drewN | apply below_drew1) | exact HB.out)⟩⟩
    case round =>
      clear H'
      try clear c1
      try clear c2
      try clear p2
      try clear c3
      try clear c3b0
      try clear c3b1
      obtain ⟨x5_1, x14_1, rfl, HA, HK1, HO_5, HO_12, HB⟩ := hrel
      cases gk with
      | zero => exact absurd HA.out (by simp [wots_Open.l0])
      | succ k1 =>
        have H := HA.out
        clear HA
        simp only [wots_Open.l0] at H
        by_cases c7 : x14_1 < (t368.length : Int)
        · rw [if_pos c7] at H
          have c7b0 : decide (x14_1 < (t368.length : Int)) = true := decide_eq_true c7
          clear c7
          by_cases c8 : 0 ≤ x14_1
          · rw [if_pos c8] at H
            have c8b0 : decide (0 ≤ x14_1) = true := decide_eq_true c8
            clear c8
            by_cases c9 : x14_1 < (t368.length : Int)
            · rw [if_pos c9] at H
              have c9b0 : decide (x14_1 < (t368.length : Int)) = true := decide_eq_true c9
              clear c9
              by_cases c10 : x14_1 < (l1.length : Int)
              · rw [if_pos c10] at H
                have c10b0 : decide (x14_1 < (l1.length : Int)) = true := decide_eq_true c10
                clear c10
                by_cases c11 : ((rdOf ByteArray.empty l1 x14_1).size : Int) = 8
                · rw [if_pos c11] at H
                  have c11b0 : (((rdOf ByteArray.empty l1 x14_1).size : Int) == 8) = true := beq_iff_eq.mpr c11
                  have c11b1 : (((rdOf ByteArray.empty l1 x14_1).size : Int) != 8) = false := bne_eq_false_iff_eq.mpr c11
                  clear c11
                  replace H := Option.bind_eq_some_iff.mp H
                  obtain ⟨t374, A120, H⟩ := H
                  replace H : (if x5_1.length < 8796093022208 then (wots_Open.l0 k1 l1 (x5_1 ++ [t374]) t368 (t368.length : Int) (wrap64 (x14_1 + 1))) else (none)) = some r := H
                  have A12 := Aside0.mk A120
                  clear A120
                  by_cases c13 : x5_1.length < 8796093022208
                  · rw [if_pos c13] at H
                    have LMc13 := Aside0.mk c13
                    clear c13
                    obtain ⟨y375, hy375⟩ : ∃ y_ : List ByteArray, y_ = (x5_1 ++ [t374]) := ⟨_, rfl⟩
                    replace H : (wots_Open.l0 k1 l1 y375 t368 (t368.length : Int) (wrap64 (x14_1 + 1))) = some r := by first | (rw [hy375]; with_reducible exact H) | (have H2_ := (Option.bind_some _ _).symm.trans H; rw [hy375]; with_reducible exact H2_) | (have H2_ := (Option.bind_some _ _).symm.trans H; with_reducible exact H2_) | with_reducible exact H | (rw [hy375]; exact H) | exact H
                    have Ny375 := Aside0.mk hy375
                    clear hy375
                    have H' := Aside0.mk H
                    clear H
                    have p371 : 0 ≤ (x14_1 : Int) := of_decide_eq_true (by first | (with_reducible assumption) | assumption)
                    have q371 : x14_1 < (t368.length : Int) := of_decide_eq_true (by first | (with_reducible assumption) | assumption)
                    obtain ⟨ad371, e371, hx371_0⟩ := Kd.at_int (Kd.R_reads' HO_12.out).2.2 x14_1 p371 q371
                    cases e371
                    replace p371 := eq_true p371
                    replace q371 := eq_true q371
                    have p372 : 0 ≤ (x14_1 : Int) := of_decide_eq_true (by first | (with_reducible assumption) | assumption)
                    have q372 : x14_1 < (l1.length : Int) := of_decide_eq_true (by first | (with_reducible assumption) | assumption)
                    obtain ⟨ad372, e372, hx372_0⟩ := Kd.at_string HR1.out x14_1 p372 q372
                    cases e372
                    replace hx372_0 := (HB.out.cell (World.block_lt_of_cell? w _ hx372_0)).trans hx372_0
                    replace p372 := eq_true p372
                    replace q372 := eq_true q372
                    have p373 : 0 ≤ (x14_1 : Int) := of_decide_eq_true (by first | (with_reducible assumption) | assumption)
                    have q373 : x14_1 < (l1.length : Int) := of_decide_eq_true (by first | (with_reducible assumption) | assumption)
                    obtain ⟨ad373, e373, hx373_0⟩ := Kd.at_string HR1.out x14_1 p373 q373
                    obtain rfl : ad372 = ad373 := (by injection e373)
                    replace hx373_0 := (HB.out.cell (World.block_lt_of_cell? w _ hx373_0)).trans hx373_0
                    replace p373 := eq_true p373
                    replace q373 := eq_true q373
                    go_wp2_with (first | ((with_reducible refine gate_callee (f := 39) rfl ?_); refine goesL_ (some 32) rfl rfl Try.func39 (by kernel_rfl) rfl #[.string (rdOf ByteArray.empty l1 x14_1), .int .i64 (wrap64 (3 - (rd t368 x14_1)))] rfl (by (try simp only [List.map_toArray, List.map_cons, List.map_nil]); first | done | rfl | (simp only [List.length_drop, List.length_take]; rfl)) ?_; (with_reducible refine (wots_Chain.calls (rdOf ByteArray.empty l1 x14_1) (wrap64 (3 - (rd t368 x14_1))) t374 _ A12.out).mono ?_); rintro e w14 ⟨rfl, hb⟩; refine ⟨_, rfl, ?_⟩; have n0_ := Aside0.mk (Kd.R_below (by (with_reducible repeat (first | apply Kd.R_alloc | apply Kd.R_drewN | apply Kd.R_drew)); exact HO_5.out) hb); have n1_ := Aside0.mk (Kd.R_below (by (with_reducible repeat (first | apply Kd.R_alloc | apply Kd.R_drewN | apply Kd.R_drew)); exact HO_12.out) hb); have n2_ := Aside0.mk (below_step (by repeat (first | (with_reducible first | exact HB.out | apply below_alloc | apply pw_below_drewN | apply below_drew1) | exact HB.out)) hb); clear HO_5; clear HO_12; clear HB; have HO_5 := n0_; have HO_12 := n1_; have HB := n2_; clear n0_ n1_ n2_; (try clear hb); (try clear hb2); (try clear hk); (try clear hi)) | ((with_reducible refine gate_builtin (b := .append) (xs := #[.tmp 25, .tmp 33]) rfl ?_); at_builtin; refine Kd.R_append Kd.string (w0 := w) w.heap.size rfl (.tmp 25) (.tmp 33) 36 9 (.string ⟨#[]⟩) 16 rfl Try.underlying36 info9 rfl (by decide) (by omega) u5 x5_1 t374 [.string t374] (fun _ => True) (fun _ => False) rfl rfl ?aP (fun _ hk => hk.elim) ?aF ?aO ?aB ?aS ?aL ?_; (case aP => exact rfl); (case aB => exact (by repeat (first | (with_reducible first | exact HB.out | apply below_alloc | apply pw_below_drewN | apply below_drew1) | exact HB.out))); (case aF => exact (fun _ _ => trivial)); (case aO => exact (by (with_reducible repeat (first | apply Kd.R_alloc | apply Kd.R_drewN | apply Kd.R_drew)); exact HO_5.out)); (case aS => exact (below_size (by repeat (first | (with_reducible first | exact HB.out | apply below_alloc | apply pw_below_drewN | apply below_drew1) | exact HB.out)))); (case aL => have := LMc13.out; omega); intro v376 w15 ho hb hg hat; rw [← Ny375.out] at ho; have n0_ := Aside0.mk (Kd.R_over' (by (with_reducible repeat (first | apply Kd.R_alloc | apply Kd.R_drewN | apply Kd.R_drew)); exact HO_12.out) (Kd.R_typed (by (with_reducible repeat (first | apply Kd.R_alloc | apply Kd.R_drewN | apply Kd.R_drew)); exact HO_5.out)) (by decide) hg); have n1_ := Aside0.mk (hb); have n2_ := Aside0.mk (ho); clear HO_12; clear HB; clear HO_5; have HO_12 := n0_; have HB := n1_; have HO377 := n2_; clear n0_ n1_ n2_; clear ho hb hg hat))
                    go_roundg k1
                    case measure => have := HK1.out; omega
                    case rel => exact ⟨(y375), (wrap64 (x14_1 + 1)), (by first | rfl | (simp; done) | (simp [*]; done)), H', ⟨by have := HK1.out; omega⟩, ⟨by (with_reducible repeat (first | apply Kd.R_alloc | apply Kd.R_drewN | apply Kd.R_drew)); exact HO377.out⟩, ⟨by (with_reducible repeat (first | apply Kd.R_alloc | apply Kd.R_drewN | apply Kd.R_drew)); exact HO_12.out⟩, ⟨by repeat (first | (with_reducible first | exact HB.out | apply below_alloc | apply pw_below_drewN | apply below_drew1) | exact HB.out)⟩⟩
                  · rw [if_neg c13] at H
                    exact absurd H (by simp)
                · rw [if_neg c11] at H
                  have c11b0 : (((rdOf ByteArray.empty l1 x14_1).size : Int) == 8) = false := beq_eq_false_iff_ne.mpr c11
                  have c11b1 : (((rdOf ByteArray.empty l1 x14_1).size : Int) != 8) = true := bne_iff_ne.mpr c11
                  obtain rfl := Option.some.inj H
                  have p371 : 0 ≤ (x14_1 : Int) := of_decide_eq_true (by first | (with_reducible assumption) | assumption)
                  have q371 : x14_1 < (t368.length : Int) := of_decide_eq_true (by first | (with_reducible assumption) | assumption)
                  obtain ⟨ad371, e371, hx371_0⟩ := Kd.at_int (Kd.R_reads' HO_12.out).2.2 x14_1 p371 q371
                  cases e371
                  replace p371 := eq_true p371
                  replace q371 := eq_true q371
                  have p372 : 0 ≤ (x14_1 : Int) := of_decide_eq_true (by first | (with_reducible assumption) | assumption)
                  have q372 : x14_1 < (l1.length : Int) := of_decide_eq_true (by first | (with_reducible assumption) | assumption)
                  obtain ⟨ad372, e372, hx372_0⟩ := Kd.at_string HR1.out x14_1 p372 q372
                  cases e372
                  replace hx372_0 := (HB.out.cell (World.block_lt_of_cell? w _ hx372_0)).trans hx372_0
                  replace p372 := eq_true p372
                  replace q372 := eq_true q372
                  go_wp2
                  go_ret
                  exact ⟨by first | rfl | (simp [errW_none, errW_some] <;> rfl) | (simp [*, errW_none, errW_some] <;> rfl), by repeat (first | (with_reducible first | exact HB.out | apply below_alloc | apply pw_below_drewN | apply below_drew1) | exact HB.out)⟩
              · rw [if_neg c10] at H
                exact absurd H (by simp)
            · rw [if_neg c9] at H
              exact absurd H (by simp)
          · rw [if_neg c8] at H
            exact absurd H (by simp)
        · rw [if_neg c7] at H
          have c7b0 : decide (x14_1 < (t368.length : Int)) = false := decide_eq_false c7
          clear c7
          replace H := Option.bind_eq_some_iff.mp H
          obtain ⟨t378, A160, H⟩ := H
          replace H : (some t378) = some r := H
          have A16 := Aside0.mk A160
          clear A160
          obtain rfl := Option.some.inj H
          obtain ⟨Ao17, co17, eo17⟩ := Kd.R_slice HO_5.out
          subst eo17
          go_wp2_with (first | ((with_reducible refine gate_callee (f := 51) rfl ?_); refine goesL_ (some 37) rfl rfl Try.func51 (by kernel_rfl) rfl #[.slice Ao17 x5_1.length co17] rfl (by (try simp only [List.map_toArray, List.map_cons, List.map_nil]); first | done | rfl | (simp only [List.length_drop, List.length_take]; rfl)) ?_; (with_reducible refine (wots_ended.calls k1 _ _ x5_1 t378 _ ?side1 ?side2 A16.out).mono ?_); (case side1 => repeat (first | exact (Kd.R_reads' HO_5.out).2.2 | (with_reducible refine Kd.C_alloc ?_ _) | (with_reducible refine Kd.C_drewN ?_ _) | (with_reducible refine Kd.C_drew ?_))); (case side2 => exact (Kd.R_reads' HO_5.out).2.1); rintro e w18 ⟨rfl, hb⟩; refine ⟨_, rfl, ?_⟩; have n0_ := Aside0.mk (Kd.R_below (by (with_reducible repeat (first | apply Kd.R_alloc | apply Kd.R_drewN | apply Kd.R_drew)); exact HO_5.out) hb); have n1_ := Aside0.mk (Kd.R_below (by (with_reducible repeat (first | apply Kd.R_alloc | apply Kd.R_drewN | apply Kd.R_drew)); exact HO_12.out) hb); have n2_ := Aside0.mk (below_step (by repeat (first | (with_reducible first | exact HB.out | apply below_alloc | apply pw_below_drewN | apply below_drew1) | exact HB.out)) hb); clear HO_5; clear HO_12; clear HB; have HO_5 := n0_; have HO_12 := n1_; have HB := n2_; clear n0_ n1_ n2_; (try clear hb); (try clear hb2); (try clear hk); (try clear hi)))
          go_ret
          exact ⟨by first | rfl | (simp [errW_none, errW_some] <;> rfl) | (simp [*, errW_none, errW_some] <;> rfl), by repeat (first | (with_reducible first | exact HB.out | apply below_alloc | apply pw_below_drewN | apply below_drew1) | exact HB.out)⟩
  · rw [if_neg c3] at H
    have c3b0 : ((l1.length : Int) == 11) = false := beq_eq_false_iff_ne.mpr c3
    have c3b1 : ((l1.length : Int) != 11) = true := bne_iff_ne.mpr c3
    obtain rfl := Option.some.inj H
    go_enter Try.func21, Try.ntmps21
    go_wp2
    go_ret
    exact ⟨by first | rfl | (simp [errW_none, errW_some] <;> rfl) | (simp [*, errW_none, errW_some] <;> rfl), by repeat (first | (with_reducible first | exact HB.out | apply below_alloc | apply pw_below_drewN | apply below_drew1) | exact HB.out)⟩

end Go.Proofs.Ytclmikbbjhdplaa.X
/- wots.Secret: of a leaf and a place. -/
namespace Go.Proofs.Ytclmikbbjhdplaa.X
open Go.RowKit Go.Proofs.YtclmikbbjhdplaaW.PrintWords Go.Proofs.YtclmikbbjhdplaaW.PrintLast Go.Proofs.YtclmikbbjhdplaaW.PrintMore
set_option linter.unusedVariables false
set_option linter.unusedSimpArgs false

def putB (n s : Int) : List Int := putL (IntKind.u64.wrap n) (mn (mx s 0) 8).toNat
theorem putB_len (n s : Int) : (putB n s).length ≤ 8 := by
  rw [putB, putL_len]
  unfold mn mx
  split <;> split <;> omega
/-- A leaf's secret. -/
def secretB (seed : ByteArray) (leaf place : Int) : ByteArray := shortB ([[119, 111, 116, 115], putB (seed.size : Int) 2, bytesOf seed, putB leaf 4, putB place 1] : List (List Int)).flatten
def wots_Secret.f (a0 : ByteArray) (a1 a2 : Int) : Option ByteArray := if a0.size ≤ 140737488354000 then some (secretB a0 a1 a2) else none
set_option maxRecDepth 100000 in
set_option maxHeartbeats 4000000 in
theorem wots_Secret.calls (a0 : ByteArray) (a1 a2 : Int) (r : ByteArray) (w : World) (h : wots_Secret.f a0 a1 a2 = some r) :
    Calls Try.prog 43 #[.string a0, .int .i64 a1, .int .i64 a2] w fun e w' => e = .returned (.string r) ∧ Below w.heap.size w w' := by
  unfold wots_Secret.f at h
  by_cases hs : a0.size ≤ 140737488354000
  · rw [if_pos hs] at h
    obtain rfl := Option.some.inj h
    obtain ⟨y, hy⟩ : ∃ y : List Int, y = [119, 111, 116, 115] := ⟨_, rfl⟩
    obtain ⟨p2, hp2⟩ : ∃ p, octets_Put.f (a0.size : Int) 2 = some p := ⟨_, rfl⟩
    obtain ⟨p4, hp4⟩ : ∃ p, octets_Put.f a1 4 = some p := ⟨_, rfl⟩
    obtain ⟨p1, hp1⟩ : ∃ p, octets_Put.f a2 1 = some p := ⟨_, rfl⟩
    have e2 : putB (a0.size : Int) 2 = p2 := Option.some.inj hp2
    have e4 : putB a1 4 = p4 := Option.some.inj hp4
    have e1 : putB a2 1 = p1 := Option.some.inj hp1
    have hsh : sha_Short.f 20 [y, p2, bytesOf a0, p4, p1] = some (secretB a0 a1 a2) := by
      have l2 := putB_len (a0.size : Int) 2
      have l4 := putB_len a1 4
      have l1 := putB_len a2 1
      rw [short_f _ (by simp) (by rw [← e2, ← e4, ← e1, hy]; simp only [tot_cons, bytesOf_length, List.length_cons, List.length_nil, show tot [] = 0 from rfl]; omega)]
      rw [secretB, e2, e4, e1, hy]
    obtain ⟨r, hr⟩ : ∃ r, secretB a0 a1 a2 = r := ⟨_, rfl⟩
    rw [hr] at hsh ⊢
    have hyl : 0 < y.length := by rw [hy]; decide
    have HY := Lib.hid hy
    have HYL := Lib.hid hyl
    have HS := Lib.hid hs
    have H2 := Lib.hid hp2
    have H4 := Lib.hid hp4
    have H1 := Lib.hid hp1
    have HSH := Lib.hid hsh
    clear h hs hp2 hp4 hp1 e2 e4 e1 hsh hr hy hyl
    go_enter Try.func43, Try.ntmps43
    go_wp2_with (first | ((with_reducible refine gate_dst (N := 7) rfl ?_); refine Kd.R_lit (Kd.int .u8) _ 5 ?hg (N := 7) ?hd (xs := ([119, 111, 116, 115] : List Int)) (inner := [.int .u8 119, .int .u8 111, .int .u8 116, .int .u8 115]) (ok := fun _ => True) (okp := fun _ => True) ?hr ?hp (fun _ hk => hk) trivial (Below.refl _ _) (Nat.le_refl _) (by simp) ?_; (case hd => rfl); (case hg => rfl); (case hr => first | (go_simp; done) | (go_simp; rfl)); (case hp => exact (Reps.one (show Kd.M (Kd.int .u8) _ _ _ 119 [.int .u8 119] from rfl) (Reps.one (show Kd.M (Kd.int .u8) _ _ _ 111 [.int .u8 111] from rfl) (Reps.one (show Kd.M (Kd.int .u8) _ _ _ 116 [.int .u8 116] from rfl) (Reps.one (show Kd.M (Kd.int .u8) _ _ _ 115 [.int .u8 115] from rfl) (Reps.none _ _)))))); intro v7 w1 ho hb hg_ hnew_; clear hg_ hnew_; rw [← HY.out] at ho; obtain ⟨g, cap, cur, rfl, hgb, hgh, hcap, hC⟩ := lit_block ho HYL.out; have B1 := hb; clear ho hb) | ((with_reducible refine gate_dst (N := 8) rfl ?_); go_must (refine conv_ev rfl (N := 8) rfl 23 5 (.tmp 7) rfl Try.underlying23 Try.underlying5 g _ _ rfl cur hgh ?_; intro w2 hM; have B2 := hM.below _ B1 hgb; have C2 := hM.row hC; clear B1 hM hC hgh hgb)) | (go_at_call_of 16 (Value.int .i64 2); go_must ((with_reducible refine (octets_Put.calls _ _ p2 _ H2.out).mono ?_); rintro e w3 ⟨v11, rfl, ho, hb⟩; have B3 := below_step B2 hb; have C3 := Kd.C_below C2 hb; obtain ⟨A2, c2, rfl⟩ := Kd.R_slice ho; have D3 := (Kd.R_reads' ho).2.2; have hd := (Kd.R_reads' ho).2.1; clear ho hb B2 C2)) | ((with_reducible refine gate_dst (N := 13) rfl ?_); go_must (refine str_ev rfl (N := 13) rfl (.tmp 12) rfl a0 rfl (by have := HS.out; omega) ?_; intro w4 c3 hb he hE; have B4 := below_step B3 hb; have C4 := Kd.C_below C3 hb; have D4 := Kd.C_below D3 hb; have E4 := hE; clear hb hE B3 C3 D3)) | (go_at_call_of 16 (Value.int .i64 4); go_must ((with_reducible refine (octets_Put.calls _ _ p4 _ H4.out).mono ?_); rintro e w5 ⟨v15, rfl, ho, hb⟩; have B5 := below_step B4 hb; have C5 := Kd.C_below C4 hb; have D5 := Kd.C_below D4 hb; have E5 := Kd.C_below E4 hb; obtain ⟨A4, c4, rfl⟩ := Kd.R_slice ho; have F5 := (Kd.R_reads' ho).2.2; have hf := (Kd.R_reads' ho).2.1; clear ho hb B4 C4 D4 E4)) | (go_at_call_of 16 (Value.int .i64 1); go_must ((with_reducible refine (octets_Put.calls _ _ p1 _ H1.out).mono ?_); rintro e w6 ⟨v17, rfl, ho, hb⟩; have B6 := below_step B5 hb; have C6 := Kd.C_below C5 hb; have D6 := Kd.C_below D5 hb; have E6 := Kd.C_below E5 hb; have F6 := Kd.C_below F5 hb; obtain ⟨A5, c5, rfl⟩ := Kd.R_slice ho; have G6 := (Kd.R_reads' ho).2.2; have hg := (Kd.R_reads' ho).2.1; clear ho hb B5 C5 D5 E5 F5)) | (go_at_call 37; go_must (refine (sha_Short.calls 20 _ _ [y, p2, bytesOf a0, p4, p1] r _ (RowsOf.row (rows_cons hcap (Kd.C_alloc C6 _) (rows_cons hd (Kd.C_alloc D6 _) (rows_cons he (Kd.C_alloc E6 _) (rows_cons hf (Kd.C_alloc F6 _) (rows_cons hg (Kd.C_alloc G6 _) rows_nil))))) (blk_new _ _) (by simp)) (Nat.le_refl _) HSH.out).mono ?_; rintro e w7 ⟨rfl, hb⟩; have B7 := below_step (below_alloc B6 _) hb; clear hb B6 C6 D6 E6 F6 G6 hcap hd he hf hg)))
    go_ret
    exact ⟨rfl, B7⟩
  · rw [if_neg hs] at h
    cases h
end Go.Proofs.Ytclmikbbjhdplaa.X
-- Written by a program of this session (a turn of the kit's print with contracts by hand). Not trusted: Lean checks it.
namespace Go.Proofs.Ytclmikbbjhdplaa.X
open Go.RowKit Go.Proofs.YtclmikbbjhdplaaW.PrintWords Go.Proofs.YtclmikbbjhdplaaW.PrintLast Go.Proofs.YtclmikbbjhdplaaW.PrintMore
attribute [local go_sem] max2_int min2_int max_two min_two max_three min_three max_four min_four   -- for this text's walks alone
set_option linter.unusedVariables false
set_option linter.unusedSimpArgs false

/-! ### wots_Sign: function 22 -/
def wots_Sign.l0 : Nat → ByteArray → Int → List ByteArray → List Int → Int → Int → Option (List ByteArray)
  | 0, _, _, _, _, _, _ => none
  | k + 1, x0, x1, x7, x11, x12, x13 => if x13 < x12 then (if 0 ≤ x13 then (if x13 < (x11.length : Int) then ((wots_Secret.f x0 x1 x13).bind fun t383 => ((wots_Chain.f t383 (rd x11 x13)).bind fun t384 => (if x7.length < 8796093022208 then (wots_Sign.l0 k x0 x1 (x7 ++ [t384]) x11 x12 (wrap64 (x13 + 1))) else (none)))) else (none)) else (none)) else (some x7)
def wots_Sign.f (k : Nat) (a0 : ByteArray) (a1 : Int) (l2 : List Int) : Option (List ByteArray) := (wots_Parts.f l2).bind fun t379 => (wots_Sign.l0 k a0 a1 ([] : List ByteArray) t379 (t379.length : Int) 0)
theorem wots_Sign.mono_l : ∀ k, (∀ y0 y1 y2 y3 y4 y5, LeO (wots_Sign.l0 k y0 y1 y2 y3 y4 y5) (wots_Sign.l0 (k + 1) y0 y1 y2 y3 y4 y5))
  | 0 => fun _ _ _ _ _ _ r h => by simp [wots_Sign.l0] at h
  | k + 1 => by
    have ih0 := wots_Sign.mono_l k
    · intro y0 y1 y2 y3 y4 y5
      unfold wots_Sign.l0
      repeat' first
      | (with_reducible exact ih0 _ _ _ _ _ _)
      | (with_reducible exact LeO.refl _)
      | (with_reducible exact LeO.none _)
      | (with_reducible refine LeO.ite ?_ ?_)
      | (with_reducible refine LeO.bind ?_ (fun _ => ?_))
      | exact ih0 _ _ _ _ _ _
      | exact LeO.none _
      | refine LeO.ite ?_ ?_
      | refine LeO.bind ?_ (fun _ => ?_)
theorem wots_Sign.mono : ∀ a0 a1 a2 k, LeO (wots_Sign.f k a0 a1 a2) (wots_Sign.f (k + 1) a0 a1 a2) := by
  intro a0 a1 a2 k
  have ih0 := wots_Sign.mono_l k
  unfold wots_Sign.f
  repeat' first
      | (with_reducible exact ih0 _ _ _ _ _ _)
      | (with_reducible exact LeO.refl _)
      | (with_reducible exact LeO.none _)
      | (with_reducible refine LeO.ite ?_ ?_)
      | (with_reducible refine LeO.bind ?_ (fun _ => ?_))
      | exact ih0 _ _ _ _ _ _
      | exact LeO.none _
      | refine LeO.ite ?_ ?_
      | refine LeO.bind ?_ (fun _ => ?_)
set_option maxHeartbeats 8000000 in
set_option maxRecDepth 100000 in
theorem wots_Sign.calls (k : Nat) (a0 : ByteArray) (a1 : Int) (A2 : Option Addr) (c2 : Nat) (l2 : List Int) (r : List ByteArray) (w : World) (hr2 : Kd.C (Kd.int .u8) w A2 l2.length l2) (hc2 : l2.length ≤ c2) (h : wots_Sign.f k a0 a1 l2 = some r) :
    Calls Try.prog 22 #[.string a0, .int .i64 a1, .slice A2 l2.length c2] w fun e w' => ∃ v0_ : Value, e = .returned (v0_) ∧ Kd.R Kd.string 9 w' w.heap.size (fun _ => True) v0_ r ∧ Below w.heap.size w w' := by
  have HR2 := Aside0.mk hr2
  have HC2 := Aside0.mk hc2
  clear hr2 hc2
  have HB := Aside0.mk (Below.refl w.heap.size w)
  have H : ((wots_Parts.f l2).bind fun t379 => (wots_Sign.l0 k a0 a1 ([] : List ByteArray) t379 (t379.length : Int) 0)) = some r := h
  clear h
  replace H := Option.bind_eq_some_iff.mp H
  obtain ⟨t379, A40, H⟩ := H
  replace H : (wots_Sign.l0 k a0 a1 ([] : List ByteArray) t379 (t379.length : Int) 0) = some r := H
  have A4 := Aside0.mk A40
  clear A40
  have H' := Aside0.mk H
  clear H
  go_enter Try.func22, Try.ntmps22
  go_wp2_with (first | ((with_reducible refine gate_callee (f := 38) rfl ?_); refine goesL_ (some 11) rfl rfl Try.func38 (by kernel_rfl) rfl #[.slice A2 l2.length c2] rfl (by (try simp only [List.map_toArray, List.map_cons, List.map_nil]); first | done | rfl | (simp only [List.length_drop, List.length_take]; rfl)) ?_; (with_reducible refine (wots_Parts.calls _ _ l2 t379 _ ?side1 ?side2 A4.out).mono ?_); (case side1 => repeat (first | exact HR2.out | (with_reducible refine Kd.C_alloc ?_ _) | (with_reducible refine Kd.C_drewN ?_ _) | (with_reducible refine Kd.C_drew ?_))); (case side2 => exact HC2.out); rintro e w5 ⟨v380, rfl, ho0, hb⟩; refine ⟨_, rfl, ?_⟩; have n0_ := Aside0.mk (Kd.R_lower ho0 (below_size (by repeat (first | (with_reducible first | exact HB.out | apply below_alloc | apply pw_below_drewN | apply below_drew1) | exact HB.out)))); have n1_ := Aside0.mk (below_step (by repeat (first | (with_reducible first | exact HB.out | apply below_alloc | apply pw_below_drewN | apply below_drew1) | exact HB.out)) hb); clear HB; have HO381 := n0_; have HB := n1_; clear n0_ n1_; (try clear hb); (try clear hb2); (try clear hk); (try clear hi); (try clear ho0); obtain ⟨Ao6, co6, eo6⟩ := Kd.R_slice HO381.out; subst eo6))
  go_loopg [7, 13] k (fun kq v7 v13 w' => ∃ (x7_1 : List ByteArray) (x13_1 : Int), v13 = .int .i64 x13_1 ∧ Aside0 (wots_Sign.l0 kq a0 a1 x7_1 t379 (t379.length : Int) x13_1 = some r) ∧ Aside0 (kq ≤ k) ∧ Aside0 (Kd.R Kd.string 9 w' w.heap.size (fun _ => True) v7 x7_1) ∧ Aside0 (Kd.R (Kd.int .i64) 3 w' w.heap.size (fun _ => True) (.slice Ao6 t379.length co6) t379) ∧ Aside0 (Below w.heap.size w w'))
  case atStart => exact ⟨(([] : List ByteArray)), (0), (by first | rfl | (simp; done) | (simp [*]; done)), H', ⟨Nat.le_refl _⟩, ⟨by first | exact Kd.R_nil _ _ _ _ _ | exact Kd.N_nil _ _ _ _ _ | exact Kd.V_nil _ _ _ _ _ | exact Kd.Q_nil _ _ _ _ _ | exact Kd.S_nil _ _ _ _ _⟩, ⟨by (with_reducible repeat (first | apply Kd.R_alloc | apply Kd.R_drewN | apply Kd.R_drew)); exact HO381.out⟩, ⟨by repeat (first | (with_reducible first | exact HB.out | apply below_alloc | apply pw_below_drewN | apply below_drew1) | exact HB.out)⟩⟩
  case round =>
    clear H'
    try clear c2
    try clear p2
    try clear c3
    obtain ⟨x7_1, x13_1, rfl, HA, HK1, HO_7, HO_11, HB⟩ := hrel
    cases gk with
    | zero => exact absurd HA.out (by simp [wots_Sign.l0])
    | succ k1 =>
      have H := HA.out
      clear HA
      simp only [wots_Sign.l0] at H
      by_cases c7 : x13_1 < (t379.length : Int)
      · rw [if_pos c7] at H
        have c7b0 : decide (x13_1 < (t379.length : Int)) = true := decide_eq_true c7
        clear c7
        by_cases c8 : 0 ≤ x13_1
        · rw [if_pos c8] at H
          have c8b0 : decide (0 ≤ x13_1) = true := decide_eq_true c8
          clear c8
          by_cases c9 : x13_1 < (t379.length : Int)
          · rw [if_pos c9] at H
            have c9b0 : decide (x13_1 < (t379.length : Int)) = true := decide_eq_true c9
            clear c9
            replace H := Option.bind_eq_some_iff.mp H
            obtain ⟨t383, A100, H⟩ := H
            replace H : ((wots_Chain.f t383 (rd t379 x13_1)).bind fun t384 => (if x7_1.length < 8796093022208 then (wots_Sign.l0 k1 a0 a1 (x7_1 ++ [t384]) t379 (t379.length : Int) (wrap64 (x13_1 + 1))) else (none))) = some r := H
            have A10 := Aside0.mk A100
            clear A100
            replace H := Option.bind_eq_some_iff.mp H
            obtain ⟨t384, A110, H⟩ := H
            replace H : (if x7_1.length < 8796093022208 then (wots_Sign.l0 k1 a0 a1 (x7_1 ++ [t384]) t379 (t379.length : Int) (wrap64 (x13_1 + 1))) else (none)) = some r := H
            have A11 := Aside0.mk A110
            clear A110
            by_cases c12 : x7_1.length < 8796093022208
            · rw [if_pos c12] at H
              have LMc12 := Aside0.mk c12
              clear c12
              obtain ⟨y385, hy385⟩ : ∃ y_ : List ByteArray, y_ = (x7_1 ++ [t384]) := ⟨_, rfl⟩
              replace H : (wots_Sign.l0 k1 a0 a1 y385 t379 (t379.length : Int) (wrap64 (x13_1 + 1))) = some r := by first | (rw [hy385]; with_reducible exact H) | (have H2_ := (Option.bind_some _ _).symm.trans H; rw [hy385]; with_reducible exact H2_) | (have H2_ := (Option.bind_some _ _).symm.trans H; with_reducible exact H2_) | with_reducible exact H | (rw [hy385]; exact H) | exact H
              have Ny385 := Aside0.mk hy385
              clear hy385
              have H' := Aside0.mk H
              clear H
              have p382 : 0 ≤ (x13_1 : Int) := of_decide_eq_true (by first | (with_reducible assumption) | assumption)
              have q382 : x13_1 < (t379.length : Int) := of_decide_eq_true (by first | (with_reducible assumption) | assumption)
              obtain ⟨ad382, e382, hx382_0⟩ := Kd.at_int (Kd.R_reads' HO_11.out).2.2 x13_1 p382 q382
              cases e382
              replace p382 := eq_true p382
              replace q382 := eq_true q382
              go_wp2_with (first | ((with_reducible refine gate_callee (f := 43) rfl ?_); refine goesL_ (some 22) rfl rfl Try.func43 (by kernel_rfl) rfl #[.string a0, .int .i64 a1, .int .i64 x13_1] rfl (by (try simp only [List.map_toArray, List.map_cons, List.map_nil]); first | done | rfl | (simp only [List.length_drop, List.length_take]; rfl)) ?_; (with_reducible refine (wots_Secret.calls a0 a1 x13_1 t383 _ A10.out).mono ?_); rintro e w13 ⟨rfl, hb⟩; refine ⟨_, rfl, ?_⟩; have n0_ := Aside0.mk (Kd.R_below (by (with_reducible repeat (first | apply Kd.R_alloc | apply Kd.R_drewN | apply Kd.R_drew)); exact HO_7.out) hb); have n1_ := Aside0.mk (Kd.R_below (by (with_reducible repeat (first | apply Kd.R_alloc | apply Kd.R_drewN | apply Kd.R_drew)); exact HO_11.out) hb); have n2_ := Aside0.mk (below_step (by repeat (first | (with_reducible first | exact HB.out | apply below_alloc | apply pw_below_drewN | apply below_drew1) | exact HB.out)) hb); clear HO_7; clear HO_11; clear HB; have HO_7 := n0_; have HO_11 := n1_; have HB := n2_; clear n0_ n1_ n2_; (try clear hb); (try clear hb2); (try clear hk); (try clear hi)) | ((with_reducible refine gate_callee (f := 39) rfl ?_); refine goesL_ (some 24) rfl rfl Try.func39 (by kernel_rfl) rfl #[.string t383, .int .i64 (rd t379 x13_1)] rfl (by (try simp only [List.map_toArray, List.map_cons, List.map_nil]); first | done | rfl | (simp only [List.length_drop, List.length_take]; rfl)) ?_; (with_reducible refine (wots_Chain.calls t383 (rd t379 x13_1) t384 _ A11.out).mono ?_); rintro e w14 ⟨rfl, hb⟩; refine ⟨_, rfl, ?_⟩; have n0_ := Aside0.mk (Kd.R_below (by (with_reducible repeat (first | apply Kd.R_alloc | apply Kd.R_drewN | apply Kd.R_drew)); exact HO_7.out) hb); have n1_ := Aside0.mk (Kd.R_below (by (with_reducible repeat (first | apply Kd.R_alloc | apply Kd.R_drewN | apply Kd.R_drew)); exact HO_11.out) hb); have n2_ := Aside0.mk (below_step (by repeat (first | (with_reducible first | exact HB.out | apply below_alloc | apply pw_below_drewN | apply below_drew1) | exact HB.out)) hb); clear HO_7; clear HO_11; clear HB; have HO_7 := n0_; have HO_11 := n1_; have HB := n2_; clear n0_ n1_ n2_; (try clear hb); (try clear hb2); (try clear hk); (try clear hi)) | ((with_reducible refine gate_builtin (b := .append) (xs := #[.tmp 18, .tmp 25]) rfl ?_); at_builtin; refine Kd.R_append Kd.string (w0 := w) w.heap.size rfl (.tmp 18) (.tmp 25) 36 9 (.string ⟨#[]⟩) 16 rfl Try.underlying36 info9 rfl (by decide) (by omega) u7 x7_1 t384 [.string t384] (fun _ => True) (fun _ => False) rfl rfl ?aP (fun _ hk => hk.elim) ?aF ?aO ?aB ?aS ?aL ?_; (case aP => exact rfl); (case aB => exact (by repeat (first | (with_reducible first | exact HB.out | apply below_alloc | apply pw_below_drewN | apply below_drew1) | exact HB.out))); (case aF => exact (fun _ _ => trivial)); (case aO => exact (by (with_reducible repeat (first | apply Kd.R_alloc | apply Kd.R_drewN | apply Kd.R_drew)); exact HO_7.out)); (case aS => exact (below_size (by repeat (first | (with_reducible first | exact HB.out | apply below_alloc | apply pw_below_drewN | apply below_drew1) | exact HB.out)))); (case aL => have := LMc12.out; omega); intro v386 w15 ho hb hg hat; rw [← Ny385.out] at ho; have n0_ := Aside0.mk (Kd.R_over' (by (with_reducible repeat (first | apply Kd.R_alloc | apply Kd.R_drewN | apply Kd.R_drew)); exact HO_11.out) (Kd.R_typed (by (with_reducible repeat (first | apply Kd.R_alloc | apply Kd.R_drewN | apply Kd.R_drew)); exact HO_7.out)) (by decide) hg); have n1_ := Aside0.mk (hb); have n2_ := Aside0.mk (ho); clear HO_11; clear HB; clear HO_7; have HO_11 := n0_; have HB := n1_; have HO387 := n2_; clear n0_ n1_ n2_; clear ho hb hg hat))
              go_roundg k1
              case measure => have := HK1.out; omega
              case rel => exact ⟨(y385), (wrap64 (x13_1 + 1)), (by first | rfl | (simp; done) | (simp [*]; done)), H', ⟨by have := HK1.out; omega⟩, ⟨by (with_reducible repeat (first | apply Kd.R_alloc | apply Kd.R_drewN | apply Kd.R_drew)); exact HO387.out⟩, ⟨by (with_reducible repeat (first | apply Kd.R_alloc | apply Kd.R_drewN | apply Kd.R_drew)); exact HO_11.out⟩, ⟨by repeat (first | (with_reducible first | exact HB.out | apply below_alloc | apply pw_below_drewN | apply below_drew1) | exact HB.out)⟩⟩
            · rw [if_neg c12] at H
              exact absurd H (by simp)
          · rw [if_neg c9] at H
            exact absurd H (by simp)
        · rw [if_neg c8] at H
          exact absurd H (by simp)
      · rw [if_neg c7] at H
        have c7b0 : decide (x13_1 < (t379.length : Int)) = false := decide_eq_false c7
        clear c7
        obtain rfl := Option.some.inj H
        go_wp2
        go_ret
        exact ⟨_, by first | rfl | (simp [errW_none, errW_some] <;> rfl) | (simp [*, errW_none, errW_some] <;> rfl), by (with_reducible repeat (first | apply Kd.R_alloc | apply Kd.R_drewN | apply Kd.R_drew)); exact HO_7.out, by repeat (first | (with_reducible first | exact HB.out | apply below_alloc | apply pw_below_drewN | apply below_drew1) | exact HB.out)⟩

end Go.Proofs.Ytclmikbbjhdplaa.X
-- Written by a program of this session (a turn of the kit's print with contracts by hand). Not trusted: Lean checks it.
namespace Go.Proofs.Ytclmikbbjhdplaa.X
open Go.RowKit Go.Proofs.YtclmikbbjhdplaaW.PrintWords Go.Proofs.YtclmikbbjhdplaaW.PrintLast Go.Proofs.YtclmikbbjhdplaaW.PrintMore
attribute [local go_sem] max2_int min2_int max_two min_two max_three min_three max_four min_four   -- for this text's walks alone
set_option linter.unusedVariables false
set_option linter.unusedSimpArgs false

/-! ### mootlaw03_alive: function 24 -/
def mootlaw03_alive.f  : Option (Bool) := (wots_Parts.f ([] : List Int)).bind fun t394 => (if (t394.length : Int) = 11 then ((wots_Secret.f (⟨#[115]⟩ : ByteArray) 0 0).bind fun t397 => (some ((t397.size : Int) == 8))) else (some false))
set_option maxHeartbeats 8000000 in
set_option maxRecDepth 100000 in
theorem mootlaw03_alive.calls  (r : Bool) (w : World) (h : mootlaw03_alive.f  = some r) :
    Calls Try.prog 24 #[] w fun e w' => e = .returned (.bool r) ∧ Below w.heap.size w w' := by
  have HB := Aside0.mk (Below.refl w.heap.size w)
  have H : ((wots_Parts.f ([] : List Int)).bind fun t394 => (if (t394.length : Int) = 11 then ((wots_Secret.f (⟨#[115]⟩ : ByteArray) 0 0).bind fun t397 => (some ((t397.size : Int) == 8))) else (some false))) = some r := h
  clear h
  replace H := Option.bind_eq_some_iff.mp H
  obtain ⟨t394, A10, H⟩ := H
  replace H : (if (t394.length : Int) = 11 then ((wots_Secret.f (⟨#[115]⟩ : ByteArray) 0 0).bind fun t397 => (some ((t397.size : Int) == 8))) else (some false)) = some r := H
  have A1 := Aside0.mk A10
  clear A10
  by_cases c2 : (t394.length : Int) = 11
  · rw [if_pos c2] at H
    have c2b0 : ((t394.length : Int) == 11) = true := beq_iff_eq.mpr c2
    have c2b1 : ((t394.length : Int) != 11) = false := bne_eq_false_iff_eq.mpr c2
    clear c2
    replace H := Option.bind_eq_some_iff.mp H
    obtain ⟨t397, A30, H⟩ := H
    replace H : (some ((t397.size : Int) == 8)) = some r := H
    have A3 := Aside0.mk A30
    clear A30
    obtain rfl := Option.some.inj H
    go_enter Try.func24, Try.ntmps24
    go_wp2_with (first | ((with_reducible refine gate_callee (f := 38) rfl ?_); refine goesL_ (some 1) rfl rfl Try.func38 (by kernel_rfl) rfl #[.slice none 0 0] rfl (by (try simp only [List.map_toArray, List.map_cons, List.map_nil]); first | done | rfl | (simp only [List.length_drop, List.length_take]; rfl)) ?_; (refine (wots_Parts.calls _ _ ([] : List Int) t394 _ ?side1 ?side2 A1.out).mono ?_); (case side1 => exact Kd.C_nil _ _); (case side2 => exact Nat.le_refl _); rintro e w4 ⟨v395, rfl, ho0, hb⟩; refine ⟨_, rfl, ?_⟩; have n0_ := Aside0.mk (Kd.R_lower ho0 (below_size (by repeat (first | (with_reducible first | exact HB.out | apply below_alloc | apply pw_below_drewN | apply below_drew1) | exact HB.out)))); have n1_ := Aside0.mk (below_step (by repeat (first | (with_reducible first | exact HB.out | apply below_alloc | apply pw_below_drewN | apply below_drew1) | exact HB.out)) hb); clear HB; have HO396 := n0_; have HB := n1_; clear n0_ n1_; (try clear hb); (try clear hb2); (try clear hk); (try clear hi); (try clear ho0); obtain ⟨Ao5, co5, eo5⟩ := Kd.R_slice HO396.out; subst eo5) | (go_at_call 43; (with_reducible refine (wots_Secret.calls (⟨#[115]⟩ : ByteArray) 0 0 t397 _ A3.out).mono ?_); rintro e w6 ⟨rfl, hb⟩; have n0_ := Aside0.mk (Kd.R_below (by (with_reducible repeat (first | apply Kd.R_alloc | apply Kd.R_drewN | apply Kd.R_drew)); exact HO396.out) hb); have n1_ := Aside0.mk (below_step (by repeat (first | (with_reducible first | exact HB.out | apply below_alloc | apply pw_below_drewN | apply below_drew1) | exact HB.out)) hb); clear HO396; clear HB; have HO396 := n0_; have HB := n1_; clear n0_ n1_; (try clear hb); (try clear hb2); (try clear hk); (try clear hi)))
    go_ret
    exact ⟨by first | rfl | (simp [errW_none, errW_some] <;> rfl) | (simp [*, errW_none, errW_some] <;> rfl), by repeat (first | (with_reducible first | exact HB.out | apply below_alloc | apply pw_below_drewN | apply below_drew1) | exact HB.out)⟩
  · rw [if_neg c2] at H
    have c2b0 : ((t394.length : Int) == 11) = false := beq_eq_false_iff_ne.mpr c2
    have c2b1 : ((t394.length : Int) != 11) = true := bne_iff_ne.mpr c2
    obtain rfl := Option.some.inj H
    go_enter Try.func24, Try.ntmps24
    go_wp2_with (first | ((with_reducible refine gate_callee (f := 38) rfl ?_); refine goesL_ (some 1) rfl rfl Try.func38 (by kernel_rfl) rfl #[.slice none 0 0] rfl (by (try simp only [List.map_toArray, List.map_cons, List.map_nil]); first | done | rfl | (simp only [List.length_drop, List.length_take]; rfl)) ?_; (refine (wots_Parts.calls _ _ ([] : List Int) t394 _ ?side1 ?side2 A1.out).mono ?_); (case side1 => exact Kd.C_nil _ _); (case side2 => exact Nat.le_refl _); rintro e w7 ⟨v395, rfl, ho0, hb⟩; refine ⟨_, rfl, ?_⟩; have n0_ := Aside0.mk (Kd.R_lower ho0 (below_size (by repeat (first | (with_reducible first | exact HB.out | apply below_alloc | apply pw_below_drewN | apply below_drew1) | exact HB.out)))); have n1_ := Aside0.mk (below_step (by repeat (first | (with_reducible first | exact HB.out | apply below_alloc | apply pw_below_drewN | apply below_drew1) | exact HB.out)) hb); clear HB; have HO396 := n0_; have HB := n1_; clear n0_ n1_; (try clear hb); (try clear hb2); (try clear hk); (try clear hi); (try clear ho0); obtain ⟨Ao8, co8, eo8⟩ := Kd.R_slice HO396.out; subst eo8))
    go_ret
    exact ⟨by first | rfl | (simp [errW_none, errW_some] <;> rfl) | (simp [*, errW_none, errW_some] <;> rfl), by repeat (first | (with_reducible first | exact HB.out | apply below_alloc | apply pw_below_drewN | apply below_drew1) | exact HB.out)⟩

end Go.Proofs.Ytclmikbbjhdplaa.X
-- Written by a program of this session (a turn of the kit's print with contracts by hand). Not trusted: Lean checks it.
namespace Go.Proofs.Ytclmikbbjhdplaa.X
open Go.RowKit Go.Proofs.YtclmikbbjhdplaaW.PrintWords Go.Proofs.YtclmikbbjhdplaaW.PrintLast Go.Proofs.YtclmikbbjhdplaaW.PrintMore
attribute [local go_sem] max2_int min2_int max_two min_two max_three min_three max_four min_four   -- for this text's walks alone
set_option linter.unusedVariables false
set_option linter.unusedSimpArgs false

/-! ### mootplain_Texts: function 46 -/
def mootplain_Texts.l0 : Nat → List ByteArray → List ByteArray → Int → Option (Bool)
  | 0, _, _, _ => none
  | k + 1, x0, x1, x5 => if x5 < (x0.length : Int) then (if 0 ≤ x5 then (if x5 < (x1.length : Int) then (if (rdOf ByteArray.empty x0 x5).toList = (rdOf ByteArray.empty x1 x5).toList then (mootplain_Texts.l0 k x0 x1 (wrap64 (x5 + 1))) else (some false)) else (none)) else (none)) else (some true)
def mootplain_Texts.f (k : Nat) (l0 : List ByteArray) (l1 : List ByteArray) : Option (Bool) := if (l0.length : Int) = (l1.length : Int) then (mootplain_Texts.l0 k l0 l1 0) else (some false)
theorem mootplain_Texts.mono_l : ∀ k, (∀ y0 y1 y2, LeO (mootplain_Texts.l0 k y0 y1 y2) (mootplain_Texts.l0 (k + 1) y0 y1 y2))
  | 0 => fun _ _ _ r h => by simp [mootplain_Texts.l0] at h
  | k + 1 => by
    have ih0 := mootplain_Texts.mono_l k
    · intro y0 y1 y2
      unfold mootplain_Texts.l0
      repeat' first
      | (with_reducible exact ih0 _ _ _)
      | (with_reducible exact LeO.refl _)
      | (with_reducible exact LeO.none _)
      | (with_reducible refine LeO.ite ?_ ?_)
      | (with_reducible refine LeO.bind ?_ (fun _ => ?_))
      | exact ih0 _ _ _
      | exact LeO.none _
      | refine LeO.ite ?_ ?_
      | refine LeO.bind ?_ (fun _ => ?_)
theorem mootplain_Texts.mono : ∀ a0 a1 k, LeO (mootplain_Texts.f k a0 a1) (mootplain_Texts.f (k + 1) a0 a1) := by
  intro a0 a1 k
  have ih0 := mootplain_Texts.mono_l k
  unfold mootplain_Texts.f
  repeat' first
      | (with_reducible exact ih0 _ _ _)
      | (with_reducible exact LeO.refl _)
      | (with_reducible exact LeO.none _)
      | (with_reducible refine LeO.ite ?_ ?_)
      | (with_reducible refine LeO.bind ?_ (fun _ => ?_))
      | exact ih0 _ _ _
      | exact LeO.none _
      | refine LeO.ite ?_ ?_
      | refine LeO.bind ?_ (fun _ => ?_)
set_option maxHeartbeats 8000000 in
set_option maxRecDepth 100000 in
theorem mootplain_Texts.calls (k : Nat) (A0 : Option Addr) (c0 : Nat) (l0 : List ByteArray) (A1 : Option Addr) (c1 : Nat) (l1 : List ByteArray) (r : Bool) (w : World) (hr0 : Kd.C Kd.string w A0 l0.length l0) (hc0 : l0.length ≤ c0) (hr1 : Kd.C Kd.string w A1 l1.length l1) (hc1 : l1.length ≤ c1) (h : mootplain_Texts.f k l0 l1 = some r) :
    Calls Try.prog 46 #[.slice A0 l0.length c0, .slice A1 l1.length c1] w fun e w' => e = .returned (.bool r) ∧ Drawn0 w w' := by
  have HR0 := Aside0.mk hr0
  have HC0 := Aside0.mk hc0
  clear hr0 hc0
  have HR1 := Aside0.mk hr1
  have HC1 := Aside0.mk hc1
  clear hr1 hc1
  have H : (if (l0.length : Int) = (l1.length : Int) then (mootplain_Texts.l0 k l0 l1 0) else (some false)) = some r := h
  clear h
  by_cases c3 : (l0.length : Int) = (l1.length : Int)
  · rw [if_pos c3] at H
    have c3b0 : ((l0.length : Int) == (l1.length : Int)) = true := beq_iff_eq.mpr c3
    have c3b1 : ((l0.length : Int) != (l1.length : Int)) = false := bne_eq_false_iff_eq.mpr c3
    have c3b2 : (l0.length == l1.length) = true := by first | simpa using c3 | (simp at c3 ⊢; omega)
    clear c3
    have H' := Aside0.mk H
    clear H
    go_enter Try.func46, Try.ntmps46
    go_wp2
    repeat (go_quiet (fail); try go_wp2)
    go_loopg [5] k (fun kq v5 w' => ∃ (x5_1 : Int), v5 = .int .i64 x5_1 ∧ Aside0 (mootplain_Texts.l0 kq l0 l1 x5_1 = some r) ∧ Aside0 (kq ≤ k) ∧ Drawn0 w w')
    case atStart => exact ⟨(0), (by first | rfl | (simp; done) | (simp [*]; done)), H', ⟨Nat.le_refl _⟩, by repeat (first | exact Drawn0.refl _ | apply Drawn0.step)⟩
    case round =>
      clear H'
      try clear c1
      try clear p2
      try clear c3
      try clear c3b0
      try clear c3b1
      try clear c3b2
      obtain ⟨x5_1, rfl, HA, HK1, ⟨m1, rfl⟩⟩ := hrel
      cases gk with
      | zero => exact absurd HA.out (by simp [mootplain_Texts.l0])
      | succ k1 =>
        have H := HA.out
        clear HA
        simp only [mootplain_Texts.l0] at H
        by_cases c4 : x5_1 < (l0.length : Int)
        · rw [if_pos c4] at H
          have c4b0 : decide (x5_1 < (l0.length : Int)) = true := decide_eq_true c4
          clear c4
          by_cases c5 : 0 ≤ x5_1
          · rw [if_pos c5] at H
            have c5b0 : decide (0 ≤ x5_1) = true := decide_eq_true c5
            clear c5
            by_cases c6 : x5_1 < (l1.length : Int)
            · rw [if_pos c6] at H
              have c6b0 : decide (x5_1 < (l1.length : Int)) = true := decide_eq_true c6
              clear c6
              by_cases c7 : (rdOf ByteArray.empty l0 x5_1).toList = (rdOf ByteArray.empty l1 x5_1).toList
              · rw [if_pos c7] at H
                have c7b0 : ((rdOf ByteArray.empty l0 x5_1).toList == (rdOf ByteArray.empty l1 x5_1).toList) = true := beq_iff_eq.mpr c7
                have c7b1 : ((rdOf ByteArray.empty l0 x5_1).toList != (rdOf ByteArray.empty l1 x5_1).toList) = false := bne_eq_false_iff_eq.mpr c7
                clear c7
                have H' := Aside0.mk H
                clear H
                have p457 : 0 ≤ (x5_1 : Int) := of_decide_eq_true (by first | (with_reducible assumption) | assumption)
                have q457 : x5_1 < (l0.length : Int) := of_decide_eq_true (by first | (with_reducible assumption) | assumption)
                obtain ⟨ad457, e457, hx457_0⟩ := Kd.at_string HR0.out x5_1 p457 q457
                cases e457
                replace p457 := eq_true p457
                replace q457 := eq_true q457
                have p458 : 0 ≤ (x5_1 : Int) := of_decide_eq_true (by first | (with_reducible assumption) | assumption)
                have q458 : x5_1 < (l1.length : Int) := of_decide_eq_true (by first | (with_reducible assumption) | assumption)
                obtain ⟨ad458, e458, hx458_0⟩ := Kd.at_string HR1.out x5_1 p458 q458
                cases e458
                replace p458 := eq_true p458
                replace q458 := eq_true q458
                go_wp2
                repeat (go_quiet (fail); try go_wp2)
                go_roundg k1
                case measure => have := HK1.out; omega
                case rel => exact ⟨(wrap64 (x5_1 + 1)), (by first | rfl | (simp; done) | (simp [*]; done)), H', ⟨by have := HK1.out; omega⟩, by repeat (first | exact Drawn0.refl _ | apply Drawn0.step)⟩
              · rw [if_neg c7] at H
                have c7b0 : ((rdOf ByteArray.empty l0 x5_1).toList == (rdOf ByteArray.empty l1 x5_1).toList) = false := beq_eq_false_iff_ne.mpr c7
                have c7b1 : ((rdOf ByteArray.empty l0 x5_1).toList != (rdOf ByteArray.empty l1 x5_1).toList) = true := bne_iff_ne.mpr c7
                obtain rfl := Option.some.inj H
                have p457 : 0 ≤ (x5_1 : Int) := of_decide_eq_true (by first | (with_reducible assumption) | assumption)
                have q457 : x5_1 < (l0.length : Int) := of_decide_eq_true (by first | (with_reducible assumption) | assumption)
                obtain ⟨ad457, e457, hx457_0⟩ := Kd.at_string HR0.out x5_1 p457 q457
                cases e457
                replace p457 := eq_true p457
                replace q457 := eq_true q457
                have p458 : 0 ≤ (x5_1 : Int) := of_decide_eq_true (by first | (with_reducible assumption) | assumption)
                have q458 : x5_1 < (l1.length : Int) := of_decide_eq_true (by first | (with_reducible assumption) | assumption)
                obtain ⟨ad458, e458, hx458_0⟩ := Kd.at_string HR1.out x5_1 p458 q458
                cases e458
                replace p458 := eq_true p458
                replace q458 := eq_true q458
                go_wp2
                repeat (go_quiet (fail); try go_wp2)
                go_ret
                exact ⟨by first | rfl | (simp; done) | (simp [*]; done), by repeat (first | exact Drawn0.refl _ | apply Drawn0.step)⟩
            · rw [if_neg c6] at H
              exact absurd H (by simp)
          · rw [if_neg c5] at H
            exact absurd H (by simp)
        · rw [if_neg c4] at H
          have c4b0 : decide (x5_1 < (l0.length : Int)) = false := decide_eq_false c4
          clear c4
          obtain rfl := Option.some.inj H
          go_wp2
          repeat (go_quiet (fail); try go_wp2)
          go_ret
          exact ⟨by first | rfl | (simp; done) | (simp [*]; done), by repeat (first | exact Drawn0.refl _ | apply Drawn0.step)⟩
  · rw [if_neg c3] at H
    have c3b0 : ((l0.length : Int) == (l1.length : Int)) = false := beq_eq_false_iff_ne.mpr c3
    have c3b1 : ((l0.length : Int) != (l1.length : Int)) = true := bne_iff_ne.mpr c3
    have c3b2 : (l0.length == l1.length) = false := by first | simpa using c3 | (simp at c3 ⊢; omega)
    obtain rfl := Option.some.inj H
    go_enter Try.func46, Try.ntmps46
    go_wp2
    repeat (go_quiet (fail); try go_wp2)
    go_ret
    exact ⟨by first | rfl | (simp; done) | (simp [*]; done), by repeat (first | exact Drawn0.refl _ | apply Drawn0.step)⟩

end Go.Proofs.Ytclmikbbjhdplaa.X
-- Written by a program of this session (a turn of the kit's print with contracts by hand). Not trusted: Lean checks it.
namespace Go.Proofs.Ytclmikbbjhdplaa.X
open Go.RowKit Go.Proofs.YtclmikbbjhdplaaW.PrintWords Go.Proofs.YtclmikbbjhdplaaW.PrintLast Go.Proofs.YtclmikbbjhdplaaW.PrintMore
attribute [local go_sem] max2_int min2_int max_two min_two max_three min_three max_four min_four   -- for this text's walks alone
set_option linter.unusedVariables false
set_option linter.unusedSimpArgs false

/-! ### mootref01_Put: function 25 -/
def mootref01_Put.l0 : Nat → Int → Int → List Int → Int → Option (List Int)
  | 0, _, _, _, _ => none
  | k + 1, x0, x1, x5, x6 => if x6 < x1 then (if 0 ≤ (IntKind.u64.wrap (wrap64 (8 * (wrap64 ((wrap64 (x1 - 1)) - x6))))) then (if x5.length < 140737488355328 then (mootref01_Put.l0 k x0 x1 (x5 ++ [(shr .u64 (IntKind.u64.wrap (x0)) (IntKind.u64.wrap (wrap64 (8 * (wrap64 ((wrap64 (x1 - 1)) - x6)))))) % 256]) (wrap64 (x6 + 1))) else (none)) else (none)) else (some x5)
def mootref01_Put.f (k : Nat) (a0 : Int) (a1 : Int) : Option (List Int) := mootref01_Put.l0 k a0 (mn (mx a1 0) 8) ([] : List Int) 0
theorem mootref01_Put.mono_l : ∀ k, (∀ y0 y1 y2 y3, LeO (mootref01_Put.l0 k y0 y1 y2 y3) (mootref01_Put.l0 (k + 1) y0 y1 y2 y3))
  | 0 => fun _ _ _ _ r h => by simp [mootref01_Put.l0] at h
  | k + 1 => by
    have ih0 := mootref01_Put.mono_l k
    · intro y0 y1 y2 y3
      unfold mootref01_Put.l0
      repeat' first
      | (with_reducible exact ih0 _ _ _ _)
      | (with_reducible exact LeO.refl _)
      | (with_reducible exact LeO.none _)
      | (with_reducible refine LeO.ite ?_ ?_)
      | (with_reducible refine LeO.bind ?_ (fun _ => ?_))
      | exact ih0 _ _ _ _
      | exact LeO.none _
      | refine LeO.ite ?_ ?_
      | refine LeO.bind ?_ (fun _ => ?_)
theorem mootref01_Put.mono : ∀ a0 a1 k, LeO (mootref01_Put.f k a0 a1) (mootref01_Put.f (k + 1) a0 a1) := by
  intro a0 a1 k
  have ih0 := mootref01_Put.mono_l k
  unfold mootref01_Put.f
  repeat' first
      | (with_reducible exact ih0 _ _ _ _)
      | (with_reducible exact LeO.refl _)
      | (with_reducible exact LeO.none _)
      | (with_reducible refine LeO.ite ?_ ?_)
      | (with_reducible refine LeO.bind ?_ (fun _ => ?_))
      | exact ih0 _ _ _ _
      | exact LeO.none _
      | refine LeO.ite ?_ ?_
      | refine LeO.bind ?_ (fun _ => ?_)
set_option maxHeartbeats 8000000 in
set_option maxRecDepth 100000 in
theorem mootref01_Put.calls (k : Nat) (a0 : Int) (a1 : Int) (r : List Int) (w : World) (h : mootref01_Put.f k a0 a1 = some r) :
    Calls Try.prog 25 #[.int .i64 a0, .int .i64 a1] w fun e w' => ∃ v0_ : Value, e = .returned (v0_) ∧ Kd.R (Kd.int .u8) 5 w' w.heap.size (fun _ => True) v0_ r ∧ Below w.heap.size w w' := by
  have HB := Aside0.mk (Below.refl w.heap.size w)
  have H : (mootref01_Put.l0 k a0 (mn (mx a1 0) 8) ([] : List Int) 0) = some r := h
  clear h
  obtain ⟨ji3, hji3⟩ : ∃ j_ : Int, (mx a1 0) = j_ := ⟨_, rfl⟩
  replace H : (mootref01_Put.l0 k a0 (mn (ji3) 8) ([] : List Int) 0) = some r := by first | (rw [hji3] at H; exact H) | (simp only [hji3] at H ⊢; exact H)
  (try (have hji3l : 0 ≤ ji3 := by (rw [← hji3]; unfold mx; (repeat' split) <;> omega)))
  (try (have hji3m : 0 ≤ ji3 := by omega))
  have hji3_ : (if a1 < 0 then 0 else a1) = ji3 := hji3
  obtain ⟨ji4, hji4⟩ : ∃ j_ : Int, (mn (ji3) 8) = j_ := ⟨_, rfl⟩
  replace H : (mootref01_Put.l0 k a0 ji4 ([] : List Int) 0) = some r := by first | (rw [hji4] at H; exact H) | (simp only [hji4] at H ⊢; exact H)
  have hji4_ : (if 8 < (ji3) then 8 else (ji3)) = ji4 := hji4
  have H' := Aside0.mk H
  clear H
  go_enter Try.func25, Try.ntmps25
  go_wp2
  go_loopg [5, 6] k (fun kq v5 v6 w' => ∃ (x5_1 : List Int) (x6_1 : Int), v6 = .int .i64 x6_1 ∧ Aside0 (mootref01_Put.l0 kq a0 ji4 x5_1 x6_1 = some r) ∧ Aside0 (kq ≤ k) ∧ Aside0 (Kd.R (Kd.int .u8) 5 w' w.heap.size (fun _ => True) v5 x5_1) ∧ Aside0 (Below w.heap.size w w'))
  case atStart => exact ⟨(([] : List Int)), (0), (by first | rfl | (simp; done) | (simp [*]; done)), H', ⟨Nat.le_refl _⟩, ⟨by first | exact Kd.R_nil _ _ _ _ _ | exact Kd.N_nil _ _ _ _ _ | exact Kd.V_nil _ _ _ _ _ | exact Kd.Q_nil _ _ _ _ _ | exact Kd.S_nil _ _ _ _ _⟩, ⟨by repeat (first | (with_reducible first | exact HB.out | apply below_alloc | apply pw_below_drewN | apply below_drew1) | exact HB.out)⟩⟩
  case round =>
    clear H'
    clear hji4_ hji4 hji3_ hji3
    try clear c2
    try clear p2
    obtain ⟨x5_1, x6_1, rfl, HA, HK1, HO_5, HB⟩ := hrel
    cases gk with
    | zero => exact absurd HA.out (by simp [mootref01_Put.l0])
    | succ k1 =>
      have H := HA.out
      clear HA
      simp only [mootref01_Put.l0] at H
      by_cases c5 : x6_1 < ji4
      · rw [if_pos c5] at H
        have c5b0 : decide (x6_1 < ji4) = true := decide_eq_true c5
        clear c5
        obtain ⟨ji6, hji6⟩ : ∃ j_ : Int, (IntKind.u64.wrap (wrap64 (8 * (wrap64 ((wrap64 (ji4 - 1)) - x6_1))))) = j_ := ⟨_, rfl⟩
        replace H : (if 0 ≤ (ji6) then (if x5_1.length < 140737488355328 then (mootref01_Put.l0 k1 a0 ji4 (x5_1 ++ [(shr .u64 (IntKind.u64.wrap (a0)) (ji6)) % 256]) (wrap64 (x6_1 + 1))) else (none)) else (none)) = some r := by first | (rw [hji6] at H; exact H) | (simp only [hji6] at H ⊢; exact H)
        by_cases c7 : 0 ≤ (ji6)
        · rw [if_pos c7] at H
          have c7b0 := eq_true c7
          have c7b1 : decide (0 ≤ (ji6)) = true := decide_eq_true c7
          clear c7
          obtain ⟨ji8, hji8⟩ : ∃ j_ : Int, (shr .u64 (IntKind.u64.wrap (a0)) (ji6)) = j_ := ⟨_, rfl⟩
          replace H : (if x5_1.length < 140737488355328 then (mootref01_Put.l0 k1 a0 ji4 (x5_1 ++ [(ji8) % 256]) (wrap64 (x6_1 + 1))) else (none)) = some r := by first | (rw [hji8] at H; exact H) | (simp only [hji8] at H ⊢; exact H)
          have hji8_ : ((IntKind.u64.wrap (a0)) / 2 ^ min (ji6).toNat 64) = ji8 := hji8
          have hji8z : (ji6) ≤ 64 → ((IntKind.u64.wrap (a0)) / 2 ^ (ji6).toNat) = ji8 := shr_small hji8
          by_cases c9 : x5_1.length < 140737488355328
          · rw [if_pos c9] at H
            have LMc9 := Aside0.mk c9
            clear c9
            obtain ⟨y146, hy146⟩ : ∃ y_ : List Int, y_ = (x5_1 ++ [(ji8) % 256]) := ⟨_, rfl⟩
            replace H : (mootref01_Put.l0 k1 a0 ji4 y146 (wrap64 (x6_1 + 1))) = some r := by first | (rw [hy146]; with_reducible exact H) | (have H2_ := (Option.bind_some _ _).symm.trans H; rw [hy146]; with_reducible exact H2_) | (have H2_ := (Option.bind_some _ _).symm.trans H; with_reducible exact H2_) | with_reducible exact H | (rw [hy146]; exact H) | exact H
            have Ny146 := Aside0.mk hy146
            clear hy146
            have H' := Aside0.mk H
            clear H
            go_wp2_with (first | ((with_reducible refine gate_builtin (b := .append) (xs := #[.tmp 15, .tmp 26]) rfl ?_); at_builtin; refine Kd.R_append (Kd.int .u8) (w0 := w) w.heap.size rfl (.tmp 15) (.tmp 26) 23 5 (.int .u8 0) 1 rfl Try.underlying23 info5 rfl (by decide) (by omega) u5 x5_1 ((ji8) % 256) [.int .u8 ((ji8) % 256)] (fun _ => True) (fun _ => False) rfl rfl ?aP (fun _ hk => hk.elim) ?aF ?aO ?aB ?aS ?aL ?_; (case aP => exact rfl); (case aB => exact (by repeat (first | (with_reducible first | exact HB.out | apply below_alloc | apply pw_below_drewN | apply below_drew1) | exact HB.out))); (case aF => exact (fun _ _ => trivial)); (case aO => exact (by (with_reducible repeat (first | apply Kd.R_alloc | apply Kd.R_drewN | apply Kd.R_drew)); exact HO_5.out)); (case aS => exact (below_size (by repeat (first | (with_reducible first | exact HB.out | apply below_alloc | apply pw_below_drewN | apply below_drew1) | exact HB.out)))); (case aL => have := LMc9.out; omega); intro v147 w10 ho hb hg hat; rw [← Ny146.out] at ho; have n0_ := Aside0.mk (hb); have n1_ := Aside0.mk (ho); clear HB; clear HO_5; have HB := n0_; have HO148 := n1_; clear n0_ n1_; clear ho hb hg hat))
            go_roundg k1
            case measure => have := HK1.out; omega
            case rel => exact ⟨(y146), (wrap64 (x6_1 + 1)), (by first | rfl | (simp; done) | (simp [*]; done)), H', ⟨by have := HK1.out; omega⟩, ⟨by (with_reducible repeat (first | apply Kd.R_alloc | apply Kd.R_drewN | apply Kd.R_drew)); exact HO148.out⟩, ⟨by repeat (first | (with_reducible first | exact HB.out | apply below_alloc | apply pw_below_drewN | apply below_drew1) | exact HB.out)⟩⟩
          · rw [if_neg c9] at H
            exact absurd H (by simp)
        · rw [if_neg c7] at H
          exact absurd H (by simp)
      · rw [if_neg c5] at H
        have c5b0 : decide (x6_1 < ji4) = false := decide_eq_false c5
        clear c5
        obtain rfl := Option.some.inj H
        go_wp2
        go_ret
        exact ⟨_, by first | rfl | (simp [errW_none, errW_some] <;> rfl) | (simp only [← hji3, ← hji4]; first | rfl | (simp [errW_none, errW_some] <;> rfl)) | (simp [*, errW_none, errW_some] <;> rfl), by (with_reducible repeat (first | apply Kd.R_alloc | apply Kd.R_drewN | apply Kd.R_drew)); exact HO_5.out, by repeat (first | (with_reducible first | exact HB.out | apply below_alloc | apply pw_below_drewN | apply below_drew1) | exact HB.out)⟩

end Go.Proofs.Ytclmikbbjhdplaa.X
-- Written by a program of this session (a turn of the kit's print with contracts by hand). Not trusted: Lean checks it.
namespace Go.Proofs.Ytclmikbbjhdplaa.X
open Go.RowKit Go.Proofs.YtclmikbbjhdplaaW.PrintWords Go.Proofs.YtclmikbbjhdplaaW.PrintLast Go.Proofs.YtclmikbbjhdplaaW.PrintMore
attribute [local go_sem] max2_int min2_int max_two min_two max_three min_three max_four min_four   -- for this text's walks alone
set_option linter.unusedVariables false
set_option linter.unusedSimpArgs false

/-! ### mootref01_Join: function 28 -/
def mootref01_Join.l0 : Nat → List (List Int) → List Int → Int → Option (List Int)
  | 0, _, _, _ => none
  | k + 1, x0, x3, x4 => if x4 < (x0.length : Int) then (if 0 ≤ x4 then (if x3.length + (rd_L2 x0 x4).length < 140737488355328 then (mootref01_Join.l0 k x0 (x3 ++ (rd_L2 x0 x4)) (wrap64 (x4 + 1))) else (none)) else (none)) else (some x3)
def mootref01_Join.f (k : Nat) (l0 : List (List Int)) : Option (List Int) := mootref01_Join.l0 k l0 ([] : List Int) 0
theorem mootref01_Join.mono_l : ∀ k, (∀ y0 y1 y2, LeO (mootref01_Join.l0 k y0 y1 y2) (mootref01_Join.l0 (k + 1) y0 y1 y2))
  | 0 => fun _ _ _ r h => by simp [mootref01_Join.l0] at h
  | k + 1 => by
    have ih0 := mootref01_Join.mono_l k
    · intro y0 y1 y2
      unfold mootref01_Join.l0
      repeat' first
      | (with_reducible exact ih0 _ _ _)
      | (with_reducible exact LeO.refl _)
      | (with_reducible exact LeO.none _)
      | (with_reducible refine LeO.ite ?_ ?_)
      | (with_reducible refine LeO.bind ?_ (fun _ => ?_))
      | exact ih0 _ _ _
      | exact LeO.none _
      | refine LeO.ite ?_ ?_
      | refine LeO.bind ?_ (fun _ => ?_)
theorem mootref01_Join.mono : ∀ a0 k, LeO (mootref01_Join.f k a0) (mootref01_Join.f (k + 1) a0) := by
  intro a0 k
  have ih0 := mootref01_Join.mono_l k
  unfold mootref01_Join.f
  repeat' first
      | (with_reducible exact ih0 _ _ _)
      | (with_reducible exact LeO.refl _)
      | (with_reducible exact LeO.none _)
      | (with_reducible refine LeO.ite ?_ ?_)
      | (with_reducible refine LeO.bind ?_ (fun _ => ?_))
      | exact ih0 _ _ _
      | exact LeO.none _
      | refine LeO.ite ?_ ?_
      | refine LeO.bind ?_ (fun _ => ?_)
set_option maxHeartbeats 8000000 in
set_option maxRecDepth 100000 in
theorem mootref01_Join.calls (k : Nat) (A0 : Option Addr) (c0 : Nat) (l0 : List (List Int)) (r : List Int) (w : World) (hr0 : Kd.C (Kd.slice 5 (Kd.int .u8)) w A0 l0.length l0) (hc0 : l0.length ≤ c0) (h : mootref01_Join.f k l0 = some r) :
    Calls Try.prog 28 #[.slice A0 l0.length c0] w fun e w' => ∃ v0_ : Value, e = .returned (v0_) ∧ Kd.R (Kd.int .u8) 5 w' w.heap.size (fun _ => True) v0_ r ∧ Below w.heap.size w w' := by
  have HR0 := Aside0.mk hr0
  have HC0 := Aside0.mk hc0
  clear hr0 hc0
  have HB := Aside0.mk (Below.refl w.heap.size w)
  have H : (mootref01_Join.l0 k l0 ([] : List Int) 0) = some r := h
  clear h
  have H' := Aside0.mk H
  clear H
  go_enter Try.func28, Try.ntmps28
  go_wp2
  go_loopg [3, 4] k (fun kq v3 v4 w' => ∃ (x3_1 : List Int) (x4_1 : Int), v4 = .int .i64 x4_1 ∧ Aside0 (mootref01_Join.l0 kq l0 x3_1 x4_1 = some r) ∧ Aside0 (kq ≤ k) ∧ Aside0 (Kd.R (Kd.int .u8) 5 w' w.heap.size (fun _ => True) v3 x3_1) ∧ Aside0 (Below w.heap.size w w'))
  case atStart => exact ⟨(([] : List Int)), (0), (by first | rfl | (simp; done) | (simp [*]; done)), H', ⟨Nat.le_refl _⟩, ⟨by first | exact Kd.R_nil _ _ _ _ _ | exact Kd.N_nil _ _ _ _ _ | exact Kd.V_nil _ _ _ _ _ | exact Kd.Q_nil _ _ _ _ _ | exact Kd.S_nil _ _ _ _ _⟩, ⟨by repeat (first | (with_reducible first | exact HB.out | apply below_alloc | apply pw_below_drewN | apply below_drew1) | exact HB.out)⟩⟩
  case round =>
    clear H'
    obtain ⟨x3_1, x4_1, rfl, HA, HK1, HO_3, HB⟩ := hrel
    cases gk with
    | zero => exact absurd HA.out (by simp [mootref01_Join.l0])
    | succ k1 =>
      have H := HA.out
      clear HA
      simp only [mootref01_Join.l0] at H
      by_cases c2 : x4_1 < (l0.length : Int)
      · rw [if_pos c2] at H
        have c2b0 : decide (x4_1 < (l0.length : Int)) = true := decide_eq_true c2
        clear c2
        by_cases c3 : 0 ≤ x4_1
        · rw [if_pos c3] at H
          have c3b0 : decide (0 ≤ x4_1) = true := decide_eq_true c3
          clear c3
          by_cases c4 : x3_1.length + (rd_L2 l0 x4_1).length < 140737488355328
          · rw [if_pos c4] at H
            have LMc4 := Aside0.mk c4
            clear c4
            obtain ⟨y152, hy152⟩ : ∃ y_ : List Int, y_ = (x3_1 ++ (rd_L2 l0 x4_1)) := ⟨_, rfl⟩
            replace H : (mootref01_Join.l0 k1 l0 y152 (wrap64 (x4_1 + 1))) = some r := by first | (rw [hy152]; with_reducible exact H) | (have H2_ := (Option.bind_some _ _).symm.trans H; rw [hy152]; with_reducible exact H2_) | (have H2_ := (Option.bind_some _ _).symm.trans H; with_reducible exact H2_) | with_reducible exact H | (rw [hy152]; exact H) | exact H
            have Ny152 := Aside0.mk hy152
            clear hy152
            have H' := Aside0.mk H
            clear H
            have p151 : 0 ≤ (x4_1 : Int) := of_decide_eq_true (by first | (with_reducible assumption) | assumption)
            have q151 : x4_1 < (l0.length : Int) := of_decide_eq_true (by first | (with_reducible assumption) | assumption)
            obtain ⟨ad151, A151_0, c151_0, e151, hx151_0, hl151_0, hi151_0⟩ := at_L2 HR0.out x4_1 p151 q151
            cases e151
            replace hx151_0 := (HB.out.cell (World.block_lt_of_cell? w _ hx151_0)).trans hx151_0
            have HR151_0 := Aside0.mk hi151_0
            have HC151_0 := Aside0.mk hl151_0
            clear hi151_0 hl151_0
            replace p151 := eq_true p151
            replace q151 := eq_true q151
            go_wp2_with (first | ((with_reducible refine gate_builtin (b := .append) (xs := #[.tmp 11, .tmp 15]) rfl ?_); at_builtin; refine Kd.R_append_rows (Kd.int .u8) (w0 := w) w.heap.size rfl (.tmp 11) (.tmp 15) 23 5 (.int .u8 0) 1 rfl Try.underlying23 info5 rfl (by decide) (by omega) u3 x3_1 (rd_L2 l0 x4_1) _ _ _ (fun _ => True) (fun _ => False) rfl rfl ?aO ?aR (fun _ _ h => h) (fun _ h => h.elim) ?aF ?aB ?aS ?aL ?_; (case aR => repeat (first | exact (Kd.C_below HR151_0.out HB.out) | (with_reducible refine Kd.C_alloc ?_ _) | (with_reducible refine Kd.C_drewN ?_ _) | (with_reducible refine Kd.C_drew ?_))); (case aB => exact (by repeat (first | (with_reducible first | exact HB.out | apply below_alloc | apply pw_below_drewN | apply below_drew1) | exact HB.out))); (case aF => exact (fun _ _ => trivial)); (case aO => exact (by (with_reducible repeat (first | apply Kd.R_alloc | apply Kd.R_drewN | apply Kd.R_drew)); exact HO_3.out)); (case aS => exact (below_size (by repeat (first | (with_reducible first | exact HB.out | apply below_alloc | apply pw_below_drewN | apply below_drew1) | exact HB.out)))); (case aL => have := LMc4.out; omega); intro v153 w5 ho hb hg hat; rw [← Ny152.out] at ho; have n0_ := Aside0.mk (hb); have n1_ := Aside0.mk (ho); clear HB; clear HO_3; have HB := n0_; have HO154 := n1_; clear n0_ n1_; clear ho hb hg hat))
            go_roundg k1
            case measure => have := HK1.out; omega
            case rel => exact ⟨(y152), (wrap64 (x4_1 + 1)), (by first | rfl | (simp; done) | (simp [*]; done)), H', ⟨by have := HK1.out; omega⟩, ⟨by (with_reducible repeat (first | apply Kd.R_alloc | apply Kd.R_drewN | apply Kd.R_drew)); exact HO154.out⟩, ⟨by repeat (first | (with_reducible first | exact HB.out | apply below_alloc | apply pw_below_drewN | apply below_drew1) | exact HB.out)⟩⟩
          · rw [if_neg c4] at H
            exact absurd H (by simp)
        · rw [if_neg c3] at H
          exact absurd H (by simp)
      · rw [if_neg c2] at H
        have c2b0 : decide (x4_1 < (l0.length : Int)) = false := decide_eq_false c2
        clear c2
        obtain rfl := Option.some.inj H
        go_wp2
        go_ret
        exact ⟨_, by first | rfl | (simp [errW_none, errW_some] <;> rfl) | (simp [*, errW_none, errW_some] <;> rfl), by (with_reducible repeat (first | apply Kd.R_alloc | apply Kd.R_drewN | apply Kd.R_drew)); exact HO_3.out, by repeat (first | (with_reducible first | exact HB.out | apply below_alloc | apply pw_below_drewN | apply below_drew1) | exact HB.out)⟩

end Go.Proofs.Ytclmikbbjhdplaa.X
-- Written by a program of this session (a turn of the kit's print with contracts by hand). Not trusted: Lean checks it.
namespace Go.Proofs.Ytclmikbbjhdplaa.X
open Go.RowKit Go.Proofs.YtclmikbbjhdplaaW.PrintWords Go.Proofs.YtclmikbbjhdplaaW.PrintLast Go.Proofs.YtclmikbbjhdplaaW.PrintMore
attribute [local go_sem] max2_int min2_int max_two min_two max_three min_three max_four min_four   -- for this text's walks alone
set_option linter.unusedVariables false
set_option linter.unusedSimpArgs false

/-! ### mootref01_Pad: function 35 -/
def mootref01_Pad.l0 : Nat → List Int → List Int → Option (List Int)
  | 0, _, _ => none
  | k + 1, x0, x3 => if ((x3.length : Int) % 64) = 56 then ((mootref01_Put.f k (wrap64 (8 * (x0.length : Int))) 8).bind fun t238 => (if x3.length + t238.length < 140737488355328 then (some (x3 ++ t238)) else (none))) else (if x3.length < 140737488355328 then (mootref01_Pad.l0 k x0 (x3 ++ [0])) else (none))
def mootref01_Pad.f (k : Nat) (l0 : List Int) : Option (List Int) := if ([] : List Int).length + l0.length < 140737488355328 then ((some (([] : List Int) ++ l0 : List Int)).bind fun y232 => (if y232.length < 140737488355328 then (mootref01_Pad.l0 k l0 (y232 ++ [128])) else (none))) else (none)
theorem mootref01_Pad.mono_l : ∀ k, (∀ y0 y1, LeO (mootref01_Pad.l0 k y0 y1) (mootref01_Pad.l0 (k + 1) y0 y1))
  | 0 => fun _ _ r h => by simp [mootref01_Pad.l0] at h
  | k + 1 => by
    have ih0 := mootref01_Pad.mono_l k
    · intro y0 y1
      unfold mootref01_Pad.l0
      repeat' first
      | (with_reducible exact ih0 _ _)
      | (with_reducible exact mootref01_Put.mono _ _ _)
      | (with_reducible exact LeO.refl _)
      | (with_reducible exact LeO.none _)
      | (with_reducible refine LeO.ite ?_ ?_)
      | (with_reducible refine LeO.bind ?_ (fun _ => ?_))
      | exact ih0 _ _
      | exact mootref01_Put.mono _ _ _
      | exact LeO.none _
      | refine LeO.ite ?_ ?_
      | refine LeO.bind ?_ (fun _ => ?_)
theorem mootref01_Pad.mono : ∀ a0 k, LeO (mootref01_Pad.f k a0) (mootref01_Pad.f (k + 1) a0) := by
  intro a0 k
  have ih0 := mootref01_Pad.mono_l k
  unfold mootref01_Pad.f
  repeat' first
      | (with_reducible exact ih0 _ _)
      | (with_reducible exact mootref01_Put.mono _ _ _)
      | (with_reducible exact LeO.refl _)
      | (with_reducible exact LeO.none _)
      | (with_reducible refine LeO.ite ?_ ?_)
      | (with_reducible refine LeO.bind ?_ (fun _ => ?_))
      | exact ih0 _ _
      | exact mootref01_Put.mono _ _ _
      | exact LeO.none _
      | refine LeO.ite ?_ ?_
      | refine LeO.bind ?_ (fun _ => ?_)
set_option maxHeartbeats 8000000 in
set_option maxRecDepth 100000 in
theorem mootref01_Pad.calls (k : Nat) (A0 : Option Addr) (c0 : Nat) (l0 : List Int) (r : List Int) (w : World) (hr0 : Kd.C (Kd.int .u8) w A0 l0.length l0) (hc0 : l0.length ≤ c0) (h : mootref01_Pad.f k l0 = some r) :
    Calls Try.prog 35 #[.slice A0 l0.length c0] w fun e w' => ∃ v0_ : Value, e = .returned (v0_) ∧ Kd.R (Kd.int .u8) 5 w' w.heap.size (fun _ => True) v0_ r ∧ Below w.heap.size w w' := by
  have HR0 := Aside0.mk hr0
  have HC0 := Aside0.mk hc0
  clear hr0 hc0
  have HB := Aside0.mk (Below.refl w.heap.size w)
  have H : (if ([] : List Int).length + l0.length < 140737488355328 then ((some (([] : List Int) ++ l0 : List Int)).bind fun y232 => (if y232.length < 140737488355328 then (mootref01_Pad.l0 k l0 (y232 ++ [128])) else (none))) else (none)) = some r := h
  clear h
  by_cases c2 : ([] : List Int).length + l0.length < 140737488355328
  · rw [if_pos c2] at H
    have LMc2 := Aside0.mk c2
    clear c2
    obtain ⟨y232, hy232⟩ : ∃ y_ : List Int, y_ = (([] : List Int) ++ l0) := ⟨_, rfl⟩
    replace H : (if y232.length < 140737488355328 then (mootref01_Pad.l0 k l0 (y232 ++ [128])) else (none)) = some r := by first | (rw [hy232]; with_reducible exact H) | (have H2_ := (Option.bind_some _ _).symm.trans H; rw [hy232]; with_reducible exact H2_) | (have H2_ := (Option.bind_some _ _).symm.trans H; with_reducible exact H2_) | with_reducible exact H | (rw [hy232]; exact H) | exact H
    have Ny232 := Aside0.mk hy232
    clear hy232
    by_cases c3 : y232.length < 140737488355328
    · rw [if_pos c3] at H
      have LMc3 := Aside0.mk c3
      clear c3
      obtain ⟨y235, hy235⟩ : ∃ y_ : List Int, y_ = (y232 ++ [128]) := ⟨_, rfl⟩
      replace H : (mootref01_Pad.l0 k l0 y235) = some r := by first | (rw [hy235]; with_reducible exact H) | (have H2_ := (Option.bind_some _ _).symm.trans H; rw [hy235]; with_reducible exact H2_) | (have H2_ := (Option.bind_some _ _).symm.trans H; with_reducible exact H2_) | with_reducible exact H | (rw [hy235]; exact H) | exact H
      have Ny235 := Aside0.mk hy235
      clear hy235
      have H' := Aside0.mk H
      clear H
      go_enter Try.func35, Try.ntmps35
      go_wp2_with (first | ((with_reducible refine gate_builtin (b := .append) (xs := #[.tmp 4, .tmp 5]) rfl ?_); at_builtin; refine Kd.R_append_rows (Kd.int .u8) (w0 := w) w.heap.size rfl (.tmp 4) (.tmp 5) 23 5 (.int .u8 0) 1 rfl Try.underlying23 info5 rfl (by decide) (by omega) (.slice none 0 0) ([] : List Int) l0 _ _ _ (fun _ => True) (fun _ => False) rfl rfl ?aO ?aR (fun _ _ h => h) (fun _ h => h.elim) ?aF ?aB ?aS ?aL ?_; (case aR => repeat (first | exact HR0.out | (with_reducible refine Kd.C_alloc ?_ _) | (with_reducible refine Kd.C_drewN ?_ _) | (with_reducible refine Kd.C_drew ?_))); (case aB => exact (by repeat (first | (with_reducible first | exact HB.out | apply below_alloc | apply pw_below_drewN | apply below_drew1) | exact HB.out))); (case aF => exact (fun _ _ => trivial)); (case aO => exact ((Kd.R_nil _ _ _ _ (fun _ => True)))); (case aS => exact (below_size (by repeat (first | (with_reducible first | exact HB.out | apply below_alloc | apply pw_below_drewN | apply below_drew1) | exact HB.out)))); (case aL => have := LMc2.out; omega); intro v233 w4 ho hb hg hat; rw [← Ny232.out] at ho; have n0_ := Aside0.mk (hb); have n1_ := Aside0.mk (ho); clear HB; have HB := n0_; have HO234 := n1_; clear n0_ n1_; clear ho hb hg hat) | ((with_reducible refine gate_builtin (b := .append) (xs := #[.tmp 6, .tmp 7]) rfl ?_); at_builtin; refine Kd.R_append (Kd.int .u8) (w0 := w) w.heap.size rfl (.tmp 6) (.tmp 7) 23 5 (.int .u8 0) 1 rfl Try.underlying23 info5 rfl (by decide) (by omega) v233 y232 128 [.int .u8 128] (fun _ => True) (fun _ => False) rfl rfl ?aP (fun _ hk => hk.elim) ?aF ?aO ?aB ?aS ?aL ?_; (case aP => exact rfl); (case aB => exact (by repeat (first | (with_reducible first | exact HB.out | apply below_alloc | apply pw_below_drewN | apply below_drew1) | exact HB.out))); (case aF => exact (fun _ _ => trivial)); (case aO => exact (by (with_reducible repeat (first | apply Kd.R_alloc | apply Kd.R_drewN | apply Kd.R_drew)); exact HO234.out)); (case aS => exact (below_size (by repeat (first | (with_reducible first | exact HB.out | apply below_alloc | apply pw_below_drewN | apply below_drew1) | exact HB.out)))); (case aL => have := LMc3.out; omega); intro v236 w5 ho hb hg hat; rw [← Ny235.out] at ho; have n0_ := Aside0.mk (hb); have n1_ := Aside0.mk (ho); clear HB; clear HO234; have HB := n0_; have HO237 := n1_; clear n0_ n1_; clear ho hb hg hat))
      go_loopg [3] k (fun kq v3 w' => ∃ (x3_1 : List Int), Aside0 (mootref01_Pad.l0 kq l0 x3_1 = some r) ∧ Aside0 (kq ≤ k) ∧ Aside0 (Kd.R (Kd.int .u8) 5 w' w.heap.size (fun _ => True) v3 x3_1) ∧ Aside0 (Below w.heap.size w w'))
      case atStart => exact ⟨(y235), H', ⟨Nat.le_refl _⟩, ⟨by (with_reducible repeat (first | apply Kd.R_alloc | apply Kd.R_drewN | apply Kd.R_drew)); exact HO237.out⟩, ⟨by repeat (first | (with_reducible first | exact HB.out | apply below_alloc | apply pw_below_drewN | apply below_drew1) | exact HB.out)⟩⟩
      case round =>
        clear H'
        try clear c2
        try clear p2
        try clear c3
        obtain ⟨x3_1, HA, HK1, HO_3, HB⟩ := hrel
        cases gk with
        | zero => exact absurd HA.out (by simp [mootref01_Pad.l0])
        | succ k1 =>
          have H := HA.out
          clear HA
          simp only [mootref01_Pad.l0] at H
          by_cases c6 : ((x3_1.length : Int) % 64) = 56
          · rw [if_pos c6] at H
            have c6b0 : (((x3_1.length : Int) % 64) == 56) = true := beq_iff_eq.mpr c6
            have c6b1 : (((x3_1.length : Int) % 64) != 56) = false := bne_eq_false_iff_eq.mpr c6
            clear c6
            replace H := Option.bind_eq_some_iff.mp H
            obtain ⟨t238, A70, H⟩ := H
            replace H : (if x3_1.length + t238.length < 140737488355328 then (some (x3_1 ++ t238)) else (none)) = some r := H
            have A7 := Aside0.mk A70
            clear A70
            by_cases c8 : x3_1.length + t238.length < 140737488355328
            · rw [if_pos c8] at H
              have LMc8 := Aside0.mk c8
              clear c8
              obtain ⟨y241, hy241⟩ : ∃ y_ : List Int, y_ = (x3_1 ++ t238) := ⟨_, rfl⟩
              replace H : (some y241) = some r := by first | (rw [hy241]; with_reducible exact H) | (have H2_ := (Option.bind_some _ _).symm.trans H; rw [hy241]; with_reducible exact H2_) | (have H2_ := (Option.bind_some _ _).symm.trans H; with_reducible exact H2_) | with_reducible exact H | (rw [hy241]; exact H) | exact H
              have Ny241 := Aside0.mk hy241
              clear hy241
              obtain rfl := Option.some.inj H
              obtain ⟨Ao9, co9, eo9⟩ := Kd.R_slice HO_3.out
              subst eo9
              go_wp2_with (first | ((with_reducible refine gate_callee (f := 25) rfl ?_); refine goesL_ (some 20) rfl rfl Try.func25 (by kernel_rfl) rfl #[.int .i64 (wrap64 (8 * (l0.length : Int))), .int .i64 8] rfl (by (try simp only [List.map_toArray, List.map_cons, List.map_nil]); first | done | rfl | (simp only [List.length_drop, List.length_take]; rfl)) ?_; (with_reducible refine (mootref01_Put.calls k1 (wrap64 (8 * (l0.length : Int))) 8 t238 _ A7.out).mono ?_); rintro e w10 ⟨v239, rfl, ho0, hb⟩; refine ⟨_, rfl, ?_⟩; have n0_ := Aside0.mk (Kd.R_elder' (by (with_reducible repeat (first | apply Kd.R_alloc | apply Kd.R_drewN | apply Kd.R_drew)); exact HO_3.out) (Kd.R_base ho0) hb); have n1_ := Aside0.mk (Kd.R_lower (Kd.R_new' ho0 (Kd.R_lt (by (with_reducible repeat (first | apply Kd.R_alloc | apply Kd.R_drewN | apply Kd.R_drew)); exact HO_3.out))) (below_size (by repeat (first | (with_reducible first | exact HB.out | apply below_alloc | apply pw_below_drewN | apply below_drew1) | exact HB.out)))); have n2_ := Aside0.mk (below_step (by repeat (first | (with_reducible first | exact HB.out | apply below_alloc | apply pw_below_drewN | apply below_drew1) | exact HB.out)) hb); clear HO_3; clear HB; have HO_3 := n0_; have HO240 := n1_; have HB := n2_; clear n0_ n1_ n2_; (try clear hb); (try clear hb2); (try clear hk); (try clear hi); (try clear ho0); obtain ⟨Ao12, co12, eo12⟩ := Kd.R_slice HO240.out; subst eo12) | ((with_reducible refine gate_builtin (b := .append) (xs := #[.tmp 16, .tmp 20]) rfl ?_); at_builtin; refine Kd.R_append_rows (Kd.int .u8) (w0 := w) w.heap.size rfl (.tmp 16) (.tmp 20) 23 5 (.int .u8 0) 1 rfl Try.underlying23 info5 rfl (by decide) (by omega) (.slice Ao9 x3_1.length co9) x3_1 t238 _ _ _ (fun k_ => some k_ ≠ (.slice Ao12 t238.length co12 : Value).ownBlock) (fun _ => False) rfl rfl ?aO ?aR (fun _ _ h => h) (fun _ h => h.elim) ?aF ?aB ?aS ?aL ?_; (case aR => repeat (first | exact (Kd.R_reads' HO240.out).2.2 | (with_reducible refine Kd.C_alloc ?_ _) | (with_reducible refine Kd.C_drewN ?_ _) | (with_reducible refine Kd.C_drew ?_))); (case aB => exact (by repeat (first | (with_reducible first | exact HB.out | apply below_alloc | apply pw_below_drewN | apply below_drew1) | exact HB.out))); (case aF => exact (fun k_ hk => Kd.fresh' (Kd.R_lt (by (with_reducible repeat (first | apply Kd.R_alloc | apply Kd.R_drewN | apply Kd.R_drew)); exact HO240.out)) k_ hk)); (case aO => exact (by (with_reducible repeat (first | apply Kd.R_alloc | apply Kd.R_drewN | apply Kd.R_drew)); exact Kd.R_mono HO_3.out (fun _ hk => hk.2))); (case aS => exact (below_size (by repeat (first | (with_reducible first | exact HB.out | apply below_alloc | apply pw_below_drewN | apply below_drew1) | exact HB.out)))); (case aL => have := LMc8.out; omega); intro v242 w11 ho hb hg hat; rw [← Ny241.out] at ho; have n0_ := Aside0.mk (Kd.R_after (ok := (fun _ => True)) (by (with_reducible repeat (first | apply Kd.R_alloc | apply Kd.R_drewN | apply Kd.R_drew)); exact HO240.out) hg hat); have n1_ := Aside0.mk (hb); have n2_ := Aside0.mk (ho); clear HO240; clear HB; clear HO_3; have HO240 := n0_; have HB := n1_; have HO243 := n2_; clear n0_ n1_ n2_; clear ho hb hg hat))
              go_ret
              exact ⟨_, by first | rfl | (simp [errW_none, errW_some] <;> rfl) | (simp [*, errW_none, errW_some] <;> rfl), by (with_reducible repeat (first | apply Kd.R_alloc | apply Kd.R_drewN | apply Kd.R_drew)); exact Kd.R_mono HO243.out (fun _ hk => trivial), by repeat (first | (with_reducible first | exact HB.out | apply below_alloc | apply pw_below_drewN | apply below_drew1) | exact HB.out)⟩
            · rw [if_neg c8] at H
              exact absurd H (by simp)
          · rw [if_neg c6] at H
            have c6b0 : (((x3_1.length : Int) % 64) == 56) = false := beq_eq_false_iff_ne.mpr c6
            have c6b1 : (((x3_1.length : Int) % 64) != 56) = true := bne_iff_ne.mpr c6
            by_cases c13 : x3_1.length < 140737488355328
            · rw [if_pos c13] at H
              have LMc13 := Aside0.mk c13
              clear c13
              obtain ⟨y244, hy244⟩ : ∃ y_ : List Int, y_ = (x3_1 ++ [0]) := ⟨_, rfl⟩
              replace H : (mootref01_Pad.l0 k1 l0 y244) = some r := by first | (rw [hy244]; with_reducible exact H) | (have H2_ := (Option.bind_some _ _).symm.trans H; rw [hy244]; with_reducible exact H2_) | (have H2_ := (Option.bind_some _ _).symm.trans H; with_reducible exact H2_) | with_reducible exact H | (rw [hy244]; exact H) | exact H
              have Ny244 := Aside0.mk hy244
              clear hy244
              have H' := Aside0.mk H
              clear H
              obtain ⟨Ao14, co14, eo14⟩ := Kd.R_slice HO_3.out
              subst eo14
              go_wp2_with (first | ((with_reducible refine gate_builtin (b := .append) (xs := #[.tmp 13, .tmp 14]) rfl ?_); at_builtin; refine Kd.R_append (Kd.int .u8) (w0 := w) w.heap.size rfl (.tmp 13) (.tmp 14) 23 5 (.int .u8 0) 1 rfl Try.underlying23 info5 rfl (by decide) (by omega) (.slice Ao14 x3_1.length co14) x3_1 0 [.int .u8 0] (fun _ => True) (fun _ => False) rfl rfl ?aP (fun _ hk => hk.elim) ?aF ?aO ?aB ?aS ?aL ?_; (case aP => exact rfl); (case aB => exact (by repeat (first | (with_reducible first | exact HB.out | apply below_alloc | apply pw_below_drewN | apply below_drew1) | exact HB.out))); (case aF => exact (fun _ _ => trivial)); (case aO => exact (by (with_reducible repeat (first | apply Kd.R_alloc | apply Kd.R_drewN | apply Kd.R_drew)); exact HO_3.out)); (case aS => exact (below_size (by repeat (first | (with_reducible first | exact HB.out | apply below_alloc | apply pw_below_drewN | apply below_drew1) | exact HB.out)))); (case aL => have := LMc13.out; omega); intro v245 w15 ho hb hg hat; rw [← Ny244.out] at ho; have n0_ := Aside0.mk (hb); have n1_ := Aside0.mk (ho); clear HB; clear HO_3; have HB := n0_; have HO246 := n1_; clear n0_ n1_; clear ho hb hg hat))
              go_roundg k1
              case measure => have := HK1.out; omega
              case rel => exact ⟨(y244), H', ⟨by have := HK1.out; omega⟩, ⟨by (with_reducible repeat (first | apply Kd.R_alloc | apply Kd.R_drewN | apply Kd.R_drew)); exact HO246.out⟩, ⟨by repeat (first | (with_reducible first | exact HB.out | apply below_alloc | apply pw_below_drewN | apply below_drew1) | exact HB.out)⟩⟩
            · rw [if_neg c13] at H
              exact absurd H (by simp)
    · rw [if_neg c3] at H
      exact absurd H (by simp)
  · rw [if_neg c2] at H
    exact absurd H (by simp)

end Go.Proofs.Ytclmikbbjhdplaa.X
/- The reference's Put, Join and Pad: what they come to. -/
namespace Go.Proofs.Ytclmikbbjhdplaa.X
open Go.RowKit Go.Proofs.YtclmikbbjhdplaaW.PrintWords Go.Proofs.YtclmikbbjhdplaaW.PrintLast Go.Proofs.YtclmikbbjhdplaaW.PrintMore
set_option linter.unusedVariables false
set_option linter.unusedSimpArgs false

theorem shr_byte (u : Int) (e : Nat) (he : e < 8) : shr .u64 u (8 * (e : Int)) = u / 256 ^ e := by
  unfold shr
  have h1 : (8 * (e : Int)).toNat = 8 * e := by omega
  have h2 : min (8 * e) IntKind.u64.bits = 8 * e := Nat.min_eq_left (by have : IntKind.u64.bits = 64 := rfl; omega)
  rw [h1, h2, Int.pow_mul]
  rfl
theorem refput_l0 (n : Int) (s : Nat) (hs : s ≤ 8) : ∀ (d k i : Nat) (acc : List Int), i + d = s → d < k → acc.length + d ≤ 1000 →
    mootref01_Put.l0 k n (s : Int) acc (i : Int) = some (acc ++ putL (IntKind.u64.wrap n) d)
  | 0, k, i, acc, hd, hk, ha => by
    obtain ⟨k, rfl⟩ : ∃ m, k = m + 1 := ⟨k - 1, by omega⟩
    rw [mootref01_Put.l0, if_neg (by omega)]
    simp [putL]
  | d + 1, k, i, acc, hd, hk, ha => by
    obtain ⟨k, rfl⟩ : ∃ m, k = m + 1 := ⟨k - 1, by omega⟩
    have hw : wrap64 ((i : Int) + 1) = ((i + 1 : Nat) : Int) := by rw [wrap64_id _ (by omega) (by omega)]; rfl
    have h1 : IntKind.u64.wrap (wrap64 (8 * (wrap64 ((wrap64 ((s : Int) - 1)) - (i : Int))))) = 8 * (d : Int) := by
      rw [wrap64_id ((s : Int) - 1) (by omega) (by omega), wrap64_id ((s : Int) - 1 - i) (by omega) (by omega), wrap64_id _ (by omega) (by omega), IntKind.wrap_u64]
      omega
    rw [mootref01_Put.l0, if_pos (by omega), h1, if_pos (by omega), if_pos (by omega), hw, shr_byte _ d (by omega)]
    rw [refput_l0 n s hs d k (i + 1) _ (by omega) (by omega) (by simp only [List.length_append, List.length_cons, List.length_nil]; omega), List.append_assoc]
    rfl
theorem mn_mx8 (a : Int) : ∃ s : Nat, mn (mx a 0) 8 = (s : Int) ∧ s ≤ 8 ∧ (mn (mx a 0) 8).toNat = s := by
  refine ⟨(mn (mx a 0) 8).toNat, ?_, ?_, rfl⟩ <;> (unfold mn mx; split <;> split <;> omega)
theorem refput_f (n a : Int) (k : Nat) (hk : 9 ≤ k) : mootref01_Put.f k n a = octets_Put.f n a := by
  obtain ⟨s, e, hs, e2⟩ := mn_mx8 a
  unfold mootref01_Put.f octets_Put.f
  rw [e2, e]
  have := refput_l0 n s hs s k 0 [] (by omega) (by omega) (by simp; omega)
  simpa using this
theorem refput8 (n : Int) (k : Nat) (hk : 9 ≤ k) : mootref01_Put.f k n 8 = some (putL (IntKind.u64.wrap n) 8) := by
  rw [refput_f n 8 k hk]
  rfl
theorem refjoin_l0 (l : List (List Int)) (hl : l.length < 9223372036854775807) : ∀ (d k i : Nat) (acc : List Int), i + d = l.length → d < k → acc.length + tot (l.drop i) < 140737488355328 →
    mootref01_Join.l0 k l acc (i : Int) = some (acc ++ (l.drop i).flatten)
  | 0, k, i, acc, hd, hk, ha => by
    obtain ⟨k, rfl⟩ : ∃ m, k = m + 1 := ⟨k - 1, by omega⟩
    rw [mootref01_Join.l0, if_neg (by omega), List.drop_of_length_le (by omega)]
    simp
  | d + 1, k, i, acc, hd, hk, ha => by
    obtain ⟨k, rfl⟩ : ∃ m, k = m + 1 := ⟨k - 1, by omega⟩
    have hi : i < l.length := by omega
    have hs : wrap64 ((i : Int) + 1) = ((i + 1 : Nat) : Int) := by rw [wrap64_id _ (by omega) (by omega)]; rfl
    rw [List.drop_eq_getElem_cons hi, tot_cons] at ha
    rw [mootref01_Join.l0, if_pos (by omega), if_pos (by omega), rdL2_at l i hi, if_pos (by omega), hs]
    rw [refjoin_l0 l hl d k (i + 1) _ (by omega) (by omega) (by rw [List.length_append]; omega), List.append_assoc, List.drop_eq_getElem_cons hi]
    rfl
theorem refjoin_f (l : List (List Int)) (hl : l.length < 9223372036854775807) (ht : tot l < 140737488355328) (k : Nat) (hk : l.length < k) : mootref01_Join.f k l = some l.flatten := by
  unfold mootref01_Join.f
  have := refjoin_l0 l hl l.length k 0 [] (by omega) hk (by simpa using ht)
  simpa using this
theorem refpad_l0 (l : List Int) (hl : l.length ≤ 140737488355000) : ∀ (z k : Nat) (acc : List Int), z = (119 - (acc.length + 63) % 64) % 64 → z + 9 < k → acc.length + z + 8 < 140737488355328 →
    mootref01_Pad.l0 k l acc = some (acc ++ (List.replicate z 0 ++ putL (IntKind.u64.wrap (8 * (l.length : Int))) 8))
  | 0, k, acc, hz, hk, ha => by
    obtain ⟨k, rfl⟩ : ∃ m, k = m + 1 := ⟨k - 1, by omega⟩
    have hw : wrap64 (8 * (l.length : Int)) = 8 * (l.length : Int) := wrap64_id _ (by omega) (by omega)
    rw [mootref01_Pad.l0, if_pos (by omega), hw, refput8 _ k (by omega), Option.bind_some, if_pos (by rw [putL_len]; omega)]
    simp
  | z + 1, k, acc, hz, hk, ha => by
    obtain ⟨k, rfl⟩ : ∃ m, k = m + 1 := ⟨k - 1, by omega⟩
    rw [mootref01_Pad.l0, if_neg (by omega), if_pos (by omega)]
    rw [refpad_l0 l hl z k (acc ++ [0]) (by simp only [List.length_append, List.length_cons, List.length_nil]; omega) (by omega) (by simp only [List.length_append, List.length_cons, List.length_nil]; omega)]
    simp [List.replicate_succ]
theorem refpad_f (l : List Int) (hl : l.length ≤ 140737488355000) (k : Nat) (hk : 80 ≤ k) : mootref01_Pad.f k l = some (padL l) := by
  unfold mootref01_Pad.f
  rw [if_pos (by simp; omega), Option.bind_some, if_pos (by simp; omega)]
  rw [refpad_l0 l hl _ k ([] ++ l ++ [128]) rfl (by omega) (by simp only [List.nil_append, List.length_append, List.length_cons, List.length_nil]; omega)]
  have : (119 - ((([] ++ l ++ [128] : List Int).length) + 63) % 64) % 64 = (119 - l.length % 64) % 64 := by simp only [List.nil_append, List.length_append, List.length_cons, List.length_nil]; omega
  rw [this]
  simp [padL]
end Go.Proofs.Ytclmikbbjhdplaa.X
-- Written by a program of this session (a turn of the kit's print with contracts by hand). Not trusted: Lean checks it.
namespace Go.Proofs.Ytclmikbbjhdplaa.X
open Go.RowKit Go.Proofs.YtclmikbbjhdplaaW.PrintWords Go.Proofs.YtclmikbbjhdplaaW.PrintLast Go.Proofs.YtclmikbbjhdplaaW.PrintMore
attribute [local go_sem] max2_int min2_int max_two min_two max_three min_three max_four min_four   -- for this text's walks alone
set_option linter.unusedVariables false
set_option linter.unusedSimpArgs false

/-! ### mootref01_turn: function 58 -/
def mootref01_turn.f (a0 : Int) (a1 : Int) : Option (Int) := if 0 ≤ a1 then (if 0 ≤ (IntKind.u64.wrap (32 - a1)) then (some (Go.bits .or .u32 (shr .u32 a0 a1) (shl .u32 a0 (IntKind.u64.wrap (32 - a1))))) else (none)) else (none)
set_option maxHeartbeats 8000000 in
set_option maxRecDepth 100000 in
theorem mootref01_turn.calls (a0 : Int) (a1 : Int) (r : Int) (w : World) (h : mootref01_turn.f a0 a1 = some r) :
    Calls Try.prog 58 #[.int .u32 a0, .int .u64 a1] w fun e w' => e = .returned (.int .u32 r) ∧ Drawn0 w w' := by
  have H : (if 0 ≤ a1 then (if 0 ≤ (IntKind.u64.wrap (32 - a1)) then (some (Go.bits .or .u32 (shr .u32 a0 a1) (shl .u32 a0 (IntKind.u64.wrap (32 - a1))))) else (none)) else (none)) = some r := h
  clear h
  by_cases c3 : 0 ≤ a1
  · rw [if_pos c3] at H
    have c3b0 := eq_true c3
    have c3b1 : decide (0 ≤ a1) = true := decide_eq_true c3
    clear c3
    obtain ⟨ji4, hji4⟩ : ∃ j_ : Int, (shr .u32 a0 a1) = j_ := ⟨_, rfl⟩
    replace H : (if 0 ≤ (IntKind.u64.wrap (32 - a1)) then (some (Go.bits .or .u32 (ji4) (shl .u32 a0 (IntKind.u64.wrap (32 - a1))))) else (none)) = some r := by first | (rw [hji4] at H; exact H) | (simp only [hji4] at H ⊢; exact H)
    have hji4_ : (a0 / 2 ^ min a1.toNat 32) = ji4 := hji4
    have hji4z : a1 ≤ 32 → (a0 / 2 ^ a1.toNat) = ji4 := shr_small hji4
    obtain ⟨ji5, hji5⟩ : ∃ j_ : Int, (IntKind.u64.wrap (32 - a1)) = j_ := ⟨_, rfl⟩
    replace H : (if 0 ≤ (ji5) then (some (Go.bits .or .u32 (ji4) (shl .u32 a0 (ji5)))) else (none)) = some r := by first | (rw [hji5] at H; exact H) | (simp only [hji5] at H ⊢; exact H)
    by_cases c6 : 0 ≤ (ji5)
    · rw [if_pos c6] at H
      have c6b0 := eq_true c6
      have c6b1 : decide (0 ≤ (ji5)) = true := decide_eq_true c6
      clear c6
      obtain ⟨ji7, hji7⟩ : ∃ j_ : Int, (shl .u32 a0 (ji5)) = j_ := ⟨_, rfl⟩
      replace H : (some (Go.bits .or .u32 (ji4) (ji7))) = some r := by first | (rw [hji7] at H; exact H) | (simp only [hji7] at H ⊢; exact H)
      have hji7_ : (IntKind.u32.wrap (a0 * 2 ^ min (ji5).toNat 32)) = ji7 := hji7
      have hji7z : (ji5) ≤ 32 → (IntKind.u32.wrap (a0 * 2 ^ (ji5).toNat)) = ji7 := shl_small hji7
      obtain rfl := Option.some.inj H
      go_enter Try.func58, Try.ntmps58
      go_wp2
      go_ret
      exact ⟨by first | rfl | (simp; done) | (simp only [← hji4, ← hji5, ← hji7] <;> (first | rfl | simp)) | (simp [*]; done), by repeat (first | exact Drawn0.refl _ | apply Drawn0.step)⟩
    · rw [if_neg c6] at H
      exact absurd H (by simp)
  · rw [if_neg c3] at H
    exact absurd H (by simp)

end Go.Proofs.Ytclmikbbjhdplaa.X
/- The reference's sum: turned words, words out of octets, sums. -/
namespace Go.Proofs.Ytclmikbbjhdplaa.X
open Go.RowKit Go.Proofs.YtclmikbbjhdplaaW.PrintWords Go.Proofs.YtclmikbbjhdplaaW.PrintLast Go.Proofs.YtclmikbbjhdplaaW.PrintMore
set_option linter.unusedVariables false
set_option linter.unusedSimpArgs false

theorem or_turn (k : IntKind) (a b : Int) : Go.bits .or k a b = Go.bits .or k b a := by simp only [Go.bits, BitVec.or_comm]
theorem turn_of (x n m : Int) (e : IntKind.u64.wrap (32 - n) = m) (hm : m = 32 - n) (h0 : 0 ≤ m) (h1 : 0 ≤ n) : mootref01_turn.f x n = some (rotA x n) := by
  unfold mootref01_turn.f
  rw [if_pos h1, e, if_pos h0, rotA, hm, or_turn]
/-- The turning, in the one world. -/
theorem turn_same (x n r : Int) (w : World) (h : mootref01_turn.f x n = some r) : Calls Try.prog 58 #[.int .u32 x, .int .u64 n] w fun e w' => e = .returned (.int .u32 r) ∧ w' = w := by
  unfold mootref01_turn.f at h
  by_cases c3 : 0 ≤ n
  · rw [if_pos c3] at h
    by_cases c6 : 0 ≤ IntKind.u64.wrap (32 - n)
    · rw [if_pos c6] at h
      obtain rfl := Option.some.inj h
      have a1 : decide (0 ≤ n) = true := decide_eq_true c3
      have a2 : decide (0 ≤ IntKind.u64.wrap (32 - n)) = true := decide_eq_true c6
      obtain ⟨ji5, hji5⟩ : ∃ j_ : Int, (IntKind.u64.wrap (32 - n)) = j_ := ⟨_, rfl⟩
      obtain ⟨ji4, hji4⟩ : ∃ j_ : Int, (shr .u32 x n) = j_ := ⟨_, rfl⟩
      rw [hji5] at c6 a2 ⊢
      obtain ⟨ji7, hji7⟩ : ∃ j_ : Int, (shl .u32 x ji5) = j_ := ⟨_, rfl⟩
      have hji4_ : (x / 2 ^ min n.toNat 32) = ji4 := hji4
      have hji4z : n ≤ 32 → (x / 2 ^ n.toNat) = ji4 := shr_small hji4
      have hji7_ : (IntKind.u32.wrap (x * 2 ^ min (ji5).toNat 32)) = ji7 := hji7
      have hji7z : (ji5) ≤ 32 → (IntKind.u32.wrap (x * 2 ^ (ji5).toNat)) = ji7 := shl_small hji7
      rw [hji4, hji7]
      go_enter Try.func58, Try.ntmps58
      go_wp2
      go_ret
      exact ⟨by first | rfl | simp, by rfl⟩
    · rw [if_neg c6] at h; cases h
  · rw [if_neg c3] at h; cases h
def turnOf (n : Int) : Prop := ∀ x (w : World), Calls Try.prog 58 #[.int .u32 x, .int .u64 n] w fun e w' => e = .returned (.int .u32 (rotA x n)) ∧ w' = w
theorem turnAt (n m : Int) (e : IntKind.u64.wrap (32 - n) = m) (hm : m = 32 - n) (h0 : 0 ≤ m) (h1 : 0 ≤ n) (x : Int) (w : World) : Calls Try.prog 58 #[.int .u32 x, .int .u64 n] w fun e w' => e = .returned (.int .u32 (rotA x n)) ∧ w' = w := turn_same x n _ w (turn_of x n m e hm h0 h1)
theorem turn2 (x : Int) (w : World) : Calls Try.prog 58 #[.int .u32 x, .int .u64 2] w fun e w' => e = .returned (.int .u32 (rotA x 2)) ∧ w' = w := turnAt 2 30 (by decide +kernel) (by omega) (by omega) (by omega) x w
theorem turn6 (x : Int) (w : World) : Calls Try.prog 58 #[.int .u32 x, .int .u64 6] w fun e w' => e = .returned (.int .u32 (rotA x 6)) ∧ w' = w := turnAt 6 26 (by decide +kernel) (by omega) (by omega) (by omega) x w
theorem turn7 (x : Int) (w : World) : Calls Try.prog 58 #[.int .u32 x, .int .u64 7] w fun e w' => e = .returned (.int .u32 (rotA x 7)) ∧ w' = w := turnAt 7 25 (by decide +kernel) (by omega) (by omega) (by omega) x w
theorem turn11 (x : Int) (w : World) : Calls Try.prog 58 #[.int .u32 x, .int .u64 11] w fun e w' => e = .returned (.int .u32 (rotA x 11)) ∧ w' = w := turnAt 11 21 (by decide +kernel) (by omega) (by omega) (by omega) x w
theorem turn13 (x : Int) (w : World) : Calls Try.prog 58 #[.int .u32 x, .int .u64 13] w fun e w' => e = .returned (.int .u32 (rotA x 13)) ∧ w' = w := turnAt 13 19 (by decide +kernel) (by omega) (by omega) (by omega) x w
theorem turn17 (x : Int) (w : World) : Calls Try.prog 58 #[.int .u32 x, .int .u64 17] w fun e w' => e = .returned (.int .u32 (rotA x 17)) ∧ w' = w := turnAt 17 15 (by decide +kernel) (by omega) (by omega) (by omega) x w
theorem turn18 (x : Int) (w : World) : Calls Try.prog 58 #[.int .u32 x, .int .u64 18] w fun e w' => e = .returned (.int .u32 (rotA x 18)) ∧ w' = w := turnAt 18 14 (by decide +kernel) (by omega) (by omega) (by omega) x w
theorem turn19 (x : Int) (w : World) : Calls Try.prog 58 #[.int .u32 x, .int .u64 19] w fun e w' => e = .returned (.int .u32 (rotA x 19)) ∧ w' = w := turnAt 19 13 (by decide +kernel) (by omega) (by omega) (by omega) x w
theorem turn22 (x : Int) (w : World) : Calls Try.prog 58 #[.int .u32 x, .int .u64 22] w fun e w' => e = .returned (.int .u32 (rotA x 22)) ∧ w' = w := turnAt 22 10 (by decide +kernel) (by omega) (by omega) (by omega) x w
theorem turn25 (x : Int) (w : World) : Calls Try.prog 58 #[.int .u32 x, .int .u64 25] w fun e w' => e = .returned (.int .u32 (rotA x 25)) ∧ w' = w := turnAt 25 7 (by decide +kernel) (by omega) (by omega) (by omega) x w
/-- The words added the other way. -/
theorem addA_turn (v s : List Int) (hv : v.length = 8) (hs : s.length = 8) : addA s v 8 = addA v s 8 := by
  match v, s, hv, hs with
  | [a0, a1, a2, a3, a4, a5, a6, a7], [b0, b1, b2, b3, b4, b5, b6, b7], _, _ =>
    simp [addA, rd, Int.add_comm]
/-- A word at a place of a text of octets. -/
theorem wordA_block (p : List Int) (hp : Octets p) (n t : Nat) (ht : t < 16) (hn : 64 * n + 64 ≤ p.length) :
    wordA ((p.drop (64 * n)).take 64) (4 * (t : Int)) = ((rd p ((64 * n + 4 * t : Nat) : Int) * 256 + rd p ((64 * n + 4 * t + 1 : Nat) : Int)) * 256 + rd p ((64 * n + 4 * t + 2 : Nat) : Int)) * 256 + rd p ((64 * n + 4 * t + 3 : Nat) : Int) := by
  have hl : ((p.drop (64 * n)).take 64).length = 64 := by rw [List.length_take, List.length_drop]; omega
  have hj : ∀ j : Nat, j < 4 → rd ((p.drop (64 * n)).take 64) (4 * (t : Int) + (j : Nat)) = rd p ((64 * n + 4 * t + j : Nat) : Int) := by
    intro j hj
    rw [show (4 * (t : Int) + (j : Nat)) = ((4 * t + j : Nat) : Int) by omega, rd_at _ (4 * t + j) (by omega), rd_at p (64 * n + 4 * t + j) (by omega), List.getElem_take, List.getElem_drop]
    congr 1
    omega
  have hb : ∀ j : Nat, j < 4 → 0 ≤ rd p ((64 * n + 4 * t + j : Nat) : Int) ∧ rd p ((64 * n + 4 * t + j : Nat) : Int) < 256 := by
    intro j hj
    rw [rd_at p (64 * n + 4 * t + j) (by omega)]
    exact hp _ (List.getElem_mem _)
  rw [wordA_at _ _ (by omega) (by omega) (by omega)]
  exact word4_join _ _ _ _ _ _ (hj 0 (by omega)) (hj 1 (by omega)) (hj 2 (by omega)) (hj 3 (by omega)) (hb 0 (by omega)) (hb 1 (by omega)) (hb 2 (by omega)) (hb 3 (by omega))
theorem padL_octets (l : List Int) (h : Octets l) : Octets (padL l) := by
  intro x hx
  simp only [padL, List.mem_append, List.mem_singleton] at hx
  rcases hx with hx | rfl | hx | hx
  · exact h x hx
  · omega
  · rw [List.mem_replicate] at hx; omega
  · exact putL_octets _ _ x hx
end Go.Proofs.Ytclmikbbjhdplaa.X
/- mootref01.Sha: what its loops keep. -/
namespace Go.Proofs.Ytclmikbbjhdplaa.X
open Go.RowKit Go.Proofs.YtclmikbbjhdplaaW.PrintWords Go.Proofs.YtclmikbbjhdplaaW.PrintLast Go.Proofs.YtclmikbbjhdplaaW.PrintMore
set_option linter.unusedVariables false
set_option linter.unusedSimpArgs false

set_option maxRecDepth 100000 in
set_option maxHeartbeats 4000000 in
theorem words_calls (w : World) :
    Calls Try.prog 59 #[] w fun e w' => e = .returned (.agg (nums .u32 K0).toArray) ∧ Below w.heap.size w w' := by
  go_enter Try.func59, Try.ntmps59
  go_wp2_with (first | ((with_reducible refine gate_dst (N := 1) rfl ?_); go_must (refine build_ev rfl rfl 68 _ rfl (nums .u32 K0).toArray (by kernel_rfl) ?_)) | ((with_reducible refine gate_store (t := 68) rfl ?_); go_must (refine store_ev rfl rfl 68 (.tmp 0) (.tmp 1) rfl w.heap.size _ _ rfl rfl (blk_new _ _) rfl (by kernel_rfl) (nums_one _ _) ?_; intro w1 hst)))
  refine bodyPost_ret (v := .agg (nums .u32 K0).toArray) ?_ rfl ⟨rfl, hst.below _ (below_alloc (Below.refl _ _) _) (Nat.le_refl _)⟩
  exact results_cell_row rfl _ _ w.heap.size 68 _ (0, 0) _ rfl hst.at_ Try.underlying68 rfl (by kernel_rfl)
theorem i65 : (Try.prog.info? 65).map (fun i => (i.zero, i.size)) = some (some (.agg (nums .u32 (List.replicate 8 0)).toArray), 8) := by kernel_rfl
theorem info65_of {n : Nat} (h : n = 8) : (Try.prog.info? 65).map (·.size) = some n := by rw [h]; kernel_rfl
/-- What stands through all loops: s is the state. -/
structure RI (w w7 : World) (z g3 g4 : Nat) (s : List Int) (W : World) : Prop where
  b3 : W.heap[g3]? = some (.cells (nums .u32 K0).toArray 68 (0, 0))
  b4 : W.heap[g4]? = some (.cells (nums .u32 s).toArray 65 (0, 0))
  kept : ∀ k, z ≤ k → k < w7.heap.size → W.heap[k]? = w7.heap[k]?
  size : w7.heap.size ≤ W.heap.size
  below : Below w.heap.size w W
  l3 : g3 < z
  l4 : g4 < z
  l34 : g3 ≠ g4
  zz : z ≤ w7.heap.size
  wg : w.heap.size ≤ g4
theorem RI.row {w w7 W : World} {z g3 g4 : Nat} {s q : List Int} {A : Option Addr} (h : RI w w7 z g3 g4 s W) (hF : Kd.F (Kd.int .u8) w7 (fun k => z ≤ k) A q.length q) : Kd.C (Kd.int .u8) W A q.length q :=
  Kd.F_now (Kd.F_step hF (fun k hk hlt => h.kept k hk hlt))
theorem RI.drewN {w w7 W : World} {z g3 g4 : Nat} {s : List Int} (h : RI w w7 z g3 g4 s W) (m : Nat) : RI w w7 z g3 g4 s (W.drewN m) := ⟨h.b3, h.b4, h.kept, h.size, pw_below_drewN h.below m, h.l3, h.l4, h.l34, h.zz, h.wg⟩
theorem RI.step {w w7 W W1 : World} {z g3 g4 : Nat} {s : List Int} (h : RI w w7 z g3 g4 s W) (hb : Below W.heap.size W W1) : RI w w7 z g3 g4 s W1 :=
  ⟨(hb.block _ (blk_lt h.b3)).trans h.b3, (hb.block _ (blk_lt h.b4)).trans h.b4, fun k hk hlt => (hb.block _ (Nat.lt_of_lt_of_le hlt h.size)).trans (h.kept k hk hlt), Nat.le_trans h.size hb.size, below_step h.below hb, h.l3, h.l4, h.l34, h.zz, h.wg⟩
theorem RI.set {w w7 W : World} {z g3 g4 : Nat} {s : List Int} (h : RI w w7 z g3 g4 s W) {g : Nat} (hg : w7.heap.size ≤ g) (i : Nat) (v : Value) : RI w w7 z g3 g4 s (W.setCell ⟨g, i, none⟩ v) :=
  ⟨blk_far h.b3 (by show g3 ≠ g; have := h.l3; have := h.zz; omega) _, blk_far h.b4 (by show g4 ≠ g; have := h.l4; have := h.zz; omega) _, fun k hk hlt => (Below.heap_setCell W ⟨g, i, none⟩ v k (by show k ≠ g; omega)).trans (h.kept k hk hlt), by rw [World.size_setCell]; exact h.size, below_set h.below (by have := h.wg; have := h.l4; have := h.zz; omega), h.l3, h.l4, h.l34, h.zz, h.wg⟩
theorem RI.stored {w w7 W W1 : World} {z g3 g4 g : Nat} {s : List Int} {t : TypeId} {cs : Array Value} (h : RI w w7 z g3 g4 s W) (hst : Stored g t cs W W1) (hg : w7.heap.size ≤ g) : RI w w7 z g3 g4 s W1 :=
  ⟨(hst.far _ (by have := h.l3; have := h.zz; omega)).trans h.b3, (hst.far _ (by have := h.l4; have := h.zz; omega)).trans h.b4, fun k hk hlt => (hst.far _ (by omega)).trans (h.kept k hk hlt), by rw [hst.size]; exact h.size, hst.below _ h.below (by have := h.wg; have := h.l4; have := h.zz; omega), h.l3, h.l4, h.l34, h.zz, h.wg⟩
theorem RI.put {w w7 W : World} {z g3 g4 : Nat} {s : List Int} (h : RI w w7 z g3 g4 s W) (i : Nat) (x : Int) : RI w w7 z g3 g4 (s.set i x) (W.setCell ⟨g4, i, none⟩ (.int .u32 x)) := by
  refine ⟨blk_far h.b3 h.l34 _, ?_, fun k hk hlt => (Below.heap_setCell W ⟨g4, i, none⟩ _ k (by show k ≠ g4; have := h.l4; omega)).trans (h.kept k hk hlt), by rw [World.size_setCell]; exact h.size, below_set h.below h.wg, h.l3, h.l4, h.l34, h.zz, h.wg⟩
  have := blk_set h.b4 i (.int .u32 x)
  rwa [show (nums .u32 s).toArray.setIfInBounds i (.int .u32 x) = (nums .u32 (s.set i x)).toArray by simp [nums, List.map_set]] at this
/-- What the loop over a block's words keeps. -/
structure WI (w w7 : World) (z g3 g4 g7 : Nat) (s ws : List Int) (W : World) : Prop where
  o : RI w w7 z g3 g4 s W
  row : W.heap[g7]? = some (.cells (nums .u32 (pad64 ws)).toArray 68 (0, 0))
  l7 : w7.heap.size ≤ g7
theorem WI.drewN {w w7 W : World} {z g3 g4 g7 : Nat} {s ws : List Int} (h : WI w w7 z g3 g4 g7 s ws W) (m : Nat) : WI w w7 z g3 g4 g7 s ws (W.drewN m) := ⟨h.o.drewN m, h.row, h.l7⟩
theorem WI.set {w w7 W : World} {z g3 g4 g7 : Nat} {s ws : List Int} (h : WI w w7 z g3 g4 g7 s ws W) (hn : ws.length < 64) (x : Int) : WI w w7 z g3 g4 g7 s (ws ++ [x]) (W.setCell ⟨g7, ws.length, none⟩ (.int .u32 x)) := by
  refine ⟨h.o.set h.l7 _ _, ?_, h.l7⟩
  have := blk_set h.row ws.length (.int .u32 x)
  rw [← pad64_set ws x hn]
  rwa [show (nums .u32 (pad64 ws)).toArray.setIfInBounds ws.length (.int .u32 x) = (nums .u32 ((pad64 ws).set ws.length x)).toArray by simp [nums, List.map_set]] at this
theorem WI.cell {w w7 W : World} {z g3 g4 g7 : Nat} {s ws : List Int} (h : WI w w7 z g3 g4 g7 s ws W) (i : Int) (h0 : 0 ≤ i) (hi : i < ws.length) : W.cell? ⟨g7, i.toNat, none⟩ = some (.int .u32 (rd ws i)) := by
  rw [blk_cell h.row]
  simp only [nums, List.getElem?_toArray, List.getElem?_map, pad64_get ws i.toNat (by omega)]
  rfl
theorem WI.there {w w7 W : World} {z g3 g4 g7 : Nat} {s ws : List Int} (h : WI w w7 z g3 g4 g7 s ws W) (hl : ws.length ≤ 64) (i : Nat) (hi : i < 64) : ∃ v, W.cell? ⟨g7, i, none⟩ = some (.int .u32 v) := by
  rw [blk_cell h.row]
  simp only [nums, List.getElem?_toArray, List.getElem?_map]
  rw [List.getElem?_eq_getElem (by rw [pad64_len ws hl]; exact hi)]
  exact ⟨_, rfl⟩
/-- What the rounds keep. -/
structure VI (w w7 : World) (z g3 g4 g7 g11 : Nat) (s ws v : List Int) (W : World) : Prop where
  o : RI w w7 z g3 g4 s W
  row : W.heap[g7]? = some (.cells (nums .u32 ws).toArray 68 (0, 0))
  b11 : W.heap[g11]? = some (.cells (nums .u32 v).toArray 65 (0, 0))
  l7 : w7.heap.size ≤ g7
  l11 : w7.heap.size ≤ g11
  ne : g7 ≠ g11
theorem VI.drewN {w w7 W : World} {z g3 g4 g7 g11 : Nat} {s ws v : List Int} (h : VI w w7 z g3 g4 g7 g11 s ws v W) (m : Nat) : VI w w7 z g3 g4 g7 g11 s ws v (W.drewN m) := ⟨h.o.drewN m, h.row, h.b11, h.l7, h.l11, h.ne⟩
theorem VI.store {w w7 W W1 : World} {z g3 g4 g7 g11 : Nat} {s ws v v' : List Int} (h : VI w w7 z g3 g4 g7 g11 s ws v W) (hst : Stored g11 65 (nums .u32 v').toArray W W1) : VI w w7 z g3 g4 g7 g11 s ws v' W1 :=
  ⟨h.o.stored hst h.l11, (hst.far _ h.ne).trans h.row, hst.at_, h.l7, h.l11, h.ne⟩
theorem VI.put {w w7 W : World} {z g3 g4 g7 g11 : Nat} {s ws v : List Int} (h : VI w w7 z g3 g4 g7 g11 s ws v W) (i : Nat) (x : Int) : VI w w7 z g3 g4 g7 g11 (s.set i x) ws v (W.setCell ⟨g4, i, none⟩ (.int .u32 x)) :=
  ⟨h.o.put i x, blk_far h.row (by show g7 ≠ g4; have := h.l7; have := h.o.l4; have := h.o.zz; omega) _, blk_far h.b11 (by show g11 ≠ g4; have := h.l11; have := h.o.l4; have := h.o.zz; omega) _, h.l7, h.l11, h.ne⟩

end Go.Proofs.Ytclmikbbjhdplaa.X
/- mootref01.Sha: one region's walk. -/
namespace Go.Proofs.Ytclmikbbjhdplaa.X
open Go.RowKit Go.Proofs.YtclmikbbjhdplaaW.PrintWords Go.Proofs.YtclmikbbjhdplaaW.PrintLast Go.Proofs.YtclmikbbjhdplaaW.PrintMore
set_option linter.unusedVariables false
set_option linter.unusedSimpArgs false
set_option maxRecDepth 100000 in
set_option maxHeartbeats 400000000 in
theorem reg12 {w w7 wr : World} {z g3 g4 g7 n m t cp : Nat} {s q p : List Int} {Ap : Option Addr} {aN : Int} {Q : Exit → Act → World → Prop} {fr0 fr1 fr2 fr3 fr4 fr9 fr10 fr11 fr12 fr13 fr14 fr15 fr16 fr17 fr18 fr19 fr20 fr21 fr22 fr23 fr24 fr25 fr26 fr27 fr28 fr29 fr30 fr31 fr32 fr33 fr34 fr35 fr36 fr37 fr38 fr39 fr40 fr41 fr42 fr43 fr44 fr45 fr46 fr47 fr48 fr49 fr50 fr51 fr52 fr53 fr54 fr55 fr56 fr57 fr58 fr59 fr60 fr61 fr62 fr63 fr64 fr65 fr66 fr67 fr68 fr69 fr70 fr71 fr72 fr73 fr74 fr75 fr76 fr77 fr78 fr79 fr80 fr81 fr82 fr83 fr84 fr85 fr86 fr87 fr88 fr89 fr90 fr91 fr92 fr93 fr94 fr95 fr96 fr97 fr98 fr99 fr100 fr101 fr102 fr103 fr104 fr105 fr106 fr107 fr108 fr109 fr110 fr111 fr112 fr113 fr114 fr115 fr116 fr117 fr118 fr119 fr120 fr121 fr122 fr123 fr124 fr125 fr126 fr127 fr128 fr129 fr130 fr131 fr132 fr133 fr134 fr135 fr136 fr137 fr138 fr139 fr140 fr141 fr142 fr143 fr144 fr145 fr146 fr147 fr148 fr149 fr150 fr151 fr152 fr153 fr154 fr155 fr156 fr157 fr158 fr159 fr160 fr161 fr162 fr163 fr164 fr165 fr166 fr167 fr168 fr169 fr170 fr171 fr172 fr173 fr174 fr175 fr176 fr177 fr178 fr179 fr180 fr181 fr182 fr183 fr184 fr185 fr186 fr187 fr188 fr189 fr190 fr191 fr192 fr193 fr194 fr195 fr196 fr197 fr198 fr199 fr200 fr201 fr202 fr203 fr204 fr205 fr206 fr207 fr208 fr209 fr210 fr211 fr212 fr213 fr214 fr215 fr216 fr217 fr218 fr219 fr220 fr221 fr222 fr223 fr224 fr225 fr226 fr227 fr228 fr229 fr230 fr231 fr232 fr233 fr234 fr235 fr236 fr237 fr238 : Value} (hW : Hid (WI w w7 z g3 g4 g7 s (wsA q t) wr)) (HF0 : Hid (Kd.F (Kd.int .u8) w7 (fun k => z ≤ k) Ap p.length p)) (HLEN : Hid (p.length = 64 * m)) (HCN : Hid (n < m)) (HAN : Hid (((64 * n : Nat) : Int) = aN)) (HPL : Hid (p.length ≤ 140737488355000 ∧ 9 ≤ p.length)) (HPO : Hid (Octets p)) (HQ : Hid ((p.drop (64 * n)).take 64 = q)) (c16 : t < 16) (c64 : t < 64)
    (hQ : ∀ uu36 uu37 uu38 uu39 uu40 uu41 uu42 uu43 uu44 uu45 uu46 uu47 uu48 uu49 uu50 uu51 uu52 uu53 uu54 uu55 uu56 uu57 uu58 uu59 uu60 uu61 uu62 uu63 uu64 uu65 uu66 uu67 uu68 uu69 uu70 uu71 uu72 uu73 uu74 uu75 uu76 uu77 uu78 : Value, Q .normal { tmps := #[fr0, fr1, fr2, fr3, fr4, .slice Ap p.length cp, .int .i64 aN, .pointer (some ⟨g7, 0, none⟩), .int .i64 (t : Int), fr9, fr10, fr11, fr12, fr13, fr14, fr15, fr16, fr17, fr18, fr19, fr20, fr21, fr22, fr23, fr24, fr25, fr26, fr27, fr28, fr29, fr30, fr31, fr32, fr33, fr34, fr35, uu36, uu37, uu38, uu39, uu40, uu41, uu42, uu43, uu44, uu45, uu46, uu47, uu48, uu49, uu50, uu51, uu52, uu53, uu54, uu55, uu56, uu57, uu58, uu59, uu60, uu61, uu62, uu63, uu64, uu65, uu66, uu67, uu68, uu69, uu70, uu71, uu72, uu73, uu74, uu75, uu76, uu77, uu78, fr79, fr80, fr81, fr82, fr83, fr84, fr85, fr86, fr87, fr88, fr89, fr90, fr91, fr92, fr93, fr94, fr95, fr96, fr97, fr98, fr99, fr100, fr101, fr102, fr103, fr104, fr105, fr106, fr107, fr108, fr109, fr110, fr111, fr112, fr113, fr114, fr115, fr116, fr117, fr118, fr119, fr120, fr121, fr122, fr123, fr124, fr125, fr126, fr127, fr128, fr129, fr130, fr131, fr132, fr133, fr134, fr135, fr136, fr137, fr138, fr139, fr140, fr141, fr142, fr143, fr144, fr145, fr146, fr147, fr148, fr149, fr150, fr151, fr152, fr153, fr154, fr155, fr156, fr157, fr158, fr159, fr160, fr161, fr162, fr163, fr164, fr165, fr166, fr167, fr168, fr169, fr170, fr171, fr172, fr173, fr174, fr175, fr176, fr177, fr178, fr179, fr180, fr181, fr182, fr183, fr184, fr185, fr186, fr187, fr188, fr189, fr190, fr191, fr192, fr193, fr194, fr195, fr196, fr197, fr198, fr199, fr200, fr201, fr202, fr203, fr204, fr205, fr206, fr207, fr208, fr209, fr210, fr211, fr212, fr213, fr214, fr215, fr216, fr217, fr218, fr219, fr220, fr221, fr222, fr223, fr224, fr225, fr226, fr227, fr228, fr229, fr230, fr231, fr232, fr233, fr234, fr235, fr236, fr237, fr238], defers := [] } ((wr.drewN 1).setCell ⟨g7, t, none⟩ (.int .u32 (wordA q (4 * (t : Int)))))) :
    Code.wp Try.prog (Code.region 12 (opsOf Try.f33 12) true) Q { tmps := #[fr0, fr1, fr2, fr3, fr4, .slice Ap p.length cp, .int .i64 aN, .pointer (some ⟨g7, 0, none⟩), .int .i64 (t : Int), fr9, fr10, fr11, fr12, fr13, fr14, fr15, fr16, fr17, fr18, fr19, fr20, fr21, fr22, fr23, fr24, fr25, fr26, fr27, fr28, fr29, fr30, fr31, fr32, fr33, fr34, fr35, fr36, fr37, fr38, fr39, fr40, fr41, fr42, fr43, fr44, fr45, fr46, fr47, fr48, fr49, fr50, fr51, fr52, fr53, fr54, fr55, fr56, fr57, fr58, fr59, fr60, fr61, fr62, fr63, fr64, fr65, fr66, fr67, fr68, fr69, fr70, fr71, fr72, fr73, fr74, fr75, fr76, fr77, fr78, fr79, fr80, fr81, fr82, fr83, fr84, fr85, fr86, fr87, fr88, fr89, fr90, fr91, fr92, fr93, fr94, fr95, fr96, fr97, fr98, fr99, fr100, fr101, fr102, fr103, fr104, fr105, fr106, fr107, fr108, fr109, fr110, fr111, fr112, fr113, fr114, fr115, fr116, fr117, fr118, fr119, fr120, fr121, fr122, fr123, fr124, fr125, fr126, fr127, fr128, fr129, fr130, fr131, fr132, fr133, fr134, fr135, fr136, fr137, fr138, fr139, fr140, fr141, fr142, fr143, fr144, fr145, fr146, fr147, fr148, fr149, fr150, fr151, fr152, fr153, fr154, fr155, fr156, fr157, fr158, fr159, fr160, fr161, fr162, fr163, fr164, fr165, fr166, fr167, fr168, fr169, fr170, fr171, fr172, fr173, fr174, fr175, fr176, fr177, fr178, fr179, fr180, fr181, fr182, fr183, fr184, fr185, fr186, fr187, fr188, fr189, fr190, fr191, fr192, fr193, fr194, fr195, fr196, fr197, fr198, fr199, fr200, fr201, fr202, fr203, fr204, fr205, fr206, fr207, fr208, fr209, fr210, fr211, fr212, fr213, fr214, fr215, fr216, fr217, fr218, fr219, fr220, fr221, fr222, fr223, fr224, fr225, fr226, fr227, fr228, fr229, fr230, fr231, fr232, fr233, fr234, fr235, fr236, fr237, fr238], defers := [] } wr := by
  have hwl := wsA_len q t
  obtain ⟨v, c2⟩ := hW.out.there (by rw [wsA_len]; omega) t (by omega)
  have f2 := blk_frozen hW.out.row t
  have hlp := HLEN.out
  have hcn := HCN.out
  have han := HAN.out
  have hpl := HPL.out.1
  have HPC := Lib.hid (hW.out.o.row HF0.out)
  have hwd : wordA q (4 * (t : Int)) = ((rd p ((64 * n + 4 * t : Nat) : Int) * 256 + rd p ((64 * n + 4 * t + 1 : Nat) : Int)) * 256 + rd p ((64 * n + 4 * t + 2 : Nat) : Int)) * 256 + rd p ((64 * n + 4 * t + 3 : Nat) : Int) := by
    rw [← HQ.out]; exact wordA_block p HPO.out n t c16 (by omega)
  have hby : ∀ j : Nat, j < 4 → 0 ≤ rd p ((64 * n + 4 * t + j : Nat) : Int) ∧ rd p ((64 * n + 4 * t + j : Nat) : Int) < 256 := by
    intro j hj
    rw [rd_at p (64 * n + 4 * t + j) (by omega)]
    exact HPO.out _ (List.getElem_mem _)
  have e1 : wrap64 (4 * (t : Int)) = 4 * (t : Int) := by unfold wrap64; omega
  obtain ⟨j4, hj4⟩ : ∃ j : Int, 4 * (t : Int) = j := ⟨_, rfl⟩
  obtain ⟨j0, hj0⟩ : ∃ j : Int, ((64 * n + 4 * t : Nat) : Int) = j := ⟨_, rfl⟩
  obtain ⟨j1, hj1⟩ : ∃ j : Int, ((64 * n + 4 * t + 1 : Nat) : Int) = j := ⟨_, rfl⟩
  obtain ⟨j2, hj2⟩ : ∃ j : Int, ((64 * n + 4 * t + 2 : Nat) : Int) = j := ⟨_, rfl⟩
  obtain ⟨j3, hj3⟩ : ∃ j : Int, ((64 * n + 4 * t + 3 : Nat) : Int) = j := ⟨_, rfl⟩
  have y0 := hby 0 (by omega)
  have y1 := hby 1 (by omega)
  have y2 := hby 2 (by omega)
  have y3 := hby 3 (by omega)
  simp only [Nat.add_zero] at y0
  rw [hj0] at y0 hwd
  rw [hj1] at y1 hwd
  rw [hj2] at y2 hwd
  rw [hj3] at y3 hwd
  have e1w : IntKind.i64.wrap (4 * (t : Int)) = j4 := by rw [IntKind.wrap_i64]; omega
  have a0w : IntKind.i64.wrap (aN + j4) = j0 := by rw [IntKind.wrap_i64]; omega
  have a1w : IntKind.i64.wrap (j0 + 1) = j1 := by rw [IntKind.wrap_i64]; omega
  have a2w : IntKind.i64.wrap (j0 + 2) = j2 := by rw [IntKind.wrap_i64]; omega
  have a3w : IntKind.i64.wrap (j0 + 3) = j3 := by rw [IntKind.wrap_i64]; omega
  have a0 : wrap64 (aN + j4) = j0 := by unfold wrap64; omega
  have a1 : wrap64 (j0 + 1) = j1 := by unfold wrap64; omega
  have a2 : wrap64 (j0 + 2) = j2 := by unfold wrap64; omega
  have a3 : wrap64 (j0 + 3) = j3 := by unfold wrap64; omega
  have p0 : 0 ≤ j0 := by omega
  have p1 : 0 ≤ j1 := by omega
  have p2 : 0 ≤ j2 := by omega
  have p3 : 0 ≤ j3 := by omega
  have q0 : j0 < (p.length : Int) := by omega
  have q1 : j1 < (p.length : Int) := by omega
  have q2 : j2 < (p.length : Int) := by omega
  have q3 : j3 < (p.length : Int) := by omega
  obtain ⟨ad, ea, x0⟩ := Kd.at_int HPC.out j0 p0 q0
  obtain ⟨ad1, ea1, x1⟩ := Kd.at_int HPC.out j1 p1 q1
  obtain ⟨ad2, ea2, x2⟩ := Kd.at_int HPC.out j2 p2 q2
  obtain ⟨ad3, ea3, x3⟩ := Kd.at_int HPC.out j3 p3 q3
  obtain rfl := Option.some.inj (ea1.symm.trans ea)
  obtain rfl := Option.some.inj (ea2.symm.trans ea)
  obtain rfl := Option.some.inj (ea3.symm.trans ea)
  clear ea1 ea2 ea3
  subst ea
  obtain ⟨z0, hz0⟩ : ∃ z, rd p j0 = z := ⟨_, rfl⟩
  obtain ⟨z1, hz1⟩ : ∃ z, rd p j1 = z := ⟨_, rfl⟩
  obtain ⟨z2, hz2⟩ : ∃ z, rd p j2 = z := ⟨_, rfl⟩
  obtain ⟨z3, hz3⟩ : ∃ z, rd p j3 = z := ⟨_, rfl⟩
  rw [hz0] at x0 y0 hwd
  rw [hz1] at x1 y1 hwd
  rw [hz2] at x2 y2 hwd
  rw [hz3] at x3 y3 hwd
  rw [hj4] at e1 hwd
  have HWD := Lib.hid hwd
  have Y := Lib.hid (And.intro y0 (And.intro y1 (And.intro y2 y3)))
  replace p0 := eq_true p0
  replace p1 := eq_true p1
  replace p2 := eq_true p2
  replace p3 := eq_true p3
  replace q0 := eq_true q0
  replace q1 := eq_true q1
  replace q2 := eq_true q2
  replace q3 := eq_true q3
  have b1 : (0 : Int) ≤ t := by omega
  have b2 : (t : Int) < 64 := by omega
  have HWL := Lib.hid hwl
  have HJ4 := Lib.hid hj4
  clear hlp hcn han hpl hwd hby y0 y1 y2 y3 hz0 hz1 hz2 hz3 hj0 hj1 hj2 hj3 hwl hj4
  obtain ⟨wd, hwdd⟩ : ∃ wd, wordA q j4 = wd := ⟨_, rfl⟩
  have u0 : IntKind.u32.wrap z0 = z0 := by have := Y.out; rw [IntKind.wrap_u32]; omega
  have u1 : IntKind.u32.wrap z1 = z1 := by have := Y.out; rw [IntKind.wrap_u32]; omega
  have u2 : IntKind.u32.wrap z2 = z2 := by have := Y.out; rw [IntKind.wrap_u32]; omega
  have u3 : IntKind.u32.wrap z3 = z3 := by have := Y.out; rw [IntKind.wrap_u32]; omega
  obtain ⟨h0, hh0⟩ : ∃ h, z0 * 16777216 = h := ⟨_, rfl⟩
  obtain ⟨h1, hh1⟩ : ∃ h, z1 * 65536 = h := ⟨_, rfl⟩
  obtain ⟨h2, hh2⟩ : ∃ h, z2 * 256 = h := ⟨_, rfl⟩
  obtain ⟨s1, hs1⟩ : ∃ h, h0 + h1 = h := ⟨_, rfl⟩
  obtain ⟨s2, hs2⟩ : ∃ h, s1 + h2 = h := ⟨_, rfl⟩
  have v0 : IntKind.u32.wrap (z0 * 16777216) = h0 := by have := Y.out; rw [IntKind.wrap_u32]; omega
  have v1 : IntKind.u32.wrap (z1 * 65536) = h1 := by have := Y.out; rw [IntKind.wrap_u32]; omega
  have v2 : IntKind.u32.wrap (z2 * 256) = h2 := by have := Y.out; rw [IntKind.wrap_u32]; omega
  have t1 : IntKind.u32.wrap (h0 + h1) = s1 := by have := Y.out; rw [IntKind.wrap_u32]; omega
  have t2 : IntKind.u32.wrap (s1 + h2) = s2 := by have := Y.out; rw [IntKind.wrap_u32]; omega
  have t3 : IntKind.u32.wrap (s2 + z3) = wd := by have := Y.out; have := HWD.out; rw [IntKind.wrap_u32]; omega
  have HWW := Lib.hid hwdd
  clear hh0 hh1 hh2 hs1 hs2 hwdd
  have hmix : Try.prog.follows .mixedOrders = true := by kernel_rfl
  rw [HJ4.out, HWW.out] at hQ
  have HQQ := Lib.hid hQ
  clear hQ
  simp only [opsOf, Try.f33, opsIn, Option.bind_some, Option.getD_some, reduceIte, Nat.reduceEqDiff, Nat.reduceBEq, Bool.false_eq_true, if_false]
  go_still_tail 43, hmix
  change wpList _ _ _ _ _ wr.drew
  clear u0 u1 u2 u3 v0 v1 v2 t1 t2 t3 x0 x1 x2 x3 a0 a1 a2 a3 a0w a1w a2w a3w e1 e1w p0 p1 p2 p3 q0 q1 q2 q3
  go_wp2
  exact HQQ.out _ _ _ _ _ _ _ _ _ _ _ _ _ _ _ _ _ _ _ _ _ _ _ _ _ _ _ _ _ _ _ _ _ _ _ _ _ _ _ _ _ _ _
end Go.Proofs.Ytclmikbbjhdplaa.X
/- mootref01.Sha: one region's walk. -/
namespace Go.Proofs.Ytclmikbbjhdplaa.X
open Go.RowKit Go.Proofs.YtclmikbbjhdplaaW.PrintWords Go.Proofs.YtclmikbbjhdplaaW.PrintLast Go.Proofs.YtclmikbbjhdplaaW.PrintMore
set_option linter.unusedVariables false
set_option linter.unusedSimpArgs false
set_option maxRecDepth 100000 in
set_option maxHeartbeats 400000000 in
theorem reg14 {w w7 W1 : World} {z g3 g4 g7 t : Nat} {s q : List Int} {jj15 jj2 : Int} {Q : Exit → Act → World → Prop} {fr0 fr1 fr2 fr3 fr4 fr5 fr6 fr11 fr12 fr13 fr14 fr15 fr16 fr17 fr18 fr19 fr20 fr21 fr22 fr23 fr24 fr25 fr26 fr27 fr28 fr29 fr30 fr31 fr32 fr33 fr34 fr35 fr36 fr37 fr38 fr39 fr40 fr41 fr42 fr43 fr44 fr45 fr46 fr47 fr48 fr49 fr50 fr51 fr52 fr53 fr54 fr55 fr56 fr57 fr58 fr59 fr60 fr61 fr62 fr63 fr64 fr65 fr66 fr67 fr68 fr69 fr70 fr71 fr72 fr73 fr74 fr75 fr76 fr77 fr78 fr79 fr80 fr81 fr82 fr83 fr84 fr85 fr86 fr87 fr88 fr89 fr90 fr91 fr92 fr93 fr94 fr95 fr96 fr97 fr98 fr99 fr100 fr101 fr102 fr103 fr104 fr105 fr106 fr107 fr108 fr109 fr110 fr111 fr112 fr113 fr114 fr115 fr116 fr117 fr118 fr119 fr120 fr121 fr122 fr123 fr124 fr125 fr126 fr127 fr128 fr129 fr130 fr131 fr132 fr133 fr134 fr135 fr136 fr137 fr138 fr139 fr140 fr141 fr142 fr143 fr144 fr145 fr146 fr147 fr148 fr149 fr150 fr151 fr152 fr153 fr154 fr155 fr156 fr157 fr158 fr159 fr160 fr161 fr162 fr163 fr164 fr165 fr166 fr167 fr168 fr169 fr170 fr171 fr172 fr173 fr174 fr175 fr176 fr177 fr178 fr179 fr180 fr181 fr182 fr183 fr184 fr185 fr186 fr187 fr188 fr189 fr190 fr191 fr192 fr193 fr194 fr195 fr196 fr197 fr198 fr199 fr200 fr201 fr202 fr203 fr204 fr205 fr206 fr207 fr208 fr209 fr210 fr211 fr212 fr213 fr214 fr215 fr216 fr217 fr218 fr219 fr220 fr221 fr222 fr223 fr224 fr225 fr226 fr227 fr228 fr229 fr230 fr231 fr232 fr233 fr234 fr235 fr236 fr237 fr238 : Value} (HW1 : Hid (WI w w7 z g3 g4 g7 s (wsA q t) W1)) (J15 : Hid (jj15 = (t : Int) - 15)) (J2 : Hid (jj2 = (t : Int) - 2)) (c16 : ¬ t < 16) (c64 : t < 64)
    (hQ : ∀ uu87 uu88 uu89 uu90 uu91 uu92 uu93 uu94 uu95 uu96 uu97 uu98 uu99 uu100 uu101 uu102 uu103 uu104 uu105 uu106 uu107 uu108 uu109 uu110 uu111 uu112 uu113 uu114 uu115 : Value, Q .normal { tmps := #[fr0, fr1, fr2, fr3, fr4, fr5, fr6, .pointer (some ⟨g7, 0, none⟩), .int .i64 (t : Int), .int .u32 (rd (wsA q t) jj15), .int .u32 (rd (wsA q t) jj2), fr11, fr12, fr13, fr14, fr15, fr16, fr17, fr18, fr19, fr20, fr21, fr22, fr23, fr24, fr25, fr26, fr27, fr28, fr29, fr30, fr31, fr32, fr33, fr34, fr35, fr36, fr37, fr38, fr39, fr40, fr41, fr42, fr43, fr44, fr45, fr46, fr47, fr48, fr49, fr50, fr51, fr52, fr53, fr54, fr55, fr56, fr57, fr58, fr59, fr60, fr61, fr62, fr63, fr64, fr65, fr66, fr67, fr68, fr69, fr70, fr71, fr72, fr73, fr74, fr75, fr76, fr77, fr78, fr79, fr80, fr81, fr82, fr83, fr84, fr85, fr86, uu87, uu88, uu89, uu90, uu91, uu92, uu93, uu94, uu95, uu96, uu97, uu98, uu99, uu100, uu101, uu102, uu103, uu104, uu105, uu106, uu107, uu108, uu109, uu110, uu111, uu112, uu113, uu114, uu115, fr116, fr117, fr118, fr119, fr120, fr121, fr122, fr123, fr124, fr125, fr126, fr127, fr128, fr129, fr130, fr131, fr132, fr133, fr134, fr135, fr136, fr137, fr138, fr139, fr140, fr141, fr142, fr143, fr144, fr145, fr146, fr147, fr148, fr149, fr150, fr151, fr152, fr153, fr154, fr155, fr156, fr157, fr158, fr159, fr160, fr161, fr162, fr163, fr164, fr165, fr166, fr167, fr168, fr169, fr170, fr171, fr172, fr173, fr174, fr175, fr176, fr177, fr178, fr179, fr180, fr181, fr182, fr183, fr184, fr185, fr186, fr187, fr188, fr189, fr190, fr191, fr192, fr193, fr194, fr195, fr196, fr197, fr198, fr199, fr200, fr201, fr202, fr203, fr204, fr205, fr206, fr207, fr208, fr209, fr210, fr211, fr212, fr213, fr214, fr215, fr216, fr217, fr218, fr219, fr220, fr221, fr222, fr223, fr224, fr225, fr226, fr227, fr228, fr229, fr230, fr231, fr232, fr233, fr234, fr235, fr236, fr237, fr238], defers := [] } ((W1.drewN 1).setCell ⟨g7, t, none⟩ (.int .u32 (nextW (wsA q t) (t : Int))))) :
    Code.wp Try.prog (Code.region 14 (opsOf Try.f33 14) true) Q { tmps := #[fr0, fr1, fr2, fr3, fr4, fr5, fr6, .pointer (some ⟨g7, 0, none⟩), .int .i64 (t : Int), .int .u32 (rd (wsA q t) jj15), .int .u32 (rd (wsA q t) jj2), fr11, fr12, fr13, fr14, fr15, fr16, fr17, fr18, fr19, fr20, fr21, fr22, fr23, fr24, fr25, fr26, fr27, fr28, fr29, fr30, fr31, fr32, fr33, fr34, fr35, fr36, fr37, fr38, fr39, fr40, fr41, fr42, fr43, fr44, fr45, fr46, fr47, fr48, fr49, fr50, fr51, fr52, fr53, fr54, fr55, fr56, fr57, fr58, fr59, fr60, fr61, fr62, fr63, fr64, fr65, fr66, fr67, fr68, fr69, fr70, fr71, fr72, fr73, fr74, fr75, fr76, fr77, fr78, fr79, fr80, fr81, fr82, fr83, fr84, fr85, fr86, fr87, fr88, fr89, fr90, fr91, fr92, fr93, fr94, fr95, fr96, fr97, fr98, fr99, fr100, fr101, fr102, fr103, fr104, fr105, fr106, fr107, fr108, fr109, fr110, fr111, fr112, fr113, fr114, fr115, fr116, fr117, fr118, fr119, fr120, fr121, fr122, fr123, fr124, fr125, fr126, fr127, fr128, fr129, fr130, fr131, fr132, fr133, fr134, fr135, fr136, fr137, fr138, fr139, fr140, fr141, fr142, fr143, fr144, fr145, fr146, fr147, fr148, fr149, fr150, fr151, fr152, fr153, fr154, fr155, fr156, fr157, fr158, fr159, fr160, fr161, fr162, fr163, fr164, fr165, fr166, fr167, fr168, fr169, fr170, fr171, fr172, fr173, fr174, fr175, fr176, fr177, fr178, fr179, fr180, fr181, fr182, fr183, fr184, fr185, fr186, fr187, fr188, fr189, fr190, fr191, fr192, fr193, fr194, fr195, fr196, fr197, fr198, fr199, fr200, fr201, fr202, fr203, fr204, fr205, fr206, fr207, fr208, fr209, fr210, fr211, fr212, fr213, fr214, fr215, fr216, fr217, fr218, fr219, fr220, fr221, fr222, fr223, fr224, fr225, fr226, fr227, fr228, fr229, fr230, fr231, fr232, fr233, fr234, fr235, fr236, fr237, fr238], defers := [] } W1 := by
  have hwl := wsA_len q t
  have b1 : (0 : Int) ≤ t := by omega
  have b2 : (t : Int) < 64 := by omega
  have hW := HW1
  obtain ⟨jj7, hj7⟩ : ∃ j : Int, j = (t : Int) - 7 := ⟨_, rfl⟩
  have e7 : wrap64 ((t : Int) - 7) = jj7 := by unfold wrap64; omega
  have gg7 : IntKind.i64.wrap ((t : Int) - 7) = jj7 := by rw [IntKind.wrap_i64]; omega
  have dd7 := hW.out.cell jj7 (by omega) (by omega)
  have p7 : (0 ≤ jj7) = True := eq_true (by omega)
  have q7 : (jj7 < 64) = True := eq_true (by omega)
  have J7 := Lib.hid hj7
  clear hj7
  obtain ⟨jj16, hj16⟩ : ∃ j : Int, j = (t : Int) - 16 := ⟨_, rfl⟩
  have e16 : wrap64 ((t : Int) - 16) = jj16 := by unfold wrap64; omega
  have gg16 : IntKind.i64.wrap ((t : Int) - 16) = jj16 := by rw [IntKind.wrap_i64]; omega
  have dd16 := hW.out.cell jj16 (by omega) (by omega)
  have p16 : (0 ≤ jj16) = True := eq_true (by omega)
  have q16 : (jj16 < 64) = True := eq_true (by omega)
  have J16 := Lib.hid hj16
  clear hj16
  obtain ⟨v, c2⟩ := HW1.out.there (by rw [wsA_len]; omega) t (by omega)
  have f2 := blk_frozen HW1.out.row t
  have hmix : Try.prog.follows .mixedOrders = true := by kernel_rfl
  have HQQ := Lib.hid hQ
  clear hQ hW
  simp only [opsOf, Try.f33, opsIn, Option.bind_some, Option.getD_some, reduceIte, Nat.reduceEqDiff, Nat.reduceBEq, Bool.false_eq_true, if_false]
  refine wp_region_still_tail 29 hmix (by kernel_rfl) ?_
  simp only [List.take_succ_cons, List.take_zero, List.drop_succ_cons, List.drop_zero]
  repeat still_step
  still_call (turn17 _ _)
  repeat still_step
  still_call (turn19 _ _)
  repeat still_step
  still_call (turn7 _ _)
  repeat still_step
  still_call (turn18 _ _)
  repeat still_step
  refine wpStill_nil ?_
  have hv : IntKind.u32.wrap (IntKind.u32.wrap (IntKind.u32.wrap (Go.bits .xor .u32 (Go.bits .xor .u32 (rotA (rd (wsA q t) jj2) 17) (rotA (rd (wsA q t) jj2) 19)) (rd (wsA q t) jj2 / 1024) + rd (wsA q t) jj7) + Go.bits .xor .u32 (Go.bits .xor .u32 (rotA (rd (wsA q t) jj15) 7) (rotA (rd (wsA q t) jj15) 18)) (rd (wsA q t) jj15 / 8)) + rd (wsA q t) jj16) = nextW (wsA q t) (t : Int) := by
    rw [J2.out, J7.out, J15.out, J16.out, nextW]
    simp only [IntKind.wrap_u32]
    omega
  rw [hv]
  change wpList _ _ _ _ _ W1.drew
  clear hv dd7 dd16 e7 gg7 p7 q7 e16 gg16 p16 q16
  go_wp2
  exact HQQ.out _ _ _ _ _ _ _ _ _ _ _ _ _ _ _ _ _ _ _ _ _ _ _ _ _ _ _ _ _
end Go.Proofs.Ytclmikbbjhdplaa.X
/- mootref01.Sha: one region's walk. -/
namespace Go.Proofs.Ytclmikbbjhdplaa.X
open Go.RowKit Go.Proofs.YtclmikbbjhdplaaW.PrintWords Go.Proofs.YtclmikbbjhdplaaW.PrintLast Go.Proofs.YtclmikbbjhdplaaW.PrintMore
set_option linter.unusedVariables false
set_option linter.unusedSimpArgs false
set_option maxRecDepth 100000 in
set_option maxHeartbeats 400000000 in
theorem reg20 {w w7 W1 : World} {z g3 g4 g7 g11 t : Nat} {s ws v : List Int} {Q : Exit → Act → World → Prop} {fr0 fr1 fr2 fr4 fr5 fr6 fr8 fr9 fr10 fr15 fr16 fr17 fr18 fr19 fr20 fr21 fr22 fr23 fr24 fr25 fr26 fr27 fr28 fr29 fr30 fr31 fr32 fr33 fr34 fr35 fr36 fr37 fr38 fr39 fr40 fr41 fr42 fr43 fr44 fr45 fr46 fr47 fr48 fr49 fr50 fr51 fr52 fr53 fr54 fr55 fr56 fr57 fr58 fr59 fr60 fr61 fr62 fr63 fr64 fr65 fr66 fr67 fr68 fr69 fr70 fr71 fr72 fr73 fr74 fr75 fr76 fr77 fr78 fr79 fr80 fr81 fr82 fr83 fr84 fr85 fr86 fr87 fr88 fr89 fr90 fr91 fr92 fr93 fr94 fr95 fr96 fr97 fr98 fr99 fr100 fr101 fr102 fr103 fr104 fr105 fr106 fr107 fr108 fr109 fr110 fr111 fr112 fr113 fr114 fr115 fr116 fr117 fr118 fr119 fr120 fr121 fr122 fr123 fr124 fr125 fr126 fr127 fr128 fr129 fr130 fr131 fr132 fr133 fr134 fr135 fr136 fr137 fr138 fr139 fr140 fr141 fr142 fr143 fr144 fr145 fr146 fr147 fr148 fr149 fr150 fr151 fr152 fr153 fr154 fr155 fr156 fr157 fr158 fr159 fr160 fr161 fr162 fr163 fr164 fr165 fr166 fr167 fr168 fr169 fr170 fr171 fr172 fr173 fr174 fr175 fr176 fr177 fr178 fr179 fr180 fr181 fr182 fr183 fr184 fr185 fr186 fr187 fr188 fr189 fr190 fr191 fr192 fr193 fr194 fr195 fr196 fr197 fr198 fr199 fr200 fr201 fr202 fr203 fr204 fr205 fr206 fr207 fr208 fr209 fr210 fr211 fr212 fr213 fr214 fr215 fr216 fr217 fr218 fr219 fr220 fr221 fr222 fr223 fr224 fr225 fr226 fr227 fr228 fr229 fr230 fr231 fr232 fr233 fr234 fr235 fr236 fr237 fr238 : Value} (HV1 : Hid (VI w w7 z g3 g4 g7 g11 s ws v W1)) (HVL : Hid (v.length = 8)) (HWL : Hid (ws.length = 64)) (c64 : t < 64)
    (hQ : ∀ uu125 uu126 uu127 uu128 uu129 uu130 uu131 uu132 uu133 uu134 uu135 uu136 uu137 uu138 uu139 uu140 uu141 uu142 uu143 uu144 uu145 uu146 uu147 uu148 uu149 uu150 uu151 uu152 uu153 uu154 : Value, Q .normal { tmps := #[fr0, fr1, fr2, .pointer (some ⟨g3, 0, none⟩), fr4, fr5, fr6, .pointer (some ⟨g7, 0, none⟩), fr8, fr9, fr10, .pointer (some ⟨g11, 0, none⟩), .int .i64 (t : Int), .int .u32 (rd v 0), .int .u32 (rd v 4), .int .u32 (t1f v (rd K0 (t : Int)) (rd ws (t : Int))), fr16, fr17, fr18, fr19, fr20, fr21, fr22, fr23, fr24, fr25, fr26, fr27, fr28, fr29, fr30, fr31, fr32, fr33, fr34, fr35, fr36, fr37, fr38, fr39, fr40, fr41, fr42, fr43, fr44, fr45, fr46, fr47, fr48, fr49, fr50, fr51, fr52, fr53, fr54, fr55, fr56, fr57, fr58, fr59, fr60, fr61, fr62, fr63, fr64, fr65, fr66, fr67, fr68, fr69, fr70, fr71, fr72, fr73, fr74, fr75, fr76, fr77, fr78, fr79, fr80, fr81, fr82, fr83, fr84, fr85, fr86, fr87, fr88, fr89, fr90, fr91, fr92, fr93, fr94, fr95, fr96, fr97, fr98, fr99, fr100, fr101, fr102, fr103, fr104, fr105, fr106, fr107, fr108, fr109, fr110, fr111, fr112, fr113, fr114, fr115, fr116, fr117, fr118, fr119, fr120, fr121, fr122, fr123, fr124, uu125, uu126, uu127, uu128, uu129, uu130, uu131, uu132, uu133, uu134, uu135, uu136, uu137, uu138, uu139, uu140, uu141, uu142, uu143, uu144, uu145, uu146, uu147, uu148, uu149, uu150, uu151, uu152, uu153, uu154, fr155, fr156, fr157, fr158, fr159, fr160, fr161, fr162, fr163, fr164, fr165, fr166, fr167, fr168, fr169, fr170, fr171, fr172, fr173, fr174, fr175, fr176, fr177, fr178, fr179, fr180, fr181, fr182, fr183, fr184, fr185, fr186, fr187, fr188, fr189, fr190, fr191, fr192, fr193, fr194, fr195, fr196, fr197, fr198, fr199, fr200, fr201, fr202, fr203, fr204, fr205, fr206, fr207, fr208, fr209, fr210, fr211, fr212, fr213, fr214, fr215, fr216, fr217, fr218, fr219, fr220, fr221, fr222, fr223, fr224, fr225, fr226, fr227, fr228, fr229, fr230, fr231, fr232, fr233, fr234, fr235, fr236, fr237, fr238], defers := [] } (W1.drewN 1)) :
    Code.wp Try.prog (Code.region 20 (opsOf Try.f33 20) true) Q { tmps := #[fr0, fr1, fr2, .pointer (some ⟨g3, 0, none⟩), fr4, fr5, fr6, .pointer (some ⟨g7, 0, none⟩), fr8, fr9, fr10, .pointer (some ⟨g11, 0, none⟩), .int .i64 (t : Int), .int .u32 (rd v 0), .int .u32 (rd v 4), fr15, fr16, fr17, fr18, fr19, fr20, fr21, fr22, fr23, fr24, fr25, fr26, fr27, fr28, fr29, fr30, fr31, fr32, fr33, fr34, fr35, fr36, fr37, fr38, fr39, fr40, fr41, fr42, fr43, fr44, fr45, fr46, fr47, fr48, fr49, fr50, fr51, fr52, fr53, fr54, fr55, fr56, fr57, fr58, fr59, fr60, fr61, fr62, fr63, fr64, fr65, fr66, fr67, fr68, fr69, fr70, fr71, fr72, fr73, fr74, fr75, fr76, fr77, fr78, fr79, fr80, fr81, fr82, fr83, fr84, fr85, fr86, fr87, fr88, fr89, fr90, fr91, fr92, fr93, fr94, fr95, fr96, fr97, fr98, fr99, fr100, fr101, fr102, fr103, fr104, fr105, fr106, fr107, fr108, fr109, fr110, fr111, fr112, fr113, fr114, fr115, fr116, fr117, fr118, fr119, fr120, fr121, fr122, fr123, fr124, fr125, fr126, fr127, fr128, fr129, fr130, fr131, fr132, fr133, fr134, fr135, fr136, fr137, fr138, fr139, fr140, fr141, fr142, fr143, fr144, fr145, fr146, fr147, fr148, fr149, fr150, fr151, fr152, fr153, fr154, fr155, fr156, fr157, fr158, fr159, fr160, fr161, fr162, fr163, fr164, fr165, fr166, fr167, fr168, fr169, fr170, fr171, fr172, fr173, fr174, fr175, fr176, fr177, fr178, fr179, fr180, fr181, fr182, fr183, fr184, fr185, fr186, fr187, fr188, fr189, fr190, fr191, fr192, fr193, fr194, fr195, fr196, fr197, fr198, fr199, fr200, fr201, fr202, fr203, fr204, fr205, fr206, fr207, fr208, fr209, fr210, fr211, fr212, fr213, fr214, fr215, fr216, fr217, fr218, fr219, fr220, fr221, fr222, fr223, fr224, fr225, fr226, fr227, fr228, fr229, fr230, fr231, fr232, fr233, fr234, fr235, fr236, fr237, fr238], defers := [] } W1 := by
  have b1 : (0 : Int) ≤ t := by omega
  have b2 : (t : Int) < 64 := by omega
  have hnot : (if IntKind.u32.signed = true then (-1 : Int) else IntKind.u32.max) = 4294967295 := by decide +kernel
  have hmix : Try.prog.follows .mixedOrders = true := by kernel_rfl
  have d0 := cell_nums HV1.out.b11 0 (by rw [HVL.out]; decide)
  have d1 := cell_nums HV1.out.b11 1 (by rw [HVL.out]; decide)
  have d2 := cell_nums HV1.out.b11 2 (by rw [HVL.out]; decide)
  have d3 := cell_nums HV1.out.b11 3 (by rw [HVL.out]; decide)
  have d4 := cell_nums HV1.out.b11 4 (by rw [HVL.out]; decide)
  have d5 := cell_nums HV1.out.b11 5 (by rw [HVL.out]; decide)
  have d6 := cell_nums HV1.out.b11 6 (by rw [HVL.out]; decide)
  have d7 := cell_nums HV1.out.b11 7 (by rw [HVL.out]; decide)
  have dk := cell_nums HV1.out.o.b3 t (by rw [K0_len]; exact c64)
  have dw := cell_nums HV1.out.row t (by rw [HWL.out]; exact c64)
  have HQQ := Lib.hid hQ
  clear hQ
  simp only [opsOf, Try.f33, opsIn, Option.bind_some, Option.getD_some, reduceIte, Nat.reduceEqDiff, Nat.reduceBEq, Bool.false_eq_true, if_false]
  refine wp_region_still_lit hmix (by kernel_rfl) ?_
  repeat still_step
  still_call (turn6 _ _)
  repeat still_step
  still_call (turn11 _ _)
  repeat still_step
  still_call (turn25 _ _)
  repeat still_step
  refine wpStill_nil ?_
  have hT1 : IntKind.u32.wrap (IntKind.u32.wrap (IntKind.u32.wrap (IntKind.u32.wrap (rd v 7 + Go.bits .xor .u32 (Go.bits .xor .u32 (rotA (rd v 4) 6) (rotA (rd v 4) 11)) (rotA (rd v 4) 25)) + Go.bits .xor .u32 (Go.bits .and .u32 (rd v 4) (rd v 5)) (Go.bits .and .u32 (Go.bits .xor .u32 4294967295 (rd v 4)) (rd v 6))) + rd K0 (t : Int)) + rd ws (t : Int)) = t1f v (rd K0 (t : Int)) (rd ws (t : Int)) := by
    unfold t1f S1f
    simp only [IntKind.wrap_u32]
    omega
  rw [hT1]
  exact HQQ.out _ _ _ _ _ _ _ _ _ _ _ _ _ _ _ _ _ _ _ _ _ _ _ _ _ _ _ _ _ _
end Go.Proofs.Ytclmikbbjhdplaa.X
/- mootref01.Sha: one region's walk. -/
namespace Go.Proofs.Ytclmikbbjhdplaa.X
open Go.RowKit Go.Proofs.YtclmikbbjhdplaaW.PrintWords Go.Proofs.YtclmikbbjhdplaaW.PrintLast Go.Proofs.YtclmikbbjhdplaaW.PrintMore
set_option linter.unusedVariables false
set_option linter.unusedSimpArgs false
set_option maxRecDepth 100000 in
set_option maxHeartbeats 400000000 in
theorem reg21 {w w7 W2 : World} {z g3 g4 g7 g11 : Nat} {s ws v : List Int} {Q : Exit → Act → World → Prop} {fr0 fr1 fr2 fr3 fr4 fr5 fr6 fr7 fr8 fr9 fr10 fr12 fr14 fr15 fr16 fr17 fr18 fr19 fr20 fr21 fr22 fr23 fr24 fr25 fr26 fr27 fr28 fr29 fr30 fr31 fr32 fr33 fr34 fr35 fr36 fr37 fr38 fr39 fr40 fr41 fr42 fr43 fr44 fr45 fr46 fr47 fr48 fr49 fr50 fr51 fr52 fr53 fr54 fr55 fr56 fr57 fr58 fr59 fr60 fr61 fr62 fr63 fr64 fr65 fr66 fr67 fr68 fr69 fr70 fr71 fr72 fr73 fr74 fr75 fr76 fr77 fr78 fr79 fr80 fr81 fr82 fr83 fr84 fr85 fr86 fr87 fr88 fr89 fr90 fr91 fr92 fr93 fr94 fr95 fr96 fr97 fr98 fr99 fr100 fr101 fr102 fr103 fr104 fr105 fr106 fr107 fr108 fr109 fr110 fr111 fr112 fr113 fr114 fr115 fr116 fr117 fr118 fr119 fr120 fr121 fr122 fr123 fr124 fr125 fr126 fr127 fr128 fr129 fr130 fr131 fr132 fr133 fr134 fr135 fr136 fr137 fr138 fr139 fr140 fr141 fr142 fr143 fr144 fr145 fr146 fr147 fr148 fr149 fr150 fr151 fr152 fr153 fr154 fr155 fr156 fr157 fr158 fr159 fr160 fr161 fr162 fr163 fr164 fr165 fr166 fr167 fr168 fr169 fr170 fr171 fr172 fr173 fr174 fr175 fr176 fr177 fr178 fr179 fr180 fr181 fr182 fr183 fr184 fr185 fr186 fr187 fr188 fr189 fr190 fr191 fr192 fr193 fr194 fr195 fr196 fr197 fr198 fr199 fr200 fr201 fr202 fr203 fr204 fr205 fr206 fr207 fr208 fr209 fr210 fr211 fr212 fr213 fr214 fr215 fr216 fr217 fr218 fr219 fr220 fr221 fr222 fr223 fr224 fr225 fr226 fr227 fr228 fr229 fr230 fr231 fr232 fr233 fr234 fr235 fr236 fr237 fr238 : Value} (HV2 : Hid (VI w w7 z g3 g4 g7 g11 s ws v W2)) (HVL : Hid (v.length = 8))
    (hQ : ∀ uu155 uu156 uu157 uu158 uu159 uu160 uu161 uu162 uu163 uu164 uu165 uu166 uu167 uu168 uu169 uu170 uu171 uu172 uu173 uu174 uu175 uu176 uu177 uu178 : Value, Q .normal { tmps := #[fr0, fr1, fr2, fr3, fr4, fr5, fr6, fr7, fr8, fr9, fr10, .pointer (some ⟨g11, 0, none⟩), fr12, .int .u32 (rd v 0), fr14, fr15, .int .u32 (t2f v % 4294967296), fr17, fr18, fr19, fr20, fr21, fr22, fr23, fr24, fr25, fr26, fr27, fr28, fr29, fr30, fr31, fr32, fr33, fr34, fr35, fr36, fr37, fr38, fr39, fr40, fr41, fr42, fr43, fr44, fr45, fr46, fr47, fr48, fr49, fr50, fr51, fr52, fr53, fr54, fr55, fr56, fr57, fr58, fr59, fr60, fr61, fr62, fr63, fr64, fr65, fr66, fr67, fr68, fr69, fr70, fr71, fr72, fr73, fr74, fr75, fr76, fr77, fr78, fr79, fr80, fr81, fr82, fr83, fr84, fr85, fr86, fr87, fr88, fr89, fr90, fr91, fr92, fr93, fr94, fr95, fr96, fr97, fr98, fr99, fr100, fr101, fr102, fr103, fr104, fr105, fr106, fr107, fr108, fr109, fr110, fr111, fr112, fr113, fr114, fr115, fr116, fr117, fr118, fr119, fr120, fr121, fr122, fr123, fr124, fr125, fr126, fr127, fr128, fr129, fr130, fr131, fr132, fr133, fr134, fr135, fr136, fr137, fr138, fr139, fr140, fr141, fr142, fr143, fr144, fr145, fr146, fr147, fr148, fr149, fr150, fr151, fr152, fr153, fr154, uu155, uu156, uu157, uu158, uu159, uu160, uu161, uu162, uu163, uu164, uu165, uu166, uu167, uu168, uu169, uu170, uu171, uu172, uu173, uu174, uu175, uu176, uu177, uu178, fr179, fr180, fr181, fr182, fr183, fr184, fr185, fr186, fr187, fr188, fr189, fr190, fr191, fr192, fr193, fr194, fr195, fr196, fr197, fr198, fr199, fr200, fr201, fr202, fr203, fr204, fr205, fr206, fr207, fr208, fr209, fr210, fr211, fr212, fr213, fr214, fr215, fr216, fr217, fr218, fr219, fr220, fr221, fr222, fr223, fr224, fr225, fr226, fr227, fr228, fr229, fr230, fr231, fr232, fr233, fr234, fr235, fr236, fr237, fr238], defers := [] } (W2.drewN 1)) :
    Code.wp Try.prog (Code.region 21 (opsOf Try.f33 21) true) Q { tmps := #[fr0, fr1, fr2, fr3, fr4, fr5, fr6, fr7, fr8, fr9, fr10, .pointer (some ⟨g11, 0, none⟩), fr12, .int .u32 (rd v 0), fr14, fr15, fr16, fr17, fr18, fr19, fr20, fr21, fr22, fr23, fr24, fr25, fr26, fr27, fr28, fr29, fr30, fr31, fr32, fr33, fr34, fr35, fr36, fr37, fr38, fr39, fr40, fr41, fr42, fr43, fr44, fr45, fr46, fr47, fr48, fr49, fr50, fr51, fr52, fr53, fr54, fr55, fr56, fr57, fr58, fr59, fr60, fr61, fr62, fr63, fr64, fr65, fr66, fr67, fr68, fr69, fr70, fr71, fr72, fr73, fr74, fr75, fr76, fr77, fr78, fr79, fr80, fr81, fr82, fr83, fr84, fr85, fr86, fr87, fr88, fr89, fr90, fr91, fr92, fr93, fr94, fr95, fr96, fr97, fr98, fr99, fr100, fr101, fr102, fr103, fr104, fr105, fr106, fr107, fr108, fr109, fr110, fr111, fr112, fr113, fr114, fr115, fr116, fr117, fr118, fr119, fr120, fr121, fr122, fr123, fr124, fr125, fr126, fr127, fr128, fr129, fr130, fr131, fr132, fr133, fr134, fr135, fr136, fr137, fr138, fr139, fr140, fr141, fr142, fr143, fr144, fr145, fr146, fr147, fr148, fr149, fr150, fr151, fr152, fr153, fr154, fr155, fr156, fr157, fr158, fr159, fr160, fr161, fr162, fr163, fr164, fr165, fr166, fr167, fr168, fr169, fr170, fr171, fr172, fr173, fr174, fr175, fr176, fr177, fr178, fr179, fr180, fr181, fr182, fr183, fr184, fr185, fr186, fr187, fr188, fr189, fr190, fr191, fr192, fr193, fr194, fr195, fr196, fr197, fr198, fr199, fr200, fr201, fr202, fr203, fr204, fr205, fr206, fr207, fr208, fr209, fr210, fr211, fr212, fr213, fr214, fr215, fr216, fr217, fr218, fr219, fr220, fr221, fr222, fr223, fr224, fr225, fr226, fr227, fr228, fr229, fr230, fr231, fr232, fr233, fr234, fr235, fr236, fr237, fr238], defers := [] } W2 := by
  have hmix : Try.prog.follows .mixedOrders = true := by kernel_rfl
  have d0 := cell_nums HV2.out.b11 0 (by rw [HVL.out]; decide)
  have d1 := cell_nums HV2.out.b11 1 (by rw [HVL.out]; decide)
  have d2 := cell_nums HV2.out.b11 2 (by rw [HVL.out]; decide)
  have d3 := cell_nums HV2.out.b11 3 (by rw [HVL.out]; decide)
  have d4 := cell_nums HV2.out.b11 4 (by rw [HVL.out]; decide)
  have d5 := cell_nums HV2.out.b11 5 (by rw [HVL.out]; decide)
  have d6 := cell_nums HV2.out.b11 6 (by rw [HVL.out]; decide)
  have d7 := cell_nums HV2.out.b11 7 (by rw [HVL.out]; decide)
  have HQQ := Lib.hid hQ
  clear hQ
  simp only [opsOf, Try.f33, opsIn, Option.bind_some, Option.getD_some, reduceIte, Nat.reduceEqDiff, Nat.reduceBEq, Bool.false_eq_true, if_false]
  refine wp_region_still_lit hmix (by kernel_rfl) ?_
  repeat still_step
  still_call (turn2 _ _)
  repeat still_step
  still_call (turn13 _ _)
  repeat still_step
  still_call (turn22 _ _)
  repeat still_step
  refine wpStill_nil ?_
  have hT2 : IntKind.u32.wrap (Go.bits .xor .u32 (Go.bits .xor .u32 (rotA (rd v 0) 2) (rotA (rd v 0) 13)) (rotA (rd v 0) 22) + Go.bits .xor .u32 (Go.bits .xor .u32 (Go.bits .and .u32 (rd v 0) (rd v 1)) (Go.bits .and .u32 (rd v 0) (rd v 2))) (Go.bits .and .u32 (rd v 1) (rd v 2))) = t2f v % 4294967296 := by
    unfold t2f S0f
    simp only [IntKind.wrap_u32]
  rw [hT2]
  exact HQQ.out _ _ _ _ _ _ _ _ _ _ _ _ _ _ _ _ _ _ _ _ _ _ _ _
end Go.Proofs.Ytclmikbbjhdplaa.X
/- mootref01.Sha: the reference's sum of octets. -/
namespace Go.Proofs.Ytclmikbbjhdplaa.X
open Go.RowKit Go.Proofs.YtclmikbbjhdplaaW.PrintWords Go.Proofs.YtclmikbbjhdplaaW.PrintLast Go.Proofs.YtclmikbbjhdplaaW.PrintMore
set_option linter.unusedVariables false
set_option linter.unusedSimpArgs false
theorem row4 (W : World) (a b c d : Int) : Kd.C (Kd.int .u8) (W.alloc (.cells #[.int .u8 a, .int .u8 b, .int .u8 c, .int .u8 d] 5)) (some ⟨W.heap.size, 0, none⟩) 4 [a, b, c, d] := row_nums (k := .u8) (xs := [a, b, c, d]) (blk_new W (.cells #[.int .u8 a, .int .u8 b, .int .u8 c, .int .u8 d] 5)) (by simp)
def mootref01_Sha.f (l0 : List Int) : Option (List Int) := if (∀ x ∈ l0, 0 ≤ x ∧ x < 256) ∧ l0.length ≤ 140737488354000 then some (sumL l0) else none
set_option maxRecDepth 100000 in
set_option maxHeartbeats 400000000 in
theorem mootref01_Sha.calls (A0 : Option Addr) (c0 : Nat) (l0 : List Int) (r : List Int) (w : World) (hr0 : Kd.C (Kd.int .u8) w A0 l0.length l0) (hc0 : l0.length ≤ c0) (h : mootref01_Sha.f l0 = some r) :
    Calls Try.prog 33 #[.slice A0 l0.length c0] w fun e w' => ∃ v0_ : Value, e = .returned (v0_) ∧ Kd.R (Kd.int .u8) 5 w' w.heap.size (fun _ => True) v0_ r ∧ Below w.heap.size w w' := by
  unfold mootref01_Sha.f at h
  by_cases hs : (∀ x ∈ l0, 0 ≤ x ∧ x < 256) ∧ l0.length ≤ 140737488354000
  · rw [if_pos hs] at h
    obtain rfl := Option.some.inj h
    clear h
    obtain ⟨p, hp⟩ : ∃ p, padL l0 = p := ⟨_, rfl⟩
    have hpf : mootref01_Pad.f 80 l0 = some p := by rw [← hp]; exact refpad_f l0 (by omega) 80 (by omega)
    have hpm : p.length % 64 = 0 := by rw [← hp]; exact padL_mod l0
    have hpl : p.length ≤ 140737488355000 ∧ 9 ≤ p.length := by rw [← hp, padL_len]; omega
    have hpo : Octets p := by rw [← hp]; exact padL_octets l0 hs.1
    obtain ⟨m, hm⟩ : ∃ m, p.length / 64 = m := ⟨_, rfl⟩
    have hlen : p.length = 64 * m := by omega
    have hres : sumL l0 = octs (statesA p m) := by rw [sumL, stateL, hp, hm]
    rw [hres]
    clear hres hm hs
    have HPF := Lib.hid hpf
    have HPL := Lib.hid hpl
    have HPO := Lib.hid hpo
    have HLEN := Lib.hid hlen
    clear hpf hpl hpo hlen hpm hp
    go_enter Try.func33, Try.ntmps33
    have hs3 : (nums .u32 H0).toArray.size = 8 := by simp [nums, H0_len]
    have hs4 : (nums .u32 K0).toArray.size = 64 := by simp [nums, K0_len]
    have Hs3 := Lib.hid hs3
    have Hs4 := Lib.hid hs4
    clear hs3 hs4
    go_wp2_with (first | (go_at_call 59; go_must (refine (words_calls _).mono ?_; rintro e w1 ⟨rfl, hb1⟩)) | ((with_reducible refine gate_dst (N := 3) rfl ?_); go_must (refine box_event rfl (N := 3) rfl (run_alloc _ 68 _ 64 i68 _ _ rfl _) ?_; intro g3 hg3 w2 b3 hb; have P2 := below_step hb1 hb; have G3 := hg3 ▸ hb1.size; clear hb hb1 hg3)) | ((with_reducible refine gate_store (t := 68) rfl ?_); go_must (refine store_ev rfl rfl 68 (.tmp 3) (.tmp 20) rfl g3 _ _ rfl rfl b3 (by rw [Hs4.out]; rfl) (info68_of Hs4.out) (nums_one _ _) ?_; intro w3 hst; have P3 := hst.below _ P2 G3; have d3 := hst.at_; clear hst P2 b3)) | ((with_reducible refine gate_dst (N := 21) rfl ?_); go_must (refine build_ev rfl rfl 65 _ rfl (nums .u32 H0).toArray (by kernel_rfl) ?_)) | ((with_reducible refine gate_dst (N := 4) rfl ?_); go_must (refine box_event rfl (N := 4) rfl (run_alloc _ 65 _ 8 i65 _ _ rfl _) ?_; intro g4 hg4 w4 b4 hb; have P4 := below_step P3 hb; have G4 := hg4 ▸ P3.size; have c3 := (hb.block _ (blk_lt d3)).trans d3; have G34 : g3 < g4 := hg4 ▸ blk_lt d3; clear hb P3 hg4 d3)) | ((with_reducible refine gate_store (t := 65) rfl ?_); go_must (refine store_ev rfl rfl 65 (.tmp 4) (.tmp 21) rfl g4 _ _ rfl rfl b4 (by rw [Hs3.out]; rfl) (info65_of Hs3.out) (nums_one _ _) ?_; intro w5 hst; have P5 := hst.below _ P4 G4; have d4 := hst.at_; have e3 := (hst.far _ (Nat.ne_of_lt G34)).trans c3; clear hst P4 b4 c3)) | (go_at_call 35; go_must (refine (mootref01_Pad.calls 80 A0 c0 l0 p _ (Kd.C_below hr0 P5) hc0 HPF.out).mono ?_; rintro e w7 ⟨v0, rfl, hR, hb⟩; have P7 := below_step P5 hb; have f3 := (hb.block _ (blk_lt e3)).trans e3; have f4 := (hb.block _ (blk_lt d4)).trans d4; have L3 := blk_lt e3; have L4 := blk_lt d4; have LZ := hb.size; obtain ⟨Ap, cp, rfl⟩ := Kd.R_slice hR; have hRR := Kd.R_reads' hR; clear hb P5 e3 d4)))
    have hF0 : Kd.F (Kd.int .u8) w7 (fun k => w5.heap.size ≤ k) Ap p.length p := Kd.R_F (Kd.R_flat (ok' := fun k => w5.heap.size ≤ k) (fun h => h) hR (fun k hk _ => Kd.R_base hR k hk))
    have hI0 : RI w w7 w5.heap.size g3 g4 (statesA p 0) w7 := ⟨f3, f4, fun _ _ _ => rfl, Nat.le_refl _, P7, L3, L4, Nat.ne_of_lt G34, LZ, G4⟩
    have HF0 := Lib.hid hF0
    have HI0 := Lib.hid hI0
    have HC := Lib.hid hRR.2.1
    clear hF0 hI0 hRR hR P7 f3 f4 L3 L4 LZ G34 G4 G3 hr0 hc0
    go_loopg [6] (m + 1) (fun kq v6 w' => ∃ n : Nat, v6 = .int .i64 ((64 * n : Nat) : Int) ∧ Hid (kq + n = m + 1) ∧ Hid (n ≤ m) ∧ Hid (RI w w7 w5.heap.size g3 g4 (statesA p n) w'))
    case atStart => exact ⟨0, rfl, Lib.hid rfl, Lib.hid (by omega), HI0⟩
    case round =>
      clear HI0
      obtain ⟨n, rfl, hk, hn, hI⟩ := hrel
      have hM := HLEN.out
      have hPL := HPL.out.1
      by_cases cn : n < m
      · have c1 : decide (((64 * n : Nat) : Int) < (p.length : Int)) = true := decide_eq_true (by omega)
        have hsl := statesA_len p n
        obtain ⟨s, hs⟩ : ∃ s, statesA p n = s := ⟨_, rfl⟩
        obtain ⟨aN, haN⟩ : ∃ a : Int, ((64 * n : Nat) : Int) = a := ⟨_, rfl⟩
        rw [hs] at hI hsl
        rw [haN] at c1 ⊢
        have HS := Lib.hid hs
        have HAN := Lib.hid haN
        have HSL := Lib.hid hsl
        have HCN := Lib.hid cn
        clear hs haN hsl cn hM hPL
        go_wp2_with ((with_reducible refine gate_dst (N := 7) rfl ?_); go_must (refine box_event rfl (N := 7) rfl (run_alloc _ 68 _ 64 i68 _ _ rfl _) ?_; intro g7 hg7 w8 b7 hb; have I8 : WI w w7 w5.heap.size g3 g4 g7 s [] w8 := ⟨hI.out.step hb, b7, hg7 ▸ hI.out.size⟩; clear hb b7 hg7))
        have HI8 := Lib.hid I8
        clear I8 hI
        obtain ⟨q, hq⟩ : ∃ q, (p.drop (64 * n)).take 64 = q := ⟨_, rfl⟩
        have HQ := Lib.hid hq
        clear hq
        go_loopg [8] 65 (fun kq v8 w' => ∃ t : Nat, v8 = .int .i64 (t : Int) ∧ Hid (kq + t = 65) ∧ Hid (t ≤ 64) ∧ Hid (WI w w7 w5.heap.size g3 g4 g7 s (wsA q t) w'))
        case atStart => exact ⟨0, rfl, Lib.hid rfl, Lib.hid (by omega), HI8⟩
        case round =>
          clear HI8 c1
          obtain ⟨t, rfl, hk8, ht, hW⟩ := hrel
          by_cases c64 : t < 64
          · have d64 : decide ((t : Int) < 64) = true := decide_eq_true (by omega)
            have hwl := wsA_len q t
            by_cases c16 : t < 16
            · have d16 : decide ((t : Int) < 16) = true := decide_eq_true (by omega)
              go_wp2
              refine reg12 hW HF0 HLEN HCN HAN HPL HPO HQ c16 c64 ?_
              intros
              go_wp2
              obtain ⟨k1, rfl⟩ : ∃ k1, gk = k1 + 1 := ⟨gk - 1, by have := hk8.out; omega⟩
              have hn := (hW.out.drewN 1).set (by rw [wsA_len]; omega) (wordA q (4 * (t : Int)))
              rw [wsA_len, show wsA q t ++ [wordA q (4 * (t : Int))] = wsA q (t + 1) by rw [wsA, if_pos c16]] at hn
              go_roundg k1
              case measure => omega
              case rel => exact ⟨t + 1, (by first | exact congrArg (Value.int .i64) (wrap_succ t (Nat.lt_of_lt_of_le c64 (by decide))) | exact congrArg (Value.int .i64) (Int.natCast_succ t).symm), Lib.hid (by have := hk8.out; omega), Lib.hid (by omega), Lib.hid hn⟩
            · have d16 : decide ((t : Int) < 16) = false := decide_eq_false (by omega)
              have b1 : (0 : Int) ≤ t := by omega
              have b2 : (t : Int) < 64 := by omega
              obtain ⟨jj15, hj15⟩ : ∃ j : Int, j = (t : Int) - 15 := ⟨_, rfl⟩
              have e15 : wrap64 ((t : Int) - 15) = jj15 := by unfold wrap64; omega
              have gg15 : IntKind.i64.wrap ((t : Int) - 15) = jj15 := by rw [IntKind.wrap_i64]; omega
              have dd15 := hW.out.cell jj15 (by omega) (by omega)
              have p15 : (0 ≤ jj15) = True := eq_true (by omega)
              have q15 : (jj15 < 64) = True := eq_true (by omega)
              have J15 := Lib.hid hj15
              clear hj15
              obtain ⟨jj2, hj2⟩ : ∃ j : Int, j = (t : Int) - 2 := ⟨_, rfl⟩
              have e2 : wrap64 ((t : Int) - 2) = jj2 := by unfold wrap64; omega
              have gg2 : IntKind.i64.wrap ((t : Int) - 2) = jj2 := by rw [IntKind.wrap_i64]; omega
              have dd2 := hW.out.cell jj2 (by omega) (by omega)
              have p2 : (0 ≤ jj2) = True := eq_true (by omega)
              have q2 : (jj2 < 64) = True := eq_true (by omega)
              have J2 := Lib.hid hj2
              clear hj2
              go_wp2
              go_quiet (fail)
              go_wp2
              have HW1 := Lib.hid (hW.out.drewN nq)
              refine reg14 HW1 J15 J2 c16 c64 ?_
              intros
              clear e15 gg15 dd15 p15 q15 e2 gg2 dd2 p2 q2
              go_wp2
              obtain ⟨k1, rfl⟩ : ∃ k1, gk = k1 + 1 := ⟨gk - 1, by have := hk8.out; omega⟩
              have hn := (HW1.out.drewN 1).set (by rw [wsA_len]; omega) (nextW (wsA q t) (t : Int))
              rw [wsA_len, show wsA q t ++ [nextW (wsA q t) (t : Int)] = wsA q (t + 1) by rw [wsA, if_neg c16]] at hn
              go_roundg k1
              case measure => omega
              case rel => exact ⟨t + 1, (by first | exact congrArg (Value.int .i64) (wrap_succ t (Nat.lt_of_lt_of_le c64 (by decide))) | exact congrArg (Value.int .i64) (Int.natCast_succ t).symm), Lib.hid (by have := hk8.out; omega), Lib.hid (by omega), Lib.hid hn⟩
          · have d64 : decide ((t : Int) < 64) = false := decide_eq_false (by omega)
            have h64 : t = 64 := by have := ht.out; omega
            subst h64
            have hW := hW.out
            obtain ⟨ws, hws⟩ : ∃ ws, wsA q 64 = ws := ⟨_, rfl⟩
            have hwl : ws.length = 64 := by rw [← hws]; exact wsA_len q 64
            have hrow := hW.row
            rw [hws, pad64_all ws hwl] at hrow
            have HWS := Lib.hid hws
            have HWL := Lib.hid hwl
            have hz4 : (nums .u32 s).toArray.size = 8 := by simp [nums, HSL.out]
            have HZ4 := Lib.hid hz4
            clear hk8 ht c64 hws hz4 hwl
            go_wp2_with (first | ((with_reducible refine gate_dst (N := 116) rfl ?_); go_must (refine load_ev rfl rfl 65 (.tmp 4) rfl g4 _ _ rfl hW.o.b4 Try.underlying65 rfl (info65_of HZ4.out) ?_)) | ((with_reducible refine gate_dst (N := 11) rfl ?_); go_must (refine box_event rfl (N := 11) rfl (run_alloc _ 65 _ 8 i65 _ _ rfl _) ?_; intro g11 hg11 w9 b11 hb; have I9 := hW.o.step hb; have r9 := (hb.block _ (blk_lt hrow)).trans hrow; have n9 : g7 ≠ g11 := Nat.ne_of_lt (hg11 ▸ blk_lt hrow); have l9 : w7.heap.size ≤ g11 := hg11 ▸ hW.o.size; have l7 := hW.l7; clear hb hg11 hrow hW)) | ((with_reducible refine gate_store (t := 65) rfl ?_); go_must (refine store_ev rfl rfl 65 (.tmp 11) (.tmp 116) rfl g11 _ _ rfl rfl b11 (by rw [HZ4.out]; rfl) (info65_of HZ4.out) (nums_one _ _) ?_; intro w10 hst; have V0 : VI w w7 w5.heap.size g3 g4 g7 g11 s ws (roundsA s K0 ws 0) w10 := ⟨I9.stored hst l9, (hst.far _ n9).trans r9, hst.at_, l7, l9, n9⟩; clear hst I9 r9 b11 n9 l9 l7)))
            have HV0 := Lib.hid V0
            clear V0
            go_loopg [12] 65 (fun kq v12 w' => ∃ t : Nat, v12 = .int .i64 (t : Int) ∧ Hid (kq + t = 65) ∧ Hid (t ≤ 64) ∧ Hid (VI w w7 w5.heap.size g3 g4 g7 g11 s ws (roundsA s K0 ws t) w'))
            case atStart => exact ⟨0, rfl, Lib.hid rfl, Lib.hid (by omega), HV0⟩
            case round =>
              clear HV0 d64
              obtain ⟨t, rfl, hk8, ht, hV⟩ := hrel
              by_cases c64 : t < 64
              · have d64 : decide ((t : Int) < 64) = true := decide_eq_true (by omega)
                have b1 : (0 : Int) ≤ t := by omega
                have b2 : (t : Int) < 64 := by omega
                have hvl : (roundsA s K0 ws t).length = 8 := roundsA_len HSL.out t
                obtain ⟨v, hv⟩ : ∃ v, roundsA s K0 ws t = v := ⟨_, rfl⟩
                rw [hv] at hV hvl
                have HV := Lib.hid hv
                have hwl := HWL.out
                clear hv
                have hmix : Try.prog.follows .mixedOrders = true := by kernel_rfl
                have hnot : (if IntKind.u32.signed = true then (-1 : Int) else IntKind.u32.max) = 4294967295 := by decide +kernel
                have d0 := cell_nums hV.out.b11 0 (by rw [hvl]; decide)
                have d1 := cell_nums hV.out.b11 1 (by rw [hvl]; decide)
                have d2 := cell_nums hV.out.b11 2 (by rw [hvl]; decide)
                have d3 := cell_nums hV.out.b11 3 (by rw [hvl]; decide)
                have d4 := cell_nums hV.out.b11 4 (by rw [hvl]; decide)
                have d5 := cell_nums hV.out.b11 5 (by rw [hvl]; decide)
                have d6 := cell_nums hV.out.b11 6 (by rw [hvl]; decide)
                have d7 := cell_nums hV.out.b11 7 (by rw [hvl]; decide)
                have dk := cell_nums hV.out.o.b3 t (by rw [K0_len]; exact c64)
                have dw := cell_nums hV.out.row t (by rw [hwl]; exact c64)
                have HVL := Lib.hid hvl
                clear hvl hwl
                go_wp2
                go_quiet (fail)
                go_wp2
                have HV1 := Lib.hid (hV.out.drewN nq)
                clear d0 d1 d2 d3 d4 d5 d6 d7 dk dw
                refine reg20 HV1 HVL HWL c64 ?_
                intros
                obtain ⟨T1, hT1⟩ : ∃ T, t1f v (rd K0 (t : Int)) (rd ws (t : Int)) = T := ⟨_, rfl⟩
                rw [hT1]
                have HT1 := Lib.hid hT1
                clear hT1
                go_wp2
                have HV2 := Lib.hid (HV1.out.drewN 1)
                refine reg21 HV2 HVL ?_
                intros
                obtain ⟨T2, hT2⟩ : ∃ T, t2f v % 4294967296 = T := ⟨_, rfl⟩
                rw [hT2]
                have hcells : (nums .u32 (roundA v (rd K0 (t : Int)) (rd ws (t : Int)))).toArray = #[.int .u32 ((T1 + T2) % 4294967296), .int .u32 (rd v 0), .int .u32 (rd v 1), .int .u32 (rd v 2), .int .u32 ((rd v 3 + T1) % 4294967296), .int .u32 (rd v 4), .int .u32 (rd v 5), .int .u32 (rd v 6)] := by
                  have : (T1 + T2) % 4294967296 = (T1 + t2f v) % 4294967296 := by rw [← hT2]; omega
                  rw [this]
                  simp only [nums, roundA, List.map_cons, List.map_nil, HT1.out]
                have hsz : Hid ((nums .u32 v).toArray.size = (nums .u32 (roundA v (rd K0 (t : Int)) (rd ws (t : Int)))).toArray.size) := Lib.hid (by rw [size_round]; simp [nums, HVL.out])
                have HC := Lib.hid hcells
                clear hcells hT2
                go_upto_region 22 with fail
                have hV3 := HV2.out.drewN 1
                generalize ((wr.drewN nq).drewN 1).drewN 1 = W3 at hV3 ⊢
                clear HV2 HV1 hV
                have hvl := HVL.out
                have d0 := cell_nums hV3.b11 0 (by rw [hvl]; decide)
                have d1 := cell_nums hV3.b11 1 (by rw [hvl]; decide)
                have d2 := cell_nums hV3.b11 2 (by rw [hvl]; decide)
                have d3 := cell_nums hV3.b11 3 (by rw [hvl]; decide)
                have d4 := cell_nums hV3.b11 4 (by rw [hvl]; decide)
                have d5 := cell_nums hV3.b11 5 (by rw [hvl]; decide)
                have d6 := cell_nums hV3.b11 6 (by rw [hvl]; decide)
                have d7 := cell_nums hV3.b11 7 (by rw [hvl]; decide)
                have HV3 := Lib.hid hV3
                clear hvl hV3
                go_wp2_with ((with_reducible refine gate_store (t := 65) rfl ?_); go_must (refine store_ev rfl rfl 65 (.tmp 11) (.tmp 198) rfl g11 _ (nums .u32 (roundA v (rd K0 t) (rd ws t))).toArray rfl (by rw [HC.out]; rfl) HV3.out.b11 hsz.out (info65_of (size_round _ _ _)) (nums_one _ _) ?_; intro w6 hst; have HN := Lib.hid (HV3.out.store hst); clear hst d0 d1 d2 d3 d4 d5 d6 d7 HC))
                obtain ⟨k1, rfl⟩ : ∃ k1, gk = k1 + 1 := ⟨gk - 1, by have := hk8.out; omega⟩
                have hn : VI w w7 w5.heap.size g3 g4 g7 g11 s ws (roundsA s K0 ws (t + 1)) w6 := by
                  rw [show roundsA s K0 ws (t + 1) = roundA (roundsA s K0 ws t) (rd K0 (t : Int)) (rd ws (t : Int)) by rw [roundsA], HV.out]
                  exact HN.out
                go_roundg k1
                case measure => omega
                case rel => exact ⟨t + 1, (by first | exact congrArg (Value.int .i64) (wrap_succ t (Nat.lt_of_lt_of_le c64 (by decide))) | exact congrArg (Value.int .i64) (Int.natCast_succ t).symm), Lib.hid (by have := hk8.out; omega), Lib.hid (by omega), Lib.hid hn⟩
              · have d64 : decide ((t : Int) < 64) = false := decide_eq_false (by omega)
                have h64 : t = 64 := by have := ht.out; omega
                subst h64
                have hvl : (roundsA s K0 ws 64).length = 8 := roundsA_len HSL.out 64
                obtain ⟨v, hv⟩ : ∃ v, roundsA s K0 ws 64 = v := ⟨_, rfl⟩
                rw [hv] at hV hvl
                have HV := Lib.hid hv
                have HVL := Lib.hid hvl
                have hA0 : VI w w7 w5.heap.size g3 g4 g7 g11 (addA s v 0) ws v wr := by rw [addA]; exact hV.out
                have HA0 := Lib.hid hA0
                clear hk8 ht c64 hv hvl hV hA0
                go_wp2
                go_loopg [17] 9 (fun kq v17 w' => ∃ t : Nat, v17 = .int .i64 (t : Int) ∧ Hid (kq + t = 9) ∧ Hid (t ≤ 8) ∧ Hid (VI w w7 w5.heap.size g3 g4 g7 g11 (addA s v t) ws v w'))
                case atStart => exact ⟨0, rfl, Lib.hid rfl, Lib.hid (by omega), HA0⟩
                case round =>
                  clear HA0 d64
                  obtain ⟨t, rfl, hk9, ht, hA⟩ := hrel
                  by_cases c8 : t < 8
                  · have d8 : decide ((t : Int) < 8) = true := decide_eq_true (by omega)
                    have b1 : (0 : Int) ≤ t := by omega
                    have b2 : (t : Int) < 8 := by omega
                    have hal : (addA s v t).length = 8 := by rw [addA_len]; exact HSL.out
                    have x4 := cell_nums hA.out.o.b4 t (by rw [hal]; exact c8)
                    have f4 := blk_frozen hA.out.o.b4 t
                    have x11 := cell_nums hA.out.b11 t (by rw [HVL.out]; exact c8)
                    clear hal
                    go_wp2
                    go_region
                    all_goals go_wp2
                    obtain ⟨k1, rfl⟩ : ∃ k1, gk = k1 + 1 := ⟨gk - 1, by have := hk9.out; omega⟩
                    have hn := (hA.out.put t ((rd (addA s v t) (t : Int) + rd v (t : Int)) % 4294967296)).drewN 1
                    rw [show (addA s v t).set t ((rd (addA s v t) (t : Int) + rd v (t : Int)) % 4294967296) = addA s v (t + 1) by rw [addA]] at hn
                    go_roundg k1
                    case measure => omega
                    case rel => exact ⟨t + 1, (by first | exact congrArg (Value.int .i64) (wrap_succ t (Nat.lt_of_lt_of_le c8 (by decide))) | exact congrArg (Value.int .i64) (Int.natCast_succ t).symm), Lib.hid (by have := hk9.out; omega), Lib.hid (by omega), Lib.hid hn⟩
                  · have d8 : decide ((t : Int) < 8) = false := decide_eq_false (by omega)
                    have h8 : t = 8 := by have := ht.out; omega
                    subst h8
                    have hst : addA s v 8 = statesA p (n + 1) := by
                      rw [addA_turn v s HVL.out HSL.out, statesA, blockA, HS.out, HQ.out, HWS.out, HV.out]
                    have hR := hA.out.o
                    rw [hst] at hR
                    have HR := Lib.hid hR
                    have e64 : wrap64 (aN + 64) = ((64 * (n + 1) : Nat) : Int) := by have := HAN.out; have := HLEN.out; have := HPL.out.1; have := HCN.out; unfold wrap64; omega
                    have e64w : IntKind.i64.wrap (aN + 64) = ((64 * (n + 1) : Nat) : Int) := by have := HAN.out; have := HLEN.out; have := HPL.out.1; have := HCN.out; rw [IntKind.wrap_i64]; omega
                    obtain ⟨aM, haM⟩ : ∃ a : Int, ((64 * (n + 1) : Nat) : Int) = a := ⟨_, rfl⟩
                    rw [haM] at e64 e64w
                    clear hk9 ht c8 hst hR hA
                    go_wp2
                    go_roundg (m - n)
                    case measure => have := hk.out; have := HCN.out; omega
                    case rel => exact ⟨n + 1, congrArg (Value.int .i64) haM.symm, Lib.hid (by have := hk.out; have := HCN.out; omega), Lib.hid HCN.out, HR⟩
      · have c1 : decide (((64 * n : Nat) : Int) < (p.length : Int)) = false := decide_eq_false (by omega)
        have hnm : n = m := by have := hn.out; omega
        subst hnm
        obtain ⟨s, hs⟩ : ∃ s, statesA p n = s := ⟨_, rfl⟩
        have hsl : s.length = 8 := by rw [← hs]; exact statesA_len p n
        rw [hs] at hI
        have HST := Lib.hid hs
        obtain ⟨aN, haN⟩ : ∃ a : Int, ((64 * n : Nat) : Int) = a := ⟨_, rfl⟩
        rw [haN] at c1 ⊢
        have HSL := Lib.hid hsl
        clear hs hk hn cn hM hPL haN hsl
        go_wp2
        generalize wr = wo at hI ⊢
        go_loopg [18, 19] 9 (fun kq v18 v19 w' => ∃ t : Nat, v19 = .int .i64 (t : Int) ∧ Hid (kq + t = 9) ∧ Hid (t ≤ 8) ∧ Hid (Below wo.heap.size wo w' ∧ Kd.R (Kd.int .u8) 5 w' wo.heap.size (fun _ => True) v18 (octs (s.take t))))
        case atStart => exact ⟨0, rfl, Lib.hid rfl, Lib.hid (by omega), Lib.hid ⟨Below.refl _ _, by simpa [octs] using Kd.R_nil (Kd.int .u8) 5 wo wo.heap.size (fun _ => True)⟩⟩
        case round =>
          clear c1
          obtain ⟨t, rfl, hk9, ht, hA⟩ := hrel
          obtain ⟨Ao, co, rfl⟩ := Kd.R_slice hA.out.2
          by_cases c8 : t < 8
          · have d8 : decide ((t : Int) < 8) = true := decide_eq_true (by omega)
            have b1 : (0 : Int) ≤ t := by omega
            have b2 : (t : Int) < 8 := by omega
            have x4 := cell_nums (hI.out.step hA.out.1).b4 t (by rw [HSL.out]; exact c8)
            have hxt : rd s (t : Int) = s[t]'(by rw [HSL.out]; exact c8) := rd_at s t _
            obtain ⟨x, hx⟩ : ∃ x, rd s (t : Int) = x := ⟨_, rfl⟩
            rw [hx] at x4
            have hsn : octs (s.take t) ++ [x / 16777216 % 256, x / 65536 % 256, x / 256 % 256, x % 256] = octs (s.take (t + 1)) := by
              rw [List.take_succ_eq_append_getElem (by rw [HSL.out]; exact c8), ← hxt, hx, octs, octs, List.flatMap_append, List.flatMap_singleton]
              rfl
            have hol : (octs (s.take t)).length ≤ 32 := by rw [octs_len, List.length_take, HSL.out]; omega
            have HSN := Lib.hid hsn
            have HOL := Lib.hid hol
            have hmix : Try.prog.follows .mixedOrders = true := by kernel_rfl
            have hcell : ∀ W, Below wo.heap.size wo W → W.cell? ⟨g4, t, none⟩ = some (.int .u32 x) := fun W hB => by
              have := cell_nums (hI.out.step hB).b4 t (by rw [HSL.out]; exact c8)
              rwa [hx] at this
            have HCELL := Lib.hid hcell
            clear hcell
            clear hxt hx hsn hol
            go_wp2
            go_region_held3 (fun w' => w'.cell? ⟨g4, t, none⟩ = some (.int .u32 x)) (first | exact HCELL.out _ hA.out.1 | exact HCELL.out _ (below_drew hA.out.1) | exact HCELL.out _ (below_alloc (below_drew hA.out.1) _) | exact HCELL.out _ HB3.out) (first | (refine Kd.R_append_rows_step (Kd.int .u8) (w0 := wo) wo.heap.size (by rfl) (.tmp 216) (.tmp 236) 23 5 (.int .u8 0) 1 rfl Try.underlying23 info5 rfl (by decide) (by decide) (Value.slice Ao (octs (s.take t)).length co) (octs (s.take t)) [x / 16777216 % 256, x / 65536 % 256, x / 256 % 256, x % 256] (some ⟨wr.heap.size, 0, none⟩) 4 4 (fun _ => True) (fun _ => False) rfl rfl (Kd.R_alloc (Kd.R_drew hA.out.2) _) (row4 _ _ _ _ _) (fun x cs hp => hp) (fun _ hk => hk.elim) (fun _ _ => trivial) (below_alloc (below_drew hA.out.1) _) (Below.size (B := wo.heap.size) (below_alloc (below_drew hA.out.1) _)) (by have := HOL.out; first | omega | (simp; omega)) ?_; intro v1 w3 hR3 B3 _ _; rw [HSN.out] at hR3; have HR3 := Lib.hid hR3; have HB3 := Lib.hid B3; clear hR3 B3))
            all_goals go_wp2
            all_goals (obtain ⟨k1, rfl⟩ : ∃ k1, gk = k1 + 1 := ⟨gk - 1, by have := hk9.out; omega⟩; go_roundg k1; (case measure => omega); (case rel => exact ⟨t + 1, (by first | exact congrArg (Value.int .i64) (wrap_succ t (Nat.lt_of_lt_of_le c8 (by decide))) | exact congrArg (Value.int .i64) (Int.natCast_succ t).symm), Lib.hid (by have := hk9.out; omega), Lib.hid (by omega), Lib.hid ⟨HB3.out, HR3.out⟩⟩))
          · have d8 : decide ((t : Int) < 8) = false := decide_eq_false (by omega)
            have h8 : s.take t = s := List.take_of_length_le (by rw [HSL.out]; have := ht.out; omega)
            have hR := hA.out.2
            have hB := below_step hI.out.below hA.out.1
            have hz := hI.out.below.size
            rw [h8] at hR ⊢
            rw [← HST.out] at hR ⊢
            have HR := Lib.hid hR
            have HB := Lib.hid hB
            have HZ := Lib.hid hz
            clear h8 hR hB hz hA hI hk9 ht
            go_wp2
            go_ret
            exact ⟨_, rfl, Kd.R_lower HR.out HZ.out, HB.out⟩
  · rw [if_neg hs] at h; cases h
end Go.Proofs.Ytclmikbbjhdplaa.X
-- Written by a program of this session (a turn of the kit's print with contracts by hand). Not trusted: Lean checks it.
namespace Go.Proofs.Ytclmikbbjhdplaa.X
open Go.RowKit Go.Proofs.YtclmikbbjhdplaaW.PrintWords Go.Proofs.YtclmikbbjhdplaaW.PrintLast Go.Proofs.YtclmikbbjhdplaaW.PrintMore
attribute [local go_sem] max2_int min2_int max_two min_two max_three min_three max_four min_four   -- for this text's walks alone
set_option linter.unusedVariables false
set_option linter.unusedSimpArgs false

/-! ### mootref03_Parts: function 41 -/
def mootref03_Parts.l0 : Nat → Int → List Int → Int → Int → Option (List Int)
  | 0, _, _, _, _ => none
  | k + 1, x4, x5, x6, x7 => if x7 ≥ 0 then (if 0 ≤ (IntKind.u64.wrap (wrap64 (2 * x7))) then (if x5.length < 17592186044416 then (mootref03_Parts.l0 k x4 (x5 ++ [Int.tmod (shr .i64 x4 (IntKind.u64.wrap (wrap64 (2 * x7)))) 4]) (wrap64 ((wrap64 (x6 + 3)) - (Int.tmod (shr .i64 x4 (IntKind.u64.wrap (wrap64 (2 * x7)))) 4))) (wrap64 (x7 - 1))) else (none)) else (none)) else ((some (([Int.tmod (wrap64 (Int.tdiv x6 16)) 4, Int.tmod (wrap64 (Int.tdiv x6 4)) 4, Int.tmod x6 4] : List Int) : List Int)).bind fun y428 => (if x5.length + y428.length < 17592186044416 then (some (x5 ++ y428)) else (none)))
def mootref03_Parts.f (k : Nat) (l0 : List Int) : Option (List Int) := (mootref01_Sha.f l0).bind fun t420 => (if 0 < (t420.length : Int) then (if 1 < (t420.length : Int) then (mootref03_Parts.l0 k (wrap64 ((wrap64 ((wrap64 (rd t420 0)) * 256)) + (wrap64 (rd t420 1)))) ([] : List Int) 0 7) else (none)) else (none))
theorem mootref03_Parts.mono_l : ∀ k, (∀ y0 y1 y2 y3, LeO (mootref03_Parts.l0 k y0 y1 y2 y3) (mootref03_Parts.l0 (k + 1) y0 y1 y2 y3))
  | 0 => fun _ _ _ _ r h => by simp [mootref03_Parts.l0] at h
  | k + 1 => by
    have ih0 := mootref03_Parts.mono_l k
    · intro y0 y1 y2 y3
      unfold mootref03_Parts.l0
      repeat' first
      | (with_reducible exact ih0 _ _ _ _)
      | (with_reducible exact LeO.refl _)
      | (with_reducible exact LeO.none _)
      | (with_reducible refine LeO.ite ?_ ?_)
      | (with_reducible refine LeO.bind ?_ (fun _ => ?_))
      | exact ih0 _ _ _ _
      | exact LeO.none _
      | refine LeO.ite ?_ ?_
      | refine LeO.bind ?_ (fun _ => ?_)
theorem mootref03_Parts.mono : ∀ a0 k, LeO (mootref03_Parts.f k a0) (mootref03_Parts.f (k + 1) a0) := by
  intro a0 k
  have ih0 := mootref03_Parts.mono_l k
  unfold mootref03_Parts.f
  repeat' first
      | (with_reducible exact ih0 _ _ _ _)
      | (with_reducible exact LeO.refl _)
      | (with_reducible exact LeO.none _)
      | (with_reducible refine LeO.ite ?_ ?_)
      | (with_reducible refine LeO.bind ?_ (fun _ => ?_))
      | exact ih0 _ _ _ _
      | exact LeO.none _
      | refine LeO.ite ?_ ?_
      | refine LeO.bind ?_ (fun _ => ?_)
set_option maxHeartbeats 8000000 in
set_option maxRecDepth 100000 in
theorem mootref03_Parts.calls (k : Nat) (A0 : Option Addr) (c0 : Nat) (l0 : List Int) (r : List Int) (w : World) (hr0 : Kd.C (Kd.int .u8) w A0 l0.length l0) (hc0 : l0.length ≤ c0) (h : mootref03_Parts.f k l0 = some r) :
    Calls Try.prog 41 #[.slice A0 l0.length c0] w fun e w' => ∃ v0_ : Value, e = .returned (v0_) ∧ Kd.R (Kd.int .i64) 3 w' w.heap.size (fun _ => True) v0_ r ∧ Below w.heap.size w w' := by
  have HR0 := Aside0.mk hr0
  have HC0 := Aside0.mk hc0
  clear hr0 hc0
  have HB := Aside0.mk (Below.refl w.heap.size w)
  have H : ((mootref01_Sha.f l0).bind fun t420 => (if 0 < (t420.length : Int) then (if 1 < (t420.length : Int) then (mootref03_Parts.l0 k (wrap64 ((wrap64 ((wrap64 (rd t420 0)) * 256)) + (wrap64 (rd t420 1)))) ([] : List Int) 0 7) else (none)) else (none))) = some r := h
  clear h
  replace H := Option.bind_eq_some_iff.mp H
  obtain ⟨t420, A20, H⟩ := H
  replace H : (if 0 < (t420.length : Int) then (if 1 < (t420.length : Int) then (mootref03_Parts.l0 k (wrap64 ((wrap64 ((wrap64 (rd t420 0)) * 256)) + (wrap64 (rd t420 1)))) ([] : List Int) 0 7) else (none)) else (none)) = some r := H
  have A2 := Aside0.mk A20
  clear A20
  by_cases c3 : 0 < (t420.length : Int)
  · rw [if_pos c3] at H
    have c3b0 : decide (0 < (t420.length : Int)) = true := decide_eq_true c3
    have c3b1 : decide (0 < t420.length) = true := decide_eq_true (by omega)
    clear c3
    by_cases c4 : 1 < (t420.length : Int)
    · rw [if_pos c4] at H
      have c4b0 : decide (1 < (t420.length : Int)) = true := decide_eq_true c4
      have c4b1 : decide (1 < t420.length) = true := decide_eq_true (by omega)
      clear c4
      have H' := Aside0.mk H
      clear H
      go_enter Try.func41, Try.ntmps41
      go_wp2_with (first | (go_at_call 33; (with_reducible refine (mootref01_Sha.calls _ _ l0 t420 _ ?side1 ?side2 A2.out).mono ?_); (case side1 => repeat (first | exact HR0.out | (with_reducible refine Kd.C_alloc ?_ _) | (with_reducible refine Kd.C_drewN ?_ _) | (with_reducible refine Kd.C_drew ?_))); (case side2 => exact HC0.out); rintro e w5 ⟨v421, rfl, ho0, hb⟩; have n0_ := Aside0.mk (Kd.R_lower ho0 (below_size (by repeat (first | (with_reducible first | exact HB.out | apply below_alloc | apply pw_below_drewN | apply below_drew1) | exact HB.out)))); have n1_ := Aside0.mk (below_step (by repeat (first | (with_reducible first | exact HB.out | apply below_alloc | apply pw_below_drewN | apply below_drew1) | exact HB.out)) hb); clear HB; have HO422 := n0_; have HB := n1_; clear n0_ n1_; (try clear hb); (try clear hb2); (try clear hk); (try clear hi); (try clear ho0); obtain ⟨Ao6, co6, eo6⟩ := Kd.R_slice HO422.out; subst eo6; have p423 : 0 ≤ (0 : Int) := (by omega); have q423 : 0 < (t420.length : Int) := of_decide_eq_true (by first | (with_reducible assumption) | assumption); obtain ⟨ad423, e423, hx423_0⟩ := Kd.at_int (Kd.R_reads' HO422.out).2.2 0 p423 q423; cases e423; have qi423 : (0 < t420.length) = True := eq_true (by omega); (try rw [show ((0 : Int)).toNat = 0 from rfl] at hx423_0); (try rw [Addr.add_zero'] at hx423_0); replace p423 := eq_true p423; replace q423 := eq_true q423; have p424 : 0 ≤ (1 : Int) := (by omega); have q424 : 1 < (t420.length : Int) := of_decide_eq_true (by first | (with_reducible assumption) | assumption); obtain ⟨ad424, e424, hx424_0⟩ := Kd.at_int (Kd.R_reads' HO422.out).2.2 1 p424 q424; obtain rfl : ad423 = ad424 := (by injection e424); (try simp only [show (1 : Int).toNat = 1 from rfl, Nat.reduceMul, Nat.reduceEqDiff, Go.Addr.add, ↓reduceIte] at hx424_0); have qi424 : (1 < t420.length) = True := eq_true (by omega); (try rw [show ((1 : Int)).toNat = 1 from rfl] at hx424_0); replace p424 := eq_true p424; replace q424 := eq_true q424))
      repeat (go_quiet (first | (go_at_call 33; (with_reducible refine (mootref01_Sha.calls _ _ l0 t420 _ ?side1 ?side2 A2.out).mono ?_); (case side1 => repeat (first | exact HR0.out | (with_reducible refine Kd.C_alloc ?_ _) | (with_reducible refine Kd.C_drewN ?_ _) | (with_reducible refine Kd.C_drew ?_))); (case side2 => exact HC0.out); rintro e w5 ⟨v421, rfl, ho0, hb⟩; have n0_ := Aside0.mk (Kd.R_lower ho0 (below_size (by repeat (first | (with_reducible first | exact HB.out | apply below_alloc | apply pw_below_drewN | apply below_drew1) | exact HB.out)))); have n1_ := Aside0.mk (below_step (by repeat (first | (with_reducible first | exact HB.out | apply below_alloc | apply pw_below_drewN | apply below_drew1) | exact HB.out)) hb); clear HB; have HO422 := n0_; have HB := n1_; clear n0_ n1_; (try clear hb); (try clear hb2); (try clear hk); (try clear hi); (try clear ho0); obtain ⟨Ao6, co6, eo6⟩ := Kd.R_slice HO422.out; subst eo6; have p423 : 0 ≤ (0 : Int) := (by omega); have q423 : 0 < (t420.length : Int) := of_decide_eq_true (by first | (with_reducible assumption) | assumption); obtain ⟨ad423, e423, hx423_0⟩ := Kd.at_int (Kd.R_reads' HO422.out).2.2 0 p423 q423; cases e423; have qi423 : (0 < t420.length) = True := eq_true (by omega); (try rw [show ((0 : Int)).toNat = 0 from rfl] at hx423_0); (try rw [Addr.add_zero'] at hx423_0); replace p423 := eq_true p423; replace q423 := eq_true q423; have p424 : 0 ≤ (1 : Int) := (by omega); have q424 : 1 < (t420.length : Int) := of_decide_eq_true (by first | (with_reducible assumption) | assumption); obtain ⟨ad424, e424, hx424_0⟩ := Kd.at_int (Kd.R_reads' HO422.out).2.2 1 p424 q424; obtain rfl : ad423 = ad424 := (by injection e424); (try simp only [show (1 : Int).toNat = 1 from rfl, Nat.reduceMul, Nat.reduceEqDiff, Go.Addr.add, ↓reduceIte] at hx424_0); have qi424 : (1 < t420.length) = True := eq_true (by omega); (try rw [show ((1 : Int)).toNat = 1 from rfl] at hx424_0); replace p424 := eq_true p424; replace q424 := eq_true q424)); try go_wp2_with (first | (go_at_call 33; (with_reducible refine (mootref01_Sha.calls _ _ l0 t420 _ ?side1 ?side2 A2.out).mono ?_); (case side1 => repeat (first | exact HR0.out | (with_reducible refine Kd.C_alloc ?_ _) | (with_reducible refine Kd.C_drewN ?_ _) | (with_reducible refine Kd.C_drew ?_))); (case side2 => exact HC0.out); rintro e w5 ⟨v421, rfl, ho0, hb⟩; have n0_ := Aside0.mk (Kd.R_lower ho0 (below_size (by repeat (first | (with_reducible first | exact HB.out | apply below_alloc | apply pw_below_drewN | apply below_drew1) | exact HB.out)))); have n1_ := Aside0.mk (below_step (by repeat (first | (with_reducible first | exact HB.out | apply below_alloc | apply pw_below_drewN | apply below_drew1) | exact HB.out)) hb); clear HB; have HO422 := n0_; have HB := n1_; clear n0_ n1_; (try clear hb); (try clear hb2); (try clear hk); (try clear hi); (try clear ho0); obtain ⟨Ao6, co6, eo6⟩ := Kd.R_slice HO422.out; subst eo6; have p423 : 0 ≤ (0 : Int) := (by omega); have q423 : 0 < (t420.length : Int) := of_decide_eq_true (by first | (with_reducible assumption) | assumption); obtain ⟨ad423, e423, hx423_0⟩ := Kd.at_int (Kd.R_reads' HO422.out).2.2 0 p423 q423; cases e423; have qi423 : (0 < t420.length) = True := eq_true (by omega); (try rw [show ((0 : Int)).toNat = 0 from rfl] at hx423_0); (try rw [Addr.add_zero'] at hx423_0); replace p423 := eq_true p423; replace q423 := eq_true q423; have p424 : 0 ≤ (1 : Int) := (by omega); have q424 : 1 < (t420.length : Int) := of_decide_eq_true (by first | (with_reducible assumption) | assumption); obtain ⟨ad424, e424, hx424_0⟩ := Kd.at_int (Kd.R_reads' HO422.out).2.2 1 p424 q424; obtain rfl : ad423 = ad424 := (by injection e424); (try simp only [show (1 : Int).toNat = 1 from rfl, Nat.reduceMul, Nat.reduceEqDiff, Go.Addr.add, ↓reduceIte] at hx424_0); have qi424 : (1 < t420.length) = True := eq_true (by omega); (try rw [show ((1 : Int)).toNat = 1 from rfl] at hx424_0); replace p424 := eq_true p424; replace q424 := eq_true q424)))
      go_loopg [5, 6, 7] k (fun kq v5 v6 v7 w' => ∃ (x5_1 : List Int) (x6_1 : Int) (x7_1 : Int), v6 = .int .i64 x6_1 ∧ v7 = .int .i64 x7_1 ∧ Aside0 (mootref03_Parts.l0 kq (wrap64 ((wrap64 ((wrap64 (rd t420 0)) * 256)) + (wrap64 (rd t420 1)))) x5_1 x6_1 x7_1 = some r) ∧ Aside0 (kq ≤ k) ∧ Aside0 (Kd.R (Kd.int .i64) 3 w' w.heap.size (fun _ => True) v5 x5_1) ∧ Aside0 (Below w.heap.size w w'))
      case atStart => exact ⟨(([] : List Int)), (0), (7), (by first | rfl | (simp; done) | (simp [*]; done)), (by first | rfl | (simp; done) | (simp [*]; done)), H', ⟨Nat.le_refl _⟩, ⟨by first | exact Kd.R_nil _ _ _ _ _ | exact Kd.N_nil _ _ _ _ _ | exact Kd.V_nil _ _ _ _ _ | exact Kd.Q_nil _ _ _ _ _ | exact Kd.S_nil _ _ _ _ _⟩, ⟨by repeat (first | (with_reducible first | exact HB.out | apply below_alloc | apply pw_below_drewN | apply below_drew1) | exact HB.out)⟩⟩
      case round =>
        clear H'
        try clear p2
        try clear c3
        try clear c3b0
        try clear c3b1
        try clear c4
        try clear c4b0
        try clear c4b1
        try clear p4
        try clear q4
        try clear hx4
        try clear qi4
        try clear p6
        try clear hx423_0
        try clear hx424_0
        try clear p423
        try clear p424
        try clear q423
        try clear q424
        obtain ⟨x5_1, x6_1, x7_1, rfl, rfl, HA, HK1, HO_5, HB⟩ := hrel
        cases gk with
        | zero => exact absurd HA.out (by simp [mootref03_Parts.l0])
        | succ k1 =>
          have H := HA.out
          clear HA
          simp only [mootref03_Parts.l0] at H
          by_cases c7 : x7_1 ≥ 0
          · rw [if_pos c7] at H
            have c7b0 : decide (0 ≤ x7_1) = true := decide_eq_true c7
            clear c7
            obtain ⟨ji8, hji8⟩ : ∃ j_ : Int, (IntKind.u64.wrap (wrap64 (2 * x7_1))) = j_ := ⟨_, rfl⟩
            replace H : (if 0 ≤ (ji8) then (if x5_1.length < 17592186044416 then (mootref03_Parts.l0 k1 (wrap64 ((wrap64 ((wrap64 (rd t420 0)) * 256)) + (wrap64 (rd t420 1)))) (x5_1 ++ [Int.tmod (shr .i64 (wrap64 ((wrap64 ((wrap64 (rd t420 0)) * 256)) + (wrap64 (rd t420 1)))) (ji8)) 4]) (wrap64 ((wrap64 (x6_1 + 3)) - (Int.tmod (shr .i64 (wrap64 ((wrap64 ((wrap64 (rd t420 0)) * 256)) + (wrap64 (rd t420 1)))) (ji8)) 4))) (wrap64 (x7_1 - 1))) else (none)) else (none)) = some r := by first | (rw [hji8] at H; exact H) | (simp only [hji8] at H ⊢; exact H)
            by_cases c9 : 0 ≤ (ji8)
            · rw [if_pos c9] at H
              have c9b0 := eq_true c9
              have c9b1 : decide (0 ≤ (ji8)) = true := decide_eq_true c9
              clear c9
              obtain ⟨ji10, hji10⟩ : ∃ j_ : Int, (shr .i64 (wrap64 ((wrap64 ((wrap64 (rd t420 0)) * 256)) + (wrap64 (rd t420 1)))) (ji8)) = j_ := ⟨_, rfl⟩
              replace H : (if x5_1.length < 17592186044416 then (mootref03_Parts.l0 k1 (wrap64 ((wrap64 ((wrap64 (rd t420 0)) * 256)) + (wrap64 (rd t420 1)))) (x5_1 ++ [Int.tmod (ji10) 4]) (wrap64 ((wrap64 (x6_1 + 3)) - (Int.tmod (ji10) 4))) (wrap64 (x7_1 - 1))) else (none)) = some r := by first | (rw [hji10] at H; exact H) | (simp only [hji10] at H ⊢; exact H)
              have hji10_ : ((wrap64 ((wrap64 ((wrap64 (rd t420 0)) * 256)) + (wrap64 (rd t420 1)))) / 2 ^ min (ji8).toNat 64) = ji10 := hji10
              have hji10z : (ji8) ≤ 64 → ((wrap64 ((wrap64 ((wrap64 (rd t420 0)) * 256)) + (wrap64 (rd t420 1)))) / 2 ^ (ji8).toNat) = ji10 := shr_small hji10
              by_cases c11 : x5_1.length < 17592186044416
              · rw [if_pos c11] at H
                have LMc11 := Aside0.mk c11
                clear c11
                obtain ⟨y425, hy425⟩ : ∃ y_ : List Int, y_ = (x5_1 ++ [Int.tmod (ji10) 4]) := ⟨_, rfl⟩
                replace H : (mootref03_Parts.l0 k1 (wrap64 ((wrap64 ((wrap64 (rd t420 0)) * 256)) + (wrap64 (rd t420 1)))) y425 (wrap64 ((wrap64 (x6_1 + 3)) - (Int.tmod (ji10) 4))) (wrap64 (x7_1 - 1))) = some r := by first | (rw [hy425]; with_reducible exact H) | (have H2_ := (Option.bind_some _ _).symm.trans H; rw [hy425]; with_reducible exact H2_) | (have H2_ := (Option.bind_some _ _).symm.trans H; with_reducible exact H2_) | with_reducible exact H | (rw [hy425]; exact H) | exact H
                have Ny425 := Aside0.mk hy425
                clear hy425
                have H' := Aside0.mk H
                clear H
                go_wp2_with (first | ((with_reducible refine gate_builtin (b := .append) (xs := #[.tmp 31, .tmp 33]) rfl ?_); at_builtin; refine Kd.R_append (Kd.int .i64) (w0 := w) w.heap.size rfl (.tmp 31) (.tmp 33) 50 3 (.int .i64 0) 8 rfl Try.underlying50 info3 rfl (by decide) (by omega) u5 x5_1 (Int.tmod (ji10) 4) [.int .i64 (Int.tmod (ji10) 4)] (fun _ => True) (fun _ => False) rfl rfl ?aP (fun _ hk => hk.elim) ?aF ?aO ?aB ?aS ?aL ?_; (case aP => exact rfl); (case aB => exact (by repeat (first | (with_reducible first | exact HB.out | apply below_alloc | apply pw_below_drewN | apply below_drew1) | exact HB.out))); (case aF => exact (fun _ _ => trivial)); (case aO => exact (by (with_reducible repeat (first | apply Kd.R_alloc | apply Kd.R_drewN | apply Kd.R_drew)); exact HO_5.out)); (case aS => exact (below_size (by repeat (first | (with_reducible first | exact HB.out | apply below_alloc | apply pw_below_drewN | apply below_drew1) | exact HB.out)))); (case aL => have := LMc11.out; omega); intro v426 w12 ho hb hg hat; rw [← Ny425.out] at ho; have n0_ := Aside0.mk (hb); have n1_ := Aside0.mk (ho); clear HB; clear HO_5; have HB := n0_; have HO427 := n1_; clear n0_ n1_; clear ho hb hg hat))
                repeat (go_quiet (first | ((with_reducible refine gate_builtin (b := .append) (xs := #[.tmp 31, .tmp 33]) rfl ?_); at_builtin; refine Kd.R_append (Kd.int .i64) (w0 := w) w.heap.size rfl (.tmp 31) (.tmp 33) 50 3 (.int .i64 0) 8 rfl Try.underlying50 info3 rfl (by decide) (by omega) u5 x5_1 (Int.tmod (ji10) 4) [.int .i64 (Int.tmod (ji10) 4)] (fun _ => True) (fun _ => False) rfl rfl ?aP (fun _ hk => hk.elim) ?aF ?aO ?aB ?aS ?aL ?_; (case aP => exact rfl); (case aB => exact (by repeat (first | (with_reducible first | exact HB.out | apply below_alloc | apply pw_below_drewN | apply below_drew1) | exact HB.out))); (case aF => exact (fun _ _ => trivial)); (case aO => exact (by (with_reducible repeat (first | apply Kd.R_alloc | apply Kd.R_drewN | apply Kd.R_drew)); exact HO_5.out)); (case aS => exact (below_size (by repeat (first | (with_reducible first | exact HB.out | apply below_alloc | apply pw_below_drewN | apply below_drew1) | exact HB.out)))); (case aL => have := LMc11.out; omega); intro v426 w12 ho hb hg hat; rw [← Ny425.out] at ho; have n0_ := Aside0.mk (hb); have n1_ := Aside0.mk (ho); clear HB; clear HO_5; have HB := n0_; have HO427 := n1_; clear n0_ n1_; clear ho hb hg hat)); try go_wp2_with (first | ((with_reducible refine gate_builtin (b := .append) (xs := #[.tmp 31, .tmp 33]) rfl ?_); at_builtin; refine Kd.R_append (Kd.int .i64) (w0 := w) w.heap.size rfl (.tmp 31) (.tmp 33) 50 3 (.int .i64 0) 8 rfl Try.underlying50 info3 rfl (by decide) (by omega) u5 x5_1 (Int.tmod (ji10) 4) [.int .i64 (Int.tmod (ji10) 4)] (fun _ => True) (fun _ => False) rfl rfl ?aP (fun _ hk => hk.elim) ?aF ?aO ?aB ?aS ?aL ?_; (case aP => exact rfl); (case aB => exact (by repeat (first | (with_reducible first | exact HB.out | apply below_alloc | apply pw_below_drewN | apply below_drew1) | exact HB.out))); (case aF => exact (fun _ _ => trivial)); (case aO => exact (by (with_reducible repeat (first | apply Kd.R_alloc | apply Kd.R_drewN | apply Kd.R_drew)); exact HO_5.out)); (case aS => exact (below_size (by repeat (first | (with_reducible first | exact HB.out | apply below_alloc | apply pw_below_drewN | apply below_drew1) | exact HB.out)))); (case aL => have := LMc11.out; omega); intro v426 w12 ho hb hg hat; rw [← Ny425.out] at ho; have n0_ := Aside0.mk (hb); have n1_ := Aside0.mk (ho); clear HB; clear HO_5; have HB := n0_; have HO427 := n1_; clear n0_ n1_; clear ho hb hg hat)))
                go_roundg k1
                case measure => have := HK1.out; omega
                case rel => exact ⟨(y425), (wrap64 ((wrap64 (x6_1 + 3)) - (Int.tmod (ji10) 4))), (wrap64 (x7_1 - 1)), (by first | rfl | (simp; done) | (simp only [← hji10] <;> (first | rfl | simp)) | (simp [*]; done)), (by first | rfl | (simp; done) | (simp [*]; done)), H', ⟨by have := HK1.out; omega⟩, ⟨by (with_reducible repeat (first | apply Kd.R_alloc | apply Kd.R_drewN | apply Kd.R_drew)); exact HO427.out⟩, ⟨by repeat (first | (with_reducible first | exact HB.out | apply below_alloc | apply pw_below_drewN | apply below_drew1) | exact HB.out)⟩⟩
              · rw [if_neg c11] at H
                exact absurd H (by simp)
            · rw [if_neg c9] at H
              exact absurd H (by simp)
          · rw [if_neg c7] at H
            have c7b0 : decide (0 ≤ x7_1) = false := decide_eq_false c7
            clear c7
            obtain ⟨y428, hy428⟩ : ∃ y_ : List Int, y_ = (([Int.tmod (wrap64 (Int.tdiv x6_1 16)) 4, Int.tmod (wrap64 (Int.tdiv x6_1 4)) 4, Int.tmod x6_1 4] : List Int)) := ⟨_, rfl⟩
            replace H : (if x5_1.length + y428.length < 17592186044416 then (some (x5_1 ++ y428)) else (none)) = some r := by first | (rw [hy428]; with_reducible exact H) | (have H2_ := (Option.bind_some _ _).symm.trans H; rw [hy428]; with_reducible exact H2_) | (have H2_ := (Option.bind_some _ _).symm.trans H; with_reducible exact H2_) | with_reducible exact H | (rw [hy428]; exact H) | exact H
            have Ny428 := Aside0.mk hy428
            clear hy428
            by_cases c13 : x5_1.length + y428.length < 17592186044416
            · rw [if_pos c13] at H
              have LMc13 := Aside0.mk c13
              clear c13
              obtain ⟨y431, hy431⟩ : ∃ y_ : List Int, y_ = (x5_1 ++ y428) := ⟨_, rfl⟩
              replace H : (some y431) = some r := by first | (rw [hy431]; with_reducible exact H) | (have H2_ := (Option.bind_some _ _).symm.trans H; rw [hy431]; with_reducible exact H2_) | (have H2_ := (Option.bind_some _ _).symm.trans H; with_reducible exact H2_) | with_reducible exact H | (rw [hy431]; exact H) | exact H
              have Ny431 := Aside0.mk hy431
              clear hy431
              obtain rfl := Option.some.inj H
              go_wp2_with (first | ((with_reducible refine gate_dst (N := 48) rfl ?_); refine Kd.R_lit (Kd.int .i64) _ 3 ?hg (N := 48) ?hd (xs := ([Int.tmod (wrap64 (Int.tdiv x6_1 16)) 4, Int.tmod (wrap64 (Int.tdiv x6_1 4)) 4, Int.tmod x6_1 4] : List Int)) (inner := [.int .i64 (Int.tmod (wrap64 (Int.tdiv x6_1 16)) 4), .int .i64 (Int.tmod (wrap64 (Int.tdiv x6_1 4)) 4), .int .i64 (Int.tmod x6_1 4)]) (ok := fun _ => True) (okp := fun _ => True) ?hr ?hp (fun _ hk => hk) trivial (Below.refl _ _) (Nat.le_refl _) (by simp) ?_; (case hd => rfl); (case hg => rfl); (case hr => first | (go_simp; done) | (go_simp; rfl)); (case hp => exact (Reps.one (show Kd.M (Kd.int .i64) _ _ _ (Int.tmod (wrap64 (Int.tdiv x6_1 16)) 4) [.int .i64 (Int.tmod (wrap64 (Int.tdiv x6_1 16)) 4)] from rfl) (Reps.one (show Kd.M (Kd.int .i64) _ _ _ (Int.tmod (wrap64 (Int.tdiv x6_1 4)) 4) [.int .i64 (Int.tmod (wrap64 (Int.tdiv x6_1 4)) 4)] from rfl) (Reps.one (show Kd.M (Kd.int .i64) _ _ _ (Int.tmod x6_1 4) [.int .i64 (Int.tmod x6_1 4)] from rfl) (Reps.none _ _))))); intro v429 w14 ho15 hb hg_ hnew_; clear hg_ hnew_; (first | rw [← Ny428.out] at ho15 | (simp only [Int.reduceToNat] at ho15; rw [← Ny428.out] at ho15)); have n0_ := Aside0.mk (Kd.R_elder' (by (with_reducible repeat (first | apply Kd.R_alloc | apply Kd.R_drewN | apply Kd.R_drew)); exact HO_5.out) (Kd.R_base ho15) hb); have n1_ := Aside0.mk (Kd.R_lower (Kd.R_new' ho15 (Kd.R_lt (by (with_reducible repeat (first | apply Kd.R_alloc | apply Kd.R_drewN | apply Kd.R_drew)); exact HO_5.out))) (below_size (by repeat (first | (with_reducible first | exact HB.out | apply below_alloc | apply pw_below_drewN | apply below_drew1) | exact HB.out)))); have n2_ := Aside0.mk (below_step (by repeat (first | (with_reducible first | exact HB.out | apply below_alloc | apply pw_below_drewN | apply below_drew1) | exact HB.out)) hb); clear HO_5; clear HB; have HO_5 := n0_; have HO430 := n1_; have HB := n2_; clear n0_ n1_ n2_; clear hb ho15; obtain ⟨Ao17, co17, eo17⟩ := Kd.R_slice HO430.out; subst eo17) | ((with_reducible refine gate_builtin (b := .append) (xs := #[.tmp 39, .tmp 48]) rfl ?_); at_builtin; refine Kd.R_append_rows (Kd.int .i64) (w0 := w) w.heap.size rfl (.tmp 39) (.tmp 48) 50 3 (.int .i64 0) 8 rfl Try.underlying50 info3 rfl (by decide) (by omega) u5 x5_1 y428 _ _ _ (fun k_ => some k_ ≠ (.slice Ao17 y428.length co17 : Value).ownBlock) (fun _ => False) rfl rfl ?aO ?aR (fun _ _ h => h) (fun _ h => h.elim) ?aF ?aB ?aS ?aL ?_; (case aR => repeat (first | exact (Kd.R_reads' HO430.out).2.2 | (with_reducible refine Kd.C_alloc ?_ _) | (with_reducible refine Kd.C_drewN ?_ _) | (with_reducible refine Kd.C_drew ?_))); (case aB => exact (by repeat (first | (with_reducible first | exact HB.out | apply below_alloc | apply pw_below_drewN | apply below_drew1) | exact HB.out))); (case aF => exact (fun k_ hk => Kd.fresh' (Kd.R_lt (by (with_reducible repeat (first | apply Kd.R_alloc | apply Kd.R_drewN | apply Kd.R_drew)); exact HO430.out)) k_ hk)); (case aO => exact (by (with_reducible repeat (first | apply Kd.R_alloc | apply Kd.R_drewN | apply Kd.R_drew)); exact Kd.R_mono HO_5.out (fun _ hk => hk.2))); (case aS => exact (below_size (by repeat (first | (with_reducible first | exact HB.out | apply below_alloc | apply pw_below_drewN | apply below_drew1) | exact HB.out)))); (case aL => have := LMc13.out; omega); intro v432 w16 ho hb hg hat; rw [← Ny431.out] at ho; have n0_ := Aside0.mk (Kd.R_after (ok := (fun _ => True)) (by (with_reducible repeat (first | apply Kd.R_alloc | apply Kd.R_drewN | apply Kd.R_drew)); exact HO430.out) hg hat); have n1_ := Aside0.mk (hb); have n2_ := Aside0.mk (ho); clear HO430; clear HB; clear HO_5; have HO430 := n0_; have HB := n1_; have HO433 := n2_; clear n0_ n1_ n2_; clear ho hb hg hat))
              repeat (go_quiet (first | ((with_reducible refine gate_dst (N := 48) rfl ?_); refine Kd.R_lit (Kd.int .i64) _ 3 ?hg (N := 48) ?hd (xs := ([Int.tmod (wrap64 (Int.tdiv x6_1 16)) 4, Int.tmod (wrap64 (Int.tdiv x6_1 4)) 4, Int.tmod x6_1 4] : List Int)) (inner := [.int .i64 (Int.tmod (wrap64 (Int.tdiv x6_1 16)) 4), .int .i64 (Int.tmod (wrap64 (Int.tdiv x6_1 4)) 4), .int .i64 (Int.tmod x6_1 4)]) (ok := fun _ => True) (okp := fun _ => True) ?hr ?hp (fun _ hk => hk) trivial (Below.refl _ _) (Nat.le_refl _) (by simp) ?_; (case hd => rfl); (case hg => rfl); (case hr => first | (go_simp; done) | (go_simp; rfl)); (case hp => exact (Reps.one (show Kd.M (Kd.int .i64) _ _ _ (Int.tmod (wrap64 (Int.tdiv x6_1 16)) 4) [.int .i64 (Int.tmod (wrap64 (Int.tdiv x6_1 16)) 4)] from rfl) (Reps.one (show Kd.M (Kd.int .i64) _ _ _ (Int.tmod (wrap64 (Int.tdiv x6_1 4)) 4) [.int .i64 (Int.tmod (wrap64 (Int.tdiv x6_1 4)) 4)] from rfl) (Reps.one (show Kd.M (Kd.int .i64) _ _ _ (Int.tmod x6_1 4) [.int .i64 (Int.tmod x6_1 4)] from rfl) (Reps.none _ _))))); intro v429 w14 ho15 hb hg_ hnew_; clear hg_ hnew_; (first | rw [← Ny428.out] at ho15 | (simp only [Int.reduceToNat] at ho15; rw [← Ny428.out] at ho15)); have n0_ := Aside0.mk (Kd.R_elder' (by (with_reducible repeat (first | apply Kd.R_alloc | apply Kd.R_drewN | apply Kd.R_drew)); exact HO_5.out) (Kd.R_base ho15) hb); have n1_ := Aside0.mk (Kd.R_lower (Kd.R_new' ho15 (Kd.R_lt (by (with_reducible repeat (first | apply Kd.R_alloc | apply Kd.R_drewN | apply Kd.R_drew)); exact HO_5.out))) (below_size (by repeat (first | (with_reducible first | exact HB.out | apply below_alloc | apply pw_below_drewN | apply below_drew1) | exact HB.out)))); have n2_ := Aside0.mk (below_step (by repeat (first | (with_reducible first | exact HB.out | apply below_alloc | apply pw_below_drewN | apply below_drew1) | exact HB.out)) hb); clear HO_5; clear HB; have HO_5 := n0_; have HO430 := n1_; have HB := n2_; clear n0_ n1_ n2_; clear hb ho15; obtain ⟨Ao17, co17, eo17⟩ := Kd.R_slice HO430.out; subst eo17) | ((with_reducible refine gate_builtin (b := .append) (xs := #[.tmp 39, .tmp 48]) rfl ?_); at_builtin; refine Kd.R_append_rows (Kd.int .i64) (w0 := w) w.heap.size rfl (.tmp 39) (.tmp 48) 50 3 (.int .i64 0) 8 rfl Try.underlying50 info3 rfl (by decide) (by omega) u5 x5_1 y428 _ _ _ (fun k_ => some k_ ≠ (.slice Ao17 y428.length co17 : Value).ownBlock) (fun _ => False) rfl rfl ?aO ?aR (fun _ _ h => h) (fun _ h => h.elim) ?aF ?aB ?aS ?aL ?_; (case aR => repeat (first | exact (Kd.R_reads' HO430.out).2.2 | (with_reducible refine Kd.C_alloc ?_ _) | (with_reducible refine Kd.C_drewN ?_ _) | (with_reducible refine Kd.C_drew ?_))); (case aB => exact (by repeat (first | (with_reducible first | exact HB.out | apply below_alloc | apply pw_below_drewN | apply below_drew1) | exact HB.out))); (case aF => exact (fun k_ hk => Kd.fresh' (Kd.R_lt (by (with_reducible repeat (first | apply Kd.R_alloc | apply Kd.R_drewN | apply Kd.R_drew)); exact HO430.out)) k_ hk)); (case aO => exact (by (with_reducible repeat (first | apply Kd.R_alloc | apply Kd.R_drewN | apply Kd.R_drew)); exact Kd.R_mono HO_5.out (fun _ hk => hk.2))); (case aS => exact (below_size (by repeat (first | (with_reducible first | exact HB.out | apply below_alloc | apply pw_below_drewN | apply below_drew1) | exact HB.out)))); (case aL => have := LMc13.out; omega); intro v432 w16 ho hb hg hat; rw [← Ny431.out] at ho; have n0_ := Aside0.mk (Kd.R_after (ok := (fun _ => True)) (by (with_reducible repeat (first | apply Kd.R_alloc | apply Kd.R_drewN | apply Kd.R_drew)); exact HO430.out) hg hat); have n1_ := Aside0.mk (hb); have n2_ := Aside0.mk (ho); clear HO430; clear HB; clear HO_5; have HO430 := n0_; have HB := n1_; have HO433 := n2_; clear n0_ n1_ n2_; clear ho hb hg hat)); try go_wp2_with (first | ((with_reducible refine gate_dst (N := 48) rfl ?_); refine Kd.R_lit (Kd.int .i64) _ 3 ?hg (N := 48) ?hd (xs := ([Int.tmod (wrap64 (Int.tdiv x6_1 16)) 4, Int.tmod (wrap64 (Int.tdiv x6_1 4)) 4, Int.tmod x6_1 4] : List Int)) (inner := [.int .i64 (Int.tmod (wrap64 (Int.tdiv x6_1 16)) 4), .int .i64 (Int.tmod (wrap64 (Int.tdiv x6_1 4)) 4), .int .i64 (Int.tmod x6_1 4)]) (ok := fun _ => True) (okp := fun _ => True) ?hr ?hp (fun _ hk => hk) trivial (Below.refl _ _) (Nat.le_refl _) (by simp) ?_; (case hd => rfl); (case hg => rfl); (case hr => first | (go_simp; done) | (go_simp; rfl)); (case hp => exact (Reps.one (show Kd.M (Kd.int .i64) _ _ _ (Int.tmod (wrap64 (Int.tdiv x6_1 16)) 4) [.int .i64 (Int.tmod (wrap64 (Int.tdiv x6_1 16)) 4)] from rfl) (Reps.one (show Kd.M (Kd.int .i64) _ _ _ (Int.tmod (wrap64 (Int.tdiv x6_1 4)) 4) [.int .i64 (Int.tmod (wrap64 (Int.tdiv x6_1 4)) 4)] from rfl) (Reps.one (show Kd.M (Kd.int .i64) _ _ _ (Int.tmod x6_1 4) [.int .i64 (Int.tmod x6_1 4)] from rfl) (Reps.none _ _))))); intro v429 w14 ho15 hb hg_ hnew_; clear hg_ hnew_; (first | rw [← Ny428.out] at ho15 | (simp only [Int.reduceToNat] at ho15; rw [← Ny428.out] at ho15)); have n0_ := Aside0.mk (Kd.R_elder' (by (with_reducible repeat (first | apply Kd.R_alloc | apply Kd.R_drewN | apply Kd.R_drew)); exact HO_5.out) (Kd.R_base ho15) hb); have n1_ := Aside0.mk (Kd.R_lower (Kd.R_new' ho15 (Kd.R_lt (by (with_reducible repeat (first | apply Kd.R_alloc | apply Kd.R_drewN | apply Kd.R_drew)); exact HO_5.out))) (below_size (by repeat (first | (with_reducible first | exact HB.out | apply below_alloc | apply pw_below_drewN | apply below_drew1) | exact HB.out)))); have n2_ := Aside0.mk (below_step (by repeat (first | (with_reducible first | exact HB.out | apply below_alloc | apply pw_below_drewN | apply below_drew1) | exact HB.out)) hb); clear HO_5; clear HB; have HO_5 := n0_; have HO430 := n1_; have HB := n2_; clear n0_ n1_ n2_; clear hb ho15; obtain ⟨Ao17, co17, eo17⟩ := Kd.R_slice HO430.out; subst eo17) | ((with_reducible refine gate_builtin (b := .append) (xs := #[.tmp 39, .tmp 48]) rfl ?_); at_builtin; refine Kd.R_append_rows (Kd.int .i64) (w0 := w) w.heap.size rfl (.tmp 39) (.tmp 48) 50 3 (.int .i64 0) 8 rfl Try.underlying50 info3 rfl (by decide) (by omega) u5 x5_1 y428 _ _ _ (fun k_ => some k_ ≠ (.slice Ao17 y428.length co17 : Value).ownBlock) (fun _ => False) rfl rfl ?aO ?aR (fun _ _ h => h) (fun _ h => h.elim) ?aF ?aB ?aS ?aL ?_; (case aR => repeat (first | exact (Kd.R_reads' HO430.out).2.2 | (with_reducible refine Kd.C_alloc ?_ _) | (with_reducible refine Kd.C_drewN ?_ _) | (with_reducible refine Kd.C_drew ?_))); (case aB => exact (by repeat (first | (with_reducible first | exact HB.out | apply below_alloc | apply pw_below_drewN | apply below_drew1) | exact HB.out))); (case aF => exact (fun k_ hk => Kd.fresh' (Kd.R_lt (by (with_reducible repeat (first | apply Kd.R_alloc | apply Kd.R_drewN | apply Kd.R_drew)); exact HO430.out)) k_ hk)); (case aO => exact (by (with_reducible repeat (first | apply Kd.R_alloc | apply Kd.R_drewN | apply Kd.R_drew)); exact Kd.R_mono HO_5.out (fun _ hk => hk.2))); (case aS => exact (below_size (by repeat (first | (with_reducible first | exact HB.out | apply below_alloc | apply pw_below_drewN | apply below_drew1) | exact HB.out)))); (case aL => have := LMc13.out; omega); intro v432 w16 ho hb hg hat; rw [← Ny431.out] at ho; have n0_ := Aside0.mk (Kd.R_after (ok := (fun _ => True)) (by (with_reducible repeat (first | apply Kd.R_alloc | apply Kd.R_drewN | apply Kd.R_drew)); exact HO430.out) hg hat); have n1_ := Aside0.mk (hb); have n2_ := Aside0.mk (ho); clear HO430; clear HB; clear HO_5; have HO430 := n0_; have HB := n1_; have HO433 := n2_; clear n0_ n1_ n2_; clear ho hb hg hat)))
              go_ret
              exact ⟨_, by first | rfl | (simp [errW_none, errW_some] <;> rfl) | (simp [*, errW_none, errW_some] <;> rfl), by (with_reducible repeat (first | apply Kd.R_alloc | apply Kd.R_drewN | apply Kd.R_drew)); exact Kd.R_mono HO433.out (fun _ hk => trivial), by repeat (first | (with_reducible first | exact HB.out | apply below_alloc | apply pw_below_drewN | apply below_drew1) | exact HB.out)⟩
            · rw [if_neg c13] at H
              exact absurd H (by simp)
    · rw [if_neg c4] at H
      exact absurd H (by simp)
  · rw [if_neg c3] at H
    exact absurd H (by simp)

end Go.Proofs.Ytclmikbbjhdplaa.X
-- Written by a program of this session (a turn of the kit's print with contracts by hand). Not trusted: Lean checks it.
namespace Go.Proofs.Ytclmikbbjhdplaa.X
open Go.RowKit Go.Proofs.YtclmikbbjhdplaaW.PrintWords Go.Proofs.YtclmikbbjhdplaaW.PrintLast Go.Proofs.YtclmikbbjhdplaaW.PrintMore
attribute [local go_sem] max2_int min2_int max_two min_two max_three min_three max_four min_four   -- for this text's walks alone
set_option linter.unusedVariables false
set_option linter.unusedSimpArgs false

/-! ### mootref03_short: function 61 -/
def mootref03_short.f (l0 : List Int) : Option (ByteArray) := (mootref01_Sha.f l0).bind fun t434 => (if 0 ≤ 8 then (if 8 ≤ ((strOfNums t434).size : Int) then (some ((strOfNums t434).extract 0 8)) else (none)) else (none))
set_option maxHeartbeats 8000000 in
set_option maxRecDepth 100000 in
theorem mootref03_short.calls (A0 : Option Addr) (c0 : Nat) (l0 : List Int) (r : ByteArray) (w : World) (hr0 : Kd.C (Kd.int .u8) w A0 l0.length l0) (hc0 : l0.length ≤ c0) (h : mootref03_short.f l0 = some r) :
    Calls Try.prog 61 #[.slice A0 l0.length c0] w fun e w' => e = .returned (.string r) ∧ Below w.heap.size w w' := by
  have HR0 := Aside0.mk hr0
  have HC0 := Aside0.mk hc0
  clear hr0 hc0
  have HB := Aside0.mk (Below.refl w.heap.size w)
  have H : ((mootref01_Sha.f l0).bind fun t434 => (if 0 ≤ 8 then (if 8 ≤ ((strOfNums t434).size : Int) then (some ((strOfNums t434).extract 0 8)) else (none)) else (none))) = some r := h
  clear h
  replace H := Option.bind_eq_some_iff.mp H
  obtain ⟨t434, A20, H⟩ := H
  replace H : (if 0 ≤ 8 then (if 8 ≤ ((strOfNums t434).size : Int) then (some ((strOfNums t434).extract 0 8)) else (none)) else (none)) = some r := H
  have A2 := Aside0.mk A20
  clear A20
  by_cases c3 : 0 ≤ 8
  · rw [if_pos c3] at H
    have c3b0 := eq_true c3
    have c3b1 : decide (0 ≤ 8) = true := decide_eq_true c3
    clear c3
    by_cases c4 : 8 ≤ ((strOfNums t434).size : Int)
    · rw [if_pos c4] at H
      have c4b0 := eq_true c4
      have c4b1 : decide (8 ≤ ((strOfNums t434).size : Int)) = true := decide_eq_true c4
      clear c4
      obtain rfl := Option.some.inj H
      go_enter Try.func61, Try.ntmps61
      go_wp2_with (first | ((with_reducible refine gate_callee (f := 33) rfl ?_); refine goesL_ (some 4) rfl rfl Try.func33 (by kernel_rfl) rfl #[.slice A0 l0.length c0] rfl (by (try simp only [List.map_toArray, List.map_cons, List.map_nil]); first | done | rfl | (simp only [List.length_drop, List.length_take]; rfl)) ?_; (with_reducible refine (mootref01_Sha.calls _ _ l0 t434 _ ?side1 ?side2 A2.out).mono ?_); (case side1 => repeat (first | exact HR0.out | (with_reducible refine Kd.C_alloc ?_ _) | (with_reducible refine Kd.C_drewN ?_ _) | (with_reducible refine Kd.C_drew ?_))); (case side2 => exact HC0.out); rintro e w5 ⟨v435, rfl, ho0, hb⟩; refine ⟨_, rfl, ?_⟩; have n0_ := Aside0.mk (Kd.R_lower ho0 (below_size (by repeat (first | (with_reducible first | exact HB.out | apply below_alloc | apply pw_below_drewN | apply below_drew1) | exact HB.out)))); have n1_ := Aside0.mk (below_step (by repeat (first | (with_reducible first | exact HB.out | apply below_alloc | apply pw_below_drewN | apply below_drew1) | exact HB.out)) hb); clear HB; have HO436 := n0_; have HB := n1_; clear n0_ n1_; (try clear hb); (try clear hb2); (try clear hk); (try clear hi); (try clear ho0); have hcv6 := own_string (P := Try.prog) Try.underlying23 Try.underlying5 Try.underlying9 (Kd.own_of_R HO436.out)))
      go_ret
      exact ⟨by first | rfl | (simp [errW_none, errW_some] <;> rfl) | (simp [*, errW_none, errW_some] <;> rfl), by repeat (first | (with_reducible first | exact HB.out | apply below_alloc | apply pw_below_drewN | apply below_drew1) | exact HB.out)⟩
    · rw [if_neg c4] at H
      exact absurd H (by simp)
  · rw [if_neg c3] at H
    exact absurd H (by simp)

end Go.Proofs.Ytclmikbbjhdplaa.X
/- mootref03.Chain: the reference's steps. -/
namespace Go.Proofs.Ytclmikbbjhdplaa.X
open Go.RowKit Go.Proofs.YtclmikbbjhdplaaW.PrintWords Go.Proofs.YtclmikbbjhdplaaW.PrintLast Go.Proofs.YtclmikbbjhdplaaW.PrintMore
set_option linter.unusedVariables false
set_option linter.unusedSimpArgs false

theorem bytesOf_octets (s : ByteArray) : Octets (bytesOf s) := by
  intro x hx
  simp only [bytesOf, List.mem_map] at hx
  obtain ⟨b, _, rfl⟩ := hx
  have := b.toNat_lt
  omega
theorem strOfNums_size32 (l : List Int) (h : l.length = 32) : ((strOfNums l).size : Int) = 32 := by
  rw [strOfNums_size, h]
  rfl
theorem short61 (l : List Int) (ho : Octets l) (hl : l.length ≤ 140737488354000) : mootref03_short.f l = some (shortB l) := by
  unfold mootref03_short.f mootref01_Sha.f
  rw [if_pos ⟨ho, hl⟩, Option.bind_some, if_pos (by omega), strOfNums_size32 _ (sumL_len l), if_pos (by omega), shortB]
def mootref03_Chain.f (a0 : ByteArray) (a1 : Int) : Option ByteArray := if a0.size ≤ 140737488354000 then some (chainN a0 (mn (mx a1 0) 3).toNat) else none
theorem chainN_size54 (s : ByteArray) (hs : s.size ≤ 140737488354000) : ∀ n, (chainN s n).size ≤ 140737488354000
  | 0 => hs
  | n + 1 => by rw [chainN, shortB_size]; omega
set_option maxRecDepth 100000 in
set_option maxHeartbeats 4000000 in
theorem mootref03_Chain.calls (a0 : ByteArray) (a1 : Int) (r : ByteArray) (w : World) (h : mootref03_Chain.f a0 a1 = some r) :
    Calls Try.prog 42 #[.string a0, .int .i64 a1] w fun e w' => e = .returned (.string r) ∧ Below w.heap.size w w' := by
  unfold mootref03_Chain.f at h
  by_cases hs : a0.size ≤ 140737488354000
  · rw [if_pos hs] at h
    obtain rfl := Option.some.inj h
    obtain ⟨n, hne⟩ : ∃ n : Nat, (mn (mx a1 0) 3).toNat = n := ⟨_, rfl⟩
    have hnn : ∀ i : Nat, i < n ↔ ((i : Int) < a1 ∧ (i : Int) < 3) := by
      intro i
      rw [← hne]
      unfold mn mx
      split <;> split <;> omega
    have hn3 : n ≤ 3 := by
      rw [← hne]
      unfold mn mx
      split <;> split <;> omega
    rw [hne]
    have HNN := Lib.hid hnn
    have HN := Lib.hid hn3
    have HS := Lib.hid hs
    clear h hs hnn hn3 hne
    go_enter Try.func42, Try.ntmps42
    go_wp2
    go_loopg [0, 5] 4 (fun kq v0 v5 w' => ∃ i : Nat, v0 = .string (chainN a0 i) ∧ v5 = .int .i64 (i : Int) ∧ Hid (i ≤ n ∧ kq + i = 4) ∧ Hid (Below w.heap.size w w'))
    case atStart => exact ⟨0, rfl, rfl, Lib.hid ⟨by omega, rfl⟩, Lib.hid (Below.refl _ _)⟩
    case round =>
      obtain ⟨i, rfl, rfl, hi, hB⟩ := hrel
      by_cases c : i < n
      · have c1 : decide ((i : Int) < a1) = true := decide_eq_true ((HNN.out i).1 c).1
        have c2 : decide ((i : Int) < 3) = true := decide_eq_true ((HNN.out i).1 c).2
        have c3 : decide (i < 3) = true := decide_eq_true (by have := ((HNN.out i).1 c).2; omega)
        have hsz := chainN_size54 a0 HS.out i
        obtain ⟨s, hs⟩ : ∃ s, chainN a0 i = s := ⟨_, rfl⟩
        obtain ⟨s1, hs1⟩ : ∃ s1, chainN a0 (i + 1) = s1 := ⟨_, rfl⟩
        rw [hs] at hsz ⊢
        have hsh : mootref03_short.f (bytesOf s) = some s1 := by
          rw [short61 _ (bytesOf_octets s) (by rw [bytesOf_length]; exact hsz), ← hs1, chainN, hs]
        have HSZ := Lib.hid hsz
        have HSH := Lib.hid hsh
        have HS1 := Lib.hid hs1
        have HCN := Lib.hid c
        clear hsz hsh hs hs1 c
        go_wp2_with (first | ((with_reducible refine gate_dst (N := 16) rfl ?_); go_must (refine str_ev rfl (N := 16) rfl (.tmp 15) rfl s rfl (by have := HSZ.out; omega) ?_; intro w1 c1 hb hc hC; have B1 := below_step hB.out hb; clear hb)) | (go_at_call 61; go_must (refine (mootref03_short.calls _ _ (bytesOf s) s1 _ hC hc HSH.out).mono ?_; rintro e w2 ⟨rfl, hb⟩; have B2 := Lib.hid (below_step B1 hb); clear hb B1 hc hC)))
        obtain ⟨k1, rfl⟩ : ∃ k1, gk = k1 + 1 := ⟨gk - 1, by have := hi.out; have := HN.out; omega⟩
        go_roundg k1
        case measure => omega
        case rel => exact ⟨i + 1, by rw [HS1.out], congrArg (Value.int .i64) (by have := hi.out; have := HN.out; unfold wrap64; omega), Lib.hid ⟨HCN.out, by have := hi.out; omega⟩, B2⟩
      · have hin : i = n := by have := hi.out; omega
        have hno := fun h => c ((HNN.out i).2 h)
        subst hin
        by_cases c1' : (i : Int) < a1
        · have c1 : decide ((i : Int) < a1) = true := decide_eq_true c1'
          have c2 : decide ((i : Int) < 3) = false := decide_eq_false (fun h => hno ⟨c1', h⟩)
          have c3 : decide (i < 3) = false := decide_eq_false (fun h => hno ⟨c1', by omega⟩)
          clear c hno c1'
          go_wp2
          go_ret
          exact ⟨rfl, hB.out⟩
        · have c1 : decide ((i : Int) < a1) = false := decide_eq_false c1'
          clear c hno c1'
          go_wp2
          go_ret
          exact ⟨rfl, hB.out⟩
  · rw [if_neg hs] at h
    cases h
end Go.Proofs.Ytclmikbbjhdplaa.X
/- mootref03.Secret: the reference's secret. -/
namespace Go.Proofs.Ytclmikbbjhdplaa.X
open Go.RowKit Go.Proofs.YtclmikbbjhdplaaW.PrintWords Go.Proofs.YtclmikbbjhdplaaW.PrintLast Go.Proofs.YtclmikbbjhdplaaW.PrintMore
set_option linter.unusedVariables false
set_option linter.unusedSimpArgs false

theorem putB_octets (n s : Int) : Octets (putB n s) := putL_octets _ _
theorem octets_app {a b : List Int} (ha : Octets a) (hb : Octets b) : Octets (a ++ b) := by
  intro x hx
  rcases List.mem_append.1 hx with h | h
  · exact ha x h
  · exact hb x h
def mootref03_Secret.f (a0 : ByteArray) (a1 a2 : Int) : Option ByteArray := if a0.size ≤ 140737488353000 then some (secretB a0 a1 a2) else none
set_option maxRecDepth 100000 in
set_option maxHeartbeats 4000000 in
theorem mootref03_Secret.calls (a0 : ByteArray) (a1 a2 : Int) (r : ByteArray) (w : World) (h : mootref03_Secret.f a0 a1 a2 = some r) :
    Calls Try.prog 44 #[.string a0, .int .i64 a1, .int .i64 a2] w fun e w' => e = .returned (.string r) ∧ Below w.heap.size w w' := by
  unfold mootref03_Secret.f at h
  by_cases hs : a0.size ≤ 140737488353000
  · rw [if_pos hs] at h
    obtain rfl := Option.some.inj h
    have hx0 : bytesOf ⟨#[119, 111, 116, 115]⟩ = [119, 111, 116, 115] := rfl
    obtain ⟨p2, hp2⟩ : ∃ p, octets_Put.f (a0.size : Int) 2 = some p := ⟨_, rfl⟩
    obtain ⟨p4, hp4⟩ : ∃ p, octets_Put.f a1 4 = some p := ⟨_, rfl⟩
    obtain ⟨p1, hp1⟩ : ∃ p, octets_Put.f a2 1 = some p := ⟨_, rfl⟩
    have e2 : putB (a0.size : Int) 2 = p2 := Option.some.inj hp2
    have e4 : putB a1 4 = p4 := Option.some.inj hp4
    have e1 : putB a2 1 = p1 := Option.some.inj hp1
    obtain ⟨x1, hx1⟩ : ∃ x : List Int, [] ++ bytesOf ⟨#[119, 111, 116, 115]⟩ = x := ⟨_, rfl⟩
    obtain ⟨x2, hx2⟩ : ∃ x, x1 ++ p2 = x := ⟨_, rfl⟩
    obtain ⟨x3, hx3⟩ : ∃ x, x2 ++ bytesOf a0 = x := ⟨_, rfl⟩
    obtain ⟨x4, hx4⟩ : ∃ x, x3 ++ p4 = x := ⟨_, rfl⟩
    obtain ⟨x5, hx5⟩ : ∃ x, x4 ++ p1 = x := ⟨_, rfl⟩
    have l2 : p2.length ≤ 8 := by rw [← e2]; exact putB_len _ _
    have l4 : p4.length ≤ 8 := by rw [← e4]; exact putB_len _ _
    have l1 : p1.length ≤ 8 := by rw [← e1]; exact putB_len _ _
    have m1 : x1.length = 4 := by rw [← hx1]; rfl
    have m2 : x2.length ≤ 12 := by rw [← hx2, List.length_append]; omega
    have m3 : x3.length ≤ 12 + a0.size := by rw [← hx3, List.length_append, bytesOf_length]; omega
    have m4 : x4.length ≤ 20 + a0.size := by rw [← hx4, List.length_append]; omega
    have m5 : x5.length ≤ 28 + a0.size := by rw [← hx5, List.length_append]; omega
    have hoc : Octets x5 := by
      rw [← hx5, ← hx4, ← hx3, ← hx2, ← hx1, ← e2, ← e4, ← e1]
      exact octets_app (octets_app (octets_app (octets_app (octets_app (fun x h => by simp at h) (bytesOf_octets _)) (putB_octets _ _)) (bytesOf_octets _)) (putB_octets _ _)) (putB_octets _ _)
    have hsh : mootref03_short.f x5 = some (secretB a0 a1 a2) := by
      rw [short61 x5 hoc (by omega), secretB, ← hx5, ← hx4, ← hx3, ← hx2, ← hx1, e2, e4, e1, hx0]
      simp
    obtain ⟨r, hr⟩ : ∃ r, secretB a0 a1 a2 = r := ⟨_, rfl⟩
    rw [hr] at hsh ⊢
    have q2 : mootref01_Put.f 20 (a0.size : Int) 2 = some p2 := by rw [refput_f _ _ 20 (by omega)]; exact hp2
    have q4 : mootref01_Put.f 20 a1 4 = some p4 := by rw [refput_f _ _ 20 (by omega)]; exact hp4
    have q1 : mootref01_Put.f 20 a2 1 = some p1 := by rw [refput_f _ _ 20 (by omega)]; exact hp1
    have X1 := Lib.hid hx1
    have X2 := Lib.hid hx2
    have X3 := Lib.hid hx3
    have X4 := Lib.hid hx4
    have X5 := Lib.hid hx5
    have HS := Lib.hid hs
    have Q2 := Lib.hid q2
    have Q4 := Lib.hid q4
    have Q1 := Lib.hid q1
    have L2 := Lib.hid l2
    have L4 := Lib.hid l4
    have L1 := Lib.hid l1
    have M := Lib.hid (And.intro m1 (And.intro m2 (And.intro m3 (And.intro m4 m5))))
    have HSH := Lib.hid hsh
    clear h hs hx0 hp2 hp4 hp1 e2 e4 e1 hx1 hx2 hx3 hx4 hx5 l2 l4 l1 m1 m2 m3 m4 m5 hoc hsh hr q2 q4 q1
    go_enter Try.func44, Try.ntmps44
    go_wp2_with (first | ((with_reducible refine gate_dst (N := 9) rfl ?_); go_must (refine print_append_str (w0 := w) w.heap.size rfl (.tmp 8) (.const (.string ⟨#[119, 111, 116, 115]⟩)) 23 9 5 rfl Try.underlying23 Try.underlying9 info5 (.slice none 0 0) [] ⟨#[119, 111, 116, 115]⟩ rfl rfl (own_nil _ _ _ _) (Below.refl _ _) (Nat.le_refl _) (by decide) ?_; intro v1 w1 ho hb hg; rw [X1.out] at ho; have R1 : Kd.R (Kd.int .u8) 5 w1 w.heap.size (fun _ => True) v1 x1 := Kd.R_of_own (enc := Value.int .u8) ho (fun _ _ => trivial); have B1 := hb; clear ho hb hg)) | (go_at_call_of 25 (Value.int .i64 2); go_must ((with_reducible refine (mootref01_Put.calls 20 _ _ p2 _ Q2.out).mono ?_); rintro e w2 ⟨u2, rfl, ho, hb⟩; obtain ⟨A2, c2, rfl⟩ := Kd.R_slice ho; have C2 := (Kd.R_reads' ho).2.2; have R2 := Kd.R_below R1 hb; have B2 := below_step B1 hb; clear ho hb R1 B1)) | ((with_reducible refine gate_dst (N := 14) rfl ?_); go_must (refine Kd.R_append_rows (Kd.int .u8) (w0 := w) w.heap.size rfl (.tmp 10) (.tmp 13) 23 5 (.int .u8 0) 1 rfl Try.underlying23 info5 rfl (by decide) (by decide) _ x1 p2 A2 p2.length c2 (fun _ => True) (fun _ => False) rfl rfl R2 C2 (fun x cs hp => hp) (fun _ hk => hk.elim) (fun _ _ => trivial) B2 B2.size (by have := M.out; have := L2.out; omega) ?_; intro v3 w3 hR3 B3 _ _; rw [X2.out] at hR3; have R3 := hR3; clear hR3 C2 R2 B2)) | ((with_reducible refine gate_dst (N := 17) rfl ?_); go_must (refine print_append_str (w0 := w) w.heap.size rfl (.tmp 15) (.tmp 16) 23 9 5 rfl Try.underlying23 Try.underlying9 info5 _ x2 a0 rfl rfl (Kd.own_of_R R3) B3 B3.size (by have := M.out; have := HS.out; omega) ?_; intro v4 w4 ho hb hg; rw [X3.out] at ho; have R4 : Kd.R (Kd.int .u8) 5 w4 w.heap.size (fun _ => True) v4 x3 := Kd.R_of_own (enc := Value.int .u8) ho (fun _ _ => trivial); have B4 := hb; clear ho hb hg R3 B3)) | (go_at_call_of 25 (Value.int .i64 4); go_must ((with_reducible refine (mootref01_Put.calls 20 _ _ p4 _ Q4.out).mono ?_); rintro e w5 ⟨u5, rfl, ho, hb⟩; obtain ⟨A5, c5, rfl⟩ := Kd.R_slice ho; have C5 := (Kd.R_reads' ho).2.2; have R5 := Kd.R_below R4 hb; have B5 := below_step B4 hb; clear ho hb R4 B4)) | ((with_reducible refine gate_dst (N := 21) rfl ?_); go_must (refine Kd.R_append_rows (Kd.int .u8) (w0 := w) w.heap.size rfl (.tmp 18) (.tmp 20) 23 5 (.int .u8 0) 1 rfl Try.underlying23 info5 rfl (by decide) (by decide) _ x3 p4 A5 p4.length c5 (fun _ => True) (fun _ => False) rfl rfl R5 C5 (fun x cs hp => hp) (fun _ hk => hk.elim) (fun _ _ => trivial) B5 B5.size (by have := M.out; have := L4.out; have := HS.out; omega) ?_; intro v6 w6 hR6 B6 _ _; rw [X4.out] at hR6; have R6 := hR6; clear hR6 C5 R5 B5)) | (go_at_call_of 25 (Value.int .i64 1); go_must ((with_reducible refine (mootref01_Put.calls 20 _ _ p1 _ Q1.out).mono ?_); rintro e w7 ⟨u7, rfl, ho, hb⟩; obtain ⟨A7, c7, rfl⟩ := Kd.R_slice ho; have C7 := (Kd.R_reads' ho).2.2; have R7 := Kd.R_below R6 hb; have B7 := below_step B6 hb; clear ho hb R6 B6)) | ((with_reducible refine gate_dst (N := 25) rfl ?_); go_must (refine Kd.R_append_rows (Kd.int .u8) (w0 := w) w.heap.size rfl (.tmp 22) (.tmp 24) 23 5 (.int .u8 0) 1 rfl Try.underlying23 info5 rfl (by decide) (by decide) _ x4 p1 A7 p1.length c7 (fun _ => True) (fun _ => False) rfl rfl R7 C7 (fun x cs hp => hp) (fun _ hk => hk.elim) (fun _ _ => trivial) B7 B7.size (by have := M.out; have := L1.out; have := HS.out; omega) ?_; intro v8 w8 hR8 B8 _ _; rw [X5.out] at hR8; obtain ⟨A8, c8, rfl⟩ := Kd.R_slice hR8; have R8 := Kd.R_reads' hR8; clear hR8 C7 R7 B7)) | (go_at_call 61; go_must (refine (mootref03_short.calls _ _ x5 r _ R8.2.2 R8.2.1 HSH.out).mono ?_; rintro e w9 ⟨rfl, hb⟩; have B9 := Lib.hid (below_step B8 hb); clear hb B8 R8)))
    go_ret
    exact ⟨rfl, B9.out⟩
  · rw [if_neg hs] at h
    cases h
end Go.Proofs.Ytclmikbbjhdplaa.X
-- Written by a program of this session (a turn of the kit's print with contracts by hand). Not trusted: Lean checks it.
namespace Go.Proofs.Ytclmikbbjhdplaa.X
open Go.RowKit Go.Proofs.YtclmikbbjhdplaaW.PrintWords Go.Proofs.YtclmikbbjhdplaaW.PrintLast Go.Proofs.YtclmikbbjhdplaaW.PrintMore
attribute [local go_sem] max2_int min2_int max_two min_two max_three min_three max_four min_four   -- for this text's walks alone
set_option linter.unusedVariables false
set_option linter.unusedSimpArgs false

/-! ### mootref03_Sign: function 47 -/
def mootref03_Sign.l0 : Nat → ByteArray → Int → List Int → List ByteArray → Int → Option (List ByteArray)
  | 0, _, _, _, _, _ => none
  | k + 1, x0, x1, x7, x8, x9 => if x9 < 11 then ((mootref03_Secret.f x0 x1 x9).bind fun t462 => (if 0 ≤ x9 then (if x9 < (x7.length : Int) then ((mootref03_Chain.f t462 (rd x7 x9)).bind fun t464 => (if x8.length < 8796093022208 then (mootref03_Sign.l0 k x0 x1 x7 (x8 ++ [t464]) (wrap64 (x9 + 1))) else (none))) else (none)) else (none))) else (some x8)
def mootref03_Sign.f (k : Nat) (a0 : ByteArray) (a1 : Int) (l2 : List Int) : Option (List ByteArray) := (mootref03_Parts.f k l2).bind fun t459 => (mootref03_Sign.l0 k a0 a1 t459 ([] : List ByteArray) 0)
theorem mootref03_Sign.mono_l : ∀ k, (∀ y0 y1 y2 y3 y4, LeO (mootref03_Sign.l0 k y0 y1 y2 y3 y4) (mootref03_Sign.l0 (k + 1) y0 y1 y2 y3 y4))
  | 0 => fun _ _ _ _ _ r h => by simp [mootref03_Sign.l0] at h
  | k + 1 => by
    have ih0 := mootref03_Sign.mono_l k
    · intro y0 y1 y2 y3 y4
      unfold mootref03_Sign.l0
      repeat' first
      | (with_reducible exact ih0 _ _ _ _ _)
      | (with_reducible exact mootref03_Parts.mono _ _)
      | (with_reducible exact LeO.refl _)
      | (with_reducible exact LeO.none _)
      | (with_reducible refine LeO.ite ?_ ?_)
      | (with_reducible refine LeO.bind ?_ (fun _ => ?_))
      | exact ih0 _ _ _ _ _
      | exact mootref03_Parts.mono _ _
      | exact LeO.none _
      | refine LeO.ite ?_ ?_
      | refine LeO.bind ?_ (fun _ => ?_)
theorem mootref03_Sign.mono : ∀ a0 a1 a2 k, LeO (mootref03_Sign.f k a0 a1 a2) (mootref03_Sign.f (k + 1) a0 a1 a2) := by
  intro a0 a1 a2 k
  have ih0 := mootref03_Sign.mono_l k
  unfold mootref03_Sign.f
  repeat' first
      | (with_reducible exact ih0 _ _ _ _ _)
      | (with_reducible exact mootref03_Parts.mono _ _)
      | (with_reducible exact LeO.refl _)
      | (with_reducible exact LeO.none _)
      | (with_reducible refine LeO.ite ?_ ?_)
      | (with_reducible refine LeO.bind ?_ (fun _ => ?_))
      | exact ih0 _ _ _ _ _
      | exact mootref03_Parts.mono _ _
      | exact LeO.none _
      | refine LeO.ite ?_ ?_
      | refine LeO.bind ?_ (fun _ => ?_)
def mootref03_Sign.T6 : Bool × List (List Nat × List Nat) := (true, [([], []), ([], []), ([], []), ([], []), ([1, 2, 3], [1, 2, 3]), ([], []), ([], []), ([5, 6], [5, 6]), ([7], [7]), ([4, 8, 4], [4, 8]), ([9], [9]), ([0, 10, 9], [0, 10]), ([11, 11, 0, 1, 2, 3, 4, 5, 6, 7, 8, 9, 10, 11], [0, 11])])
def mootref03_Sign.B6 : List Nat := [0, 0, 0, 0, 14, 0, 0, 96, 224, 510, 1022, 2047, 4095]
theorem mootref03_Sign.tab6 : rtab .any (opsOf Try.f47 6) = mootref03_Sign.T6 := by kernel_rfl
theorem mootref03_Sign.bits6 : waitsOk mootref03_Sign.T6.2 mootref03_Sign.B6 = true := by kernel_rfl
set_option maxHeartbeats 8000000 in
set_option maxRecDepth 100000 in
theorem mootref03_Sign.calls (k : Nat) (a0 : ByteArray) (a1 : Int) (A2 : Option Addr) (c2 : Nat) (l2 : List Int) (r : List ByteArray) (w : World) (hr2 : Kd.C (Kd.int .u8) w A2 l2.length l2) (hc2 : l2.length ≤ c2) (h : mootref03_Sign.f k a0 a1 l2 = some r) :
    Calls Try.prog 47 #[.string a0, .int .i64 a1, .slice A2 l2.length c2] w fun e w' => ∃ v0_ : Value, e = .returned (v0_) ∧ Kd.R Kd.string 9 w' w.heap.size (fun _ => True) v0_ r ∧ Below w.heap.size w w' := by
  have HR2 := Aside0.mk hr2
  have HC2 := Aside0.mk hc2
  clear hr2 hc2
  have HB := Aside0.mk (Below.refl w.heap.size w)
  have H : ((mootref03_Parts.f k l2).bind fun t459 => (mootref03_Sign.l0 k a0 a1 t459 ([] : List ByteArray) 0)) = some r := h
  clear h
  replace H := Option.bind_eq_some_iff.mp H
  obtain ⟨t459, A40, H⟩ := H
  replace H : (mootref03_Sign.l0 k a0 a1 t459 ([] : List ByteArray) 0) = some r := H
  have A4 := Aside0.mk A40
  clear A40
  have H' := Aside0.mk H
  clear H
  go_enter Try.func47, Try.ntmps47
  go_wp2_with (first | ((with_reducible refine gate_callee (f := 41) rfl ?_); refine goesL_ (some 11) rfl rfl Try.func41 (by kernel_rfl) rfl #[.slice A2 l2.length c2] rfl (by (try simp only [List.map_toArray, List.map_cons, List.map_nil]); first | done | rfl | (simp only [List.length_drop, List.length_take]; rfl)) ?_; (with_reducible refine (mootref03_Parts.calls k _ _ l2 t459 _ ?side1 ?side2 A4.out).mono ?_); (case side1 => repeat (first | exact HR2.out | (with_reducible refine Kd.C_alloc ?_ _) | (with_reducible refine Kd.C_drewN ?_ _) | (with_reducible refine Kd.C_drew ?_))); (case side2 => exact HC2.out); rintro e w5 ⟨v460, rfl, ho0, hb⟩; refine ⟨_, rfl, ?_⟩; have n0_ := Aside0.mk (Kd.R_lower ho0 (below_size (by repeat (first | (with_reducible first | exact HB.out | apply below_alloc | apply pw_below_drewN | apply below_drew1) | exact HB.out)))); have n1_ := Aside0.mk (below_step (by repeat (first | (with_reducible first | exact HB.out | apply below_alloc | apply pw_below_drewN | apply below_drew1) | exact HB.out)) hb); clear HB; have HO461 := n0_; have HB := n1_; clear n0_ n1_; (try clear hb); (try clear hb2); (try clear hk); (try clear hi); (try clear ho0)))
  go_loopg [8, 9] k (fun kq v8 v9 w' => ∃ (x8_1 : List ByteArray) (x9_1 : Int), v9 = .int .i64 x9_1 ∧ Aside0 (mootref03_Sign.l0 kq a0 a1 t459 x8_1 x9_1 = some r) ∧ Aside0 (kq ≤ k) ∧ Aside0 (Kd.R (Kd.int .i64) 3 w' w.heap.size (fun _ => True) v460 t459) ∧ Aside0 (Kd.R Kd.string 9 w' w.heap.size (fun _ => True) v8 x8_1) ∧ Aside0 (Below w.heap.size w w'))
  case atStart => exact ⟨(([] : List ByteArray)), (0), (by first | rfl | (simp; done) | (simp [*]; done)), H', ⟨Nat.le_refl _⟩, ⟨by (with_reducible repeat (first | apply Kd.R_alloc | apply Kd.R_drewN | apply Kd.R_drew)); exact HO461.out⟩, ⟨by first | exact Kd.R_nil _ _ _ _ _ | exact Kd.N_nil _ _ _ _ _ | exact Kd.V_nil _ _ _ _ _ | exact Kd.Q_nil _ _ _ _ _ | exact Kd.S_nil _ _ _ _ _⟩, ⟨by repeat (first | (with_reducible first | exact HB.out | apply below_alloc | apply pw_below_drewN | apply below_drew1) | exact HB.out)⟩⟩
  case round =>
    clear H'
    try clear c2
    try clear p2
    try clear c4
    obtain ⟨x8_1, x9_1, rfl, HA, HK1, HO_7, HO_8, HB⟩ := hrel
    cases gk with
    | zero => exact absurd HA.out (by simp [mootref03_Sign.l0])
    | succ k1 =>
      have H := HA.out
      clear HA
      simp only [mootref03_Sign.l0] at H
      by_cases c6 : x9_1 < 11
      · rw [if_pos c6] at H
        have c6b0 : decide (x9_1 < 11) = true := decide_eq_true c6
        clear c6
        replace H := Option.bind_eq_some_iff.mp H
        obtain ⟨t462, A70, H⟩ := H
        replace H : (if 0 ≤ x9_1 then (if x9_1 < (t459.length : Int) then ((mootref03_Chain.f t462 (rd t459 x9_1)).bind fun t464 => (if x8_1.length < 8796093022208 then (mootref03_Sign.l0 k1 a0 a1 t459 (x8_1 ++ [t464]) (wrap64 (x9_1 + 1))) else (none))) else (none)) else (none)) = some r := H
        have A7 := Aside0.mk A70
        clear A70
        by_cases c8 : 0 ≤ x9_1
        · rw [if_pos c8] at H
          have c8b0 : decide (0 ≤ x9_1) = true := decide_eq_true c8
          clear c8
          by_cases c9 : x9_1 < (t459.length : Int)
          · rw [if_pos c9] at H
            have c9b0 : decide (x9_1 < (t459.length : Int)) = true := decide_eq_true c9
            clear c9
            replace H := Option.bind_eq_some_iff.mp H
            obtain ⟨t464, A100, H⟩ := H
            replace H : (if x8_1.length < 8796093022208 then (mootref03_Sign.l0 k1 a0 a1 t459 (x8_1 ++ [t464]) (wrap64 (x9_1 + 1))) else (none)) = some r := H
            have A10 := Aside0.mk A100
            clear A100
            by_cases c11 : x8_1.length < 8796093022208
            · rw [if_pos c11] at H
              have LMc11 := Aside0.mk c11
              clear c11
              obtain ⟨y465, hy465⟩ : ∃ y_ : List ByteArray, y_ = (x8_1 ++ [t464]) := ⟨_, rfl⟩
              replace H : (mootref03_Sign.l0 k1 a0 a1 t459 y465 (wrap64 (x9_1 + 1))) = some r := by first | (rw [hy465]; with_reducible exact H) | (have H2_ := (Option.bind_some _ _).symm.trans H; rw [hy465]; with_reducible exact H2_) | (have H2_ := (Option.bind_some _ _).symm.trans H; with_reducible exact H2_) | with_reducible exact H | (rw [hy465]; exact H) | exact H
              have Ny465 := Aside0.mk hy465
              clear hy465
              have H' := Aside0.mk H
              clear H
              try go_wp2
              have n0_ := Aside0.mk (Kd.R_drew HO_7.out)
              have n1_ := Aside0.mk (Kd.R_drew HO_8.out)
              have n2_ := Aside0.mk (below_drew1 HB.out)
              clear HO_7
              clear HO_8
              clear HB
              have HO_7 := n0_
              have HO_8 := n1_
              have HB := n2_
              clear n0_ n1_ n2_
              obtain ⟨Ao13, co13, eo13⟩ := Kd.R_slice HO_7.out
              (first | subst eo13 | (injection eo13 with f1_ f2_ f3_; have f4_ := f1_.symm; have f5_ := f3_.symm; clear f1_ f2_ f3_; subst f4_; subst f5_))
              have p463 : 0 ≤ (x9_1 : Int) := of_decide_eq_true (by first | (with_reducible assumption) | assumption)
              have q463 : x9_1 < (t459.length : Int) := of_decide_eq_true (by first | (with_reducible assumption) | assumption)
              obtain ⟨ad463, e463, hx463_0⟩ := Kd.at_int (Kd.R_reads' HO_7.out).2.2 x9_1 p463 q463
              cases e463
              replace p463 := eq_true p463
              replace q463 := eq_true q463
              refine start_ (n := 13) (S := fun w' => w'.cell? (ad463.add (x9_1).toNat) = some (.int .i64 (rd t459 x9_1))) (ds := [10, 11]) #[false, false, false, false, false, false, false, false, false, false, false, false, false] (by kernel_rfl) rfl rfl (hx463_0) (fun hHeld => ?_); refine with_tabW mootref03_Sign.tab6 mootref03_Sign.bits6 (fun HT_ HW_ => ?_)
              generalize wr.drew = w12 at HO_7 HO_8 HB hx463_0 hHeld ⊢
              refine pure_ (i := 0) (N := some 16) (v := ?_) (a' := ?_) #[true, false, false, false, false, false, false, false, false, false, false, false, false] rfl rfl (any_of HT_.out (by kernel_rfl)) (fun _ _ _ h => h) (Or.inl ⟨by rfl, ?_⟩) ?_ ?_
              rotate_left
              · intro w'
                go_simp
                with_reducible rfl
              rotate_left
              · simp only [Act.put, List.setIfInBounds_toArray, List.set_cons_zero, List.set_cons_succ, i64_w, i32_w]
                rfl
              refine pure_ (i := 1) (N := some 17) (v := ?_) (a' := ?_) #[true, true, false, false, false, false, false, false, false, false, false, false, false] rfl rfl (any_of HT_.out (by kernel_rfl)) (fun _ _ _ h => h) (Or.inl ⟨by rfl, ?_⟩) ?_ ?_
              rotate_left
              · intro w'
                go_simp
                with_reducible rfl
              rotate_left
              · simp only [Act.put, List.setIfInBounds_toArray, List.set_cons_zero, List.set_cons_succ, i64_w, i32_w]
                rfl
              refine pure_ (i := 2) (N := some 18) (v := ?_) (a' := ?_) #[true, true, true, false, false, false, false, false, false, false, false, false, false] rfl rfl (any_of HT_.out (by kernel_rfl)) (fun _ _ _ h => h) (Or.inl ⟨by rfl, ?_⟩) ?_ ?_
              rotate_left
              · intro w'
                go_simp
                with_reducible rfl
              rotate_left
              · simp only [Act.put, List.setIfInBounds_toArray, List.set_cons_zero, List.set_cons_succ, i64_w, i32_w]
                rfl
              refine pure_ (i := 3) (N := some 19) (v := ?_) (a' := ?_) #[true, true, true, true, false, false, false, false, false, false, false, false, false] rfl rfl (any_of HT_.out (by kernel_rfl)) (fun _ _ _ h => h) (Or.inl ⟨by rfl, ?_⟩) ?_ ?_
              rotate_left
              · intro w'
                go_simp
                with_reducible rfl
              rotate_left
              · simp only [Act.put, List.setIfInBounds_toArray, List.set_cons_zero, List.set_cons_succ, i64_w, i32_w]
                rfl
              refine pure_ (i := 5) (N := some 21) (v := ?_) (a' := ?_) #[true, true, true, true, false, true, false, false, false, false, false, false, false] rfl rfl (any_of HT_.out (by kernel_rfl)) (fun _ _ _ h => h) (Or.inl ⟨by rfl, ?_⟩) ?_ ?_
              rotate_left
              · intro w'
                go_simp
                with_reducible rfl
              rotate_left
              · simp only [Act.put, List.setIfInBounds_toArray, List.set_cons_zero, List.set_cons_succ, i64_w, i32_w]
                rfl
              refine pure_ (i := 6) (N := some 22) (v := ?_) (a' := ?_) #[true, true, true, true, false, true, true, false, false, false, false, false, false] rfl rfl (any_of HT_.out (by kernel_rfl)) (fun _ _ _ h => h) (Or.inl ⟨by rfl, ?_⟩) ?_ ?_
              rotate_left
              · intro w'
                go_simp
                with_reducible rfl
              rotate_left
              · simp only [Act.put, List.setIfInBounds_toArray, List.set_cons_zero, List.set_cons_succ, i64_w, i32_w]
                rfl
              refine pure_ (i := 7) (N := some 23) (v := ?_) (a' := ?_) #[true, true, true, true, false, true, true, true, false, false, false, false, false] rfl rfl (any_of HT_.out (by kernel_rfl)) (fun _ _ _ h => h) (Or.inl ⟨by rfl, ?_⟩) ?_ ?_
              rotate_left
              · intro w'
                go_simp
                with_reducible rfl
              rotate_left
              · simp only [Act.put, List.setIfInBounds_toArray, List.set_cons_zero, List.set_cons_succ, i64_w, i32_w]
                rfl
              refine take_ (i := 8) (N := some 24) (v := ?_) (a' := ?_) #[true, true, true, true, false, true, true, true, true, false, false, false, false] rfl rfl (take_ofW HT_.out HW_.out (by kernel_rfl)) (fun _ _ _ h => h) (Or.inl ⟨by rfl, ?_⟩) hHeld ?_ ?_
              rotate_left
              · intro w' s0
                go_simp
                with_reducible rfl
              rotate_left
              · simp only [Act.put, List.setIfInBounds_toArray, List.set_cons_zero, List.set_cons_succ, i64_w, i32_w]
                rfl
              refine one_ (i := 4) (N := some 20) #[true, true, true, true, true, true, true, true, true, false, false, false, false] rfl rfl (one_of HT_.out (by kernel_rfl)) (by decide) (fun K hK => ?_)
              refine goes_ Try.func44 (by kernel_rfl) rfl #[.string a0, .int .i64 a1, .int .i64 x9_1] (by rfl) rfl rfl (by (try simp only [List.map_toArray, List.map_cons, List.map_nil]); first | done | rfl | (simp only [List.length_drop, List.length_take]; rfl)) ?_
              with_reducible refine (mootref03_Secret.calls a0 a1 x9_1 t462 _ A7.out).mono ?_
              rintro e w14 ⟨rfl, hb⟩
              have HS0_ := (hb.cell (World.block_lt_of_cell? _ _ (hHeld))).trans (hHeld)
              refine ⟨_, rfl, ?_⟩
              have n0_ := Aside0.mk (Kd.R_below (by (with_reducible repeat (first | apply Kd.R_alloc | apply Kd.R_drewN | apply Kd.R_drew)); exact HO_7.out) hb)
              have n1_ := Aside0.mk (Kd.R_below (by (with_reducible repeat (first | apply Kd.R_alloc | apply Kd.R_drewN | apply Kd.R_drew)); exact HO_8.out) hb)
              have n2_ := Aside0.mk (below_step (by repeat (first | (with_reducible first | exact HB.out | apply below_alloc | apply pw_below_drewN | apply below_drew1) | exact HB.out)) hb)
              clear HO_7
              clear HO_8
              clear HB
              have HO_7 := n0_
              have HO_8 := n1_
              have HB := n2_
              clear n0_ n1_ n2_
              (try clear hb)
              (try clear hb2)
              (try clear hk)
              (try clear hi)
              refine hK.out _ _ (HS0_) (fun hHeld => ?_)
              clear hK K
              refine norm_ (a' := ?_) ?_ ?_
              rotate_left
              · show Act.put _ (some 20) _ = _
                simp only [Act.put, List.setIfInBounds_toArray, List.set_cons_zero, List.set_cons_succ, i64_w, i32_w]
                rfl
              refine one_ (i := 9) (N := some 25) #[true, true, true, true, true, true, true, true, true, true, false, false, false] rfl rfl (one_of HT_.out (by kernel_rfl)) (by decide) (fun K hK => ?_)
              refine goes_ Try.func42 (by kernel_rfl) rfl #[.string t462, .int .i64 (rd t459 x9_1)] (by rfl) rfl rfl (by (try simp only [List.map_toArray, List.map_cons, List.map_nil]); first | done | rfl | (simp only [List.length_drop, List.length_take]; rfl)) ?_
              with_reducible refine (mootref03_Chain.calls t462 (rd t459 x9_1) t464 _ A10.out).mono ?_
              rintro e w15 ⟨rfl, hb⟩
              have HS0_ := (hb.cell (World.block_lt_of_cell? _ _ (hHeld))).trans (hHeld)
              refine ⟨_, rfl, ?_⟩
              have n0_ := Aside0.mk (Kd.R_below (by (with_reducible repeat (first | apply Kd.R_alloc | apply Kd.R_drewN | apply Kd.R_drew)); exact HO_7.out) hb)
              have n1_ := Aside0.mk (Kd.R_below (by (with_reducible repeat (first | apply Kd.R_alloc | apply Kd.R_drewN | apply Kd.R_drew)); exact HO_8.out) hb)
              have n2_ := Aside0.mk (below_step (by repeat (first | (with_reducible first | exact HB.out | apply below_alloc | apply pw_below_drewN | apply below_drew1) | exact HB.out)) hb)
              clear HO_7
              clear HO_8
              clear HB
              have HO_7 := n0_
              have HO_8 := n1_
              have HB := n2_
              clear n0_ n1_ n2_
              (try clear hb)
              (try clear hb2)
              (try clear hk)
              (try clear hi)
              refine hK.out _ _ (HS0_) (fun hHeld => ?_)
              clear hK K
              refine norm_ (a' := ?_) ?_ ?_
              rotate_left
              · show Act.put _ (some 25) _ = _
                simp only [Act.put, List.setIfInBounds_toArray, List.set_cons_zero, List.set_cons_succ, i64_w, i32_w]
                rfl
              refine last_ (i := 10) (N := some 26) #[true, true, true, true, true, true, true, true, true, true, true, false, false] rfl rfl (one_of HT_.out (by kernel_rfl)) (by decide) (fun K hK => ?_)
              refine value_ (w1 := ?_) (v := ?_) (by rfl) rfl ?_ ?_
              rotate_left 2
              · go_simp
                constructor
                · rfl
                · rfl
              refine hK.out _ _ ?_
              clear hK K
              refine norm_ (a' := ?_) ?_ ?_
              rotate_left
              · show Act.put _ (some 26) _ = _
                simp only [Act.put, List.setIfInBounds_toArray, List.set_cons_zero, List.set_cons_succ, i64_w, i32_w]
                rfl
              refine last_ (i := 11) (N := some 27) #[true, true, true, true, true, true, true, true, true, true, true, true, false] rfl rfl (one_of HT_.out (by kernel_rfl)) (by decide) (fun K hK => ?_)
              refine Kd.R_append_step Kd.string (w0 := w) w.heap.size (by rfl) (.tmp 16) (.tmp 26) 36 9 (.string ⟨#[]⟩) 16 rfl Try.underlying36 info9 rfl (by decide) (by omega) u8 x8_1 t464 [.string t464] (fun _ => True) (fun _ => False) rfl rfl ?aP (fun _ hk => hk.elim) ?aF ?aO ?aB ?aS ?aL ?_
              (case aP => exact rfl)
              (case aB => exact (by repeat (first | (with_reducible first | exact HB.out | apply below_alloc | apply pw_below_drewN | apply below_drew1) | exact HB.out)))
              (case aF => exact (fun _ _ => trivial))
              (case aO => exact (by (with_reducible repeat (first | apply Kd.R_alloc | apply Kd.R_drewN | apply Kd.R_drew)); exact HO_8.out))
              (case aS => exact (below_size (by repeat (first | (with_reducible first | exact HB.out | apply below_alloc | apply pw_below_drewN | apply below_drew1) | exact HB.out))))
              (case aL => have := LMc11.out; omega)
              intro v466 w16 ho hb hg hat
              rw [← Ny465.out] at ho
              have n0_ := Aside0.mk (Kd.R_over' (by (with_reducible repeat (first | apply Kd.R_alloc | apply Kd.R_drewN | apply Kd.R_drew)); exact HO_7.out) (Kd.R_typed (by (with_reducible repeat (first | apply Kd.R_alloc | apply Kd.R_drewN | apply Kd.R_drew)); exact HO_8.out)) (by decide) hg)
              have n1_ := Aside0.mk (hb)
              have n2_ := Aside0.mk (ho)
              clear HO_7
              clear HB
              clear HO_8
              have HO_7 := n0_
              have HB := n1_
              have HO467 := n2_
              clear n0_ n1_ n2_
              clear ho hb hg hat
              refine hK.out _ _ ?_
              clear hK K
              refine norm_ (a' := ?_) ?_ ?_
              rotate_left
              · show Act.put _ (some 27) _ = _
                simp only [Act.put, List.setIfInBounds_toArray, List.set_cons_zero, List.set_cons_succ, i64_w, i32_w]
                rfl
              refine pure_ (i := 12) (N := some 8) (v := ?_) (a' := ?_) #[true, true, true, true, true, true, true, true, true, true, true, true, true] rfl rfl (any_of HT_.out (by kernel_rfl)) (fun _ _ _ h => h) (Or.inl ⟨by rfl, ?_⟩) ?_ ?_
              rotate_left
              · intro w'
                go_simp
                with_reducible rfl
              rotate_left
              · simp only [Act.put, List.setIfInBounds_toArray, List.set_cons_zero, List.set_cons_succ, i64_w, i32_w]
                rfl
              refine done_ (done_of HT_.out (by kernel_rfl)) ?_
              try go_wp2
              go_roundg k1
              case measure => have := HK1.out; omega
              case rel => exact ⟨(y465), (wrap64 (x9_1 + 1)), (by first | rfl | (simp; done) | (simp [*]; done)), H', ⟨by have := HK1.out; omega⟩, ⟨by (with_reducible repeat (first | apply Kd.R_alloc | apply Kd.R_drewN | apply Kd.R_drew)); exact HO_7.out⟩, ⟨by (with_reducible repeat (first | apply Kd.R_alloc | apply Kd.R_drewN | apply Kd.R_drew)); exact HO467.out⟩, ⟨by repeat (first | (with_reducible first | exact HB.out | apply below_alloc | apply pw_below_drewN | apply below_drew1) | exact HB.out)⟩⟩
            · rw [if_neg c11] at H
              exact absurd H (by simp)
          · rw [if_neg c9] at H
            exact absurd H (by simp)
        · rw [if_neg c8] at H
          exact absurd H (by simp)
      · rw [if_neg c6] at H
        have c6b0 : decide (x9_1 < 11) = false := decide_eq_false c6
        clear c6
        obtain rfl := Option.some.inj H
        go_wp2
        go_ret
        exact ⟨_, by first | rfl | (simp [errW_none, errW_some] <;> rfl) | (simp [*, errW_none, errW_some] <;> rfl), by (with_reducible repeat (first | apply Kd.R_alloc | apply Kd.R_drewN | apply Kd.R_drew)); exact HO_8.out, by repeat (first | (with_reducible first | exact HB.out | apply below_alloc | apply pw_below_drewN | apply below_drew1) | exact HB.out)⟩

end Go.Proofs.Ytclmikbbjhdplaa.X
