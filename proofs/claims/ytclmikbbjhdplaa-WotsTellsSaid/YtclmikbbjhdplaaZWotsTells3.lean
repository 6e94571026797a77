/- Texts of this session joined into one: XF13, QWots, XF21, XF22, QEnds, XF47, QRefWots, PureWotsTells. -/
import Derived.Test.YtclmikbbjhdplaaZWotsTells1
import Derived.Test.YtclmikbbjhdplaaZWotsTells2
-- Written by a program of this session (a turn of the kit's print with contracts by hand). Not trusted: Lean checks it.
namespace Go.Proofs.Ytclmikbbjhdplaa.X
open Go.RowKit Go.Proofs.YtclmikbbjhdplaaW.PrintWords Go.Proofs.YtclmikbbjhdplaaW.PrintLast Go.Proofs.YtclmikbbjhdplaaW.PrintMore
attribute [local go_sem] max2_int min2_int max_two min_two max_three min_three max_four min_four   -- for this text's walks alone
set_option linter.unusedVariables false
set_option linter.unusedSimpArgs false

/-! ### mootlaw03_WotsTells: function 13 -/
def mootlaw03_WotsTells.f (k : Nat) (l0 : List Int) (a1 : ByteArray) (a2 : Int) (a3 : ByteArray) (a4 : Int) (a5 : Int) : Option (Bool) := (wots_Parts.f l0).bind fun t443 => ((mootref03_Parts.f k l0).bind fun t446 => ((mootplain_Ints.f k t443 t446).bind fun t449 => (if t449 = true then ((wots_Chain.f a1 a2).bind fun t450 => ((mootref03_Chain.f a1 a2).bind fun t451 => (if t450.toList = t451.toList then ((wots_Secret.f a3 a4 a5).bind fun t452 => ((mootref03_Secret.f a3 a4 a5).bind fun t453 => (if t452.toList = t453.toList then ((wots_Leaf.f k a3 a4).bind fun t454 => ((mootref03_Leaf.f k a3 a4).bind fun t455 => (if t454.toList = t455.toList then ((mootlaw03_alive.f).bind fun t456 => (some t456)) else (some false)))) else (some false)))) else (some false)))) else (some false))))
theorem mootlaw03_WotsTells.mono : ∀ a0 a1 a2 a3 a4 a5 k, LeO (mootlaw03_WotsTells.f k a0 a1 a2 a3 a4 a5) (mootlaw03_WotsTells.f (k + 1) a0 a1 a2 a3 a4 a5) := by
  intro a0 a1 a2 a3 a4 a5 k
  unfold mootlaw03_WotsTells.f
  repeat' first
      | (with_reducible exact mootplain_Ints.mono _ _ _)
      | (with_reducible exact mootref03_Leaf.mono _ _ _)
      | (with_reducible exact mootref03_Parts.mono _ _)
      | (with_reducible exact wots_Leaf.mono _ _ _)
      | (with_reducible exact LeO.refl _)
      | (with_reducible exact LeO.none _)
      | (with_reducible refine LeO.ite ?_ ?_)
      | (with_reducible refine LeO.bind ?_ (fun _ => ?_))
      | exact mootplain_Ints.mono _ _ _
      | exact mootref03_Leaf.mono _ _ _
      | exact mootref03_Parts.mono _ _
      | exact wots_Leaf.mono _ _ _
      | exact LeO.none _
      | refine LeO.ite ?_ ?_
      | refine LeO.bind ?_ (fun _ => ?_)
set_option maxHeartbeats 8000000 in
set_option maxRecDepth 100000 in
theorem mootlaw03_WotsTells.calls (k : Nat) (A0 : Option Addr) (c0 : Nat) (l0 : List Int) (a1 : ByteArray) (a2 : Int) (a3 : ByteArray) (a4 : Int) (a5 : Int) (r : Bool) (w : World) (hr0 : Kd.C (Kd.int .u8) w A0 l0.length l0) (hc0 : l0.length ≤ c0) (h : mootlaw03_WotsTells.f k l0 a1 a2 a3 a4 a5 = some r) :
    Calls Try.prog 13 #[.slice A0 l0.length c0, .string a1, .int .i64 a2, .string a3, .int .i64 a4, .int .i64 a5] w fun e w' => e = .returned (.bool r) ∧ Below w.heap.size w w' := by
  have HR0 := Aside0.mk hr0
  have HC0 := Aside0.mk hc0
  clear hr0 hc0
  have HB := Aside0.mk (Below.refl w.heap.size w)
  have H : ((wots_Parts.f l0).bind fun t443 => ((mootref03_Parts.f k l0).bind fun t446 => ((mootplain_Ints.f k t443 t446).bind fun t449 => (if t449 = true then ((wots_Chain.f a1 a2).bind fun t450 => ((mootref03_Chain.f a1 a2).bind fun t451 => (if t450.toList = t451.toList then ((wots_Secret.f a3 a4 a5).bind fun t452 => ((mootref03_Secret.f a3 a4 a5).bind fun t453 => (if t452.toList = t453.toList then ((wots_Leaf.f k a3 a4).bind fun t454 => ((mootref03_Leaf.f k a3 a4).bind fun t455 => (if t454.toList = t455.toList then ((mootlaw03_alive.f).bind fun t456 => (some t456)) else (some false)))) else (some false)))) else (some false)))) else (some false))))) = some r := h
  clear h
  replace H := Option.bind_eq_some_iff.mp H
  obtain ⟨t443, A70, H⟩ := H
  replace H : ((mootref03_Parts.f k l0).bind fun t446 => ((mootplain_Ints.f k t443 t446).bind fun t449 => (if t449 = true then ((wots_Chain.f a1 a2).bind fun t450 => ((mootref03_Chain.f a1 a2).bind fun t451 => (if t450.toList = t451.toList then ((wots_Secret.f a3 a4 a5).bind fun t452 => ((mootref03_Secret.f a3 a4 a5).bind fun t453 => (if t452.toList = t453.toList then ((wots_Leaf.f k a3 a4).bind fun t454 => ((mootref03_Leaf.f k a3 a4).bind fun t455 => (if t454.toList = t455.toList then ((mootlaw03_alive.f).bind fun t456 => (some t456)) else (some false)))) else (some false)))) else (some false)))) else (some false)))) = some r := H
  have A7 := Aside0.mk A70
  clear A70
  replace H := Option.bind_eq_some_iff.mp H
  obtain ⟨t446, A80, H⟩ := H
  replace H : ((mootplain_Ints.f k t443 t446).bind fun t449 => (if t449 = true then ((wots_Chain.f a1 a2).bind fun t450 => ((mootref03_Chain.f a1 a2).bind fun t451 => (if t450.toList = t451.toList then ((wots_Secret.f a3 a4 a5).bind fun t452 => ((mootref03_Secret.f a3 a4 a5).bind fun t453 => (if t452.toList = t453.toList then ((wots_Leaf.f k a3 a4).bind fun t454 => ((mootref03_Leaf.f k a3 a4).bind fun t455 => (if t454.toList = t455.toList then ((mootlaw03_alive.f).bind fun t456 => (some t456)) else (some false)))) else (some false)))) else (some false)))) else (some false))) = some r := H
  have A8 := Aside0.mk A80
  clear A80
  replace H := Option.bind_eq_some_iff.mp H
  obtain ⟨t449, A90, H⟩ := H
  replace H : (if t449 = true then ((wots_Chain.f a1 a2).bind fun t450 => ((mootref03_Chain.f a1 a2).bind fun t451 => (if t450.toList = t451.toList then ((wots_Secret.f a3 a4 a5).bind fun t452 => ((mootref03_Secret.f a3 a4 a5).bind fun t453 => (if t452.toList = t453.toList then ((wots_Leaf.f k a3 a4).bind fun t454 => ((mootref03_Leaf.f k a3 a4).bind fun t455 => (if t454.toList = t455.toList then ((mootlaw03_alive.f).bind fun t456 => (some t456)) else (some false)))) else (some false)))) else (some false)))) else (some false)) = some r := H
  have A9 := Aside0.mk A90
  clear A90
  by_cases c10 : t449 = true
  · subst c10
    have H1 : ((wots_Chain.f a1 a2).bind fun t450 => ((mootref03_Chain.f a1 a2).bind fun t451 => (if t450.toList = t451.toList then ((wots_Secret.f a3 a4 a5).bind fun t452 => ((mootref03_Secret.f a3 a4 a5).bind fun t453 => (if t452.toList = t453.toList then ((wots_Leaf.f k a3 a4).bind fun t454 => ((mootref03_Leaf.f k a3 a4).bind fun t455 => (if t454.toList = t455.toList then ((mootlaw03_alive.f).bind fun t456 => (some t456)) else (some false)))) else (some false)))) else (some false)))) = some r := by rw [if_pos rfl] at H; exact H
    clear H
    have H := H1
    clear H1
    replace H := Option.bind_eq_some_iff.mp H
    obtain ⟨t450, A110, H⟩ := H
    replace H : ((mootref03_Chain.f a1 a2).bind fun t451 => (if t450.toList = t451.toList then ((wots_Secret.f a3 a4 a5).bind fun t452 => ((mootref03_Secret.f a3 a4 a5).bind fun t453 => (if t452.toList = t453.toList then ((wots_Leaf.f k a3 a4).bind fun t454 => ((mootref03_Leaf.f k a3 a4).bind fun t455 => (if t454.toList = t455.toList then ((mootlaw03_alive.f).bind fun t456 => (some t456)) else (some false)))) else (some false)))) else (some false))) = some r := H
    have A11 := Aside0.mk A110
    clear A110
    replace H := Option.bind_eq_some_iff.mp H
    obtain ⟨t451, A120, H⟩ := H
    replace H : (if t450.toList = t451.toList then ((wots_Secret.f a3 a4 a5).bind fun t452 => ((mootref03_Secret.f a3 a4 a5).bind fun t453 => (if t452.toList = t453.toList then ((wots_Leaf.f k a3 a4).bind fun t454 => ((mootref03_Leaf.f k a3 a4).bind fun t455 => (if t454.toList = t455.toList then ((mootlaw03_alive.f).bind fun t456 => (some t456)) else (some false)))) else (some false)))) else (some false)) = some r := H
    have A12 := Aside0.mk A120
    clear A120
    by_cases c13 : t450.toList = t451.toList
    · rw [if_pos c13] at H
      have c13b0 : (t450.toList == t451.toList) = true := beq_iff_eq.mpr c13
      have c13b1 : (t450.toList != t451.toList) = false := bne_eq_false_iff_eq.mpr c13
      clear c13
      replace H := Option.bind_eq_some_iff.mp H
      obtain ⟨t452, A140, H⟩ := H
      replace H : ((mootref03_Secret.f a3 a4 a5).bind fun t453 => (if t452.toList = t453.toList then ((wots_Leaf.f k a3 a4).bind fun t454 => ((mootref03_Leaf.f k a3 a4).bind fun t455 => (if t454.toList = t455.toList then ((mootlaw03_alive.f).bind fun t456 => (some t456)) else (some false)))) else (some false))) = some r := H
      have A14 := Aside0.mk A140
      clear A140
      replace H := Option.bind_eq_some_iff.mp H
      obtain ⟨t453, A150, H⟩ := H
      replace H : (if t452.toList = t453.toList then ((wots_Leaf.f k a3 a4).bind fun t454 => ((mootref03_Leaf.f k a3 a4).bind fun t455 => (if t454.toList = t455.toList then ((mootlaw03_alive.f).bind fun t456 => (some t456)) else (some false)))) else (some false)) = some r := H
      have A15 := Aside0.mk A150
      clear A150
      by_cases c16 : t452.toList = t453.toList
      · rw [if_pos c16] at H
        have c16b0 : (t452.toList == t453.toList) = true := beq_iff_eq.mpr c16
        have c16b1 : (t452.toList != t453.toList) = false := bne_eq_false_iff_eq.mpr c16
        clear c16
        replace H := Option.bind_eq_some_iff.mp H
        obtain ⟨t454, A170, H⟩ := H
        replace H : ((mootref03_Leaf.f k a3 a4).bind fun t455 => (if t454.toList = t455.toList then ((mootlaw03_alive.f).bind fun t456 => (some t456)) else (some false))) = some r := H
        have A17 := Aside0.mk A170
        clear A170
        replace H := Option.bind_eq_some_iff.mp H
        obtain ⟨t455, A180, H⟩ := H
        replace H : (if t454.toList = t455.toList then ((mootlaw03_alive.f).bind fun t456 => (some t456)) else (some false)) = some r := H
        have A18 := Aside0.mk A180
        clear A180
        by_cases c19 : t454.toList = t455.toList
        · rw [if_pos c19] at H
          have c19b0 : (t454.toList == t455.toList) = true := beq_iff_eq.mpr c19
          have c19b1 : (t454.toList != t455.toList) = false := bne_eq_false_iff_eq.mpr c19
          clear c19
          replace H := Option.bind_eq_some_iff.mp H
          obtain ⟨t456, A200, H⟩ := H
          replace H : (some t456) = some r := H
          have A20 := Aside0.mk A200
          clear A200
          obtain rfl := Option.some.inj H
          go_enter Try.func13, Try.ntmps13
          go_wp2_with (first | ((with_reducible refine gate_callee (f := 38) rfl ?_); refine goesL_ (some 14) rfl rfl Try.func38 (by kernel_rfl) rfl #[.slice A0 l0.length c0] rfl (by (try simp only [List.map_toArray, List.map_cons, List.map_nil]); first | done | rfl | (simp only [List.length_drop, List.length_take]; rfl)) ?_; (with_reducible refine (wots_Parts.calls _ _ l0 t443 _ ?side1 ?side2 A7.out).mono ?_); (case side1 => repeat (first | exact HR0.out | (with_reducible refine Kd.C_alloc ?_ _) | (with_reducible refine Kd.C_drewN ?_ _) | (with_reducible refine Kd.C_drew ?_))); (case side2 => exact HC0.out); rintro e w21 ⟨v444, rfl, ho0, hb⟩; refine ⟨_, rfl, ?_⟩; have n0_ := Aside0.mk (Kd.R_lower ho0 (below_size (by repeat (first | (with_reducible first | exact HB.out | apply below_alloc | apply pw_below_drewN | apply below_drew1) | exact HB.out)))); have n1_ := Aside0.mk (below_step (by repeat (first | (with_reducible first | exact HB.out | apply below_alloc | apply pw_below_drewN | apply below_drew1) | exact HB.out)) hb); clear HB; have HO445 := n0_; have HB := n1_; clear n0_ n1_; (try clear hb); (try clear hb2); (try clear hk); (try clear hi); (try clear ho0)) | ((with_reducible refine gate_callee (f := 41) rfl ?_); refine goesL_ (some 16) rfl rfl Try.func41 (by kernel_rfl) rfl #[.slice A0 l0.length c0] rfl (by (try simp only [List.map_toArray, List.map_cons, List.map_nil]); first | done | rfl | (simp only [List.length_drop, List.length_take]; rfl)) ?_; (with_reducible refine (mootref03_Parts.calls k _ _ l0 t446 _ ?side1 ?side2 A8.out).mono ?_); (case side1 => repeat (first | exact (Kd.C_below HR0.out HB.out) | (with_reducible refine Kd.C_alloc ?_ _) | (with_reducible refine Kd.C_drewN ?_ _) | (with_reducible refine Kd.C_drew ?_))); (case side2 => exact HC0.out); rintro e w22 ⟨v447, rfl, ho0, hb⟩; refine ⟨_, rfl, ?_⟩; have n0_ := Aside0.mk (Kd.R_elder' (by (with_reducible repeat (first | apply Kd.R_alloc | apply Kd.R_drewN | apply Kd.R_drew)); exact HO445.out) (Kd.R_base ho0) hb); have n1_ := Aside0.mk (Kd.R_lower (Kd.R_new' ho0 (Kd.R_lt (by (with_reducible repeat (first | apply Kd.R_alloc | apply Kd.R_drewN | apply Kd.R_drew)); exact HO445.out))) (below_size (by repeat (first | (with_reducible first | exact HB.out | apply below_alloc | apply pw_below_drewN | apply below_drew1) | exact HB.out)))); have n2_ := Aside0.mk (below_step (by repeat (first | (with_reducible first | exact HB.out | apply below_alloc | apply pw_below_drewN | apply below_drew1) | exact HB.out)) hb); clear HO445; clear HB; have HO445 := n0_; have HO448 := n1_; have HB := n2_; clear n0_ n1_ n2_; (try clear hb); (try clear hb2); (try clear hk); (try clear hi); (try clear ho0); obtain ⟨Ao23, co23, eo23⟩ := Kd.R_slice HO445.out; subst eo23; obtain ⟨Ao24, co24, eo24⟩ := Kd.R_slice HO448.out; subst eo24) | ((with_reducible refine gate_callee (f := 40) rfl ?_); refine goesL_ (some 17) rfl rfl Try.func40 (by kernel_rfl) rfl #[.slice Ao23 t443.length co23, .slice Ao24 t446.length co24] rfl (by (try simp only [List.map_toArray, List.map_cons, List.map_nil]); first | done | rfl | (simp only [List.length_drop, List.length_take]; rfl)) ?_; (with_reducible refine (mootplain_Ints.calls k _ _ t443 _ _ t446 true _ ?side1 ?side2 ?side3 ?side4 A9.out).mono ?_); (case side1 => repeat (first | exact (Kd.R_reads' HO445.out).2.2 | (with_reducible refine Kd.C_alloc ?_ _) | (with_reducible refine Kd.C_drewN ?_ _) | (with_reducible refine Kd.C_drew ?_))); (case side2 => exact (Kd.R_reads' HO445.out).2.1); (case side3 => repeat (first | exact (Kd.R_reads' HO448.out).2.2 | (with_reducible refine Kd.C_alloc ?_ _) | (with_reducible refine Kd.C_drewN ?_ _) | (with_reducible refine Kd.C_drew ?_))); (case side4 => exact (Kd.R_reads' HO448.out).2.1); rintro e w' ⟨rfl, ⟨nd, rfl⟩⟩; refine ⟨_, rfl, ?_⟩) | (go_at_call 39; (with_reducible refine (wots_Chain.calls a1 a2 t450 _ A11.out).mono ?_); rintro e w25 ⟨rfl, hb⟩; have n0_ := Aside0.mk (Kd.R_below (by (with_reducible repeat (first | apply Kd.R_alloc | apply Kd.R_drewN | apply Kd.R_drew)); exact HO445.out) hb); have n1_ := Aside0.mk (Kd.R_below (by (with_reducible repeat (first | apply Kd.R_alloc | apply Kd.R_drewN | apply Kd.R_drew)); exact HO448.out) hb); have n2_ := Aside0.mk (below_step (by repeat (first | (with_reducible first | exact HB.out | apply below_alloc | apply pw_below_drewN | apply below_drew1) | exact HB.out)) hb); clear HO445; clear HO448; clear HB; have HO445 := n0_; have HO448 := n1_; have HB := n2_; clear n0_ n1_ n2_; (try clear hb); (try clear hb2); (try clear hk); (try clear hi)) | (go_at_call 42; (with_reducible refine (mootref03_Chain.calls a1 a2 t451 _ A12.out).mono ?_); rintro e w26 ⟨rfl, hb⟩; have n0_ := Aside0.mk (Kd.R_below (by (with_reducible repeat (first | apply Kd.R_alloc | apply Kd.R_drewN | apply Kd.R_drew)); exact HO445.out) hb); have n1_ := Aside0.mk (Kd.R_below (by (with_reducible repeat (first | apply Kd.R_alloc | apply Kd.R_drewN | apply Kd.R_drew)); exact HO448.out) hb); have n2_ := Aside0.mk (below_step (by repeat (first | (with_reducible first | exact HB.out | apply below_alloc | apply pw_below_drewN | apply below_drew1) | exact HB.out)) hb); clear HO445; clear HO448; clear HB; have HO445 := n0_; have HO448 := n1_; have HB := n2_; clear n0_ n1_ n2_; (try clear hb); (try clear hb2); (try clear hk); (try clear hi)) | (go_at_call 43; (with_reducible refine (wots_Secret.calls a3 a4 a5 t452 _ A14.out).mono ?_); rintro e w27 ⟨rfl, hb⟩; have n0_ := Aside0.mk (Kd.R_below (by (with_reducible repeat (first | apply Kd.R_alloc | apply Kd.R_drewN | apply Kd.R_drew)); exact HO445.out) hb); have n1_ := Aside0.mk (Kd.R_below (by (with_reducible repeat (first | apply Kd.R_alloc | apply Kd.R_drewN | apply Kd.R_drew)); exact HO448.out) hb); have n2_ := Aside0.mk (below_step (by repeat (first | (with_reducible first | exact HB.out | apply below_alloc | apply pw_below_drewN | apply below_drew1) | exact HB.out)) hb); clear HO445; clear HO448; clear HB; have HO445 := n0_; have HO448 := n1_; have HB := n2_; clear n0_ n1_ n2_; (try clear hb); (try clear hb2); (try clear hk); (try clear hi)) | (go_at_call 44; (with_reducible refine (mootref03_Secret.calls a3 a4 a5 t453 _ A15.out).mono ?_); rintro e w28 ⟨rfl, hb⟩; have n0_ := Aside0.mk (Kd.R_below (by (with_reducible repeat (first | apply Kd.R_alloc | apply Kd.R_drewN | apply Kd.R_drew)); exact HO445.out) hb); have n1_ := Aside0.mk (Kd.R_below (by (with_reducible repeat (first | apply Kd.R_alloc | apply Kd.R_drewN | apply Kd.R_drew)); exact HO448.out) hb); have n2_ := Aside0.mk (below_step (by repeat (first | (with_reducible first | exact HB.out | apply below_alloc | apply pw_below_drewN | apply below_drew1) | exact HB.out)) hb); clear HO445; clear HO448; clear HB; have HO445 := n0_; have HO448 := n1_; have HB := n2_; clear n0_ n1_ n2_; (try clear hb); (try clear hb2); (try clear hk); (try clear hi)) | (go_at_call 23; (with_reducible refine (wots_Leaf.calls k a3 a4 t454 _ A17.out).mono ?_); rintro e w29 ⟨rfl, hb⟩; have n0_ := Aside0.mk (Kd.R_below (by (with_reducible repeat (first | apply Kd.R_alloc | apply Kd.R_drewN | apply Kd.R_drew)); exact HO445.out) hb); have n1_ := Aside0.mk (Kd.R_below (by (with_reducible repeat (first | apply Kd.R_alloc | apply Kd.R_drewN | apply Kd.R_drew)); exact HO448.out) hb); have n2_ := Aside0.mk (below_step (by repeat (first | (with_reducible first | exact HB.out | apply below_alloc | apply pw_below_drewN | apply below_drew1) | exact HB.out)) hb); clear HO445; clear HO448; clear HB; have HO445 := n0_; have HO448 := n1_; have HB := n2_; clear n0_ n1_ n2_; (try clear hb); (try clear hb2); (try clear hk); (try clear hi)) | (go_at_call 45; (with_reducible refine (mootref03_Leaf.calls k a3 a4 t455 _ A18.out).mono ?_); rintro e w30 ⟨rfl, hb⟩; have n0_ := Aside0.mk (Kd.R_below (by (with_reducible repeat (first | apply Kd.R_alloc | apply Kd.R_drewN | apply Kd.R_drew)); exact HO445.out) hb); have n1_ := Aside0.mk (Kd.R_below (by (with_reducible repeat (first | apply Kd.R_alloc | apply Kd.R_drewN | apply Kd.R_drew)); exact HO448.out) hb); have n2_ := Aside0.mk (below_step (by repeat (first | (with_reducible first | exact HB.out | apply below_alloc | apply pw_below_drewN | apply below_drew1) | exact HB.out)) hb); clear HO445; clear HO448; clear HB; have HO445 := n0_; have HO448 := n1_; have HB := n2_; clear n0_ n1_ n2_; (try clear hb); (try clear hb2); (try clear hk); (try clear hi)) | (go_at_call 24; (with_reducible refine (mootlaw03_alive.calls  t456 _ A20.out).mono ?_); rintro e w31 ⟨rfl, hb⟩; have n0_ := Aside0.mk (Kd.R_below (by (with_reducible repeat (first | apply Kd.R_alloc | apply Kd.R_drewN | apply Kd.R_drew)); exact HO445.out) hb); have n1_ := Aside0.mk (Kd.R_below (by (with_reducible repeat (first | apply Kd.R_alloc | apply Kd.R_drewN | apply Kd.R_drew)); exact HO448.out) hb); have n2_ := Aside0.mk (below_step (by repeat (first | (with_reducible first | exact HB.out | apply below_alloc | apply pw_below_drewN | apply below_drew1) | exact HB.out)) hb); clear HO445; clear HO448; clear HB; have HO445 := n0_; have HO448 := n1_; have HB := n2_; clear n0_ n1_ n2_; (try clear hb); (try clear hb2); (try clear hk); (try clear hi)))
          go_ret
          exact ⟨by first | rfl | (simp [errW_none, errW_some] <;> rfl) | (simp [*, errW_none, errW_some] <;> rfl), by repeat (first | (with_reducible first | exact HB.out | apply below_alloc | apply pw_below_drewN | apply below_drew1) | exact HB.out)⟩
        · rw [if_neg c19] at H
          have c19b0 : (t454.toList == t455.toList) = false := beq_eq_false_iff_ne.mpr c19
          have c19b1 : (t454.toList != t455.toList) = true := bne_iff_ne.mpr c19
          obtain rfl := Option.some.inj H
          go_enter Try.func13, Try.ntmps13
          go_wp2_with (first | ((with_reducible refine gate_callee (f := 38) rfl ?_); refine goesL_ (some 14) rfl rfl Try.func38 (by kernel_rfl) rfl #[.slice A0 l0.length c0] rfl (by (try simp only [List.map_toArray, List.map_cons, List.map_nil]); first | done | rfl | (simp only [List.length_drop, List.length_take]; rfl)) ?_; (with_reducible refine (wots_Parts.calls _ _ l0 t443 _ ?side1 ?side2 A7.out).mono ?_); (case side1 => repeat (first | exact HR0.out | (with_reducible refine Kd.C_alloc ?_ _) | (with_reducible refine Kd.C_drewN ?_ _) | (with_reducible refine Kd.C_drew ?_))); (case side2 => exact HC0.out); rintro e w32 ⟨v444, rfl, ho0, hb⟩; refine ⟨_, rfl, ?_⟩; have n0_ := Aside0.mk (Kd.R_lower ho0 (below_size (by repeat (first | (with_reducible first | exact HB.out | apply below_alloc | apply pw_below_drewN | apply below_drew1) | exact HB.out)))); have n1_ := Aside0.mk (below_step (by repeat (first | (with_reducible first | exact HB.out | apply below_alloc | apply pw_below_drewN | apply below_drew1) | exact HB.out)) hb); clear HB; have HO445 := n0_; have HB := n1_; clear n0_ n1_; (try clear hb); (try clear hb2); (try clear hk); (try clear hi); (try clear ho0)) | ((with_reducible refine gate_callee (f := 41) rfl ?_); refine goesL_ (some 16) rfl rfl Try.func41 (by kernel_rfl) rfl #[.slice A0 l0.length c0] rfl (by (try simp only [List.map_toArray, List.map_cons, List.map_nil]); first | done | rfl | (simp only [List.length_drop, List.length_take]; rfl)) ?_; (with_reducible refine (mootref03_Parts.calls k _ _ l0 t446 _ ?side1 ?side2 A8.out).mono ?_); (case side1 => repeat (first | exact (Kd.C_below HR0.out HB.out) | (with_reducible refine Kd.C_alloc ?_ _) | (with_reducible refine Kd.C_drewN ?_ _) | (with_reducible refine Kd.C_drew ?_))); (case side2 => exact HC0.out); rintro e w33 ⟨v447, rfl, ho0, hb⟩; refine ⟨_, rfl, ?_⟩; have n0_ := Aside0.mk (Kd.R_elder' (by (with_reducible repeat (first | apply Kd.R_alloc | apply Kd.R_drewN | apply Kd.R_drew)); exact HO445.out) (Kd.R_base ho0) hb); have n1_ := Aside0.mk (Kd.R_lower (Kd.R_new' ho0 (Kd.R_lt (by (with_reducible repeat (first | apply Kd.R_alloc | apply Kd.R_drewN | apply Kd.R_drew)); exact HO445.out))) (below_size (by repeat (first | (with_reducible first | exact HB.out | apply below_alloc | apply pw_below_drewN | apply below_drew1) | exact HB.out)))); have n2_ := Aside0.mk (below_step (by repeat (first | (with_reducible first | exact HB.out | apply below_alloc | apply pw_below_drewN | apply below_drew1) | exact HB.out)) hb); clear HO445; clear HB; have HO445 := n0_; have HO448 := n1_; have HB := n2_; clear n0_ n1_ n2_; (try clear hb); (try clear hb2); (try clear hk); (try clear hi); (try clear ho0); obtain ⟨Ao34, co34, eo34⟩ := Kd.R_slice HO445.out; subst eo34; obtain ⟨Ao35, co35, eo35⟩ := Kd.R_slice HO448.out; subst eo35) | ((with_reducible refine gate_callee (f := 40) rfl ?_); refine goesL_ (some 17) rfl rfl Try.func40 (by kernel_rfl) rfl #[.slice Ao34 t443.length co34, .slice Ao35 t446.length co35] rfl (by (try simp only [List.map_toArray, List.map_cons, List.map_nil]); first | done | rfl | (simp only [List.length_drop, List.length_take]; rfl)) ?_; (with_reducible refine (mootplain_Ints.calls k _ _ t443 _ _ t446 true _ ?side1 ?side2 ?side3 ?side4 A9.out).mono ?_); (case side1 => repeat (first | exact (Kd.R_reads' HO445.out).2.2 | (with_reducible refine Kd.C_alloc ?_ _) | (with_reducible refine Kd.C_drewN ?_ _) | (with_reducible refine Kd.C_drew ?_))); (case side2 => exact (Kd.R_reads' HO445.out).2.1); (case side3 => repeat (first | exact (Kd.R_reads' HO448.out).2.2 | (with_reducible refine Kd.C_alloc ?_ _) | (with_reducible refine Kd.C_drewN ?_ _) | (with_reducible refine Kd.C_drew ?_))); (case side4 => exact (Kd.R_reads' HO448.out).2.1); rintro e w' ⟨rfl, ⟨nd, rfl⟩⟩; refine ⟨_, rfl, ?_⟩) | (go_at_call 39; (with_reducible refine (wots_Chain.calls a1 a2 t450 _ A11.out).mono ?_); rintro e w36 ⟨rfl, hb⟩; have n0_ := Aside0.mk (Kd.R_below (by (with_reducible repeat (first | apply Kd.R_alloc | apply Kd.R_drewN | apply Kd.R_drew)); exact HO445.out) hb); have n1_ := Aside0.mk (Kd.R_below (by (with_reducible repeat (first | apply Kd.R_alloc | apply Kd.R_drewN | apply Kd.R_drew)); exact HO448.out) hb); have n2_ := Aside0.mk (below_step (by repeat (first | (with_reducible first | exact HB.out | apply below_alloc | apply pw_below_drewN | apply below_drew1) | exact HB.out)) hb); clear HO445; clear HO448; clear HB; have HO445 := n0_; have HO448 := n1_; have HB := n2_; clear n0_ n1_ n2_; (try clear hb); (try clear hb2); (try clear hk); (try clear hi)) | (go_at_call 42; (with_reducible refine (mootref03_Chain.calls a1 a2 t451 _ A12.out).mono ?_); rintro e w37 ⟨rfl, hb⟩; have n0_ := Aside0.mk (Kd.R_below (by (with_reducible repeat (first | apply Kd.R_alloc | apply Kd.R_drewN | apply Kd.R_drew)); exact HO445.out) hb); have n1_ := Aside0.mk (Kd.R_below (by (with_reducible repeat (first | apply Kd.R_alloc | apply Kd.R_drewN | apply Kd.R_drew)); exact HO448.out) hb); have n2_ := Aside0.mk (below_step (by repeat (first | (with_reducible first | exact HB.out | apply below_alloc | apply pw_below_drewN | apply below_drew1) | exact HB.out)) hb); clear HO445; clear HO448; clear HB; have HO445 := n0_; have HO448 := n1_; have HB := n2_; clear n0_ n1_ n2_; (try clear hb); (try clear hb2); (try clear hk); (try clear hi)) | (go_at_call 43; (with_reducible refine (wots_Secret.calls a3 a4 a5 t452 _ A14.out).mono ?_); rintro e w38 ⟨rfl, hb⟩; have n0_ := Aside0.mk (Kd.R_below (by (with_reducible repeat (first | apply Kd.R_alloc | apply Kd.R_drewN | apply Kd.R_drew)); exact HO445.out) hb); have n1_ := Aside0.mk (Kd.R_below (by (with_reducible repeat (first | apply Kd.R_alloc | apply Kd.R_drewN | apply Kd.R_drew)); exact HO448.out) hb); have n2_ := Aside0.mk (below_step (by repeat (first | (with_reducible first | exact HB.out | apply below_alloc | apply pw_below_drewN | apply below_drew1) | exact HB.out)) hb); clear HO445; clear HO448; clear HB; have HO445 := n0_; have HO448 := n1_; have HB := n2_; clear n0_ n1_ n2_; (try clear hb); (try clear hb2); (try clear hk); (try clear hi)) | (go_at_call 44; (with_reducible refine (mootref03_Secret.calls a3 a4 a5 t453 _ A15.out).mono ?_); rintro e w39 ⟨rfl, hb⟩; have n0_ := Aside0.mk (Kd.R_below (by (with_reducible repeat (first | apply Kd.R_alloc | apply Kd.R_drewN | apply Kd.R_drew)); exact HO445.out) hb); have n1_ := Aside0.mk (Kd.R_below (by (with_reducible repeat (first | apply Kd.R_alloc | apply Kd.R_drewN | apply Kd.R_drew)); exact HO448.out) hb); have n2_ := Aside0.mk (below_step (by repeat (first | (with_reducible first | exact HB.out | apply below_alloc | apply pw_below_drewN | apply below_drew1) | exact HB.out)) hb); clear HO445; clear HO448; clear HB; have HO445 := n0_; have HO448 := n1_; have HB := n2_; clear n0_ n1_ n2_; (try clear hb); (try clear hb2); (try clear hk); (try clear hi)) | (go_at_call 23; (with_reducible refine (wots_Leaf.calls k a3 a4 t454 _ A17.out).mono ?_); rintro e w40 ⟨rfl, hb⟩; have n0_ := Aside0.mk (Kd.R_below (by (with_reducible repeat (first | apply Kd.R_alloc | apply Kd.R_drewN | apply Kd.R_drew)); exact HO445.out) hb); have n1_ := Aside0.mk (Kd.R_below (by (with_reducible repeat (first | apply Kd.R_alloc | apply Kd.R_drewN | apply Kd.R_drew)); exact HO448.out) hb); have n2_ := Aside0.mk (below_step (by repeat (first | (with_reducible first | exact HB.out | apply below_alloc | apply pw_below_drewN | apply below_drew1) | exact HB.out)) hb); clear HO445; clear HO448; clear HB; have HO445 := n0_; have HO448 := n1_; have HB := n2_; clear n0_ n1_ n2_; (try clear hb); (try clear hb2); (try clear hk); (try clear hi)) | (go_at_call 45; (with_reducible refine (mootref03_Leaf.calls k a3 a4 t455 _ A18.out).mono ?_); rintro e w41 ⟨rfl, hb⟩; have n0_ := Aside0.mk (Kd.R_below (by (with_reducible repeat (first | apply Kd.R_alloc | apply Kd.R_drewN | apply Kd.R_drew)); exact HO445.out) hb); have n1_ := Aside0.mk (Kd.R_below (by (with_reducible repeat (first | apply Kd.R_alloc | apply Kd.R_drewN | apply Kd.R_drew)); exact HO448.out) hb); have n2_ := Aside0.mk (below_step (by repeat (first | (with_reducible first | exact HB.out | apply below_alloc | apply pw_below_drewN | apply below_drew1) | exact HB.out)) hb); clear HO445; clear HO448; clear HB; have HO445 := n0_; have HO448 := n1_; have HB := n2_; clear n0_ n1_ n2_; (try clear hb); (try clear hb2); (try clear hk); (try clear hi)))
          go_ret
          exact ⟨by first | rfl | (simp [errW_none, errW_some] <;> rfl) | (simp [*, errW_none, errW_some] <;> rfl), by repeat (first | (with_reducible first | exact HB.out | apply below_alloc | apply pw_below_drewN | apply below_drew1) | exact HB.out)⟩
      · rw [if_neg c16] at H
        have c16b0 : (t452.toList == t453.toList) = false := beq_eq_false_iff_ne.mpr c16
        have c16b1 : (t452.toList != t453.toList) = true := bne_iff_ne.mpr c16
        obtain rfl := Option.some.inj H
        go_enter Try.func13, Try.ntmps13
        go_wp2_with (first | ((with_reducible refine gate_callee (f := 38) rfl ?_); refine goesL_ (some 14) rfl rfl Try.func38 (by kernel_rfl) rfl #[.slice A0 l0.length c0] rfl (by (try simp only [List.map_toArray, List.map_cons, List.map_nil]); first | done | rfl | (simp only [List.length_drop, List.length_take]; rfl)) ?_; (with_reducible refine (wots_Parts.calls _ _ l0 t443 _ ?side1 ?side2 A7.out).mono ?_); (case side1 => repeat (first | exact HR0.out | (with_reducible refine Kd.C_alloc ?_ _) | (with_reducible refine Kd.C_drewN ?_ _) | (with_reducible refine Kd.C_drew ?_))); (case side2 => exact HC0.out); rintro e w42 ⟨v444, rfl, ho0, hb⟩; refine ⟨_, rfl, ?_⟩; have n0_ := Aside0.mk (Kd.R_lower ho0 (below_size (by repeat (first | (with_reducible first | exact HB.out | apply below_alloc | apply pw_below_drewN | apply below_drew1) | exact HB.out)))); have n1_ := Aside0.mk (below_step (by repeat (first | (with_reducible first | exact HB.out | apply below_alloc | apply pw_below_drewN | apply below_drew1) | exact HB.out)) hb); clear HB; have HO445 := n0_; have HB := n1_; clear n0_ n1_; (try clear hb); (try clear hb2); (try clear hk); (try clear hi); (try clear ho0)) | ((with_reducible refine gate_callee (f := 41) rfl ?_); refine goesL_ (some 16) rfl rfl Try.func41 (by kernel_rfl) rfl #[.slice A0 l0.length c0] rfl (by (try simp only [List.map_toArray, List.map_cons, List.map_nil]); first | done | rfl | (simp only [List.length_drop, List.length_take]; rfl)) ?_; (with_reducible refine (mootref03_Parts.calls k _ _ l0 t446 _ ?side1 ?side2 A8.out).mono ?_); (case side1 => repeat (first | exact (Kd.C_below HR0.out HB.out) | (with_reducible refine Kd.C_alloc ?_ _) | (with_reducible refine Kd.C_drewN ?_ _) | (with_reducible refine Kd.C_drew ?_))); (case side2 => exact HC0.out); rintro e w43 ⟨v447, rfl, ho0, hb⟩; refine ⟨_, rfl, ?_⟩; have n0_ := Aside0.mk (Kd.R_elder' (by (with_reducible repeat (first | apply Kd.R_alloc | apply Kd.R_drewN | apply Kd.R_drew)); exact HO445.out) (Kd.R_base ho0) hb); have n1_ := Aside0.mk (Kd.R_lower (Kd.R_new' ho0 (Kd.R_lt (by (with_reducible repeat (first | apply Kd.R_alloc | apply Kd.R_drewN | apply Kd.R_drew)); exact HO445.out))) (below_size (by repeat (first | (with_reducible first | exact HB.out | apply below_alloc | apply pw_below_drewN | apply below_drew1) | exact HB.out)))); have n2_ := Aside0.mk (below_step (by repeat (first | (with_reducible first | exact HB.out | apply below_alloc | apply pw_below_drewN | apply below_drew1) | exact HB.out)) hb); clear HO445; clear HB; have HO445 := n0_; have HO448 := n1_; have HB := n2_; clear n0_ n1_ n2_; (try clear hb); (try clear hb2); (try clear hk); (try clear hi); (try clear ho0); obtain ⟨Ao44, co44, eo44⟩ := Kd.R_slice HO445.out; subst eo44; obtain ⟨Ao45, co45, eo45⟩ := Kd.R_slice HO448.out; subst eo45) | ((with_reducible refine gate_callee (f := 40) rfl ?_); refine goesL_ (some 17) rfl rfl Try.func40 (by kernel_rfl) rfl #[.slice Ao44 t443.length co44, .slice Ao45 t446.length co45] rfl (by (try simp only [List.map_toArray, List.map_cons, List.map_nil]); first | done | rfl | (simp only [List.length_drop, List.length_take]; rfl)) ?_; (with_reducible refine (mootplain_Ints.calls k _ _ t443 _ _ t446 true _ ?side1 ?side2 ?side3 ?side4 A9.out).mono ?_); (case side1 => repeat (first | exact (Kd.R_reads' HO445.out).2.2 | (with_reducible refine Kd.C_alloc ?_ _) | (with_reducible refine Kd.C_drewN ?_ _) | (with_reducible refine Kd.C_drew ?_))); (case side2 => exact (Kd.R_reads' HO445.out).2.1); (case side3 => repeat (first | exact (Kd.R_reads' HO448.out).2.2 | (with_reducible refine Kd.C_alloc ?_ _) | (with_reducible refine Kd.C_drewN ?_ _) | (with_reducible refine Kd.C_drew ?_))); (case side4 => exact (Kd.R_reads' HO448.out).2.1); rintro e w' ⟨rfl, ⟨nd, rfl⟩⟩; refine ⟨_, rfl, ?_⟩) | (go_at_call 39; (with_reducible refine (wots_Chain.calls a1 a2 t450 _ A11.out).mono ?_); rintro e w46 ⟨rfl, hb⟩; have n0_ := Aside0.mk (Kd.R_below (by (with_reducible repeat (first | apply Kd.R_alloc | apply Kd.R_drewN | apply Kd.R_drew)); exact HO445.out) hb); have n1_ := Aside0.mk (Kd.R_below (by (with_reducible repeat (first | apply Kd.R_alloc | apply Kd.R_drewN | apply Kd.R_drew)); exact HO448.out) hb); have n2_ := Aside0.mk (below_step (by repeat (first | (with_reducible first | exact HB.out | apply below_alloc | apply pw_below_drewN | apply below_drew1) | exact HB.out)) hb); clear HO445; clear HO448; clear HB; have HO445 := n0_; have HO448 := n1_; have HB := n2_; clear n0_ n1_ n2_; (try clear hb); (try clear hb2); (try clear hk); (try clear hi)) | (go_at_call 42; (with_reducible refine (mootref03_Chain.calls a1 a2 t451 _ A12.out).mono ?_); rintro e w47 ⟨rfl, hb⟩; have n0_ := Aside0.mk (Kd.R_below (by (with_reducible repeat (first | apply Kd.R_alloc | apply Kd.R_drewN | apply Kd.R_drew)); exact HO445.out) hb); have n1_ := Aside0.mk (Kd.R_below (by (with_reducible repeat (first | apply Kd.R_alloc | apply Kd.R_drewN | apply Kd.R_drew)); exact HO448.out) hb); have n2_ := Aside0.mk (below_step (by repeat (first | (with_reducible first | exact HB.out | apply below_alloc | apply pw_below_drewN | apply below_drew1) | exact HB.out)) hb); clear HO445; clear HO448; clear HB; have HO445 := n0_; have HO448 := n1_; have HB := n2_; clear n0_ n1_ n2_; (try clear hb); (try clear hb2); (try clear hk); (try clear hi)) | (go_at_call 43; (with_reducible refine (wots_Secret.calls a3 a4 a5 t452 _ A14.out).mono ?_); rintro e w48 ⟨rfl, hb⟩; have n0_ := Aside0.mk (Kd.R_below (by (with_reducible repeat (first | apply Kd.R_alloc | apply Kd.R_drewN | apply Kd.R_drew)); exact HO445.out) hb); have n1_ := Aside0.mk (Kd.R_below (by (with_reducible repeat (first | apply Kd.R_alloc | apply Kd.R_drewN | apply Kd.R_drew)); exact HO448.out) hb); have n2_ := Aside0.mk (below_step (by repeat (first | (with_reducible first | exact HB.out | apply below_alloc | apply pw_below_drewN | apply below_drew1) | exact HB.out)) hb); clear HO445; clear HO448; clear HB; have HO445 := n0_; have HO448 := n1_; have HB := n2_; clear n0_ n1_ n2_; (try clear hb); (try clear hb2); (try clear hk); (try clear hi)) | (go_at_call 44; (with_reducible refine (mootref03_Secret.calls a3 a4 a5 t453 _ A15.out).mono ?_); rintro e w49 ⟨rfl, hb⟩; have n0_ := Aside0.mk (Kd.R_below (by (with_reducible repeat (first | apply Kd.R_alloc | apply Kd.R_drewN | apply Kd.R_drew)); exact HO445.out) hb); have n1_ := Aside0.mk (Kd.R_below (by (with_reducible repeat (first | apply Kd.R_alloc | apply Kd.R_drewN | apply Kd.R_drew)); exact HO448.out) hb); have n2_ := Aside0.mk (below_step (by repeat (first | (with_reducible first | exact HB.out | apply below_alloc | apply pw_below_drewN | apply below_drew1) | exact HB.out)) hb); clear HO445; clear HO448; clear HB; have HO445 := n0_; have HO448 := n1_; have HB := n2_; clear n0_ n1_ n2_; (try clear hb); (try clear hb2); (try clear hk); (try clear hi)))
        go_ret
        exact ⟨by first | rfl | (simp [errW_none, errW_some] <;> rfl) | (simp [*, errW_none, errW_some] <;> rfl), by repeat (first | (with_reducible first | exact HB.out | apply below_alloc | apply pw_below_drewN | apply below_drew1) | exact HB.out)⟩
    · rw [if_neg c13] at H
      have c13b0 : (t450.toList == t451.toList) = false := beq_eq_false_iff_ne.mpr c13
      have c13b1 : (t450.toList != t451.toList) = true := bne_iff_ne.mpr c13
      obtain rfl := Option.some.inj H
      go_enter Try.func13, Try.ntmps13
      go_wp2_with (first | ((with_reducible refine gate_callee (f := 38) rfl ?_); refine goesL_ (some 14) rfl rfl Try.func38 (by kernel_rfl) rfl #[.slice A0 l0.length c0] rfl (by (try simp only [List.map_toArray, List.map_cons, List.map_nil]); first | done | rfl | (simp only [List.length_drop, List.length_take]; rfl)) ?_; (with_reducible refine (wots_Parts.calls _ _ l0 t443 _ ?side1 ?side2 A7.out).mono ?_); (case side1 => repeat (first | exact HR0.out | (with_reducible refine Kd.C_alloc ?_ _) | (with_reducible refine Kd.C_drewN ?_ _) | (with_reducible refine Kd.C_drew ?_))); (case side2 => exact HC0.out); rintro e w50 ⟨v444, rfl, ho0, hb⟩; refine ⟨_, rfl, ?_⟩; have n0_ := Aside0.mk (Kd.R_lower ho0 (below_size (by repeat (first | (with_reducible first | exact HB.out | apply below_alloc | apply pw_below_drewN | apply below_drew1) | exact HB.out)))); have n1_ := Aside0.mk (below_step (by repeat (first | (with_reducible first | exact HB.out | apply below_alloc | apply pw_below_drewN | apply below_drew1) | exact HB.out)) hb); clear HB; have HO445 := n0_; have HB := n1_; clear n0_ n1_; (try clear hb); (try clear hb2); (try clear hk); (try clear hi); (try clear ho0)) | ((with_reducible refine gate_callee (f := 41) rfl ?_); refine goesL_ (some 16) rfl rfl Try.func41 (by kernel_rfl) rfl #[.slice A0 l0.length c0] rfl (by (try simp only [List.map_toArray, List.map_cons, List.map_nil]); first | done | rfl | (simp only [List.length_drop, List.length_take]; rfl)) ?_; (with_reducible refine (mootref03_Parts.calls k _ _ l0 t446 _ ?side1 ?side2 A8.out).mono ?_); (case side1 => repeat (first | exact (Kd.C_below HR0.out HB.out) | (with_reducible refine Kd.C_alloc ?_ _) | (with_reducible refine Kd.C_drewN ?_ _) | (with_reducible refine Kd.C_drew ?_))); (case side2 => exact HC0.out); rintro e w51 ⟨v447, rfl, ho0, hb⟩; refine ⟨_, rfl, ?_⟩; have n0_ := Aside0.mk (Kd.R_elder' (by (with_reducible repeat (first | apply Kd.R_alloc | apply Kd.R_drewN | apply Kd.R_drew)); exact HO445.out) (Kd.R_base ho0) hb); have n1_ := Aside0.mk (Kd.R_lower (Kd.R_new' ho0 (Kd.R_lt (by (with_reducible repeat (first | apply Kd.R_alloc | apply Kd.R_drewN | apply Kd.R_drew)); exact HO445.out))) (below_size (by repeat (first | (with_reducible first | exact HB.out | apply below_alloc | apply pw_below_drewN | apply below_drew1) | exact HB.out)))); have n2_ := Aside0.mk (below_step (by repeat (first | (with_reducible first | exact HB.out | apply below_alloc | apply pw_below_drewN | apply below_drew1) | exact HB.out)) hb); clear HO445; clear HB; have HO445 := n0_; have HO448 := n1_; have HB := n2_; clear n0_ n1_ n2_; (try clear hb); (try clear hb2); (try clear hk); (try clear hi); (try clear ho0); obtain ⟨Ao52, co52, eo52⟩ := Kd.R_slice HO445.out; subst eo52; obtain ⟨Ao53, co53, eo53⟩ := Kd.R_slice HO448.out; subst eo53) | ((with_reducible refine gate_callee (f := 40) rfl ?_); refine goesL_ (some 17) rfl rfl Try.func40 (by kernel_rfl) rfl #[.slice Ao52 t443.length co52, .slice Ao53 t446.length co53] rfl (by (try simp only [List.map_toArray, List.map_cons, List.map_nil]); first | done | rfl | (simp only [List.length_drop, List.length_take]; rfl)) ?_; (with_reducible refine (mootplain_Ints.calls k _ _ t443 _ _ t446 true _ ?side1 ?side2 ?side3 ?side4 A9.out).mono ?_); (case side1 => repeat (first | exact (Kd.R_reads' HO445.out).2.2 | (with_reducible refine Kd.C_alloc ?_ _) | (with_reducible refine Kd.C_drewN ?_ _) | (with_reducible refine Kd.C_drew ?_))); (case side2 => exact (Kd.R_reads' HO445.out).2.1); (case side3 => repeat (first | exact (Kd.R_reads' HO448.out).2.2 | (with_reducible refine Kd.C_alloc ?_ _) | (with_reducible refine Kd.C_drewN ?_ _) | (with_reducible refine Kd.C_drew ?_))); (case side4 => exact (Kd.R_reads' HO448.out).2.1); rintro e w' ⟨rfl, ⟨nd, rfl⟩⟩; refine ⟨_, rfl, ?_⟩) | (go_at_call 39; (with_reducible refine (wots_Chain.calls a1 a2 t450 _ A11.out).mono ?_); rintro e w54 ⟨rfl, hb⟩; have n0_ := Aside0.mk (Kd.R_below (by (with_reducible repeat (first | apply Kd.R_alloc | apply Kd.R_drewN | apply Kd.R_drew)); exact HO445.out) hb); have n1_ := Aside0.mk (Kd.R_below (by (with_reducible repeat (first | apply Kd.R_alloc | apply Kd.R_drewN | apply Kd.R_drew)); exact HO448.out) hb); have n2_ := Aside0.mk (below_step (by repeat (first | (with_reducible first | exact HB.out | apply below_alloc | apply pw_below_drewN | apply below_drew1) | exact HB.out)) hb); clear HO445; clear HO448; clear HB; have HO445 := n0_; have HO448 := n1_; have HB := n2_; clear n0_ n1_ n2_; (try clear hb); (try clear hb2); (try clear hk); (try clear hi)) | (go_at_call 42; (with_reducible refine (mootref03_Chain.calls a1 a2 t451 _ A12.out).mono ?_); rintro e w55 ⟨rfl, hb⟩; have n0_ := Aside0.mk (Kd.R_below (by (with_reducible repeat (first | apply Kd.R_alloc | apply Kd.R_drewN | apply Kd.R_drew)); exact HO445.out) hb); have n1_ := Aside0.mk (Kd.R_below (by (with_reducible repeat (first | apply Kd.R_alloc | apply Kd.R_drewN | apply Kd.R_drew)); exact HO448.out) hb); have n2_ := Aside0.mk (below_step (by repeat (first | (with_reducible first | exact HB.out | apply below_alloc | apply pw_below_drewN | apply below_drew1) | exact HB.out)) hb); clear HO445; clear HO448; clear HB; have HO445 := n0_; have HO448 := n1_; have HB := n2_; clear n0_ n1_ n2_; (try clear hb); (try clear hb2); (try clear hk); (try clear hi)))
      go_ret
      exact ⟨by first | rfl | (simp [errW_none, errW_some] <;> rfl) | (simp [*, errW_none, errW_some] <;> rfl), by repeat (first | (with_reducible first | exact HB.out | apply below_alloc | apply pw_below_drewN | apply below_drew1) | exact HB.out)⟩
  · replace c10 := Bool.eq_false_iff.mpr c10
    subst c10
    have H1 : (some false) = some r := by rw [if_neg (show ¬ (false = true) by decide)] at H; exact H
    clear H
    have H := H1
    clear H1
    obtain rfl := Option.some.inj H
    go_enter Try.func13, Try.ntmps13
    go_wp2_with (first | ((with_reducible refine gate_callee (f := 38) rfl ?_); refine goesL_ (some 14) rfl rfl Try.func38 (by kernel_rfl) rfl #[.slice A0 l0.length c0] rfl (by (try simp only [List.map_toArray, List.map_cons, List.map_nil]); first | done | rfl | (simp only [List.length_drop, List.length_take]; rfl)) ?_; (with_reducible refine (wots_Parts.calls _ _ l0 t443 _ ?side1 ?side2 A7.out).mono ?_); (case side1 => repeat (first | exact HR0.out | (with_reducible refine Kd.C_alloc ?_ _) | (with_reducible refine Kd.C_drewN ?_ _) | (with_reducible refine Kd.C_drew ?_))); (case side2 => exact HC0.out); rintro e w56 ⟨v444, rfl, ho0, hb⟩; refine ⟨_, rfl, ?_⟩; have n0_ := Aside0.mk (Kd.R_lower ho0 (below_size (by repeat (first | (with_reducible first | exact HB.out | apply below_alloc | apply pw_below_drewN | apply below_drew1) | exact HB.out)))); have n1_ := Aside0.mk (below_step (by repeat (first | (with_reducible first | exact HB.out | apply below_alloc | apply pw_below_drewN | apply below_drew1) | exact HB.out)) hb); clear HB; have HO445 := n0_; have HB := n1_; clear n0_ n1_; (try clear hb); (try clear hb2); (try clear hk); (try clear hi); (try clear ho0)) | ((with_reducible refine gate_callee (f := 41) rfl ?_); refine goesL_ (some 16) rfl rfl Try.func41 (by kernel_rfl) rfl #[.slice A0 l0.length c0] rfl (by (try simp only [List.map_toArray, List.map_cons, List.map_nil]); first | done | rfl | (simp only [List.length_drop, List.length_take]; rfl)) ?_; (with_reducible refine (mootref03_Parts.calls k _ _ l0 t446 _ ?side1 ?side2 A8.out).mono ?_); (case side1 => repeat (first | exact (Kd.C_below HR0.out HB.out) | (with_reducible refine Kd.C_alloc ?_ _) | (with_reducible refine Kd.C_drewN ?_ _) | (with_reducible refine Kd.C_drew ?_))); (case side2 => exact HC0.out); rintro e w57 ⟨v447, rfl, ho0, hb⟩; refine ⟨_, rfl, ?_⟩; have n0_ := Aside0.mk (Kd.R_elder' (by (with_reducible repeat (first | apply Kd.R_alloc | apply Kd.R_drewN | apply Kd.R_drew)); exact HO445.out) (Kd.R_base ho0) hb); have n1_ := Aside0.mk (Kd.R_lower (Kd.R_new' ho0 (Kd.R_lt (by (with_reducible repeat (first | apply Kd.R_alloc | apply Kd.R_drewN | apply Kd.R_drew)); exact HO445.out))) (below_size (by repeat (first | (with_reducible first | exact HB.out | apply below_alloc | apply pw_below_drewN | apply below_drew1) | exact HB.out)))); have n2_ := Aside0.mk (below_step (by repeat (first | (with_reducible first | exact HB.out | apply below_alloc | apply pw_below_drewN | apply below_drew1) | exact HB.out)) hb); clear HO445; clear HB; have HO445 := n0_; have HO448 := n1_; have HB := n2_; clear n0_ n1_ n2_; (try clear hb); (try clear hb2); (try clear hk); (try clear hi); (try clear ho0); obtain ⟨Ao58, co58, eo58⟩ := Kd.R_slice HO445.out; subst eo58; obtain ⟨Ao59, co59, eo59⟩ := Kd.R_slice HO448.out; subst eo59) | ((with_reducible refine gate_callee (f := 40) rfl ?_); refine goesL_ (some 17) rfl rfl Try.func40 (by kernel_rfl) rfl #[.slice Ao58 t443.length co58, .slice Ao59 t446.length co59] rfl (by (try simp only [List.map_toArray, List.map_cons, List.map_nil]); first | done | rfl | (simp only [List.length_drop, List.length_take]; rfl)) ?_; (with_reducible refine (mootplain_Ints.calls k _ _ t443 _ _ t446 false _ ?side1 ?side2 ?side3 ?side4 A9.out).mono ?_); (case side1 => repeat (first | exact (Kd.R_reads' HO445.out).2.2 | (with_reducible refine Kd.C_alloc ?_ _) | (with_reducible refine Kd.C_drewN ?_ _) | (with_reducible refine Kd.C_drew ?_))); (case side2 => exact (Kd.R_reads' HO445.out).2.1); (case side3 => repeat (first | exact (Kd.R_reads' HO448.out).2.2 | (with_reducible refine Kd.C_alloc ?_ _) | (with_reducible refine Kd.C_drewN ?_ _) | (with_reducible refine Kd.C_drew ?_))); (case side4 => exact (Kd.R_reads' HO448.out).2.1); rintro e w' ⟨rfl, ⟨nd, rfl⟩⟩; refine ⟨_, rfl, ?_⟩))
    go_ret
    exact ⟨by first | rfl | (simp [errW_none, errW_some] <;> rfl) | (simp [*, errW_none, errW_some] <;> rfl), by repeat (first | (with_reducible first | exact HB.out | apply below_alloc | apply pw_below_drewN | apply below_drew1) | exact HB.out)⟩

/-- THE ONE PURE STATEMENT of mootlaw03_WotsTells: yours. -/
def mootlaw03_WotsTells.Pure : Prop := ∀ (l0 : List Int) (a1 : ByteArray) (a2 : Int) (a3 : ByteArray) (a4 : Int) (a5 : Int), l0.length ≤ maxLen → l0.length * 1 ≤ 140737488351232 → (∀ x ∈ l0, (Lit.int .u8 x).wf = true) → a1.size ≤ 140737488351232 → (Lit.int .i64 a2).wf = true → a3.size ≤ 140737488351232 → (Lit.int .i64 a4).wf = true → (Lit.int .i64 a5).wf = true → ∃ k, mootlaw03_WotsTells.f k l0 a1 a2 a3 a4 a5 = some true
theorem mootlaw03_WotsTells.walk (P : mootlaw03_WotsTells.Pure) (a0 : Option Addr) (len0 cap0 : Nat) (z0 : List Int) (a1 : ByteArray) (a2 : Int) (a3 : ByteArray) (a4 : Int) (a5 : Int) (w : World) (w0 : (a0 = none ∧ len0 = 0 ∧ cap0 = 0 ∧ z0 = []) ∨ ∃ x, a0 = some x ∧ len0 ≤ cap0 ∧ cap0 ≤ maxLen ∧ z0.length = cap0 ∧ (∀ i, i < z0.length → w.cell? (x.add i) = some (.int .u8 (z0.getD i 0))) ∧ ∀ n ∈ z0, (Lit.int .u8 n).wf = true) (y0 : len0 * 1 ≤ 140737488351232) (w1 : a1.size ≤ 140737488351232) (w2 : (Lit.int .i64 a2).wf = true) (w3 : a3.size ≤ 140737488351232) (w4 : (Lit.int .i64 a4).wf = true) (w5 : (Lit.int .i64 a5).wf = true) :
    Calls Try.prog 13 #[.slice a0 len0 cap0, .string a1, .int .i64 a2, .string a3, .int .i64 a4, .int .i64 a5] w fun e w' => e = .returned (.bool true) ∧ Below w.heap.size w w' := by
  obtain ⟨l0, rfl, hr0, hm0, hw0, hc0⟩ := ReadsInt.ofRowC w0
  obtain ⟨k, h⟩ := P l0 a1 a2 a3 a4 a5 hm0 y0 hw0 w1 w2 w3 w4 w5
  refine (mootlaw03_WotsTells.calls k _ _ l0 a1 a2 a3 a4 a5 true w (Kd.C_of_reads (d := (0 : Int)) (h1 := fun _ => rfl) hr0) hc0 h).mono ?_
  rintro e w' ⟨rfl, hd⟩
  exact ⟨rfl, hd⟩

end Go.Proofs.Ytclmikbbjhdplaa.X
/- One-time signatures in plain lists: digits, chains, ends. -/
namespace Go.Proofs.Ytclmikbbjhdplaa.X
open Go.RowKit Go.Proofs.YtclmikbbjhdplaaW.PrintWords Go.Proofs.YtclmikbbjhdplaaW.PrintLast Go.Proofs.YtclmikbbjhdplaaW.PrintMore
set_option linter.unusedVariables false
set_option linter.unusedSimpArgs false

theorem wraps_i64 (n : Int) (h0 : 0 ≤ n) (h1 : n < 2 ^ 63) : IntKind.i64.wrap n = n := by rw [IntKind.wrap_i64]; omega
theorem and3 (x : Int) (h0 : 0 ≤ x) (h1 : x < 9223372036854775808) : Go.bits .and .i64 x 3 = x % 4 := by
  have e := bits_mask .i64 63 (by decide) wraps_i64 2 (by decide) x h0 h1
  rw [show ((2 : Int) ^ 2 - 1) = 3 by decide, show ((2 : Int) ^ 2) = 4 by decide] at e
  exact e
/-- One digit. -/
def dg (n j : Int) : Int := n / j % 4
theorem dg_of (n : Int) (h0 : 0 ≤ n) (h1 : n < 65536) (y : Int) (j : Nat) (hj : j ≤ 14) (hy : y = (j : Int)) : Go.bits .and .i64 (shr .i64 n y) 3 = dg n (2 ^ j) := by
  subst hy
  unfold shr dg
  have h2 : min (j : Int).toNat IntKind.i64.bits = j := by
    rw [Int.toNat_natCast]
    exact Nat.min_eq_left (by have : IntKind.i64.bits = 64 := rfl; omega)
  have hp : (0 : Int) < 2 ^ j := Int.pow_pos (by omega)
  have h3 : n / 2 ^ j ≤ n := Int.ediv_le_self _ h0
  rw [h2, and3 _ (Int.ediv_nonneg h0 (by omega)) (by omega)]
def d8L (n : Int) : List Int := [dg n 16384, dg n 4096, dg n 1024, dg n 256, dg n 64, dg n 16, dg n 4, dg n 1]
def d3L (n : Int) : List Int := [dg n 16, dg n 4, dg n 1]
theorem digits8 (n : Int) (h0 : 0 ≤ n) (h1 : n < 65536) : wots_digits.f 20 n 8 = some (d8L n) := by
  have e : wots_digits.f 20 n 8 = some [Go.bits .and .i64 (shr .i64 n (wrap64 (2 * (wrap64 ((wrap64 (8 - 1)) - 0))))) 3, Go.bits .and .i64 (shr .i64 n (wrap64 (2 * (wrap64 ((wrap64 (8 - 1)) - 1))))) 3, Go.bits .and .i64 (shr .i64 n (wrap64 (2 * (wrap64 ((wrap64 (8 - 1)) - 2))))) 3, Go.bits .and .i64 (shr .i64 n (wrap64 (2 * (wrap64 ((wrap64 (8 - 1)) - 3))))) 3, Go.bits .and .i64 (shr .i64 n (wrap64 (2 * (wrap64 ((wrap64 (8 - 1)) - 4))))) 3, Go.bits .and .i64 (shr .i64 n (wrap64 (2 * (wrap64 ((wrap64 (8 - 1)) - 5))))) 3, Go.bits .and .i64 (shr .i64 n (wrap64 (2 * (wrap64 ((wrap64 (8 - 1)) - 6))))) 3, Go.bits .and .i64 (shr .i64 n (wrap64 (2 * (wrap64 ((wrap64 (8 - 1)) - 7))))) 3] := by kernel_rfl
  rw [e, dg_of n h0 h1 _ 14 (by omega) (by decide +kernel), dg_of n h0 h1 _ 12 (by omega) (by decide +kernel), dg_of n h0 h1 _ 10 (by omega) (by decide +kernel), dg_of n h0 h1 _ 8 (by omega) (by decide +kernel), dg_of n h0 h1 _ 6 (by omega) (by decide +kernel), dg_of n h0 h1 _ 4 (by omega) (by decide +kernel), dg_of n h0 h1 _ 2 (by omega) (by decide +kernel), dg_of n h0 h1 _ 0 (by omega) (by decide +kernel)]
  rfl
theorem digits3 (n : Int) (h0 : 0 ≤ n) (h1 : n < 65536) : wots_digits.f 20 n 3 = some (d3L n) := by
  have e : wots_digits.f 20 n 3 = some [Go.bits .and .i64 (shr .i64 n (wrap64 (2 * (wrap64 ((wrap64 (3 - 1)) - 0))))) 3, Go.bits .and .i64 (shr .i64 n (wrap64 (2 * (wrap64 ((wrap64 (3 - 1)) - 1))))) 3, Go.bits .and .i64 (shr .i64 n (wrap64 (2 * (wrap64 ((wrap64 (3 - 1)) - 2))))) 3] := by kernel_rfl
  rw [e, dg_of n h0 h1 _ 4 (by omega) (by decide +kernel), dg_of n h0 h1 _ 2 (by omega) (by decide +kernel), dg_of n h0 h1 _ 0 (by omega) (by decide +kernel)]
  rfl
/-- What eight digits lack. -/
def lackF (n : Int) : Int := 24 - (dg n 16384 + dg n 4096 + dg n 1024 + dg n 256 + dg n 64 + dg n 16 + dg n 4 + dg n 1)
theorem dg_range (n j : Int) : 0 ≤ dg n j ∧ dg n j ≤ 3 := by unfold dg; omega
theorem lack8 (n : Int) : lackN (d8L n) 8 = lackF n ∧ 0 ≤ lackF n ∧ lackF n ≤ 24 := by
  have r0 := dg_range n 16384
  have r1 := dg_range n 4096
  have r2 := dg_range n 1024
  have r3 := dg_range n 256
  have r4 := dg_range n 64
  have r5 := dg_range n 16
  have r6 := dg_range n 4
  have r7 := dg_range n 1
  unfold lackF
  refine ⟨?_, by omega, by omega⟩
  have e : lackN (d8L n) 8 = wrap64 (wrap64 (wrap64 (wrap64 (wrap64 (wrap64 (wrap64 (wrap64 (0 + wrap64 (3 - dg n 16384)) + wrap64 (3 - dg n 4096)) + wrap64 (3 - dg n 1024)) + wrap64 (3 - dg n 256)) + wrap64 (3 - dg n 64)) + wrap64 (3 - dg n 16)) + wrap64 (3 - dg n 4)) + wrap64 (3 - dg n 1)) := rfl
  rw [e]
  generalize dg n 16384 = a0 at *
  generalize dg n 4096 = a1 at *
  generalize dg n 1024 = a2 at *
  generalize dg n 256 = a3 at *
  generalize dg n 64 = a4 at *
  generalize dg n 16 = a5 at *
  generalize dg n 4 = a6 at *
  generalize dg n 1 = a7 at *
  rw [wrap64_id (3 - a0) (by omega) (by omega), wrap64_id (3 - a1) (by omega) (by omega), wrap64_id (3 - a2) (by omega) (by omega), wrap64_id (3 - a3) (by omega) (by omega), wrap64_id (3 - a4) (by omega) (by omega), wrap64_id (3 - a5) (by omega) (by omega), wrap64_id (3 - a6) (by omega) (by omega), wrap64_id (3 - a7) (by omega) (by omega)]
  rw [wrap64_id (0 + (3 - a0)) (by omega) (by omega), wrap64_id (0 + (3 - a0) + (3 - a1)) (by omega) (by omega), wrap64_id (0 + (3 - a0) + (3 - a1) + (3 - a2)) (by omega) (by omega), wrap64_id (0 + (3 - a0) + (3 - a1) + (3 - a2) + (3 - a3)) (by omega) (by omega), wrap64_id (0 + (3 - a0) + (3 - a1) + (3 - a2) + (3 - a3) + (3 - a4)) (by omega) (by omega), wrap64_id (0 + (3 - a0) + (3 - a1) + (3 - a2) + (3 - a3) + (3 - a4) + (3 - a5)) (by omega) (by omega), wrap64_id (0 + (3 - a0) + (3 - a1) + (3 - a2) + (3 - a3) + (3 - a4) + (3 - a5) + (3 - a6)) (by omega) (by omega), wrap64_id (0 + (3 - a0) + (3 - a1) + (3 - a2) + (3 - a3) + (3 - a4) + (3 - a5) + (3 - a6) + (3 - a7)) (by omega) (by omega)]
  omega
/-- The number of which a text's digits are. -/
def numP (l : List Int) : Int := word4 (sumL l) 0 / 65536
def partsL (l : List Int) : List Int := d8L (numP l) ++ d3L (lackF (numP l))
theorem sum_byte (l : List Int) (i : Nat) (h : i < 32) : 0 ≤ rd (sumL l) (i : Int) ∧ rd (sumL l) (i : Int) < 256 := by
  have hl := sumL_len l
  rw [rd_at (sumL l) i (by omega)]
  exact sumL_octets l _ (List.getElem_mem _)
theorem word_sum (l : List Int) : word4 (sumL l) 0 = ((rd (sumL l) 0 * 256 + rd (sumL l) 1) * 256 + rd (sumL l) 2) * 256 + rd (sumL l) 3 := by
  exact word4_join (sumL l) 0 _ _ _ _ rfl rfl rfl rfl (sum_byte l 0 (by omega)) (sum_byte l 1 (by omega)) (sum_byte l 2 (by omega)) (sum_byte l 3 (by omega))
theorem numP_eq (l : List Int) : numP l = rd (sumL l) 0 * 256 + rd (sumL l) 1 := by
  have h0 := sum_byte l 0 (by omega)
  have h1 := sum_byte l 1 (by omega)
  have h2 := sum_byte l 2 (by omega)
  have h3 := sum_byte l 3 (by omega)
  unfold numP
  rw [word_sum]
  simp only [Int.natCast_zero] at *
  have e1 : ((1 : Nat) : Int) = 1 := rfl
  have e2 : ((2 : Nat) : Int) = 2 := rfl
  have e3 : ((3 : Nat) : Int) = 3 := rfl
  rw [e1] at h1
  rw [e2] at h2
  rw [e3] at h3
  omega
theorem numP_range (l : List Int) : 0 ≤ numP l ∧ numP l < 65536 := by
  have h0 := sum_byte l 0 (by omega)
  have h1 := sum_byte l 1 (by omega)
  rw [numP_eq]
  have e0 : ((0 : Nat) : Int) = 0 := rfl
  have e1 : ((1 : Nat) : Int) = 1 := rfl
  rw [e0] at h0
  rw [e1] at h1
  omega
theorem parts_f (l : List Int) (hl : l.length ≤ 140737488355000) : wots_Parts.f l = some (partsL l) := by
  have hn := numP_range l
  have hw := word_at (sumL l) 0 (by rw [sumL_len]; omega) (by omega) (by rw [sumL_len]; omega)
  have hk := lack8 (numP l)
  have hx : 0 ≤ word4 (sumL l) 0 ∧ word4 (sumL l) 0 < 4294967296 := by unfold numP at hn; omega
  unfold wots_Parts.f
  rw [sum_f l hl, Option.bind_some, hw, Option.bind_some, if_pos hx]
  have e : word4 (sumL l) 0 / 65536 = numP l := rfl
  rw [e, digits8 _ hn.1 hn.2, Option.bind_some, show (d8L (numP l)).length = 8 from rfl, hk.1, digits3 _ hk.2.1 (by omega), Option.bind_some, if_pos ⟨rfl, rfl⟩]
  rfl
theorem partsL_len (l : List Int) : (partsL l).length = 11 := rfl
theorem partsL_range (l : List Int) : ∀ x ∈ partsL l, 0 ≤ x ∧ x ≤ 3 := by
  intro x hx
  simp only [partsL, d8L, d3L, List.cons_append, List.nil_append, List.mem_cons, List.not_mem_nil, or_false] at hx
  rcases hx with rfl | rfl | rfl | rfl | rfl | rfl | rfl | rfl | rfl | rfl | rfl <;> exact dg_range _ _
theorem partsL_at (l : List Int) (i : Nat) (h : i < 11) : 0 ≤ rd (partsL l) (i : Int) ∧ rd (partsL l) (i : Int) ≤ 3 := by
  rw [rd_at (partsL l) i (by rw [partsL_len]; exact h)]
  exact partsL_range l _ (List.getElem_mem _)
theorem chainN_add (s : ByteArray) (a : Nat) : ∀ b, chainN (chainN s a) b = chainN s (a + b)
  | 0 => rfl
  | b + 1 => by rw [chainN, chainN_add s a b, Nat.add_succ, chainN]
theorem secretB_size (s : ByteArray) (a b : Int) : (secretB s a b).size = 8 := shortB_size _
theorem chainN_size8 (s : ByteArray) (hs : s.size = 8) : ∀ n, (chainN s n).size = 8
  | 0 => hs
  | n + 1 => shortB_size _
theorem chain_f (s : ByteArray) (hs : s.size ≤ 140737488355000) (n : Nat) (hn : n ≤ 3) : wots_Chain.f s (n : Int) = some (chainN s n) := by
  unfold wots_Chain.f
  rw [if_pos hs]
  have : (mn (mx (n : Int) 0) 3).toNat = n := by unfold mn mx; split <;> split <;> omega
  rw [this]
theorem alive03 : mootlaw03_alive.f = some true := by
  unfold mootlaw03_alive.f
  rw [parts_f _ (by decide), Option.bind_some, if_pos (by rw [partsL_len]; rfl)]
  unfold wots_Secret.f
  rw [if_pos (by decide), Option.bind_some, secretB_size]
  rfl
end Go.Proofs.Ytclmikbbjhdplaa.X
-- Written by a program of this session (a turn of the kit's print with contracts by hand). Not trusted: Lean checks it.
namespace Go.Proofs.Ytclmikbbjhdplaa.X
open Go.RowKit Go.Proofs.YtclmikbbjhdplaaW.PrintWords Go.Proofs.YtclmikbbjhdplaaW.PrintLast Go.Proofs.YtclmikbbjhdplaaW.PrintMore
attribute [local go_sem] max2_int min2_int max_two min_two max_three min_three max_four min_four   -- for this text's walks alone
set_option linter.unusedVariables false
set_option linter.unusedSimpArgs false

/-! ### wots_Open: function 21 -/
def wots_Open.l0 : Nat → List ByteArray → List ByteArray → List Int → Int → Int → Option (ByteArray)
  | 0, _, _, _, _, _ => none
  | k + 1, x1, x5, x12, x13, x14 => if x14 < x13 then (if 0 ≤ x14 then (if x14 < (x12.length : Int) then (if x14 < (x1.length : Int) then (if ((rdOf ByteArray.empty x1 x14).size : Int) = 8 then ((wots_Chain.f (rdOf ByteArray.empty x1 x14) (wrap64 (3 - (rd x12 x14)))).bind fun t374 => (if x5.length < 8796093022208 then (wots_Open.l0 k x1 (x5 ++ [t374]) x12 x13 (wrap64 (x14 + 1))) else (none))) else (some (⟨#[]⟩ : ByteArray))) else (none)) else (none)) else (none)) else ((wots_ended.f k x5).bind fun t378 => (some t378))
def wots_Open.f (k : Nat) (l0 : List Int) (l1 : List ByteArray) : Option (ByteArray) := if (l1.length : Int) = 11 then ((wots_Parts.f l0).bind fun t368 => (wots_Open.l0 k l1 ([] : List ByteArray) t368 (t368.length : Int) 0)) else (some (⟨#[]⟩ : ByteArray))
theorem wots_Open.mono_l : ∀ k, (∀ y0 y1 y2 y3 y4, LeO (wots_Open.l0 k y0 y1 y2 y3 y4) (wots_Open.l0 (k + 1) y0 y1 y2 y3 y4))
  | 0 => fun _ _ _ _ _ r h => by simp [wots_Open.l0] at h
  | k + 1 => by
    have ih0 := wots_Open.mono_l k
    · intro y0 y1 y2 y3 y4
      unfold wots_Open.l0
      repeat' first
      | (with_reducible exact ih0 _ _ _ _ _)
      | (with_reducible exact wots_ended.mono _ _)
      | (with_reducible exact LeO.refl _)
      | (with_reducible exact LeO.none _)
      | (with_reducible refine LeO.ite ?_ ?_)
      | (with_reducible refine LeO.bind ?_ (fun _ => ?_))
      | exact ih0 _ _ _ _ _
      | exact wots_ended.mono _ _
      | exact LeO.none _
      | refine LeO.ite ?_ ?_
      | refine LeO.bind ?_ (fun _ => ?_)
theorem wots_Open.mono : ∀ a0 a1 k, LeO (wots_Open.f k a0 a1) (wots_Open.f (k + 1) a0 a1) := by
  intro a0 a1 k
  have ih0 := wots_Open.mono_l k
  unfold wots_Open.f
  repeat' first
      | (with_reducible exact ih0 _ _ _ _ _)
      | (with_reducible exact wots_ended.mono _ _)
      | (with_reducible exact LeO.refl _)
      | (with_reducible exact LeO.none _)
      | (with_reducible refine LeO.ite ?_ ?_)
      | (with_reducible refine LeO.bind ?_ (fun _ => ?_))
      | exact ih0 _ _ _ _ _
      | exact wots_ended.mono _ _
      | exact LeO.none _
      | refine LeO.ite ?_ ?_
      | refine LeO.bind ?_ (fun _ => ?_)
set_option maxHeartbeats 8000000 in
set_option maxRecDepth 100000 in
theorem wots_Open.calls (k : Nat) (A0 : Option Addr) (c0 : Nat) (l0 : List Int) (A1 : Option Addr) (c1 : Nat) (l1 : List ByteArray) (r : ByteArray) (w : World) (hr0 : Kd.C (Kd.int .u8) w A0 l0.length l0) (hc0 : l0.length ≤ c0) (hr1 : Kd.C Kd.string w A1 l1.length l1) (hc1 : l1.length ≤ c1) (h : wots_Open.f k l0 l1 = some r) :
    Calls Try.prog 21 #[.slice A0 l0.length c0, .slice A1 l1.length c1] w fun e w' => e = .returned (.string r) ∧ Below w.heap.size w w' := by
  have HR0 := Aside0.mk hr0
  have HC0 := Aside0.mk hc0
  clear hr0 hc0
  have HR1 := Aside0.mk hr1
  have HC1 := Aside0.mk hc1
  clear hr1 hc1
  have HB := Aside0.mk (Below.refl w.heap.size w)
  have H : (if (l1.length : Int) = 11 then ((wots_Parts.f l0).bind fun t368 => (wots_Open.l0 k l1 ([] : List ByteArray) t368 (t368.length : Int) 0)) else (some (⟨#[]⟩ : ByteArray))) = some r := h
  clear h
  by_cases c3 : (l1.length : Int) = 11
  · rw [if_pos c3] at H
    have c3b0 : ((l1.length : Int) == 11) = true := beq_iff_eq.mpr c3
    have c3b1 : ((l1.length : Int) != 11) = false := bne_eq_false_iff_eq.mpr c3
    clear c3
    replace H := Option.bind_eq_some_iff.mp H
    obtain ⟨t368, A40, H⟩ := H
    replace H : (wots_Open.l0 k l1 ([] : List ByteArray) t368 (t368.length : Int) 0) = some r := H
    have A4 := Aside0.mk A40
    clear A40
    have H' := Aside0.mk H
    clear H
    go_enter Try.func21, Try.ntmps21
    go_wp2_with (first | ((with_reducible refine gate_callee (f := 38) rfl ?_); refine goesL_ (some 12) rfl rfl Try.func38 (by kernel_rfl) rfl #[.slice A0 l0.length c0] rfl (by (try simp only [List.map_toArray, List.map_cons, List.map_nil]); first | done | rfl | (simp only [List.length_drop, List.length_take]; rfl)) ?_; (with_reducible refine (wots_Parts.calls _ _ l0 t368 _ ?side1 ?side2 A4.out).mono ?_); (case side1 => repeat (first | exact HR0.out | (with_reducible refine Kd.C_alloc ?_ _) | (with_reducible refine Kd.C_drewN ?_ _) | (with_reducible refine Kd.C_drew ?_))); (case side2 => exact HC0.out); rintro e w5 ⟨v369, rfl, ho0, hb⟩; refine ⟨_, rfl, ?_⟩; have n0_ := Aside0.mk (Kd.R_lower ho0 (below_size (by repeat (first | (with_reducible first | exact HB.out | apply below_alloc | apply pw_below_drewN | apply below_drew1) | exact HB.out)))); have n1_ := Aside0.mk (below_step (by repeat (first | (with_reducible first | exact HB.out | apply below_alloc | apply pw_below_drewN | apply below_drew1) | exact HB.out)) hb); clear HB; have HO370 := n0_; have HB := n1_; clear n0_ n1_; (try clear hb); (try clear hb2); (try clear hk); (try clear hi); (try clear ho0); obtain ⟨Ao6, co6, eo6⟩ := Kd.R_slice HO370.out; subst eo6))
    go_loopg [5, 14] k (fun kq v5 v14 w' => ∃ (x5_1 : List ByteArray) (x14_1 : Int), v14 = .int .i64 x14_1 ∧ Aside0 (wots_Open.l0 kq l1 x5_1 t368 (t368.length : Int) x14_1 = some r) ∧ Aside0 (kq ≤ k) ∧ Aside0 (Kd.R Kd.string 9 w' w.heap.size (fun _ => True) v5 x5_1) ∧ Aside0 (Kd.R (Kd.int .i64) 3 w' w.heap.size (fun _ => True) (.slice Ao6 t368.length co6) t368) ∧ Aside0 (Below w.heap.size w w'))
    case atStart => exact ⟨(([] : List ByteArray)), (0), (by first | rfl | (simp; done) | (simp [*]; done)), H', ⟨Nat.le_refl _⟩, ⟨by first | exact Kd.R_nil _ _ _ _ _ | exact Kd.N_nil _ _ _ _ _ | exact Kd.V_nil _ _ _ _ _ | exact Kd.Q_nil _ _ _ _ _ | exact Kd.S_nil _ _ _ _ _⟩, ⟨by (with_reducible repeat (first | apply Kd.R_alloc | apply Kd.R_drewN | apply Kd.R_drew)); exact HO370.out⟩, ⟨by repeat (first | (with_reducible first | exact HB.out | apply below_alloc | apply pw_below_drewN | apply below_drew1) | exact HB.out)⟩⟩
    case round =>
      clear H'
      try clear c1
      try clear c2
      try clear p2
      try clear c3
      try clear c3b0
      try clear c3b1
      obtain ⟨x5_1, x14_1, rfl, HA, HK1, HO_5, HO_12, HB⟩ := hrel
      cases gk with
      | zero => exact absurd HA.out (by simp [wots_Open.l0])
      | succ k1 =>
        have H := HA.out
        clear HA
        simp only [wots_Open.l0] at H
        by_cases c7 : x14_1 < (t368.length : Int)
        · rw [if_pos c7] at H
          have c7b0 : decide (x14_1 < (t368.length : Int)) = true := decide_eq_true c7
          clear c7
          by_cases c8 : 0 ≤ x14_1
          · rw [if_pos c8] at H
            have c8b0 : decide (0 ≤ x14_1) = true := decide_eq_true c8
            clear c8
            by_cases c9 : x14_1 < (t368.length : Int)
            · rw [if_pos c9] at H
              have c9b0 : decide (x14_1 < (t368.length : Int)) = true := decide_eq_true c9
              clear c9
              by_cases c10 : x14_1 < (l1.length : Int)
              · rw [if_pos c10] at H
                have c10b0 : decide (x14_1 < (l1.length : Int)) = true := decide_eq_true c10
                clear c10
                by_cases c11 : ((rdOf ByteArray.empty l1 x14_1).size : Int) = 8
                · rw [if_pos c11] at H
                  have c11b0 : (((rdOf ByteArray.empty l1 x14_1).size : Int) == 8) = true := beq_iff_eq.mpr c11
                  have c11b1 : (((rdOf ByteArray.empty l1 x14_1).size : Int) != 8) = false := bne_eq_false_iff_eq.mpr c11
                  clear c11
                  replace H := Option.bind_eq_some_iff.mp H
                  obtain ⟨t374, A120, H⟩ := H
                  replace H : (if x5_1.length < 8796093022208 then (wots_Open.l0 k1 l1 (x5_1 ++ [t374]) t368 (t368.length : Int) (wrap64 (x14_1 + 1))) else (none)) = some r := H
                  have A12 := Aside0.mk A120
                  clear A120
                  by_cases c13 : x5_1.length < 8796093022208
                  · rw [if_pos c13] at H
                    have LMc13 := Aside0.mk c13
                    clear c13
                    obtain ⟨y375, hy375⟩ : ∃ y_ : List ByteArray, y_ = (x5_1 ++ [t374]) := ⟨_, rfl⟩
                    replace H : (wots_Open.l0 k1 l1 y375 t368 (t368.length : Int) (wrap64 (x14_1 + 1))) = some r := by first | (rw [hy375]; with_reducible exact H) | (have H2_ := (Option.bind_some _ _).symm.trans H; rw [hy375]; with_reducible exact H2_) | (have H2_ := (Option.bind_some _ _).symm.trans H; with_reducible exact H2_) | with_reducible exact H | (rw [hy375]; exact H) | exact H
                    have Ny375 := Aside0.mk hy375
                    clear hy375
                    have H' := Aside0.mk H
                    clear H
                    have p371 : 0 ≤ (x14_1 : Int) := of_decide_eq_true (by first | (with_reducible assumption) | assumption)
                    have q371 : x14_1 < (t368.length : Int) := of_decide_eq_true (by first | (with_reducible assumption) | assumption)
                    obtain ⟨ad371, e371, hx371_0⟩ := Kd.at_int (Kd.R_reads' HO_12.out).2.2 x14_1 p371 q371
                    cases e371
                    replace p371 := eq_true p371
                    replace q371 := eq_true q371
                    have p372 : 0 ≤ (x14_1 : Int) := of_decide_eq_true (by first | (with_reducible assumption) | assumption)
                    have q372 : x14_1 < (l1.length : Int) := of_decide_eq_true (by first | (with_reducible assumption) | assumption)
                    obtain ⟨ad372, e372, hx372_0⟩ := Kd.at_string HR1.out x14_1 p372 q372
                    cases e372
                    replace hx372_0 := (HB.out.cell (World.block_lt_of_cell? w _ hx372_0)).trans hx372_0
                    replace p372 := eq_true p372
                    replace q372 := eq_true q372
                    have p373 : 0 ≤ (x14_1 : Int) := of_decide_eq_true (by first | (with_reducible assumption) | assumption)
                    have q373 : x14_1 < (l1.length : Int) := of_decide_eq_true (by first | (with_reducible assumption) | assumption)
                    obtain ⟨ad373, e373, hx373_0⟩ := Kd.at_string HR1.out x14_1 p373 q373
                    obtain rfl : ad372 = ad373 := (by injection e373)
                    replace hx373_0 := (HB.out.cell (World.block_lt_of_cell? w _ hx373_0)).trans hx373_0
                    replace p373 := eq_true p373
                    replace q373 := eq_true q373
                    go_wp2_with (first | ((with_reducible refine gate_callee (f := 39) rfl ?_); refine goesL_ (some 32) rfl rfl Try.func39 (by kernel_rfl) rfl #[.string (rdOf ByteArray.empty l1 x14_1), .int .i64 (wrap64 (3 - (rd t368 x14_1)))] rfl (by (try simp only [List.map_toArray, List.map_cons, List.map_nil]); first | done | rfl | (simp only [List.length_drop, List.length_take]; rfl)) ?_; (with_reducible refine (wots_Chain.calls (rdOf ByteArray.empty l1 x14_1) (wrap64 (3 - (rd t368 x14_1))) t374 _ A12.out).mono ?_); rintro e w14 ⟨rfl, hb⟩; refine ⟨_, rfl, ?_⟩; have n0_ := Aside0.mk (Kd.R_below (by (with_reducible repeat (first | apply Kd.R_alloc | apply Kd.R_drewN | apply Kd.R_drew)); exact HO_5.out) hb); have n1_ := Aside0.mk (Kd.R_below (by (with_reducible repeat (first | apply Kd.R_alloc | apply Kd.R_drewN | apply Kd.R_drew)); exact HO_12.out) hb); have n2_ := Aside0.mk (below_step (by repeat (first | (with_reducible first | exact HB.out | apply below_alloc | apply pw_below_drewN | apply below_drew1) | exact HB.out)) hb); clear HO_5; clear HO_12; clear HB; have HO_5 := n0_; have HO_12 := n1_; have HB := n2_; clear n0_ n1_ n2_; (try clear hb); (try clear hb2); (try clear hk); (try clear hi)) | ((with_reducible refine gate_builtin (b := .append) (xs := #[.tmp 25, .tmp 33]) rfl ?_); at_builtin; refine Kd.R_append Kd.string (w0 := w) w.heap.size rfl (.tmp 25) (.tmp 33) 36 9 (.string ⟨#[]⟩) 16 rfl Try.underlying36 info9 rfl (by decide) (by omega) u5 x5_1 t374 [.string t374] (fun _ => True) (fun _ => False) rfl rfl ?aP (fun _ hk => hk.elim) ?aF ?aO ?aB ?aS ?aL ?_; (case aP => exact rfl); (case aB => exact (by repeat (first | (with_reducible first | exact HB.out | apply below_alloc | apply pw_below_drewN | apply below_drew1) | exact HB.out))); (case aF => exact (fun _ _ => trivial)); (case aO => exact (by (with_reducible repeat (first | apply Kd.R_alloc | apply Kd.R_drewN | apply Kd.R_drew)); exact HO_5.out)); (case aS => exact (below_size (by repeat (first | (with_reducible first | exact HB.out | apply below_alloc | apply pw_below_drewN | apply below_drew1) | exact HB.out)))); (case aL => have := LMc13.out; omega); intro v376 w15 ho hb hg hat; rw [← Ny375.out] at ho; have n0_ := Aside0.mk (Kd.R_over' (by (with_reducible repeat (first | apply Kd.R_alloc | apply Kd.R_drewN | apply Kd.R_drew)); exact HO_12.out) (Kd.R_typed (by (with_reducible repeat (first | apply Kd.R_alloc | apply Kd.R_drewN | apply Kd.R_drew)); exact HO_5.out)) (by decide) hg); have n1_ := Aside0.mk (hb); have n2_ := Aside0.mk (ho); clear HO_12; clear HB; clear HO_5; have HO_12 := n0_; have HB := n1_; have HO377 := n2_; clear n0_ n1_ n2_; clear ho hb hg hat))
                    go_roundg k1
                    case measure => have := HK1.out; omega
                    case rel => exact ⟨(y375), (wrap64 (x14_1 + 1)), (by first | rfl | (simp; done) | (simp [*]; done)), H', ⟨by have := HK1.out; omega⟩, ⟨by (with_reducible repeat (first | apply Kd.R_alloc | apply Kd.R_drewN | apply Kd.R_drew)); exact HO377.out⟩, ⟨by (with_reducible repeat (first | apply Kd.R_alloc | apply Kd.R_drewN | apply Kd.R_drew)); exact HO_12.out⟩, ⟨by repeat (first | (with_reducible first | exact HB.out | apply below_alloc | apply pw_below_drewN | apply below_drew1) | exact HB.out)⟩⟩
                  · rw [if_neg c13] at H
                    exact absurd H (by simp)
                · rw [if_neg c11] at H
                  have c11b0 : (((rdOf ByteArray.empty l1 x14_1).size : Int) == 8) = false := beq_eq_false_iff_ne.mpr c11
                  have c11b1 : (((rdOf ByteArray.empty l1 x14_1).size : Int) != 8) = true := bne_iff_ne.mpr c11
                  obtain rfl := Option.some.inj H
                  have p371 : 0 ≤ (x14_1 : Int) := of_decide_eq_true (by first | (with_reducible assumption) | assumption)
                  have q371 : x14_1 < (t368.length : Int) := of_decide_eq_true (by first | (with_reducible assumption) | assumption)
                  obtain ⟨ad371, e371, hx371_0⟩ := Kd.at_int (Kd.R_reads' HO_12.out).2.2 x14_1 p371 q371
                  cases e371
                  replace p371 := eq_true p371
                  replace q371 := eq_true q371
                  have p372 : 0 ≤ (x14_1 : Int) := of_decide_eq_true (by first | (with_reducible assumption) | assumption)
                  have q372 : x14_1 < (l1.length : Int) := of_decide_eq_true (by first | (with_reducible assumption) | assumption)
                  obtain ⟨ad372, e372, hx372_0⟩ := Kd.at_string HR1.out x14_1 p372 q372
                  cases e372
                  replace hx372_0 := (HB.out.cell (World.block_lt_of_cell? w _ hx372_0)).trans hx372_0
                  replace p372 := eq_true p372
                  replace q372 := eq_true q372
                  go_wp2
                  go_ret
                  exact ⟨by first | rfl | (simp [errW_none, errW_some] <;> rfl) | (simp [*, errW_none, errW_some] <;> rfl), by repeat (first | (with_reducible first | exact HB.out | apply below_alloc | apply pw_below_drewN | apply below_drew1) | exact HB.out)⟩
              · rw [if_neg c10] at H
                exact absurd H (by simp)
            · rw [if_neg c9] at H
              exact absurd H (by simp)
          · rw [if_neg c8] at H
            exact absurd H (by simp)
        · rw [if_neg c7] at H
          have c7b0 : decide (x14_1 < (t368.length : Int)) = false := decide_eq_false c7
          clear c7
          replace H := Option.bind_eq_some_iff.mp H
          obtain ⟨t378, A160, H⟩ := H
          replace H : (some t378) = some r := H
          have A16 := Aside0.mk A160
          clear A160
          obtain rfl := Option.some.inj H
          obtain ⟨Ao17, co17, eo17⟩ := Kd.R_slice HO_5.out
          subst eo17
          go_wp2_with (first | ((with_reducible refine gate_callee (f := 51) rfl ?_); refine goesL_ (some 37) rfl rfl Try.func51 (by kernel_rfl) rfl #[.slice Ao17 x5_1.length co17] rfl (by (try simp only [List.map_toArray, List.map_cons, List.map_nil]); first | done | rfl | (simp only [List.length_drop, List.length_take]; rfl)) ?_; (with_reducible refine (wots_ended.calls k1 _ _ x5_1 t378 _ ?side1 ?side2 A16.out).mono ?_); (case side1 => repeat (first | exact (Kd.R_reads' HO_5.out).2.2 | (with_reducible refine Kd.C_alloc ?_ _) | (with_reducible refine Kd.C_drewN ?_ _) | (with_reducible refine Kd.C_drew ?_))); (case side2 => exact (Kd.R_reads' HO_5.out).2.1); rintro e w18 ⟨rfl, hb⟩; refine ⟨_, rfl, ?_⟩; have n0_ := Aside0.mk (Kd.R_below (by (with_reducible repeat (first | apply Kd.R_alloc | apply Kd.R_drewN | apply Kd.R_drew)); exact HO_5.out) hb); have n1_ := Aside0.mk (Kd.R_below (by (with_reducible repeat (first | apply Kd.R_alloc | apply Kd.R_drewN | apply Kd.R_drew)); exact HO_12.out) hb); have n2_ := Aside0.mk (below_step (by repeat (first | (with_reducible first | exact HB.out | apply below_alloc | apply pw_below_drewN | apply below_drew1) | exact HB.out)) hb); clear HO_5; clear HO_12; clear HB; have HO_5 := n0_; have HO_12 := n1_; have HB := n2_; clear n0_ n1_ n2_; (try clear hb); (try clear hb2); (try clear hk); (try clear hi)))
          go_ret
          exact ⟨by first | rfl | (simp [errW_none, errW_some] <;> rfl) | (simp [*, errW_none, errW_some] <;> rfl), by repeat (first | (with_reducible first | exact HB.out | apply below_alloc | apply pw_below_drewN | apply below_drew1) | exact HB.out)⟩
  · rw [if_neg c3] at H
    have c3b0 : ((l1.length : Int) == 11) = false := beq_eq_false_iff_ne.mpr c3
    have c3b1 : ((l1.length : Int) != 11) = true := bne_iff_ne.mpr c3
    obtain rfl := Option.some.inj H
    go_enter Try.func21, Try.ntmps21
    go_wp2
    go_ret
    exact ⟨by first | rfl | (simp [errW_none, errW_some] <;> rfl) | (simp [*, errW_none, errW_some] <;> rfl), by repeat (first | (with_reducible first | exact HB.out | apply below_alloc | apply pw_below_drewN | apply below_drew1) | exact HB.out)⟩

end Go.Proofs.Ytclmikbbjhdplaa.X
-- Written by a program of this session (a turn of the kit's print with contracts by hand). Not trusted: Lean checks it.
namespace Go.Proofs.Ytclmikbbjhdplaa.X
open Go.RowKit Go.Proofs.YtclmikbbjhdplaaW.PrintWords Go.Proofs.YtclmikbbjhdplaaW.PrintLast Go.Proofs.YtclmikbbjhdplaaW.PrintMore
attribute [local go_sem] max2_int min2_int max_two min_two max_three min_three max_four min_four   -- for this text's walks alone
set_option linter.unusedVariables false
set_option linter.unusedSimpArgs false

/-! ### wots_Sign: function 22 -/
def wots_Sign.l0 : Nat → ByteArray → Int → List ByteArray → List Int → Int → Int → Option (List ByteArray)
  | 0, _, _, _, _, _, _ => none
  | k + 1, x0, x1, x7, x11, x12, x13 => if x13 < x12 then (if 0 ≤ x13 then (if x13 < (x11.length : Int) then ((wots_Secret.f x0 x1 x13).bind fun t383 => ((wots_Chain.f t383 (rd x11 x13)).bind fun t384 => (if x7.length < 8796093022208 then (wots_Sign.l0 k x0 x1 (x7 ++ [t384]) x11 x12 (wrap64 (x13 + 1))) else (none)))) else (none)) else (none)) else (some x7)
def wots_Sign.f (k : Nat) (a0 : ByteArray) (a1 : Int) (l2 : List Int) : Option (List ByteArray) := (wots_Parts.f l2).bind fun t379 => (wots_Sign.l0 k a0 a1 ([] : List ByteArray) t379 (t379.length : Int) 0)
theorem wots_Sign.mono_l : ∀ k, (∀ y0 y1 y2 y3 y4 y5, LeO (wots_Sign.l0 k y0 y1 y2 y3 y4 y5) (wots_Sign.l0 (k + 1) y0 y1 y2 y3 y4 y5))
  | 0 => fun _ _ _ _ _ _ r h => by simp [wots_Sign.l0] at h
  | k + 1 => by
    have ih0 := wots_Sign.mono_l k
    · intro y0 y1 y2 y3 y4 y5
      unfold wots_Sign.l0
      repeat' first
      | (with_reducible exact ih0 _ _ _ _ _ _)
      | (with_reducible exact LeO.refl _)
      | (with_reducible exact LeO.none _)
      | (with_reducible refine LeO.ite ?_ ?_)
      | (with_reducible refine LeO.bind ?_ (fun _ => ?_))
      | exact ih0 _ _ _ _ _ _
      | exact LeO.none _
      | refine LeO.ite ?_ ?_
      | refine LeO.bind ?_ (fun _ => ?_)
theorem wots_Sign.mono : ∀ a0 a1 a2 k, LeO (wots_Sign.f k a0 a1 a2) (wots_Sign.f (k + 1) a0 a1 a2) := by
  intro a0 a1 a2 k
  have ih0 := wots_Sign.mono_l k
  unfold wots_Sign.f
  repeat' first
      | (with_reducible exact ih0 _ _ _ _ _ _)
      | (with_reducible exact LeO.refl _)
      | (with_reducible exact LeO.none _)
      | (with_reducible refine LeO.ite ?_ ?_)
      | (with_reducible refine LeO.bind ?_ (fun _ => ?_))
      | exact ih0 _ _ _ _ _ _
      | exact LeO.none _
      | refine LeO.ite ?_ ?_
      | refine LeO.bind ?_ (fun _ => ?_)
set_option maxHeartbeats 8000000 in
set_option maxRecDepth 100000 in
theorem wots_Sign.calls (k : Nat) (a0 : ByteArray) (a1 : Int) (A2 : Option Addr) (c2 : Nat) (l2 : List Int) (r : List ByteArray) (w : World) (hr2 : Kd.C (Kd.int .u8) w A2 l2.length l2) (hc2 : l2.length ≤ c2) (h : wots_Sign.f k a0 a1 l2 = some r) :
    Calls Try.prog 22 #[.string a0, .int .i64 a1, .slice A2 l2.length c2] w fun e w' => ∃ v0_ : Value, e = .returned (v0_) ∧ Kd.R Kd.string 9 w' w.heap.size (fun _ => True) v0_ r ∧ Below w.heap.size w w' := by
  have HR2 := Aside0.mk hr2
  have HC2 := Aside0.mk hc2
  clear hr2 hc2
  have HB := Aside0.mk (Below.refl w.heap.size w)
  have H : ((wots_Parts.f l2).bind fun t379 => (wots_Sign.l0 k a0 a1 ([] : List ByteArray) t379 (t379.length : Int) 0)) = some r := h
  clear h
  replace H := Option.bind_eq_some_iff.mp H
  obtain ⟨t379, A40, H⟩ := H
  replace H : (wots_Sign.l0 k a0 a1 ([] : List ByteArray) t379 (t379.length : Int) 0) = some r := H
  have A4 := Aside0.mk A40
  clear A40
  have H' := Aside0.mk H
  clear H
  go_enter Try.func22, Try.ntmps22
  go_wp2_with (first | ((with_reducible refine gate_callee (f := 38) rfl ?_); refine goesL_ (some 11) rfl rfl Try.func38 (by kernel_rfl) rfl #[.slice A2 l2.length c2] rfl (by (try simp only [List.map_toArray, List.map_cons, List.map_nil]); first | done | rfl | (simp only [List.length_drop, List.length_take]; rfl)) ?_; (with_reducible refine (wots_Parts.calls _ _ l2 t379 _ ?side1 ?side2 A4.out).mono ?_); (case side1 => repeat (first | exact HR2.out | (with_reducible refine Kd.C_alloc ?_ _) | (with_reducible refine Kd.C_drewN ?_ _) | (with_reducible refine Kd.C_drew ?_))); (case side2 => exact HC2.out); rintro e w5 ⟨v380, rfl, ho0, hb⟩; refine ⟨_, rfl, ?_⟩; have n0_ := Aside0.mk (Kd.R_lower ho0 (below_size (by repeat (first | (with_reducible first | exact HB.out | apply below_alloc | apply pw_below_drewN | apply below_drew1) | exact HB.out)))); have n1_ := Aside0.mk (below_step (by repeat (first | (with_reducible first | exact HB.out | apply below_alloc | apply pw_below_drewN | apply below_drew1) | exact HB.out)) hb); clear HB; have HO381 := n0_; have HB := n1_; clear n0_ n1_; (try clear hb); (try clear hb2); (try clear hk); (try clear hi); (try clear ho0); obtain ⟨Ao6, co6, eo6⟩ := Kd.R_slice HO381.out; subst eo6))
  go_loopg [7, 13] k (fun kq v7 v13 w' => ∃ (x7_1 : List ByteArray) (x13_1 : Int), v13 = .int .i64 x13_1 ∧ Aside0 (wots_Sign.l0 kq a0 a1 x7_1 t379 (t379.length : Int) x13_1 = some r) ∧ Aside0 (kq ≤ k) ∧ Aside0 (Kd.R Kd.string 9 w' w.heap.size (fun _ => True) v7 x7_1) ∧ Aside0 (Kd.R (Kd.int .i64) 3 w' w.heap.size (fun _ => True) (.slice Ao6 t379.length co6) t379) ∧ Aside0 (Below w.heap.size w w'))
  case atStart => exact ⟨(([] : List ByteArray)), (0), (by first | rfl | (simp; done) | (simp [*]; done)), H', ⟨Nat.le_refl _⟩, ⟨by first | exact Kd.R_nil _ _ _ _ _ | exact Kd.N_nil _ _ _ _ _ | exact Kd.V_nil _ _ _ _ _ | exact Kd.Q_nil _ _ _ _ _ | exact Kd.S_nil _ _ _ _ _⟩, ⟨by (with_reducible repeat (first | apply Kd.R_alloc | apply Kd.R_drewN | apply Kd.R_drew)); exact HO381.out⟩, ⟨by repeat (first | (with_reducible first | exact HB.out | apply below_alloc | apply pw_below_drewN | apply below_drew1) | exact HB.out)⟩⟩
  case round =>
    clear H'
    try clear c2
    try clear p2
    try clear c3
    obtain ⟨x7_1, x13_1, rfl, HA, HK1, HO_7, HO_11, HB⟩ := hrel
    cases gk with
    | zero => exact absurd HA.out (by simp [wots_Sign.l0])
    | succ k1 =>
      have H := HA.out
      clear HA
      simp only [wots_Sign.l0] at H
      by_cases c7 : x13_1 < (t379.length : Int)
      · rw [if_pos c7] at H
        have c7b0 : decide (x13_1 < (t379.length : Int)) = true := decide_eq_true c7
        clear c7
        by_cases c8 : 0 ≤ x13_1
        · rw [if_pos c8] at H
          have c8b0 : decide (0 ≤ x13_1) = true := decide_eq_true c8
          clear c8
          by_cases c9 : x13_1 < (t379.length : Int)
          · rw [if_pos c9] at H
            have c9b0 : decide (x13_1 < (t379.length : Int)) = true := decide_eq_true c9
            clear c9
            replace H := Option.bind_eq_some_iff.mp H
            obtain ⟨t383, A100, H⟩ := H
            replace H : ((wots_Chain.f t383 (rd t379 x13_1)).bind fun t384 => (if x7_1.length < 8796093022208 then (wots_Sign.l0 k1 a0 a1 (x7_1 ++ [t384]) t379 (t379.length : Int) (wrap64 (x13_1 + 1))) else (none))) = some r := H
            have A10 := Aside0.mk A100
            clear A100
            replace H := Option.bind_eq_some_iff.mp H
            obtain ⟨t384, A110, H⟩ := H
            replace H : (if x7_1.length < 8796093022208 then (wots_Sign.l0 k1 a0 a1 (x7_1 ++ [t384]) t379 (t379.length : Int) (wrap64 (x13_1 + 1))) else (none)) = some r := H
            have A11 := Aside0.mk A110
            clear A110
            by_cases c12 : x7_1.length < 8796093022208
            · rw [if_pos c12] at H
              have LMc12 := Aside0.mk c12
              clear c12
              obtain ⟨y385, hy385⟩ : ∃ y_ : List ByteArray, y_ = (x7_1 ++ [t384]) := ⟨_, rfl⟩
              replace H : (wots_Sign.l0 k1 a0 a1 y385 t379 (t379.length : Int) (wrap64 (x13_1 + 1))) = some r := by first | (rw [hy385]; with_reducible exact H) | (have H2_ := (Option.bind_some _ _).symm.trans H; rw [hy385]; with_reducible exact H2_) | (have H2_ := (Option.bind_some _ _).symm.trans H; with_reducible exact H2_) | with_reducible exact H | (rw [hy385]; exact H) | exact H
              have Ny385 := Aside0.mk hy385
              clear hy385
              have H' := Aside0.mk H
              clear H
              have p382 : 0 ≤ (x13_1 : Int) := of_decide_eq_true (by first | (with_reducible assumption) | assumption)
              have q382 : x13_1 < (t379.length : Int) := of_decide_eq_true (by first | (with_reducible assumption) | assumption)
              obtain ⟨ad382, e382, hx382_0⟩ := Kd.at_int (Kd.R_reads' HO_11.out).2.2 x13_1 p382 q382
              cases e382
              replace p382 := eq_true p382
              replace q382 := eq_true q382
              go_wp2_with (first | ((with_reducible refine gate_callee (f := 43) rfl ?_); refine goesL_ (some 22) rfl rfl Try.func43 (by kernel_rfl) rfl #[.string a0, .int .i64 a1, .int .i64 x13_1] rfl (by (try simp only [List.map_toArray, List.map_cons, List.map_nil]); first | done | rfl | (simp only [List.length_drop, List.length_take]; rfl)) ?_; (with_reducible refine (wots_Secret.calls a0 a1 x13_1 t383 _ A10.out).mono ?_); rintro e w13 ⟨rfl, hb⟩; refine ⟨_, rfl, ?_⟩; have n0_ := Aside0.mk (Kd.R_below (by (with_reducible repeat (first | apply Kd.R_alloc | apply Kd.R_drewN | apply Kd.R_drew)); exact HO_7.out) hb); have n1_ := Aside0.mk (Kd.R_below (by (with_reducible repeat (first | apply Kd.R_alloc | apply Kd.R_drewN | apply Kd.R_drew)); exact HO_11.out) hb); have n2_ := Aside0.mk (below_step (by repeat (first | (with_reducible first | exact HB.out | apply below_alloc | apply pw_below_drewN | apply below_drew1) | exact HB.out)) hb); clear HO_7; clear HO_11; clear HB; have HO_7 := n0_; have HO_11 := n1_; have HB := n2_; clear n0_ n1_ n2_; (try clear hb); (try clear hb2); (try clear hk); (try clear hi)) | ((with_reducible refine gate_callee (f := 39) rfl ?_); refine goesL_ (some 24) rfl rfl Try.func39 (by kernel_rfl) rfl #[.string t383, .int .i64 (rd t379 x13_1)] rfl (by (try simp only [List.map_toArray, List.map_cons, List.map_nil]); first | done | rfl | (simp only [List.length_drop, List.length_take]; rfl)) ?_; (with_reducible refine (wots_Chain.calls t383 (rd t379 x13_1) t384 _ A11.out).mono ?_); rintro e w14 ⟨rfl, hb⟩; refine ⟨_, rfl, ?_⟩; have n0_ := Aside0.mk (Kd.R_below (by (with_reducible repeat (first | apply Kd.R_alloc | apply Kd.R_drewN | apply Kd.R_drew)); exact HO_7.out) hb); have n1_ := Aside0.mk (Kd.R_below (by (with_reducible repeat (first | apply Kd.R_alloc | apply Kd.R_drewN | apply Kd.R_drew)); exact HO_11.out) hb); have n2_ := Aside0.mk (below_step (by repeat (first | (with_reducible first | exact HB.out | apply below_alloc | apply pw_below_drewN | apply below_drew1) | exact HB.out)) hb); clear HO_7; clear HO_11; clear HB; have HO_7 := n0_; have HO_11 := n1_; have HB := n2_; clear n0_ n1_ n2_; (try clear hb); (try clear hb2); (try clear hk); (try clear hi)) | ((with_reducible refine gate_builtin (b := .append) (xs := #[.tmp 18, .tmp 25]) rfl ?_); at_builtin; refine Kd.R_append Kd.string (w0 := w) w.heap.size rfl (.tmp 18) (.tmp 25) 36 9 (.string ⟨#[]⟩) 16 rfl Try.underlying36 info9 rfl (by decide) (by omega) u7 x7_1 t384 [.string t384] (fun _ => True) (fun _ => False) rfl rfl ?aP (fun _ hk => hk.elim) ?aF ?aO ?aB ?aS ?aL ?_; (case aP => exact rfl); (case aB => exact (by repeat (first | (with_reducible first | exact HB.out | apply below_alloc | apply pw_below_drewN | apply below_drew1) | exact HB.out))); (case aF => exact (fun _ _ => trivial)); (case aO => exact (by (with_reducible repeat (first | apply Kd.R_alloc | apply Kd.R_drewN | apply Kd.R_drew)); exact HO_7.out)); (case aS => exact (below_size (by repeat (first | (with_reducible first | exact HB.out | apply below_alloc | apply pw_below_drewN | apply below_drew1) | exact HB.out)))); (case aL => have := LMc12.out; omega); intro v386 w15 ho hb hg hat; rw [← Ny385.out] at ho; have n0_ := Aside0.mk (Kd.R_over' (by (with_reducible repeat (first | apply Kd.R_alloc | apply Kd.R_drewN | apply Kd.R_drew)); exact HO_11.out) (Kd.R_typed (by (with_reducible repeat (first | apply Kd.R_alloc | apply Kd.R_drewN | apply Kd.R_drew)); exact HO_7.out)) (by decide) hg); have n1_ := Aside0.mk (hb); have n2_ := Aside0.mk (ho); clear HO_11; clear HB; clear HO_7; have HO_11 := n0_; have HB := n1_; have HO387 := n2_; clear n0_ n1_ n2_; clear ho hb hg hat))
              go_roundg k1
              case measure => have := HK1.out; omega
              case rel => exact ⟨(y385), (wrap64 (x13_1 + 1)), (by first | rfl | (simp; done) | (simp [*]; done)), H', ⟨by have := HK1.out; omega⟩, ⟨by (with_reducible repeat (first | apply Kd.R_alloc | apply Kd.R_drewN | apply Kd.R_drew)); exact HO387.out⟩, ⟨by (with_reducible repeat (first | apply Kd.R_alloc | apply Kd.R_drewN | apply Kd.R_drew)); exact HO_11.out⟩, ⟨by repeat (first | (with_reducible first | exact HB.out | apply below_alloc | apply pw_below_drewN | apply below_drew1) | exact HB.out)⟩⟩
            · rw [if_neg c12] at H
              exact absurd H (by simp)
          · rw [if_neg c9] at H
            exact absurd H (by simp)
        · rw [if_neg c8] at H
          exact absurd H (by simp)
      · rw [if_neg c7] at H
        have c7b0 : decide (x13_1 < (t379.length : Int)) = false := decide_eq_false c7
        clear c7
        obtain rfl := Option.some.inj H
        go_wp2
        go_ret
        exact ⟨_, by first | rfl | (simp [errW_none, errW_some] <;> rfl) | (simp [*, errW_none, errW_some] <;> rfl), by (with_reducible repeat (first | apply Kd.R_alloc | apply Kd.R_drewN | apply Kd.R_drew)); exact HO_7.out, by repeat (first | (with_reducible first | exact HB.out | apply below_alloc | apply pw_below_drewN | apply below_drew1) | exact HB.out)⟩

end Go.Proofs.Ytclmikbbjhdplaa.X
/- Ends, leaves and signatures in plain lists. -/
namespace Go.Proofs.Ytclmikbbjhdplaa.X
open Go.RowKit Go.Proofs.YtclmikbbjhdplaaW.PrintWords Go.Proofs.YtclmikbbjhdplaaW.PrintLast Go.Proofs.YtclmikbbjhdplaaW.PrintMore
set_option linter.unusedVariables false
set_option linter.unusedSimpArgs false

/-- All texts' octets. -/
def catB (l : List ByteArray) : List Int := l.flatMap bytesOf
def endB (l : List ByteArray) : ByteArray := shortB (catB l)
theorem catB_len : ∀ l : List ByteArray, (∀ x ∈ l, x.size = 8) → (catB l).length = 8 * l.length
  | [], _ => rfl
  | x :: l, h => by
    rw [catB, List.flatMap_cons, List.length_append, bytesOf_length, h x (by simp), ← catB, catB_len l (fun y hy => h y (by simp [hy])), List.length_cons]
    omega
theorem rdOf_at (l : List ByteArray) (i : Nat) (h : i < l.length) : rdOf ByteArray.empty l (i : Int) = l[i] := by simp [rdOf, List.getD_eq_getElem?_getD, h]
theorem ended_l0 (l : List ByteArray) (hl : l.length ≤ 100) (h8 : ∀ x ∈ l, x.size = 8) : ∀ (d k i : Nat) (acc : List Int), i + d = l.length → d + 20 < k → acc.length + 8 * d ≤ 1000 →
    wots_ended.l0 k acc l (l.length : Int) (i : Int) = some (shortB (acc ++ catB (l.drop i)))
  | 0, k, i, acc, hd, hk, ha => by
    obtain ⟨k, rfl⟩ : ∃ m, k = m + 1 := ⟨k - 1, by omega⟩
    rw [wots_ended.l0, if_neg (by omega), List.drop_of_length_le (by omega), short_f' [acc] (by simp) (by rw [tot_cons]; simp [tot]; omega) k (by omega), Option.bind_some]
    simp [catB]
  | d + 1, k, i, acc, hd, hk, ha => by
    obtain ⟨k, rfl⟩ : ∃ m, k = m + 1 := ⟨k - 1, by omega⟩
    have hi : i < l.length := by omega
    have hs := h8 _ (List.getElem_mem hi)
    have hw : wrap64 ((i : Int) + 1) = ((i + 1 : Nat) : Int) := by rw [wrap64_id _ (by omega) (by omega)]; rfl
    rw [wots_ended.l0, if_pos (by omega), if_pos (by omega), if_pos (by omega), rdOf_at l i hi, if_pos (by omega), hw]
    rw [ended_l0 l hl h8 d k (i + 1) _ (by omega) (by omega) (by rw [List.length_append, bytesOf_length]; omega), List.append_assoc, List.drop_eq_getElem_cons hi]
    rfl
theorem ended_f (l : List ByteArray) (hl : l.length ≤ 100) (h8 : ∀ x ∈ l, x.size = 8) (k : Nat) (hk : l.length + 20 < k) : wots_ended.f k l = some (endB l) := by
  unfold wots_ended.f
  have := ended_l0 l hl h8 l.length k 0 [] (by omega) hk (by simp; omega)
  simpa [endB] using this
def secS (seed : ByteArray) (leaf : Int) (i : Nat) : ByteArray := secretB seed leaf (i : Int)
/-- The chains' ends. -/
def leafL (seed : ByteArray) (leaf : Int) : List ByteArray := (List.range 11).map fun i => chainN (secS seed leaf i) 3
def signL (seed : ByteArray) (leaf : Int) (d : List Int) : List ByteArray := (List.range 11).map fun i => chainN (secS seed leaf i) (rd d (i : Int)).toNat
theorem snoc_range {α : Type} (f : Nat → α) (i : Nat) : (List.range i).map f ++ [f i] = (List.range (i + 1)).map f := by rw [List.range_succ, List.map_append]; rfl
theorem secret_f (seed : ByteArray) (hs : seed.size ≤ 140737488354000) (leaf : Int) (i : Nat) : wots_Secret.f seed leaf (i : Int) = some (secS seed leaf i) := by
  unfold wots_Secret.f
  rw [if_pos hs]
  rfl
theorem secS_size (seed : ByteArray) (leaf : Int) (i : Nat) : (secS seed leaf i).size = 8 := secretB_size _ _ _
theorem leaf_l0 (seed : ByteArray) (hs : seed.size ≤ 140737488354000) (leaf : Int) : ∀ (d k i : Nat), i + d = 11 → d + 35 < k →
    wots_Leaf.l0 k seed leaf ((List.range i).map fun i => chainN (secS seed leaf i) 3) (i : Int) = some (endB (leafL seed leaf))
  | 0, k, i, hd, hk => by
    obtain ⟨k, rfl⟩ : ∃ m, k = m + 1 := ⟨k - 1, by omega⟩
    obtain rfl : i = 11 := by omega
    rw [wots_Leaf.l0, if_neg (by omega), ended_f _ (by simp) (by
      intro x hx
      simp only [List.mem_map] at hx
      obtain ⟨j, _, rfl⟩ := hx
      exact chainN_size8 _ (secS_size _ _ _) 3) k (by simp; omega), Option.bind_some]
    rfl
  | d + 1, k, i, hd, hk => by
    obtain ⟨k, rfl⟩ : ∃ m, k = m + 1 := ⟨k - 1, by omega⟩
    have hw : wrap64 ((i : Int) + 1) = ((i + 1 : Nat) : Int) := by rw [wrap64_id _ (by omega) (by omega)]; rfl
    have hc := chain_f (secS seed leaf i) (by rw [secS_size]; omega) 3 (by omega)
    have e3 : ((3 : Nat) : Int) = 3 := rfl
    rw [e3] at hc
    rw [wots_Leaf.l0, if_pos (by omega), secret_f seed hs, Option.bind_some, hc, Option.bind_some, if_pos (by simp; omega), hw, snoc_range (fun i => chainN (secS seed leaf i) 3) i]
    exact leaf_l0 seed hs leaf d k (i + 1) (by omega) (by omega)
theorem leaf_f (seed : ByteArray) (hs : seed.size ≤ 140737488354000) (leaf : Int) (k : Nat) (hk : 50 ≤ k) : wots_Leaf.f k seed leaf = some (endB (leafL seed leaf)) := by
  unfold wots_Leaf.f
  exact leaf_l0 seed hs leaf 11 k 0 (by omega) (by omega)
theorem sign_l0 (seed : ByteArray) (hs : seed.size ≤ 140737488354000) (leaf : Int) (p : List Int) (hp : p.length = 11) (hr : ∀ i : Nat, i < 11 → 0 ≤ rd p (i : Int) ∧ rd p (i : Int) ≤ 3) : ∀ (d k i : Nat), i + d = 11 → d < k →
    wots_Sign.l0 k seed leaf ((List.range i).map fun i => chainN (secS seed leaf i) (rd p (i : Int)).toNat) p (p.length : Int) (i : Int) = some (signL seed leaf p)
  | 0, k, i, hd, hk => by
    obtain ⟨k, rfl⟩ : ∃ m, k = m + 1 := ⟨k - 1, by omega⟩
    obtain rfl : i = 11 := by omega
    rw [wots_Sign.l0, if_neg (by omega)]
    rfl
  | d + 1, k, i, hd, hk => by
    obtain ⟨k, rfl⟩ : ∃ m, k = m + 1 := ⟨k - 1, by omega⟩
    have hw : wrap64 ((i : Int) + 1) = ((i + 1 : Nat) : Int) := by rw [wrap64_id _ (by omega) (by omega)]; rfl
    have hri := hr i (by omega)
    have hc := chain_f (secS seed leaf i) (by rw [secS_size]; omega) (rd p (i : Int)).toNat (by omega)
    rw [Int.toNat_of_nonneg hri.1] at hc
    rw [wots_Sign.l0, if_pos (by omega), if_pos (by omega), if_pos (by omega), secret_f seed hs, Option.bind_some, hc, Option.bind_some, if_pos (by simp; omega), hw, snoc_range (fun i => chainN (secS seed leaf i) (rd p (i : Int)).toNat) i]
    exact sign_l0 seed hs leaf p hp hr d k (i + 1) (by omega) (by omega)
theorem sign_f (seed : ByteArray) (hs : seed.size ≤ 140737488354000) (leaf : Int) (l : List Int) (hl : l.length ≤ 140737488355000) (k : Nat) (hk : 12 ≤ k) : wots_Sign.f k seed leaf l = some (signL seed leaf (partsL l)) := by
  unfold wots_Sign.f
  rw [parts_f l hl, Option.bind_some]
  exact sign_l0 seed hs leaf (partsL l) (partsL_len l) (partsL_at l) 11 k 0 (by omega) (by omega)
/-- What parts open to. -/
def openL (x : List ByteArray) (p : List Int) : List ByteArray := (List.range 11).map fun (i : Nat) => chainN (rdOf ByteArray.empty x (i : Int)) (3 - rd p (i : Int)).toNat
theorem open_l0 (x : List ByteArray) (hx : x.length = 11) (h8 : ∀ y ∈ x, y.size = 8) (p : List Int) (hp : p.length = 11) (hr : ∀ i : Nat, i < 11 → 0 ≤ rd p (i : Int) ∧ rd p (i : Int) ≤ 3) : ∀ (d k i : Nat), i + d = 11 → d + 35 < k →
    wots_Open.l0 k x ((List.range i).map fun (i : Nat) => chainN (rdOf ByteArray.empty x (i : Int)) (3 - rd p (i : Int)).toNat) p (p.length : Int) (i : Int) = some (endB (openL x p))
  | 0, k, i, hd, hk => by
    obtain ⟨k, rfl⟩ : ∃ m, k = m + 1 := ⟨k - 1, by omega⟩
    obtain rfl : i = 11 := by omega
    rw [wots_Open.l0, if_neg (by omega), ended_f _ (by simp) (by
      intro y hy
      simp only [List.mem_map, List.mem_range] at hy
      obtain ⟨j, hj, rfl⟩ := hy
      rw [rdOf_at x j (by omega)]
      exact chainN_size8 _ (h8 _ (List.getElem_mem _)) _) k (by simp; omega), Option.bind_some]
    rfl
  | d + 1, k, i, hd, hk => by
    obtain ⟨k, rfl⟩ : ∃ m, k = m + 1 := ⟨k - 1, by omega⟩
    have hw : wrap64 ((i : Int) + 1) = ((i + 1 : Nat) : Int) := by rw [wrap64_id _ (by omega) (by omega)]; rfl
    have hri := hr i (by omega)
    have hw2 : wrap64 (3 - rd p (i : Int)) = 3 - rd p (i : Int) := wrap64_id _ (by omega) (by omega)
    have hsz : (rdOf ByteArray.empty x (i : Int)).size = 8 := by rw [rdOf_at x i (by omega)]; exact h8 _ (List.getElem_mem _)
    have hc := chain_f (rdOf ByteArray.empty x (i : Int)) (by rw [hsz]; omega) (3 - rd p (i : Int)).toNat (by omega)
    rw [Int.toNat_of_nonneg (by omega)] at hc
    rw [wots_Open.l0, if_pos (by omega), if_pos (by omega), if_pos (by omega), if_pos (by omega), if_pos (by rw [hsz]; rfl), hw2, hc, Option.bind_some, if_pos (by simp; omega), hw, snoc_range (fun (i : Nat) => chainN (rdOf ByteArray.empty x (i : Int)) (3 - rd p (i : Int)).toNat) i]
    exact open_l0 x hx h8 p hp hr d k (i + 1) (by omega) (by omega)
theorem open_f (x : List ByteArray) (hx : x.length = 11) (h8 : ∀ y ∈ x, y.size = 8) (l : List Int) (hl : l.length ≤ 140737488355000) (k : Nat) (hk : 50 ≤ k) : wots_Open.f k l x = some (endB (openL x (partsL l))) := by
  unfold wots_Open.f
  rw [if_pos (by rw [hx]; rfl), parts_f l hl, Option.bind_some]
  exact open_l0 x hx h8 (partsL l) (partsL_len l) (partsL_at l) 11 k 0 (by omega) (by omega)
theorem open_sign (seed : ByteArray) (leaf : Int) (p : List Int) (hr : ∀ i : Nat, i < 11 → 0 ≤ rd p (i : Int) ∧ rd p (i : Int) ≤ 3) : openL (signL seed leaf p) p = leafL seed leaf := by
  unfold openL leafL
  refine List.map_congr_left fun i hi => ?_
  have hi := List.mem_range.mp hi
  have hri := hr i hi
  rw [rdOf_at _ i (by simp [signL]; exact hi)]
  simp only [signL, List.getElem_map, List.getElem_range]
  rw [chainN_add]
  congr 1
  omega
end Go.Proofs.Ytclmikbbjhdplaa.X
-- Written by a program of this session (a turn of the kit's print with contracts by hand). Not trusted: Lean checks it.
namespace Go.Proofs.Ytclmikbbjhdplaa.X
open Go.RowKit Go.Proofs.YtclmikbbjhdplaaW.PrintWords Go.Proofs.YtclmikbbjhdplaaW.PrintLast Go.Proofs.YtclmikbbjhdplaaW.PrintMore
attribute [local go_sem] max2_int min2_int max_two min_two max_three min_three max_four min_four   -- for this text's walks alone
set_option linter.unusedVariables false
set_option linter.unusedSimpArgs false

/-! ### mootref03_Sign: function 47 -/
def mootref03_Sign.l0 : Nat → ByteArray → Int → List Int → List ByteArray → Int → Option (List ByteArray)
  | 0, _, _, _, _, _ => none
  | k + 1, x0, x1, x7, x8, x9 => if x9 < 11 then ((mootref03_Secret.f x0 x1 x9).bind fun t462 => (if 0 ≤ x9 then (if x9 < (x7.length : Int) then ((mootref03_Chain.f t462 (rd x7 x9)).bind fun t464 => (if x8.length < 8796093022208 then (mootref03_Sign.l0 k x0 x1 x7 (x8 ++ [t464]) (wrap64 (x9 + 1))) else (none))) else (none)) else (none))) else (some x8)
def mootref03_Sign.f (k : Nat) (a0 : ByteArray) (a1 : Int) (l2 : List Int) : Option (List ByteArray) := (mootref03_Parts.f k l2).bind fun t459 => (mootref03_Sign.l0 k a0 a1 t459 ([] : List ByteArray) 0)
theorem mootref03_Sign.mono_l : ∀ k, (∀ y0 y1 y2 y3 y4, LeO (mootref03_Sign.l0 k y0 y1 y2 y3 y4) (mootref03_Sign.l0 (k + 1) y0 y1 y2 y3 y4))
  | 0 => fun _ _ _ _ _ r h => by simp [mootref03_Sign.l0] at h
  | k + 1 => by
    have ih0 := mootref03_Sign.mono_l k
    · intro y0 y1 y2 y3 y4
      unfold mootref03_Sign.l0
      repeat' first
      | (with_reducible exact ih0 _ _ _ _ _)
      | (with_reducible exact mootref03_Parts.mono _ _)
      | (with_reducible exact LeO.refl _)
      | (with_reducible exact LeO.none _)
      | (with_reducible refine LeO.ite ?_ ?_)
      | (with_reducible refine LeO.bind ?_ (fun _ => ?_))
      | exact ih0 _ _ _ _ _
      | exact mootref03_Parts.mono _ _
      | exact LeO.none _
      | refine LeO.ite ?_ ?_
      | refine LeO.bind ?_ (fun _ => ?_)
theorem mootref03_Sign.mono : ∀ a0 a1 a2 k, LeO (mootref03_Sign.f k a0 a1 a2) (mootref03_Sign.f (k + 1) a0 a1 a2) := by
  intro a0 a1 a2 k
  have ih0 := mootref03_Sign.mono_l k
  unfold mootref03_Sign.f
  repeat' first
      | (with_reducible exact ih0 _ _ _ _ _)
      | (with_reducible exact mootref03_Parts.mono _ _)
      | (with_reducible exact LeO.refl _)
      | (with_reducible exact LeO.none _)
      | (with_reducible refine LeO.ite ?_ ?_)
      | (with_reducible refine LeO.bind ?_ (fun _ => ?_))
      | exact ih0 _ _ _ _ _
      | exact mootref03_Parts.mono _ _
      | exact LeO.none _
      | refine LeO.ite ?_ ?_
      | refine LeO.bind ?_ (fun _ => ?_)
def mootref03_Sign.T6 : Bool × List (List Nat × List Nat) := (true, [([], []), ([], []), ([], []), ([], []), ([1, 2, 3], [1, 2, 3]), ([], []), ([], []), ([5, 6], [5, 6]), ([7], [7]), ([4, 8, 4], [4, 8]), ([9], [9]), ([0, 10, 9], [0, 10]), ([11, 11, 0, 1, 2, 3, 4, 5, 6, 7, 8, 9, 10, 11], [0, 11])])
def mootref03_Sign.B6 : List Nat := [0, 0, 0, 0, 14, 0, 0, 96, 224, 510, 1022, 2047, 4095]
theorem mootref03_Sign.tab6 : rtab .any (opsOf Try.f47 6) = mootref03_Sign.T6 := by kernel_rfl
theorem mootref03_Sign.bits6 : waitsOk mootref03_Sign.T6.2 mootref03_Sign.B6 = true := by kernel_rfl
set_option maxHeartbeats 8000000 in
set_option maxRecDepth 100000 in
theorem mootref03_Sign.calls (k : Nat) (a0 : ByteArray) (a1 : Int) (A2 : Option Addr) (c2 : Nat) (l2 : List Int) (r : List ByteArray) (w : World) (hr2 : Kd.C (Kd.int .u8) w A2 l2.length l2) (hc2 : l2.length ≤ c2) (h : mootref03_Sign.f k a0 a1 l2 = some r) :
    Calls Try.prog 47 #[.string a0, .int .i64 a1, .slice A2 l2.length c2] w fun e w' => ∃ v0_ : Value, e = .returned (v0_) ∧ Kd.R Kd.string 9 w' w.heap.size (fun _ => True) v0_ r ∧ Below w.heap.size w w' := by
  have HR2 := Aside0.mk hr2
  have HC2 := Aside0.mk hc2
  clear hr2 hc2
  have HB := Aside0.mk (Below.refl w.heap.size w)
  have H : ((mootref03_Parts.f k l2).bind fun t459 => (mootref03_Sign.l0 k a0 a1 t459 ([] : List ByteArray) 0)) = some r := h
  clear h
  replace H := Option.bind_eq_some_iff.mp H
  obtain ⟨t459, A40, H⟩ := H
  replace H : (mootref03_Sign.l0 k a0 a1 t459 ([] : List ByteArray) 0) = some r := H
  have A4 := Aside0.mk A40
  clear A40
  have H' := Aside0.mk H
  clear H
  go_enter Try.func47, Try.ntmps47
  go_wp2_with (first | ((with_reducible refine gate_callee (f := 41) rfl ?_); refine goesL_ (some 11) rfl rfl Try.func41 (by kernel_rfl) rfl #[.slice A2 l2.length c2] rfl (by (try simp only [List.map_toArray, List.map_cons, List.map_nil]); first | done | rfl | (simp only [List.length_drop, List.length_take]; rfl)) ?_; (with_reducible refine (mootref03_Parts.calls k _ _ l2 t459 _ ?side1 ?side2 A4.out).mono ?_); (case side1 => repeat (first | exact HR2.out | (with_reducible refine Kd.C_alloc ?_ _) | (with_reducible refine Kd.C_drewN ?_ _) | (with_reducible refine Kd.C_drew ?_))); (case side2 => exact HC2.out); rintro e w5 ⟨v460, rfl, ho0, hb⟩; refine ⟨_, rfl, ?_⟩; have n0_ := Aside0.mk (Kd.R_lower ho0 (below_size (by repeat (first | (with_reducible first | exact HB.out | apply below_alloc | apply pw_below_drewN | apply below_drew1) | exact HB.out)))); have n1_ := Aside0.mk (below_step (by repeat (first | (with_reducible first | exact HB.out | apply below_alloc | apply pw_below_drewN | apply below_drew1) | exact HB.out)) hb); clear HB; have HO461 := n0_; have HB := n1_; clear n0_ n1_; (try clear hb); (try clear hb2); (try clear hk); (try clear hi); (try clear ho0)))
  go_loopg [8, 9] k (fun kq v8 v9 w' => ∃ (x8_1 : List ByteArray) (x9_1 : Int), v9 = .int .i64 x9_1 ∧ Aside0 (mootref03_Sign.l0 kq a0 a1 t459 x8_1 x9_1 = some r) ∧ Aside0 (kq ≤ k) ∧ Aside0 (Kd.R (Kd.int .i64) 3 w' w.heap.size (fun _ => True) v460 t459) ∧ Aside0 (Kd.R Kd.string 9 w' w.heap.size (fun _ => True) v8 x8_1) ∧ Aside0 (Below w.heap.size w w'))
  case atStart => exact ⟨(([] : List ByteArray)), (0), (by first | rfl | (simp; done) | (simp [*]; done)), H', ⟨Nat.le_refl _⟩, ⟨by (with_reducible repeat (first | apply Kd.R_alloc | apply Kd.R_drewN | apply Kd.R_drew)); exact HO461.out⟩, ⟨by first | exact Kd.R_nil _ _ _ _ _ | exact Kd.N_nil _ _ _ _ _ | exact Kd.V_nil _ _ _ _ _ | exact Kd.Q_nil _ _ _ _ _ | exact Kd.S_nil _ _ _ _ _⟩, ⟨by repeat (first | (with_reducible first | exact HB.out | apply below_alloc | apply pw_below_drewN | apply below_drew1) | exact HB.out)⟩⟩
  case round =>
    clear H'
    try clear c2
    try clear p2
    try clear c4
    obtain ⟨x8_1, x9_1, rfl, HA, HK1, HO_7, HO_8, HB⟩ := hrel
    cases gk with
    | zero => exact absurd HA.out (by simp [mootref03_Sign.l0])
    | succ k1 =>
      have H := HA.out
      clear HA
      simp only [mootref03_Sign.l0] at H
      by_cases c6 : x9_1 < 11
      · rw [if_pos c6] at H
        have c6b0 : decide (x9_1 < 11) = true := decide_eq_true c6
        clear c6
        replace H := Option.bind_eq_some_iff.mp H
        obtain ⟨t462, A70, H⟩ := H
        replace H : (if 0 ≤ x9_1 then (if x9_1 < (t459.length : Int) then ((mootref03_Chain.f t462 (rd t459 x9_1)).bind fun t464 => (if x8_1.length < 8796093022208 then (mootref03_Sign.l0 k1 a0 a1 t459 (x8_1 ++ [t464]) (wrap64 (x9_1 + 1))) else (none))) else (none)) else (none)) = some r := H
        have A7 := Aside0.mk A70
        clear A70
        by_cases c8 : 0 ≤ x9_1
        · rw [if_pos c8] at H
          have c8b0 : decide (0 ≤ x9_1) = true := decide_eq_true c8
          clear c8
          by_cases c9 : x9_1 < (t459.length : Int)
          · rw [if_pos c9] at H
            have c9b0 : decide (x9_1 < (t459.length : Int)) = true := decide_eq_true c9
            clear c9
            replace H := Option.bind_eq_some_iff.mp H
            obtain ⟨t464, A100, H⟩ := H
            replace H : (if x8_1.length < 8796093022208 then (mootref03_Sign.l0 k1 a0 a1 t459 (x8_1 ++ [t464]) (wrap64 (x9_1 + 1))) else (none)) = some r := H
            have A10 := Aside0.mk A100
            clear A100
            by_cases c11 : x8_1.length < 8796093022208
            · rw [if_pos c11] at H
              have LMc11 := Aside0.mk c11
              clear c11
              obtain ⟨y465, hy465⟩ : ∃ y_ : List ByteArray, y_ = (x8_1 ++ [t464]) := ⟨_, rfl⟩
              replace H : (mootref03_Sign.l0 k1 a0 a1 t459 y465 (wrap64 (x9_1 + 1))) = some r := by first | (rw [hy465]; with_reducible exact H) | (have H2_ := (Option.bind_some _ _).symm.trans H; rw [hy465]; with_reducible exact H2_) | (have H2_ := (Option.bind_some _ _).symm.trans H; with_reducible exact H2_) | with_reducible exact H | (rw [hy465]; exact H) | exact H
              have Ny465 := Aside0.mk hy465
              clear hy465
              have H' := Aside0.mk H
              clear H
              try go_wp2
              have n0_ := Aside0.mk (Kd.R_drew HO_7.out)
              have n1_ := Aside0.mk (Kd.R_drew HO_8.out)
              have n2_ := Aside0.mk (below_drew1 HB.out)
              clear HO_7
              clear HO_8
              clear HB
              have HO_7 := n0_
              have HO_8 := n1_
              have HB := n2_
              clear n0_ n1_ n2_
              obtain ⟨Ao13, co13, eo13⟩ := Kd.R_slice HO_7.out
              (first | subst eo13 | (injection eo13 with f1_ f2_ f3_; have f4_ := f1_.symm; have f5_ := f3_.symm; clear f1_ f2_ f3_; subst f4_; subst f5_))
              have p463 : 0 ≤ (x9_1 : Int) := of_decide_eq_true (by first | (with_reducible assumption) | assumption)
              have q463 : x9_1 < (t459.length : Int) := of_decide_eq_true (by first | (with_reducible assumption) | assumption)
              obtain ⟨ad463, e463, hx463_0⟩ := Kd.at_int (Kd.R_reads' HO_7.out).2.2 x9_1 p463 q463
              cases e463
              replace p463 := eq_true p463
              replace q463 := eq_true q463
              refine start_ (n := 13) (S := fun w' => w'.cell? (ad463.add (x9_1).toNat) = some (.int .i64 (rd t459 x9_1))) (ds := [10, 11]) #[false, false, false, false, false, false, false, false, false, false, false, false, false] (by kernel_rfl) rfl rfl (hx463_0) (fun hHeld => ?_); refine with_tabW mootref03_Sign.tab6 mootref03_Sign.bits6 (fun HT_ HW_ => ?_)
              generalize wr.drew = w12 at HO_7 HO_8 HB hx463_0 hHeld ⊢
              refine pure_ (i := 0) (N := some 16) (v := ?_) (a' := ?_) #[true, false, false, false, false, false, false, false, false, false, false, false, false] rfl rfl (any_of HT_.out (by kernel_rfl)) (fun _ _ _ h => h) (Or.inl ⟨by rfl, ?_⟩) ?_ ?_
              rotate_left
              · intro w'
                go_simp
                with_reducible rfl
              rotate_left
              · simp only [Act.put, List.setIfInBounds_toArray, List.set_cons_zero, List.set_cons_succ, i64_w, i32_w]
                rfl
              refine pure_ (i := 1) (N := some 17) (v := ?_) (a' := ?_) #[true, true, false, false, false, false, false, false, false, false, false, false, false] rfl rfl (any_of HT_.out (by kernel_rfl)) (fun _ _ _ h => h) (Or.inl ⟨by rfl, ?_⟩) ?_ ?_
              rotate_left
              · intro w'
                go_simp
                with_reducible rfl
              rotate_left
              · simp only [Act.put, List.setIfInBounds_toArray, List.set_cons_zero, List.set_cons_succ, i64_w, i32_w]
                rfl
              refine pure_ (i := 2) (N := some 18) (v := ?_) (a' := ?_) #[true, true, true, false, false, false, false, false, false, false, false, false, false] rfl rfl (any_of HT_.out (by kernel_rfl)) (fun _ _ _ h => h) (Or.inl ⟨by rfl, ?_⟩) ?_ ?_
              rotate_left
              · intro w'
                go_simp
                with_reducible rfl
              rotate_left
              · simp only [Act.put, List.setIfInBounds_toArray, List.set_cons_zero, List.set_cons_succ, i64_w, i32_w]
                rfl
              refine pure_ (i := 3) (N := some 19) (v := ?_) (a' := ?_) #[true, true, true, true, false, false, false, false, false, false, false, false, false] rfl rfl (any_of HT_.out (by kernel_rfl)) (fun _ _ _ h => h) (Or.inl ⟨by rfl, ?_⟩) ?_ ?_
              rotate_left
              · intro w'
                go_simp
                with_reducible rfl
              rotate_left
              · simp only [Act.put, List.setIfInBounds_toArray, List.set_cons_zero, List.set_cons_succ, i64_w, i32_w]
                rfl
              refine pure_ (i := 5) (N := some 21) (v := ?_) (a' := ?_) #[true, true, true, true, false, true, false, false, false, false, false, false, false] rfl rfl (any_of HT_.out (by kernel_rfl)) (fun _ _ _ h => h) (Or.inl ⟨by rfl, ?_⟩) ?_ ?_
              rotate_left
              · intro w'
                go_simp
                with_reducible rfl
              rotate_left
              · simp only [Act.put, List.setIfInBounds_toArray, List.set_cons_zero, List.set_cons_succ, i64_w, i32_w]
                rfl
              refine pure_ (i := 6) (N := some 22) (v := ?_) (a' := ?_) #[true, true, true, true, false, true, true, false, false, false, false, false, false] rfl rfl (any_of HT_.out (by kernel_rfl)) (fun _ _ _ h => h) (Or.inl ⟨by rfl, ?_⟩) ?_ ?_
              rotate_left
              · intro w'
                go_simp
                with_reducible rfl
              rotate_left
              · simp only [Act.put, List.setIfInBounds_toArray, List.set_cons_zero, List.set_cons_succ, i64_w, i32_w]
                rfl
              refine pure_ (i := 7) (N := some 23) (v := ?_) (a' := ?_) #[true, true, true, true, false, true, true, true, false, false, false, false, false] rfl rfl (any_of HT_.out (by kernel_rfl)) (fun _ _ _ h => h) (Or.inl ⟨by rfl, ?_⟩) ?_ ?_
              rotate_left
              · intro w'
                go_simp
                with_reducible rfl
              rotate_left
              · simp only [Act.put, List.setIfInBounds_toArray, List.set_cons_zero, List.set_cons_succ, i64_w, i32_w]
                rfl
              refine take_ (i := 8) (N := some 24) (v := ?_) (a' := ?_) #[true, true, true, true, false, true, true, true, true, false, false, false, false] rfl rfl (take_ofW HT_.out HW_.out (by kernel_rfl)) (fun _ _ _ h => h) (Or.inl ⟨by rfl, ?_⟩) hHeld ?_ ?_
              rotate_left
              · intro w' s0
                go_simp
                with_reducible rfl
              rotate_left
              · simp only [Act.put, List.setIfInBounds_toArray, List.set_cons_zero, List.set_cons_succ, i64_w, i32_w]
                rfl
              refine one_ (i := 4) (N := some 20) #[true, true, true, true, true, true, true, true, true, false, false, false, false] rfl rfl (one_of HT_.out (by kernel_rfl)) (by decide) (fun K hK => ?_)
              refine goes_ Try.func44 (by kernel_rfl) rfl #[.string a0, .int .i64 a1, .int .i64 x9_1] (by rfl) rfl rfl (by (try simp only [List.map_toArray, List.map_cons, List.map_nil]); first | done | rfl | (simp only [List.length_drop, List.length_take]; rfl)) ?_
              with_reducible refine (mootref03_Secret.calls a0 a1 x9_1 t462 _ A7.out).mono ?_
              rintro e w14 ⟨rfl, hb⟩
              have HS0_ := (hb.cell (World.block_lt_of_cell? _ _ (hHeld))).trans (hHeld)
              refine ⟨_, rfl, ?_⟩
              have n0_ := Aside0.mk (Kd.R_below (by (with_reducible repeat (first | apply Kd.R_alloc | apply Kd.R_drewN | apply Kd.R_drew)); exact HO_7.out) hb)
              have n1_ := Aside0.mk (Kd.R_below (by (with_reducible repeat (first | apply Kd.R_alloc | apply Kd.R_drewN | apply Kd.R_drew)); exact HO_8.out) hb)
              have n2_ := Aside0.mk (below_step (by repeat (first | (with_reducible first | exact HB.out | apply below_alloc | apply pw_below_drewN | apply below_drew1) | exact HB.out)) hb)
              clear HO_7
              clear HO_8
              clear HB
              have HO_7 := n0_
              have HO_8 := n1_
              have HB := n2_
              clear n0_ n1_ n2_
              (try clear hb)
              (try clear hb2)
              (try clear hk)
              (try clear hi)
              refine hK.out _ _ (HS0_) (fun hHeld => ?_)
              clear hK K
              refine norm_ (a' := ?_) ?_ ?_
              rotate_left
              · show Act.put _ (some 20) _ = _
                simp only [Act.put, List.setIfInBounds_toArray, List.set_cons_zero, List.set_cons_succ, i64_w, i32_w]
                rfl
              refine one_ (i := 9) (N := some 25) #[true, true, true, true, true, true, true, true, true, true, false, false, false] rfl rfl (one_of HT_.out (by kernel_rfl)) (by decide) (fun K hK => ?_)
              refine goes_ Try.func42 (by kernel_rfl) rfl #[.string t462, .int .i64 (rd t459 x9_1)] (by rfl) rfl rfl (by (try simp only [List.map_toArray, List.map_cons, List.map_nil]); first | done | rfl | (simp only [List.length_drop, List.length_take]; rfl)) ?_
              with_reducible refine (mootref03_Chain.calls t462 (rd t459 x9_1) t464 _ A10.out).mono ?_
              rintro e w15 ⟨rfl, hb⟩
              have HS0_ := (hb.cell (World.block_lt_of_cell? _ _ (hHeld))).trans (hHeld)
              refine ⟨_, rfl, ?_⟩
              have n0_ := Aside0.mk (Kd.R_below (by (with_reducible repeat (first | apply Kd.R_alloc | apply Kd.R_drewN | apply Kd.R_drew)); exact HO_7.out) hb)
              have n1_ := Aside0.mk (Kd.R_below (by (with_reducible repeat (first | apply Kd.R_alloc | apply Kd.R_drewN | apply Kd.R_drew)); exact HO_8.out) hb)
              have n2_ := Aside0.mk (below_step (by repeat (first | (with_reducible first | exact HB.out | apply below_alloc | apply pw_below_drewN | apply below_drew1) | exact HB.out)) hb)
              clear HO_7
              clear HO_8
              clear HB
              have HO_7 := n0_
              have HO_8 := n1_
              have HB := n2_
              clear n0_ n1_ n2_
              (try clear hb)
              (try clear hb2)
              (try clear hk)
              (try clear hi)
              refine hK.out _ _ (HS0_) (fun hHeld => ?_)
              clear hK K
              refine norm_ (a' := ?_) ?_ ?_
              rotate_left
              · show Act.put _ (some 25) _ = _
                simp only [Act.put, List.setIfInBounds_toArray, List.set_cons_zero, List.set_cons_succ, i64_w, i32_w]
                rfl
              refine last_ (i := 10) (N := some 26) #[true, true, true, true, true, true, true, true, true, true, true, false, false] rfl rfl (one_of HT_.out (by kernel_rfl)) (by decide) (fun K hK => ?_)
              refine value_ (w1 := ?_) (v := ?_) (by rfl) rfl ?_ ?_
              rotate_left 2
              · go_simp
                constructor
                · rfl
                · rfl
              refine hK.out _ _ ?_
              clear hK K
              refine norm_ (a' := ?_) ?_ ?_
              rotate_left
              · show Act.put _ (some 26) _ = _
                simp only [Act.put, List.setIfInBounds_toArray, List.set_cons_zero, List.set_cons_succ, i64_w, i32_w]
                rfl
              refine last_ (i := 11) (N := some 27) #[true, true, true, true, true, true, true, true, true, true, true, true, false] rfl rfl (one_of HT_.out (by kernel_rfl)) (by decide) (fun K hK => ?_)
              refine Kd.R_append_step Kd.string (w0 := w) w.heap.size (by rfl) (.tmp 16) (.tmp 26) 36 9 (.string ⟨#[]⟩) 16 rfl Try.underlying36 info9 rfl (by decide) (by omega) u8 x8_1 t464 [.string t464] (fun _ => True) (fun _ => False) rfl rfl ?aP (fun _ hk => hk.elim) ?aF ?aO ?aB ?aS ?aL ?_
              (case aP => exact rfl)
              (case aB => exact (by repeat (first | (with_reducible first | exact HB.out | apply below_alloc | apply pw_below_drewN | apply below_drew1) | exact HB.out)))
              (case aF => exact (fun _ _ => trivial))
              (case aO => exact (by (with_reducible repeat (first | apply Kd.R_alloc | apply Kd.R_drewN | apply Kd.R_drew)); exact HO_8.out))
              (case aS => exact (below_size (by repeat (first | (with_reducible first | exact HB.out | apply below_alloc | apply pw_below_drewN | apply below_drew1) | exact HB.out))))
              (case aL => have := LMc11.out; omega)
              intro v466 w16 ho hb hg hat
              rw [← Ny465.out] at ho
              have n0_ := Aside0.mk (Kd.R_over' (by (with_reducible repeat (first | apply Kd.R_alloc | apply Kd.R_drewN | apply Kd.R_drew)); exact HO_7.out) (Kd.R_typed (by (with_reducible repeat (first | apply Kd.R_alloc | apply Kd.R_drewN | apply Kd.R_drew)); exact HO_8.out)) (by decide) hg)
              have n1_ := Aside0.mk (hb)
              have n2_ := Aside0.mk (ho)
              clear HO_7
              clear HB
              clear HO_8
              have HO_7 := n0_
              have HB := n1_
              have HO467 := n2_
              clear n0_ n1_ n2_
              clear ho hb hg hat
              refine hK.out _ _ ?_
              clear hK K
              refine norm_ (a' := ?_) ?_ ?_
              rotate_left
              · show Act.put _ (some 27) _ = _
                simp only [Act.put, List.setIfInBounds_toArray, List.set_cons_zero, List.set_cons_succ, i64_w, i32_w]
                rfl
              refine pure_ (i := 12) (N := some 8) (v := ?_) (a' := ?_) #[true, true, true, true, true, true, true, true, true, true, true, true, true] rfl rfl (any_of HT_.out (by kernel_rfl)) (fun _ _ _ h => h) (Or.inl ⟨by rfl, ?_⟩) ?_ ?_
              rotate_left
              · intro w'
                go_simp
                with_reducible rfl
              rotate_left
              · simp only [Act.put, List.setIfInBounds_toArray, List.set_cons_zero, List.set_cons_succ, i64_w, i32_w]
                rfl
              refine done_ (done_of HT_.out (by kernel_rfl)) ?_
              try go_wp2
              go_roundg k1
              case measure => have := HK1.out; omega
              case rel => exact ⟨(y465), (wrap64 (x9_1 + 1)), (by first | rfl | (simp; done) | (simp [*]; done)), H', ⟨by have := HK1.out; omega⟩, ⟨by (with_reducible repeat (first | apply Kd.R_alloc | apply Kd.R_drewN | apply Kd.R_drew)); exact HO_7.out⟩, ⟨by (with_reducible repeat (first | apply Kd.R_alloc | apply Kd.R_drewN | apply Kd.R_drew)); exact HO467.out⟩, ⟨by repeat (first | (with_reducible first | exact HB.out | apply below_alloc | apply pw_below_drewN | apply below_drew1) | exact HB.out)⟩⟩
            · rw [if_neg c11] at H
              exact absurd H (by simp)
          · rw [if_neg c9] at H
            exact absurd H (by simp)
        · rw [if_neg c8] at H
          exact absurd H (by simp)
      · rw [if_neg c6] at H
        have c6b0 : decide (x9_1 < 11) = false := decide_eq_false c6
        clear c6
        obtain rfl := Option.some.inj H
        go_wp2
        go_ret
        exact ⟨_, by first | rfl | (simp [errW_none, errW_some] <;> rfl) | (simp [*, errW_none, errW_some] <;> rfl), by (with_reducible repeat (first | apply Kd.R_alloc | apply Kd.R_drewN | apply Kd.R_drew)); exact HO_8.out, by repeat (first | (with_reducible first | exact HB.out | apply below_alloc | apply pw_below_drewN | apply below_drew1) | exact HB.out)⟩

end Go.Proofs.Ytclmikbbjhdplaa.X
/- The reference's signatures in plain lists: its digits, leaf and signature come to the same. -/
namespace Go.Proofs.Ytclmikbbjhdplaa.X
open Go.RowKit Go.Proofs.YtclmikbbjhdplaaW.PrintWords Go.Proofs.YtclmikbbjhdplaaW.PrintLast Go.Proofs.YtclmikbbjhdplaaW.PrintMore
set_option linter.unusedVariables false
set_option linter.unusedSimpArgs false

theorem tm_of (n : Int) (h0 : 0 ≤ n) (h1 : n < 65536) (y : Int) (j : Nat) (hj : j ≤ 14) (hy : y = (j : Int)) : Int.tmod (shr .i64 n y) 4 = dg n (2 ^ j) := by
  subst hy
  unfold shr dg
  have h2 : min (j : Int).toNat IntKind.i64.bits = j := by
    rw [Int.toNat_natCast]
    exact Nat.min_eq_left (by have : IntKind.i64.bits = 64 := rfl; omega)
  have hp : (0 : Int) < 2 ^ j := Int.pow_pos (by omega)
  rw [h2, Int.tmod_eq_emod_of_nonneg (Int.ediv_nonneg h0 (by omega))]
theorem tail_of (s : Int) (h0 : 0 ≤ s) (h1 : s ≤ 24) : ([Int.tmod (wrap64 (Int.tdiv s 16)) 4, Int.tmod (wrap64 (Int.tdiv s 4)) 4, Int.tmod s 4] : List Int) = d3L s := by
  rw [Int.tdiv_eq_ediv_of_nonneg h0, Int.tdiv_eq_ediv_of_nonneg h0, wrap64_id _ (by omega) (by omega), wrap64_id _ (by omega) (by omega), Int.tmod_eq_emod_of_nonneg (by omega), Int.tmod_eq_emod_of_nonneg (by omega), Int.tmod_eq_emod_of_nonneg h0, d3L]
  unfold dg
  rw [Int.ediv_one]
theorem refparts_l0 (n : Int) (h0 : 0 ≤ n) (h1 : n < 65536) : mootref03_Parts.l0 60 n [] 0 7 = some (d8L n ++ d3L (lackF n)) := by
  obtain ⟨T, hT⟩ : ∃ T : Int → Int, T = fun i => Int.tmod (shr .i64 n (IntKind.u64.wrap (wrap64 (2 * i)))) 4 := ⟨_, rfl⟩
  have e : mootref03_Parts.l0 60 n [] 0 7 = some ([Int.tmod (shr .i64 n (IntKind.u64.wrap (wrap64 (2 * 7)))) 4, Int.tmod (shr .i64 n (IntKind.u64.wrap (wrap64 (2 * (wrap64 (7 - 1)))))) 4, Int.tmod (shr .i64 n (IntKind.u64.wrap (wrap64 (2 * (wrap64 ((wrap64 (7 - 1)) - 1)))))) 4, Int.tmod (shr .i64 n (IntKind.u64.wrap (wrap64 (2 * (wrap64 ((wrap64 ((wrap64 (7 - 1)) - 1)) - 1)))))) 4, Int.tmod (shr .i64 n (IntKind.u64.wrap (wrap64 (2 * (wrap64 ((wrap64 ((wrap64 ((wrap64 (7 - 1)) - 1)) - 1)) - 1)))))) 4, Int.tmod (shr .i64 n (IntKind.u64.wrap (wrap64 (2 * (wrap64 ((wrap64 ((wrap64 ((wrap64 ((wrap64 (7 - 1)) - 1)) - 1)) - 1)) - 1)))))) 4, Int.tmod (shr .i64 n (IntKind.u64.wrap (wrap64 (2 * (wrap64 ((wrap64 ((wrap64 ((wrap64 ((wrap64 ((wrap64 (7 - 1)) - 1)) - 1)) - 1)) - 1)) - 1)))))) 4, Int.tmod (shr .i64 n (IntKind.u64.wrap (wrap64 (2 * (wrap64 ((wrap64 ((wrap64 ((wrap64 ((wrap64 ((wrap64 ((wrap64 (7 - 1)) - 1)) - 1)) - 1)) - 1)) - 1)) - 1)))))) 4] ++ (fun s => ([Int.tmod (wrap64 (Int.tdiv s 16)) 4, Int.tmod (wrap64 (Int.tdiv s 4)) 4, Int.tmod s 4] : List Int)) (wrap64 ((wrap64 ((wrap64 ((wrap64 ((wrap64 ((wrap64 ((wrap64 ((wrap64 ((wrap64 ((wrap64 ((wrap64 ((wrap64 ((wrap64 ((wrap64 ((wrap64 ((wrap64 (0 + 3)) - (Int.tmod (shr .i64 n (IntKind.u64.wrap (wrap64 (2 * 7)))) 4))) + 3)) - (Int.tmod (shr .i64 n (IntKind.u64.wrap (wrap64 (2 * (wrap64 (7 - 1)))))) 4))) + 3)) - (Int.tmod (shr .i64 n (IntKind.u64.wrap (wrap64 (2 * (wrap64 ((wrap64 (7 - 1)) - 1)))))) 4))) + 3)) - (Int.tmod (shr .i64 n (IntKind.u64.wrap (wrap64 (2 * (wrap64 ((wrap64 ((wrap64 (7 - 1)) - 1)) - 1)))))) 4))) + 3)) - (Int.tmod (shr .i64 n (IntKind.u64.wrap (wrap64 (2 * (wrap64 ((wrap64 ((wrap64 ((wrap64 (7 - 1)) - 1)) - 1)) - 1)))))) 4))) + 3)) - (Int.tmod (shr .i64 n (IntKind.u64.wrap (wrap64 (2 * (wrap64 ((wrap64 ((wrap64 ((wrap64 ((wrap64 (7 - 1)) - 1)) - 1)) - 1)) - 1)))))) 4))) + 3)) - (Int.tmod (shr .i64 n (IntKind.u64.wrap (wrap64 (2 * (wrap64 ((wrap64 ((wrap64 ((wrap64 ((wrap64 ((wrap64 (7 - 1)) - 1)) - 1)) - 1)) - 1)) - 1)))))) 4))) + 3)) - (Int.tmod (shr .i64 n (IntKind.u64.wrap (wrap64 (2 * (wrap64 ((wrap64 ((wrap64 ((wrap64 ((wrap64 ((wrap64 ((wrap64 (7 - 1)) - 1)) - 1)) - 1)) - 1)) - 1)) - 1)))))) 4)))) := by kernel_rfl
  rw [e, tm_of n h0 h1 _ 14 (by omega) (by decide +kernel), tm_of n h0 h1 _ 12 (by omega) (by decide +kernel), tm_of n h0 h1 _ 10 (by omega) (by decide +kernel), tm_of n h0 h1 _ 8 (by omega) (by decide +kernel), tm_of n h0 h1 _ 6 (by omega) (by decide +kernel), tm_of n h0 h1 _ 4 (by omega) (by decide +kernel), tm_of n h0 h1 _ 2 (by omega) (by decide +kernel), tm_of n h0 h1 _ 0 (by omega) (by decide +kernel)]
  have hs : wrap64 ((wrap64 ((wrap64 ((wrap64 ((wrap64 ((wrap64 ((wrap64 ((wrap64 ((wrap64 ((wrap64 ((wrap64 ((wrap64 ((wrap64 ((wrap64 ((wrap64 ((wrap64 (0 + 3)) - dg n (2 ^ 14))) + 3)) - dg n (2 ^ 12))) + 3)) - dg n (2 ^ 10))) + 3)) - dg n (2 ^ 8))) + 3)) - dg n (2 ^ 6))) + 3)) - dg n (2 ^ 4))) + 3)) - dg n (2 ^ 2))) + 3)) - dg n (2 ^ 0)) = lackF n := by
    have r0 := dg_range n 16384
    have r1 := dg_range n 4096
    have r2 := dg_range n 1024
    have r3 := dg_range n 256
    have r4 := dg_range n 64
    have r5 := dg_range n 16
    have r6 := dg_range n 4
    have r7 := dg_range n 1
    unfold lackF
    rw [show (2 : Int) ^ 14 = 16384 by decide, show (2 : Int) ^ 12 = 4096 by decide, show (2 : Int) ^ 10 = 1024 by decide, show (2 : Int) ^ 8 = 256 by decide, show (2 : Int) ^ 6 = 64 by decide, show (2 : Int) ^ 4 = 16 by decide, show (2 : Int) ^ 2 = 4 by decide, show (2 : Int) ^ 0 = 1 by decide]
    generalize dg n 16384 = a0 at *
    generalize dg n 4096 = a1 at *
    generalize dg n 1024 = a2 at *
    generalize dg n 256 = a3 at *
    generalize dg n 64 = a4 at *
    generalize dg n 16 = a5 at *
    generalize dg n 4 = a6 at *
    generalize dg n 1 = a7 at *
    have st : ∀ s a : Int, 0 ≤ s → s ≤ 30 → 0 ≤ a → a ≤ 3 → wrap64 ((wrap64 (s + 3)) - a) = s + 3 - a := by
      intro s a q1 q2 q3 q4
      rw [wrap64_id (s + 3) (by omega) (by omega), wrap64_id _ (by omega) (by omega)]
    rw [st 0 a0 (by omega) (by omega) (by omega) (by omega), st _ a1 (by omega) (by omega) (by omega) (by omega), st _ a2 (by omega) (by omega) (by omega) (by omega), st _ a3 (by omega) (by omega) (by omega) (by omega), st _ a4 (by omega) (by omega) (by omega) (by omega), st _ a5 (by omega) (by omega) (by omega) (by omega), st _ a6 (by omega) (by omega) (by omega) (by omega), st _ a7 (by omega) (by omega) (by omega) (by omega)]
    omega
  rw [hs]
  have hk := lack8 n
  have ht := tail_of (lackF n) hk.2.1 hk.2.2
  simp only [ht]
  rfl
theorem refparts_f (l : List Int) (ho : Octets l) (hl : l.length ≤ 140737488354000) : mootref03_Parts.f 60 l = some (partsL l) := by
  have h0 := sum_byte l 0 (by omega)
  have h1 := sum_byte l 1 (by omega)
  have e0 : ((0 : Nat) : Int) = 0 := rfl
  have e1 : ((1 : Nat) : Int) = 1 := rfl
  rw [e0] at h0
  rw [e1] at h1
  have hn := numP_range l
  have hlen := sumL_len l
  unfold mootref03_Parts.f mootref01_Sha.f
  rw [if_pos ⟨ho, hl⟩, Option.bind_some, if_pos (by omega), if_pos (by omega), wrap64_id (rd (sumL l) 0) (by omega) (by omega), wrap64_id (rd (sumL l) 1) (by omega) (by omega), wrap64_id (rd (sumL l) 0 * 256) (by omega) (by omega), wrap64_id _ (by omega) (by omega), ← numP_eq]
  exact refparts_l0 (numP l) hn.1 hn.2
theorem refchain_f (s : ByteArray) (hs : s.size ≤ 140737488354000) (n : Nat) (hn : n ≤ 3) : mootref03_Chain.f s (n : Int) = some (chainN s n) := by
  unfold mootref03_Chain.f
  rw [if_pos hs]
  have : (mn (mx (n : Int) 0) 3).toNat = n := by unfold mn mx; split <;> split <;> omega
  rw [this]
theorem refsecret_f (seed : ByteArray) (hs : seed.size ≤ 140737488353000) (leaf : Int) (i : Nat) : mootref03_Secret.f seed leaf (i : Int) = some (secS seed leaf i) := by
  unfold mootref03_Secret.f
  rw [if_pos hs]
  rfl
theorem catB_octets (l : List ByteArray) : Octets (catB l) := by
  intro x hx
  simp only [catB, List.mem_flatMap] at hx
  obtain ⟨b, _, h⟩ := hx
  exact bytesOf_octets b x h
theorem catB_snoc (l : List ByteArray) (b : ByteArray) : catB (l ++ [b]) = catB l ++ bytesOf b := by simp [catB]
theorem refleaf_l0 (seed : ByteArray) (hs : seed.size ≤ 140737488353000) (leaf : Int) : ∀ (d k i : Nat), i + d = 11 → d < k →
    mootref03_Leaf.l0 k seed leaf (catB ((List.range i).map fun i => chainN (secS seed leaf i) 3)) (i : Int) = some (endB (leafL seed leaf))
  | 0, k, i, hd, hk => by
    obtain ⟨k, rfl⟩ : ∃ m, k = m + 1 := ⟨k - 1, by omega⟩
    obtain rfl : i = 11 := by omega
    have hlen := catB_len ((List.range 11).map fun i => chainN (secS seed leaf i) 3) (by
      intro x hx
      simp only [List.mem_map] at hx
      obtain ⟨j, _, rfl⟩ := hx
      exact chainN_size8 _ (secS_size _ _ _) 3)
    rw [List.length_map, List.length_range] at hlen
    rw [mootref03_Leaf.l0, if_neg (by omega), short61 _ (catB_octets _) (by omega), Option.bind_some]
    rfl
  | d + 1, k, i, hd, hk => by
    obtain ⟨k, rfl⟩ : ∃ m, k = m + 1 := ⟨k - 1, by omega⟩
    have hw : wrap64 ((i : Int) + 1) = ((i + 1 : Nat) : Int) := by rw [wrap64_id _ (by omega) (by omega)]; rfl
    have hc := refchain_f (secS seed leaf i) (by rw [secS_size]; omega) 3 (by omega)
    have e3 : ((3 : Nat) : Int) = 3 := rfl
    rw [e3] at hc
    have hlen := catB_len ((List.range i).map fun i => chainN (secS seed leaf i) 3) (by
      intro x hx
      simp only [List.mem_map] at hx
      obtain ⟨j, _, rfl⟩ := hx
      exact chainN_size8 _ (secS_size _ _ _) 3)
    rw [List.length_map, List.length_range] at hlen
    have h8 := chainN_size8 _ (secS_size seed leaf i) 3
    rw [mootref03_Leaf.l0, if_pos (by omega), refsecret_f seed hs, Option.bind_some, hc, Option.bind_some, if_pos (by omega), hw, ← catB_snoc, snoc_range (fun i => chainN (secS seed leaf i) 3) i]
    exact refleaf_l0 seed hs leaf d k (i + 1) (by omega) (by omega)
theorem refleaf_f (seed : ByteArray) (hs : seed.size ≤ 140737488353000) (leaf : Int) (k : Nat) (hk : 12 ≤ k) : mootref03_Leaf.f k seed leaf = some (endB (leafL seed leaf)) := by
  unfold mootref03_Leaf.f
  exact refleaf_l0 seed hs leaf 11 k 0 (by omega) (by omega)
theorem refsign_l0 (seed : ByteArray) (hs : seed.size ≤ 140737488353000) (leaf : Int) (p : List Int) (hp : p.length = 11) (hr : ∀ i : Nat, i < 11 → 0 ≤ rd p (i : Int) ∧ rd p (i : Int) ≤ 3) : ∀ (d k i : Nat), i + d = 11 → d < k →
    mootref03_Sign.l0 k seed leaf p ((List.range i).map fun i => chainN (secS seed leaf i) (rd p (i : Int)).toNat) (i : Int) = some (signL seed leaf p)
  | 0, k, i, hd, hk => by
    obtain ⟨k, rfl⟩ : ∃ m, k = m + 1 := ⟨k - 1, by omega⟩
    obtain rfl : i = 11 := by omega
    rw [mootref03_Sign.l0, if_neg (by omega)]
    rfl
  | d + 1, k, i, hd, hk => by
    obtain ⟨k, rfl⟩ : ∃ m, k = m + 1 := ⟨k - 1, by omega⟩
    have hw : wrap64 ((i : Int) + 1) = ((i + 1 : Nat) : Int) := by rw [wrap64_id _ (by omega) (by omega)]; rfl
    have hri := hr i (by omega)
    have hc := refchain_f (secS seed leaf i) (by rw [secS_size]; omega) (rd p (i : Int)).toNat (by omega)
    rw [Int.toNat_of_nonneg hri.1] at hc
    rw [mootref03_Sign.l0, if_pos (by omega), refsecret_f seed hs, Option.bind_some, if_pos (by omega), if_pos (by omega), hc, Option.bind_some, if_pos (by simp; omega), hw, snoc_range (fun i => chainN (secS seed leaf i) (rd p (i : Int)).toNat) i]
    exact refsign_l0 seed hs leaf p hp hr d k (i + 1) (by omega) (by omega)
theorem refsign_f (seed : ByteArray) (hs : seed.size ≤ 140737488353000) (leaf : Int) (l : List Int) (ho : Octets l) (hl : l.length ≤ 140737488354000) : mootref03_Sign.f 60 seed leaf l = some (signL seed leaf (partsL l)) := by
  unfold mootref03_Sign.f
  rw [refparts_f l ho hl, Option.bind_some]
  exact refsign_l0 seed hs leaf (partsL l) (partsL_len l) (partsL_at l) 11 60 0 (by omega) (by omega)
end Go.Proofs.Ytclmikbbjhdplaa.X
/- The law WotsTells over numbers and lists: any text's digits, any chain, secret and leaf are as the page says. No condition. -/
namespace Go.Proofs.Ytclmikbbjhdplaa.Pure
open Go.RowKit Go.Proofs.Ytclmikbbjhdplaa.X Go.Proofs.YtclmikbbjhdplaaW.PrintWords Go.Proofs.YtclmikbbjhdplaaW.PrintLast Go.Proofs.YtclmikbbjhdplaaW.PrintMore
set_option linter.unusedVariables false
set_option linter.unusedSimpArgs false

theorem ints_same (l : List Int) (hl : l.length ≤ 20) : ∀ (d k i : Nat), i + d = l.length → d < k → mootplain_Ints.l0 k l l (i : Int) = some true
  | 0, k, i, hd, hk => by
    obtain ⟨k, rfl⟩ : ∃ m, k = m + 1 := ⟨k - 1, by omega⟩
    rw [mootplain_Ints.l0, if_neg (by omega)]
  | d + 1, k, i, hd, hk => by
    obtain ⟨k, rfl⟩ : ∃ m, k = m + 1 := ⟨k - 1, by omega⟩
    have hw : wrap64 ((i : Int) + 1) = ((i + 1 : Nat) : Int) := by rw [wrap64_id _ (by omega) (by omega)]; rfl
    rw [mootplain_Ints.l0, if_pos (by omega), if_pos (by omega), if_pos (by omega), if_pos rfl, hw]
    exact ints_same l hl d k (i + 1) (by omega) (by omega)
theorem octets_wf (l : List Int) (h : ∀ x ∈ l, (Lit.int .u8 x).wf = true) : Octets l := by
  intro x hx
  have := h x hx
  simp [Lit.wf, IntKind.min, IntKind.max, IntKind.signed, IntKind.bits] at this
  omega
/-- Any text's digits, any chain, secret and leaf. -/
theorem WotsTells : mootlaw03_WotsTells.Pure := by
  intro l a1 a2 a3 a4 a5 hm hl hw h1 w2 h3 w4 w5
  refine ⟨60, ?_⟩
  have ho := octets_wf l hw
  have hi : mootplain_Ints.l0 60 (partsL l) (partsL l) 0 = some true := ints_same (partsL l) (by rw [partsL_len]; omega) (partsL l).length 60 0 (by omega) (by rw [partsL_len]; omega)
  unfold mootlaw03_WotsTells.f mootplain_Ints.f
  rw [parts_f l (by omega), Option.bind_some, refparts_f l ho (by omega), Option.bind_some, if_pos rfl, hi, Option.bind_some, if_pos rfl]
  unfold wots_Chain.f mootref03_Chain.f wots_Secret.f mootref03_Secret.f
  rw [if_pos (by omega), Option.bind_some, if_pos (by omega), Option.bind_some, if_pos rfl, if_pos (by omega), Option.bind_some, if_pos (by omega), Option.bind_some, if_pos rfl, leaf_f a3 (by omega) a4 60 (by omega), Option.bind_some, refleaf_f a3 (by omega) a4 60 (by omega), Option.bind_some, if_pos rfl, alive03]
  rfl
end Go.Proofs.Ytclmikbbjhdplaa.Pure
