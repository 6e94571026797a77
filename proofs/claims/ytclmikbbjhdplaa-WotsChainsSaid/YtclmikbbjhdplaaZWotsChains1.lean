/- Texts of this session joined into one: XF12, PureWotsChains. -/
import Derived.Test.YtclmikbbjhdplaaZSha
import Derived.Test.YtclmikbbjhdplaaZWots
-- Written by a program of this session (a turn of the kit's print with contracts by hand). Not trusted: Lean checks it.
namespace Go.Proofs.Ytclmikbbjhdplaa.X
open Go.RowKit Go.Proofs.YtclmikbbjhdplaaW.PrintWords Go.Proofs.YtclmikbbjhdplaaW.PrintLast Go.Proofs.YtclmikbbjhdplaaW.PrintMore
attribute [local go_sem] max2_int min2_int max_two min_two max_three min_three max_four min_four   -- for this text's walks alone
set_option linter.unusedVariables false
set_option linter.unusedSimpArgs false

/-! ### mootlaw03_WotsChains: function 12 -/
def mootlaw03_WotsChains.f (a0 : ByteArray) (a1 : Int) (a2 : Int) : Option (Bool) := (mootlaw03_alive.f).bind fun t412 => (if t412 = true then (if (wrap64 ((Int.tmod (wrap64 ((Int.tmod a1 4) + 4)) 4) + (Int.tmod (wrap64 ((Int.tmod a2 4) + 4)) 4))) > 3 then ((wots_Chain.f a0 (wrap64 ((Int.tmod (wrap64 ((Int.tmod a1 4) + 4)) 4) + (Int.tmod (wrap64 ((Int.tmod a2 4) + 4)) 4)))).bind fun t413 => ((wots_Chain.f a0 3).bind fun t414 => (some (t413.toList == t414.toList)))) else ((wots_Chain.f a0 (Int.tmod (wrap64 ((Int.tmod a1 4) + 4)) 4)).bind fun t415 => ((wots_Chain.f t415 (Int.tmod (wrap64 ((Int.tmod a2 4) + 4)) 4)).bind fun t416 => ((wots_Chain.f a0 (wrap64 ((Int.tmod (wrap64 ((Int.tmod a1 4) + 4)) 4) + (Int.tmod (wrap64 ((Int.tmod a2 4) + 4)) 4)))).bind fun t417 => (some (t416.toList == t417.toList)))))) else (some false))
set_option maxHeartbeats 8000000 in
set_option maxRecDepth 100000 in
theorem mootlaw03_WotsChains.calls (a0 : ByteArray) (a1 : Int) (a2 : Int) (r : Bool) (w : World) (h : mootlaw03_WotsChains.f a0 a1 a2 = some r) :
    Calls Try.prog 12 #[.string a0, .int .i64 a1, .int .i64 a2] w fun e w' => e = .returned (.bool r) ∧ Below w.heap.size w w' := by
  have HB := Aside0.mk (Below.refl w.heap.size w)
  have H : ((mootlaw03_alive.f).bind fun t412 => (if t412 = true then (if (wrap64 ((Int.tmod (wrap64 ((Int.tmod a1 4) + 4)) 4) + (Int.tmod (wrap64 ((Int.tmod a2 4) + 4)) 4))) > 3 then ((wots_Chain.f a0 (wrap64 ((Int.tmod (wrap64 ((Int.tmod a1 4) + 4)) 4) + (Int.tmod (wrap64 ((Int.tmod a2 4) + 4)) 4)))).bind fun t413 => ((wots_Chain.f a0 3).bind fun t414 => (some (t413.toList == t414.toList)))) else ((wots_Chain.f a0 (Int.tmod (wrap64 ((Int.tmod a1 4) + 4)) 4)).bind fun t415 => ((wots_Chain.f t415 (Int.tmod (wrap64 ((Int.tmod a2 4) + 4)) 4)).bind fun t416 => ((wots_Chain.f a0 (wrap64 ((Int.tmod (wrap64 ((Int.tmod a1 4) + 4)) 4) + (Int.tmod (wrap64 ((Int.tmod a2 4) + 4)) 4)))).bind fun t417 => (some (t416.toList == t417.toList)))))) else (some false))) = some r := h
  clear h
  replace H := Option.bind_eq_some_iff.mp H
  obtain ⟨t412, A40, H⟩ := H
  replace H : (if t412 = true then (if (wrap64 ((Int.tmod (wrap64 ((Int.tmod a1 4) + 4)) 4) + (Int.tmod (wrap64 ((Int.tmod a2 4) + 4)) 4))) > 3 then ((wots_Chain.f a0 (wrap64 ((Int.tmod (wrap64 ((Int.tmod a1 4) + 4)) 4) + (Int.tmod (wrap64 ((Int.tmod a2 4) + 4)) 4)))).bind fun t413 => ((wots_Chain.f a0 3).bind fun t414 => (some (t413.toList == t414.toList)))) else ((wots_Chain.f a0 (Int.tmod (wrap64 ((Int.tmod a1 4) + 4)) 4)).bind fun t415 => ((wots_Chain.f t415 (Int.tmod (wrap64 ((Int.tmod a2 4) + 4)) 4)).bind fun t416 => ((wots_Chain.f a0 (wrap64 ((Int.tmod (wrap64 ((Int.tmod a1 4) + 4)) 4) + (Int.tmod (wrap64 ((Int.tmod a2 4) + 4)) 4)))).bind fun t417 => (some (t416.toList == t417.toList)))))) else (some false)) = some r := H
  have A4 := Aside0.mk A40
  clear A40
  by_cases c5 : t412 = true
  · subst c5
    have H1 : (if (wrap64 ((Int.tmod (wrap64 ((Int.tmod a1 4) + 4)) 4) + (Int.tmod (wrap64 ((Int.tmod a2 4) + 4)) 4))) > 3 then ((wots_Chain.f a0 (wrap64 ((Int.tmod (wrap64 ((Int.tmod a1 4) + 4)) 4) + (Int.tmod (wrap64 ((Int.tmod a2 4) + 4)) 4)))).bind fun t413 => ((wots_Chain.f a0 3).bind fun t414 => (some (t413.toList == t414.toList)))) else ((wots_Chain.f a0 (Int.tmod (wrap64 ((Int.tmod a1 4) + 4)) 4)).bind fun t415 => ((wots_Chain.f t415 (Int.tmod (wrap64 ((Int.tmod a2 4) + 4)) 4)).bind fun t416 => ((wots_Chain.f a0 (wrap64 ((Int.tmod (wrap64 ((Int.tmod a1 4) + 4)) 4) + (Int.tmod (wrap64 ((Int.tmod a2 4) + 4)) 4)))).bind fun t417 => (some (t416.toList == t417.toList)))))) = some r := by rw [if_pos rfl] at H; exact H
    clear H
    have H := H1
    clear H1
    by_cases c6 : (wrap64 ((Int.tmod (wrap64 ((Int.tmod a1 4) + 4)) 4) + (Int.tmod (wrap64 ((Int.tmod a2 4) + 4)) 4))) > 3
    · rw [if_pos c6] at H
      have c6b0 : decide (3 < (wrap64 ((Int.tmod (wrap64 ((Int.tmod a1 4) + 4)) 4) + (Int.tmod (wrap64 ((Int.tmod a2 4) + 4)) 4)))) = true := decide_eq_true c6
      clear c6
      replace H := Option.bind_eq_some_iff.mp H
      obtain ⟨t413, A70, H⟩ := H
      replace H : ((wots_Chain.f a0 3).bind fun t414 => (some (t413.toList == t414.toList))) = some r := H
      have A7 := Aside0.mk A70
      clear A70
      replace H := Option.bind_eq_some_iff.mp H
      obtain ⟨t414, A80, H⟩ := H
      replace H : (some (t413.toList == t414.toList)) = some r := H
      have A8 := Aside0.mk A80
      clear A80
      obtain rfl := Option.some.inj H
      go_enter Try.func12, Try.ntmps12
      go_wp2_with (first | ((with_reducible refine gate_callee (f := 24) rfl ?_); refine goesL_ (some 7) rfl rfl Try.func24 (by kernel_rfl) rfl #[] rfl (by (try simp only [List.map_toArray, List.map_cons, List.map_nil]); first | done | rfl | (simp only [List.length_drop, List.length_take]; rfl)) ?_; (with_reducible refine (mootlaw03_alive.calls  true _ A4.out).mono ?_); rintro e w9 ⟨rfl, hb⟩; refine ⟨_, rfl, ?_⟩; have n0_ := Aside0.mk (below_step (by repeat (first | (with_reducible first | exact HB.out | apply below_alloc | apply pw_below_drewN | apply below_drew1) | exact HB.out)) hb); clear HB; have HB := n0_; clear n0_; (try clear hb); (try clear hb2); (try clear hk); (try clear hi)) | ((with_reducible refine gate_callee (f := 39) rfl ?_); refine goesL_ (some 25) rfl rfl Try.func39 (by kernel_rfl) rfl #[.string a0, .int .i64 (wrap64 ((Int.tmod (wrap64 ((Int.tmod a1 4) + 4)) 4) + (Int.tmod (wrap64 ((Int.tmod a2 4) + 4)) 4)))] rfl (by (try simp only [List.map_toArray, List.map_cons, List.map_nil]); first | done | rfl | (simp only [List.length_drop, List.length_take]; rfl)) ?_; (with_reducible refine (wots_Chain.calls a0 (wrap64 ((Int.tmod (wrap64 ((Int.tmod a1 4) + 4)) 4) + (Int.tmod (wrap64 ((Int.tmod a2 4) + 4)) 4))) t413 _ A7.out).mono ?_); rintro e w10 ⟨rfl, hb⟩; refine ⟨_, rfl, ?_⟩; have n0_ := Aside0.mk (below_step (by repeat (first | (with_reducible first | exact HB.out | apply below_alloc | apply pw_below_drewN | apply below_drew1) | exact HB.out)) hb); clear HB; have HB := n0_; clear n0_; (try clear hb); (try clear hb2); (try clear hk); (try clear hi)) | ((with_reducible refine gate_callee (f := 39) rfl ?_); refine goesL_ (some 27) rfl rfl Try.func39 (by kernel_rfl) rfl #[.string a0, .int .i64 3] rfl (by (try simp only [List.map_toArray, List.map_cons, List.map_nil]); first | done | rfl | (simp only [List.length_drop, List.length_take]; rfl)) ?_; (with_reducible refine (wots_Chain.calls a0 3 t414 _ A8.out).mono ?_); rintro e w11 ⟨rfl, hb⟩; refine ⟨_, rfl, ?_⟩; have n0_ := Aside0.mk (below_step (by repeat (first | (with_reducible first | exact HB.out | apply below_alloc | apply pw_below_drewN | apply below_drew1) | exact HB.out)) hb); clear HB; have HB := n0_; clear n0_; (try clear hb); (try clear hb2); (try clear hk); (try clear hi)))
      go_ret
      exact ⟨by first | rfl | (simp [errW_none, errW_some] <;> rfl) | (simp [*, errW_none, errW_some] <;> rfl), by repeat (first | (with_reducible first | exact HB.out | apply below_alloc | apply pw_below_drewN | apply below_drew1) | exact HB.out)⟩
    · rw [if_neg c6] at H
      have c6b0 : decide (3 < (wrap64 ((Int.tmod (wrap64 ((Int.tmod a1 4) + 4)) 4) + (Int.tmod (wrap64 ((Int.tmod a2 4) + 4)) 4)))) = false := decide_eq_false c6
      clear c6
      replace H := Option.bind_eq_some_iff.mp H
      obtain ⟨t415, A120, H⟩ := H
      replace H : ((wots_Chain.f t415 (Int.tmod (wrap64 ((Int.tmod a2 4) + 4)) 4)).bind fun t416 => ((wots_Chain.f a0 (wrap64 ((Int.tmod (wrap64 ((Int.tmod a1 4) + 4)) 4) + (Int.tmod (wrap64 ((Int.tmod a2 4) + 4)) 4)))).bind fun t417 => (some (t416.toList == t417.toList)))) = some r := H
      have A12 := Aside0.mk A120
      clear A120
      replace H := Option.bind_eq_some_iff.mp H
      obtain ⟨t416, A130, H⟩ := H
      replace H : ((wots_Chain.f a0 (wrap64 ((Int.tmod (wrap64 ((Int.tmod a1 4) + 4)) 4) + (Int.tmod (wrap64 ((Int.tmod a2 4) + 4)) 4)))).bind fun t417 => (some (t416.toList == t417.toList))) = some r := H
      have A13 := Aside0.mk A130
      clear A130
      replace H := Option.bind_eq_some_iff.mp H
      obtain ⟨t417, A140, H⟩ := H
      replace H : (some (t416.toList == t417.toList)) = some r := H
      have A14 := Aside0.mk A140
      clear A140
      obtain rfl := Option.some.inj H
      go_enter Try.func12, Try.ntmps12
      go_wp2_with (first | ((with_reducible refine gate_callee (f := 24) rfl ?_); refine goesL_ (some 7) rfl rfl Try.func24 (by kernel_rfl) rfl #[] rfl (by (try simp only [List.map_toArray, List.map_cons, List.map_nil]); first | done | rfl | (simp only [List.length_drop, List.length_take]; rfl)) ?_; (with_reducible refine (mootlaw03_alive.calls  true _ A4.out).mono ?_); rintro e w15 ⟨rfl, hb⟩; refine ⟨_, rfl, ?_⟩; have n0_ := Aside0.mk (below_step (by repeat (first | (with_reducible first | exact HB.out | apply below_alloc | apply pw_below_drewN | apply below_drew1) | exact HB.out)) hb); clear HB; have HB := n0_; clear n0_; (try clear hb); (try clear hb2); (try clear hk); (try clear hi)) | ((with_reducible refine gate_callee (f := 39) rfl ?_); refine goesL_ (some 31) rfl rfl Try.func39 (by kernel_rfl) rfl #[.string a0, .int .i64 (Int.tmod (wrap64 ((Int.tmod a1 4) + 4)) 4)] rfl (by (try simp only [List.map_toArray, List.map_cons, List.map_nil]); first | done | rfl | (simp only [List.length_drop, List.length_take]; rfl)) ?_; (with_reducible refine (wots_Chain.calls a0 (Int.tmod (wrap64 ((Int.tmod a1 4) + 4)) 4) t415 _ A12.out).mono ?_); rintro e w16 ⟨rfl, hb⟩; refine ⟨_, rfl, ?_⟩; have n0_ := Aside0.mk (below_step (by repeat (first | (with_reducible first | exact HB.out | apply below_alloc | apply pw_below_drewN | apply below_drew1) | exact HB.out)) hb); clear HB; have HB := n0_; clear n0_; (try clear hb); (try clear hb2); (try clear hk); (try clear hi)) | ((with_reducible refine gate_callee (f := 39) rfl ?_); refine goesL_ (some 33) rfl rfl Try.func39 (by kernel_rfl) rfl #[.string t415, .int .i64 (Int.tmod (wrap64 ((Int.tmod a2 4) + 4)) 4)] rfl (by (try simp only [List.map_toArray, List.map_cons, List.map_nil]); first | done | rfl | (simp only [List.length_drop, List.length_take]; rfl)) ?_; (with_reducible refine (wots_Chain.calls t415 (Int.tmod (wrap64 ((Int.tmod a2 4) + 4)) 4) t416 _ A13.out).mono ?_); rintro e w17 ⟨rfl, hb⟩; refine ⟨_, rfl, ?_⟩; have n0_ := Aside0.mk (below_step (by repeat (first | (with_reducible first | exact HB.out | apply below_alloc | apply pw_below_drewN | apply below_drew1) | exact HB.out)) hb); clear HB; have HB := n0_; clear n0_; (try clear hb); (try clear hb2); (try clear hk); (try clear hi)) | ((with_reducible refine gate_callee (f := 39) rfl ?_); refine goesL_ (some 38) rfl rfl Try.func39 (by kernel_rfl) rfl #[.string a0, .int .i64 (wrap64 ((Int.tmod (wrap64 ((Int.tmod a1 4) + 4)) 4) + (Int.tmod (wrap64 ((Int.tmod a2 4) + 4)) 4)))] rfl (by (try simp only [List.map_toArray, List.map_cons, List.map_nil]); first | done | rfl | (simp only [List.length_drop, List.length_take]; rfl)) ?_; (with_reducible refine (wots_Chain.calls a0 (wrap64 ((Int.tmod (wrap64 ((Int.tmod a1 4) + 4)) 4) + (Int.tmod (wrap64 ((Int.tmod a2 4) + 4)) 4))) t417 _ A14.out).mono ?_); rintro e w18 ⟨rfl, hb⟩; refine ⟨_, rfl, ?_⟩; have n0_ := Aside0.mk (below_step (by repeat (first | (with_reducible first | exact HB.out | apply below_alloc | apply pw_below_drewN | apply below_drew1) | exact HB.out)) hb); clear HB; have HB := n0_; clear n0_; (try clear hb); (try clear hb2); (try clear hk); (try clear hi)))
      go_ret
      exact ⟨by first | rfl | (simp [errW_none, errW_some] <;> rfl) | (simp [*, errW_none, errW_some] <;> rfl), by repeat (first | (with_reducible first | exact HB.out | apply below_alloc | apply pw_below_drewN | apply below_drew1) | exact HB.out)⟩
  · replace c5 := Bool.eq_false_iff.mpr c5
    subst c5
    have H1 : (some false) = some r := by rw [if_neg (show ¬ (false = true) by decide)] at H; exact H
    clear H
    have H := H1
    clear H1
    obtain rfl := Option.some.inj H
    go_enter Try.func12, Try.ntmps12
    go_wp2_with (first | ((with_reducible refine gate_callee (f := 24) rfl ?_); refine goesL_ (some 7) rfl rfl Try.func24 (by kernel_rfl) rfl #[] rfl (by (try simp only [List.map_toArray, List.map_cons, List.map_nil]); first | done | rfl | (simp only [List.length_drop, List.length_take]; rfl)) ?_; (with_reducible refine (mootlaw03_alive.calls  false _ A4.out).mono ?_); rintro e w19 ⟨rfl, hb⟩; refine ⟨_, rfl, ?_⟩; have n0_ := Aside0.mk (below_step (by repeat (first | (with_reducible first | exact HB.out | apply below_alloc | apply pw_below_drewN | apply below_drew1) | exact HB.out)) hb); clear HB; have HB := n0_; clear n0_; (try clear hb); (try clear hb2); (try clear hk); (try clear hi)))
    go_ret
    exact ⟨by first | rfl | (simp [errW_none, errW_some] <;> rfl) | (simp [*, errW_none, errW_some] <;> rfl), by repeat (first | (with_reducible first | exact HB.out | apply below_alloc | apply pw_below_drewN | apply below_drew1) | exact HB.out)⟩

/-- THE ONE PURE STATEMENT of mootlaw03_WotsChains: yours. -/
def mootlaw03_WotsChains.Pure : Prop := ∀ (a0 : ByteArray) (a1 : Int) (a2 : Int), a0.size ≤ 140737488351232 → (Lit.int .i64 a1).wf = true → (Lit.int .i64 a2).wf = true → mootlaw03_WotsChains.f a0 a1 a2 = some true
theorem mootlaw03_WotsChains.walk (P : mootlaw03_WotsChains.Pure) (a0 : ByteArray) (a1 : Int) (a2 : Int) (w : World) (w0 : a0.size ≤ 140737488351232) (w1 : (Lit.int .i64 a1).wf = true) (w2 : (Lit.int .i64 a2).wf = true) :
    Calls Try.prog 12 #[.string a0, .int .i64 a1, .int .i64 a2] w fun e w' => e = .returned (.bool true) ∧ Below w.heap.size w w' := by
  have h := P a0 a1 a2 w0 w1 w2
  refine (mootlaw03_WotsChains.calls a0 a1 a2 true w h).mono ?_
  rintro e w' ⟨rfl, hd⟩
  exact ⟨rfl, hd⟩

end Go.Proofs.Ytclmikbbjhdplaa.X
/- The law WotsChains over numbers and lists: steps add up, up to three. No condition. -/
namespace Go.Proofs.Ytclmikbbjhdplaa.Pure
open Go.RowKit Go.Proofs.Ytclmikbbjhdplaa.X Go.Proofs.YtclmikbbjhdplaaW.PrintWords Go.Proofs.YtclmikbbjhdplaaW.PrintLast Go.Proofs.YtclmikbbjhdplaaW.PrintMore
set_option linter.unusedVariables false
set_option linter.unusedSimpArgs false

theorem mod4 (a : Int) (w : (Lit.int .i64 a).wf = true) : ∃ n : Nat, Int.tmod (wrap64 ((Int.tmod a 4) + 4)) 4 = (n : Int) ∧ n ≤ 3 := by
  have h1 : -4 < Int.tmod a 4 ∧ Int.tmod a 4 < 4 := ⟨by have := Int.lt_tmod_of_pos a (b := 4) (by omega); omega, Int.tmod_lt_of_pos a (by omega)⟩
  have hw : wrap64 ((Int.tmod a 4) + 4) = (Int.tmod a 4) + 4 := wrap64_id _ (by omega) (by omega)
  rw [hw]
  have h2 : 0 ≤ Int.tmod ((Int.tmod a 4) + 4) 4 := Int.tmod_nonneg _ (by omega)
  have h3 : Int.tmod ((Int.tmod a 4) + 4) 4 < 4 := Int.tmod_lt_of_pos _ (by omega)
  exact ⟨(Int.tmod ((Int.tmod a 4) + 4) 4).toNat, by omega, by omega⟩
theorem WotsChains : mootlaw03_WotsChains.Pure := by
  intro s a1 a2 hs w1 w2
  obtain ⟨m, hm, hm3⟩ := mod4 a1 w1
  obtain ⟨n, hn, hn3⟩ := mod4 a2 w2
  have hw : wrap64 ((m : Int) + (n : Int)) = ((m + n : Nat) : Int) := by rw [wrap64_id _ (by omega) (by omega)]; omega
  have hs' : s.size ≤ 140737488355000 := by omega
  unfold mootlaw03_WotsChains.f
  rw [alive03, Option.bind_some, if_pos rfl, hm, hn, hw]
  by_cases c : m + n > 3
  · rw [if_pos (by omega)]
    have h1 : wots_Chain.f s ((m + n : Nat) : Int) = some (chainN s 3) := by
      unfold wots_Chain.f
      rw [if_pos hs']
      have : (mn (mx ((m + n : Nat) : Int) 0) 3).toNat = 3 := by unfold mn mx; split <;> split <;> omega
      rw [this]
    have h2 := chain_f s hs' 3 (by omega)
    have e3 : ((3 : Nat) : Int) = 3 := rfl
    rw [e3] at h2
    rw [h1, h2, Option.bind_some, Option.bind_some, beq_self_eq_true]
  · rw [if_neg (by omega), chain_f s hs' m hm3, Option.bind_some, chain_f (chainN s m) (chainN_size s hs' m) n hn3, Option.bind_some, chain_f s hs' (m + n) (by omega), Option.bind_some, chainN_add, beq_self_eq_true]
end Go.Proofs.Ytclmikbbjhdplaa.Pure
