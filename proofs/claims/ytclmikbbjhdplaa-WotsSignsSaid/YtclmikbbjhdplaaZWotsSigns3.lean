/- Texts of this session joined into one: QWots, XF23, QEnds, XF45, QRefWots, HRefOpen, XF14, HOpens, PureWotsSigns. -/
import Derived.Test.YtclmikbbjhdplaaZWotsSigns1
import Derived.Test.YtclmikbbjhdplaaZWotsSigns2
import Derived.Deep.RegionLaw
import Derived.Test.YtclmikbbjhdplaaRows
import Derived.Deep.Slices
import Derived.ChangeSame
import Derived.SizedLaws
import Derived.ProofKit
/- One-time signatures in plain lists: digits, chains, ends. -/
namespace Go.Proofs.Ytclmikbbjhdplaa.X
open Go.RowKit Go.Proofs.YtclmikbbjhdplaaW.PrintWords Go.Proofs.YtclmikbbjhdplaaW.PrintLast Go.Proofs.YtclmikbbjhdplaaW.PrintMore
set_option linter.unusedVariables false
set_option linter.unusedSimpArgs false

theorem wraps_i64 (n : Int) (h0 : 0 ≤ n) (h1 : n < 2 ^ 63) : IntKind.i64.wrap n = n := by rw [IntKind.wrap_i64]; omega
theorem and3 (x : Int) (h0 : 0 ≤ x) (h1 : x < 9223372036854775808) : Go.bits .and .i64 x 3 = x % 4 := by
  have e := bits_mask .i64 63 (by decide) wraps_i64 2 (by decide) x h0 h1
  rw [show ((2 : Int) ^ 2 - 1) = 3 by decide, show ((2 : Int) ^ 2) = 4 by decide] at e
  exact e
/-- One digit. -/
def dg (n j : Int) : Int := n / j % 4
theorem dg_of (n : Int) (h0 : 0 ≤ n) (h1 : n < 65536) (y : Int) (j : Nat) (hj : j ≤ 14) (hy : y = (j : Int)) : Go.bits .and .i64 (shr .i64 n y) 3 = dg n (2 ^ j) := by
  subst hy
  unfold shr dg
  have h2 : min (j : Int).toNat IntKind.i64.bits = j := by
    rw [Int.toNat_natCast]
    exact Nat.min_eq_left (by have : IntKind.i64.bits = 64 := rfl; omega)
  have hp : (0 : Int) < 2 ^ j := Int.pow_pos (by omega)
  have h3 : n / 2 ^ j ≤ n := Int.ediv_le_self _ h0
  rw [h2, and3 _ (Int.ediv_nonneg h0 (by omega)) (by omega)]
def d8L (n : Int) : List Int := [dg n 16384, dg n 4096, dg n 1024, dg n 256, dg n 64, dg n 16, dg n 4, dg n 1]
def d3L (n : Int) : List Int := [dg n 16, dg n 4, dg n 1]
theorem digits8 (n : Int) (h0 : 0 ≤ n) (h1 : n < 65536) : wots_digits.f 20 n 8 = some (d8L n) := by
  have e : wots_digits.f 20 n 8 = some [Go.bits .and .i64 (shr .i64 n (wrap64 (2 * (wrap64 ((wrap64 (8 - 1)) - 0))))) 3, Go.bits .and .i64 (shr .i64 n (wrap64 (2 * (wrap64 ((wrap64 (8 - 1)) - 1))))) 3, Go.bits .and .i64 (shr .i64 n (wrap64 (2 * (wrap64 ((wrap64 (8 - 1)) - 2))))) 3, Go.bits .and .i64 (shr .i64 n (wrap64 (2 * (wrap64 ((wrap64 (8 - 1)) - 3))))) 3, Go.bits .and .i64 (shr .i64 n (wrap64 (2 * (wrap64 ((wrap64 (8 - 1)) - 4))))) 3, Go.bits .and .i64 (shr .i64 n (wrap64 (2 * (wrap64 ((wrap64 (8 - 1)) - 5))))) 3, Go.bits .and .i64 (shr .i64 n (wrap64 (2 * (wrap64 ((wrap64 (8 - 1)) - 6))))) 3, Go.bits .and .i64 (shr .i64 n (wrap64 (2 * (wrap64 ((wrap64 (8 - 1)) - 7))))) 3] := by kernel_rfl
  rw [e, dg_of n h0 h1 _ 14 (by omega) (by decide +kernel), dg_of n h0 h1 _ 12 (by omega) (by decide +kernel), dg_of n h0 h1 _ 10 (by omega) (by decide +kernel), dg_of n h0 h1 _ 8 (by omega) (by decide +kernel), dg_of n h0 h1 _ 6 (by omega) (by decide +kernel), dg_of n h0 h1 _ 4 (by omega) (by decide +kernel), dg_of n h0 h1 _ 2 (by omega) (by decide +kernel), dg_of n h0 h1 _ 0 (by omega) (by decide +kernel)]
  rfl
theorem digits3 (n : Int) (h0 : 0 ≤ n) (h1 : n < 65536) : wots_digits.f 20 n 3 = some (d3L n) := by
  have e : wots_digits.f 20 n 3 = some [Go.bits .and .i64 (shr .i64 n (wrap64 (2 * (wrap64 ((wrap64 (3 - 1)) - 0))))) 3, Go.bits .and .i64 (shr .i64 n (wrap64 (2 * (wrap64 ((wrap64 (3 - 1)) - 1))))) 3, Go.bits .and .i64 (shr .i64 n (wrap64 (2 * (wrap64 ((wrap64 (3 - 1)) - 2))))) 3] := by kernel_rfl
  rw [e, dg_of n h0 h1 _ 4 (by omega) (by decide +kernel), dg_of n h0 h1 _ 2 (by omega) (by decide +kernel), dg_of n h0 h1 _ 0 (by omega) (by decide +kernel)]
  rfl
/-- What eight digits lack. -/
def lackF (n : Int) : Int := 24 - (dg n 16384 + dg n 4096 + dg n 1024 + dg n 256 + dg n 64 + dg n 16 + dg n 4 + dg n 1)
theorem dg_range (n j : Int) : 0 ≤ dg n j ∧ dg n j ≤ 3 := by unfold dg; omega
theorem lack8 (n : Int) : lackN (d8L n) 8 = lackF n ∧ 0 ≤ lackF n ∧ lackF n ≤ 24 := by
  have r0 := dg_range n 16384
  have r1 := dg_range n 4096
  have r2 := dg_range n 1024
  have r3 := dg_range n 256
  have r4 := dg_range n 64
  have r5 := dg_range n 16
  have r6 := dg_range n 4
  have r7 := dg_range n 1
  unfold lackF
  refine ⟨?_, by omega, by omega⟩
  have e : lackN (d8L n) 8 = wrap64 (wrap64 (wrap64 (wrap64 (wrap64 (wrap64 (wrap64 (wrap64 (0 + wrap64 (3 - dg n 16384)) + wrap64 (3 - dg n 4096)) + wrap64 (3 - dg n 1024)) + wrap64 (3 - dg n 256)) + wrap64 (3 - dg n 64)) + wrap64 (3 - dg n 16)) + wrap64 (3 - dg n 4)) + wrap64 (3 - dg n 1)) := rfl
  rw [e]
  generalize dg n 16384 = a0 at *
  generalize dg n 4096 = a1 at *
  generalize dg n 1024 = a2 at *
  generalize dg n 256 = a3 at *
  generalize dg n 64 = a4 at *
  generalize dg n 16 = a5 at *
  generalize dg n 4 = a6 at *
  generalize dg n 1 = a7 at *
  rw [wrap64_id (3 - a0) (by omega) (by omega), wrap64_id (3 - a1) (by omega) (by omega), wrap64_id (3 - a2) (by omega) (by omega), wrap64_id (3 - a3) (by omega) (by omega), wrap64_id (3 - a4) (by omega) (by omega), wrap64_id (3 - a5) (by omega) (by omega), wrap64_id (3 - a6) (by omega) (by omega), wrap64_id (3 - a7) (by omega) (by omega)]
  rw [wrap64_id (0 + (3 - a0)) (by omega) (by omega), wrap64_id (0 + (3 - a0) + (3 - a1)) (by omega) (by omega), wrap64_id (0 + (3 - a0) + (3 - a1) + (3 - a2)) (by omega) (by omega), wrap64_id (0 + (3 - a0) + (3 - a1) + (3 - a2) + (3 - a3)) (by omega) (by omega), wrap64_id (0 + (3 - a0) + (3 - a1) + (3 - a2) + (3 - a3) + (3 - a4)) (by omega) (by omega), wrap64_id (0 + (3 - a0) + (3 - a1) + (3 - a2) + (3 - a3) + (3 - a4) + (3 - a5)) (by omega) (by omega), wrap64_id (0 + (3 - a0) + (3 - a1) + (3 - a2) + (3 - a3) + (3 - a4) + (3 - a5) + (3 - a6)) (by omega) (by omega), wrap64_id (0 + (3 - a0) + (3 - a1) + (3 - a2) + (3 - a3) + (3 - a4) + (3 - a5) + (3 - a6) + (3 - a7)) (by omega) (by omega)]
  omega
/-- The number of which a text's digits are. -/
def numP (l : List Int) : Int := word4 (sumL l) 0 / 65536
def partsL (l : List Int) : List Int := d8L (numP l) ++ d3L (lackF (numP l))
theorem sum_byte (l : List Int) (i : Nat) (h : i < 32) : 0 ≤ rd (sumL l) (i : Int) ∧ rd (sumL l) (i : Int) < 256 := by
  have hl := sumL_len l
  rw [rd_at (sumL l) i (by omega)]
  exact sumL_octets l _ (List.getElem_mem _)
theorem word_sum (l : List Int) : word4 (sumL l) 0 = ((rd (sumL l) 0 * 256 + rd (sumL l) 1) * 256 + rd (sumL l) 2) * 256 + rd (sumL l) 3 := by
  exact word4_join (sumL l) 0 _ _ _ _ rfl rfl rfl rfl (sum_byte l 0 (by omega)) (sum_byte l 1 (by omega)) (sum_byte l 2 (by omega)) (sum_byte l 3 (by omega))
theorem numP_eq (l : List Int) : numP l = rd (sumL l) 0 * 256 + rd (sumL l) 1 := by
  have h0 := sum_byte l 0 (by omega)
  have h1 := sum_byte l 1 (by omega)
  have h2 := sum_byte l 2 (by omega)
  have h3 := sum_byte l 3 (by omega)
  unfold numP
  rw [word_sum]
  simp only [Int.natCast_zero] at *
  have e1 : ((1 : Nat) : Int) = 1 := rfl
  have e2 : ((2 : Nat) : Int) = 2 := rfl
  have e3 : ((3 : Nat) : Int) = 3 := rfl
  rw [e1] at h1
  rw [e2] at h2
  rw [e3] at h3
  omega
theorem numP_range (l : List Int) : 0 ≤ numP l ∧ numP l < 65536 := by
  have h0 := sum_byte l 0 (by omega)
  have h1 := sum_byte l 1 (by omega)
  rw [numP_eq]
  have e0 : ((0 : Nat) : Int) = 0 := rfl
  have e1 : ((1 : Nat) : Int) = 1 := rfl
  rw [e0] at h0
  rw [e1] at h1
  omega
theorem parts_f (l : List Int) (hl : l.length ≤ 140737488355000) : wots_Parts.f l = some (partsL l) := by
  have hn := numP_range l
  have hw := word_at (sumL l) 0 (by rw [sumL_len]; omega) (by omega) (by rw [sumL_len]; omega)
  have hk := lack8 (numP l)
  have hx : 0 ≤ word4 (sumL l) 0 ∧ word4 (sumL l) 0 < 4294967296 := by unfold numP at hn; omega
  unfold wots_Parts.f
  rw [sum_f l hl, Option.bind_some, hw, Option.bind_some, if_pos hx]
  have e : word4 (sumL l) 0 / 65536 = numP l := rfl
  rw [e, digits8 _ hn.1 hn.2, Option.bind_some, show (d8L (numP l)).length = 8 from rfl, hk.1, digits3 _ hk.2.1 (by omega), Option.bind_some, if_pos ⟨rfl, rfl⟩]
  rfl
theorem partsL_len (l : List Int) : (partsL l).length = 11 := rfl
theorem partsL_range (l : List Int) : ∀ x ∈ partsL l, 0 ≤ x ∧ x ≤ 3 := by
  intro x hx
  simp only [partsL, d8L, d3L, List.cons_append, List.nil_append, List.mem_cons, List.not_mem_nil, or_false] at hx
  rcases hx with rfl | rfl | rfl | rfl | rfl | rfl | rfl | rfl | rfl | rfl | rfl <;> exact dg_range _ _
theorem partsL_at (l : List Int) (i : Nat) (h : i < 11) : 0 ≤ rd (partsL l) (i : Int) ∧ rd (partsL l) (i : Int) ≤ 3 := by
  rw [rd_at (partsL l) i (by rw [partsL_len]; exact h)]
  exact partsL_range l _ (List.getElem_mem _)
theorem chainN_add (s : ByteArray) (a : Nat) : ∀ b, chainN (chainN s a) b = chainN s (a + b)
  | 0 => rfl
  | b + 1 => by rw [chainN, chainN_add s a b, Nat.add_succ, chainN]
theorem secretB_size (s : ByteArray) (a b : Int) : (secretB s a b).size = 8 := shortB_size _
theorem chainN_size8 (s : ByteArray) (hs : s.size = 8) : ∀ n, (chainN s n).size = 8
  | 0 => hs
  | n + 1 => shortB_size _
theorem chain_f (s : ByteArray) (hs : s.size ≤ 140737488355000) (n : Nat) (hn : n ≤ 3) : wots_Chain.f s (n : Int) = some (chainN s n) := by
  unfold wots_Chain.f
  rw [if_pos hs]
  have : (mn (mx (n : Int) 0) 3).toNat = n := by unfold mn mx; split <;> split <;> omega
  rw [this]
theorem alive03 : mootlaw03_alive.f = some true := by
  unfold mootlaw03_alive.f
  rw [parts_f _ (by decide), Option.bind_some, if_pos (by rw [partsL_len]; rfl)]
  unfold wots_Secret.f
  rw [if_pos (by decide), Option.bind_some, secretB_size]
  rfl
end Go.Proofs.Ytclmikbbjhdplaa.X
-- Written by a program of this session (a turn of the kit's print with contracts by hand). Not trusted: Lean checks it.
namespace Go.Proofs.Ytclmikbbjhdplaa.X
open Go.RowKit Go.Proofs.YtclmikbbjhdplaaW.PrintWords Go.Proofs.YtclmikbbjhdplaaW.PrintLast Go.Proofs.YtclmikbbjhdplaaW.PrintMore
attribute [local go_sem] max2_int min2_int max_two min_two max_three min_three max_four min_four   -- for this text's walks alone
set_option linter.unusedVariables false
set_option linter.unusedSimpArgs false

/-! ### wots_Leaf: function 23 -/
def wots_Leaf.l0 : Nat → ByteArray → Int → List ByteArray → Int → Option (ByteArray)
  | 0, _, _, _, _ => none
  | k + 1, x0, x1, x5, x7 => if x7 < 11 then ((wots_Secret.f x0 x1 x7).bind fun t388 => ((wots_Chain.f t388 3).bind fun t389 => (if x5.length < 8796093022208 then (wots_Leaf.l0 k x0 x1 (x5 ++ [t389]) (wrap64 (x7 + 1))) else (none)))) else ((wots_ended.f k x5).bind fun t393 => (some t393))
def wots_Leaf.f (k : Nat) (a0 : ByteArray) (a1 : Int) : Option (ByteArray) := wots_Leaf.l0 k a0 a1 ([] : List ByteArray) 0
theorem wots_Leaf.mono_l : ∀ k, (∀ y0 y1 y2 y3, LeO (wots_Leaf.l0 k y0 y1 y2 y3) (wots_Leaf.l0 (k + 1) y0 y1 y2 y3))
  | 0 => fun _ _ _ _ r h => by simp [wots_Leaf.l0] at h
  | k + 1 => by
    have ih0 := wots_Leaf.mono_l k
    · intro y0 y1 y2 y3
      unfold wots_Leaf.l0
      repeat' first
      | (with_reducible exact ih0 _ _ _ _)
      | (with_reducible exact wots_ended.mono _ _)
      | (with_reducible exact LeO.refl _)
      | (with_reducible exact LeO.none _)
      | (with_reducible refine LeO.ite ?_ ?_)
      | (with_reducible refine LeO.bind ?_ (fun _ => ?_))
      | exact ih0 _ _ _ _
      | exact wots_ended.mono _ _
      | exact LeO.none _
      | refine LeO.ite ?_ ?_
      | refine LeO.bind ?_ (fun _ => ?_)
theorem wots_Leaf.mono : ∀ a0 a1 k, LeO (wots_Leaf.f k a0 a1) (wots_Leaf.f (k + 1) a0 a1) := by
  intro a0 a1 k
  have ih0 := wots_Leaf.mono_l k
  unfold wots_Leaf.f
  repeat' first
      | (with_reducible exact ih0 _ _ _ _)
      | (with_reducible exact wots_ended.mono _ _)
      | (with_reducible exact LeO.refl _)
      | (with_reducible exact LeO.none _)
      | (with_reducible refine LeO.ite ?_ ?_)
      | (with_reducible refine LeO.bind ?_ (fun _ => ?_))
      | exact ih0 _ _ _ _
      | exact wots_ended.mono _ _
      | exact LeO.none _
      | refine LeO.ite ?_ ?_
      | refine LeO.bind ?_ (fun _ => ?_)
set_option maxHeartbeats 8000000 in
set_option maxRecDepth 100000 in
theorem wots_Leaf.calls (k : Nat) (a0 : ByteArray) (a1 : Int) (r : ByteArray) (w : World) (h : wots_Leaf.f k a0 a1 = some r) :
    Calls Try.prog 23 #[.string a0, .int .i64 a1] w fun e w' => e = .returned (.string r) ∧ Below w.heap.size w w' := by
  have HB := Aside0.mk (Below.refl w.heap.size w)
  have H : (wots_Leaf.l0 k a0 a1 ([] : List ByteArray) 0) = some r := h
  clear h
  have H' := Aside0.mk H
  clear H
  go_enter Try.func23, Try.ntmps23
  go_wp2
  go_loopg [5, 7] k (fun kq v5 v7 w' => ∃ (x5_1 : List ByteArray) (x7_1 : Int), v7 = .int .i64 x7_1 ∧ Aside0 (wots_Leaf.l0 kq a0 a1 x5_1 x7_1 = some r) ∧ Aside0 (kq ≤ k) ∧ Aside0 (Kd.R Kd.string 9 w' w.heap.size (fun _ => True) v5 x5_1) ∧ Aside0 (Below w.heap.size w w'))
  case atStart => exact ⟨(([] : List ByteArray)), (0), (by first | rfl | (simp; done) | (simp [*]; done)), H', ⟨Nat.le_refl _⟩, ⟨by first | exact Kd.R_nil _ _ _ _ _ | exact Kd.N_nil _ _ _ _ _ | exact Kd.V_nil _ _ _ _ _ | exact Kd.Q_nil _ _ _ _ _ | exact Kd.S_nil _ _ _ _ _⟩, ⟨by repeat (first | (with_reducible first | exact HB.out | apply below_alloc | apply pw_below_drewN | apply below_drew1) | exact HB.out)⟩⟩
  case round =>
    clear H'
    try clear c2
    try clear p2
    obtain ⟨x5_1, x7_1, rfl, HA, HK1, HO_5, HB⟩ := hrel
    cases gk with
    | zero => exact absurd HA.out (by simp [wots_Leaf.l0])
    | succ k1 =>
      have H := HA.out
      clear HA
      simp only [wots_Leaf.l0] at H
      by_cases c3 : x7_1 < 11
      · rw [if_pos c3] at H
        have c3b0 : decide (x7_1 < 11) = true := decide_eq_true c3
        clear c3
        replace H := Option.bind_eq_some_iff.mp H
        obtain ⟨t388, A40, H⟩ := H
        replace H : ((wots_Chain.f t388 3).bind fun t389 => (if x5_1.length < 8796093022208 then (wots_Leaf.l0 k1 a0 a1 (x5_1 ++ [t389]) (wrap64 (x7_1 + 1))) else (none))) = some r := H
        have A4 := Aside0.mk A40
        clear A40
        replace H := Option.bind_eq_some_iff.mp H
        obtain ⟨t389, A50, H⟩ := H
        replace H : (if x5_1.length < 8796093022208 then (wots_Leaf.l0 k1 a0 a1 (x5_1 ++ [t389]) (wrap64 (x7_1 + 1))) else (none)) = some r := H
        have A5 := Aside0.mk A50
        clear A50
        by_cases c6 : x5_1.length < 8796093022208
        · rw [if_pos c6] at H
          have LMc6 := Aside0.mk c6
          clear c6
          obtain ⟨y390, hy390⟩ : ∃ y_ : List ByteArray, y_ = (x5_1 ++ [t389]) := ⟨_, rfl⟩
          replace H : (wots_Leaf.l0 k1 a0 a1 y390 (wrap64 (x7_1 + 1))) = some r := by first | (rw [hy390]; with_reducible exact H) | (have H2_ := (Option.bind_some _ _).symm.trans H; rw [hy390]; with_reducible exact H2_) | (have H2_ := (Option.bind_some _ _).symm.trans H; with_reducible exact H2_) | with_reducible exact H | (rw [hy390]; exact H) | exact H
          have Ny390 := Aside0.mk hy390
          clear hy390
          have H' := Aside0.mk H
          clear H
          go_wp2_with (first | ((with_reducible refine gate_callee (f := 43) rfl ?_); refine goesL_ (some 14) rfl rfl Try.func43 (by kernel_rfl) rfl #[.string a0, .int .i64 a1, .int .i64 x7_1] rfl (by (try simp only [List.map_toArray, List.map_cons, List.map_nil]); first | done | rfl | (simp only [List.length_drop, List.length_take]; rfl)) ?_; (with_reducible refine (wots_Secret.calls a0 a1 x7_1 t388 _ A4.out).mono ?_); rintro e w7 ⟨rfl, hb⟩; refine ⟨_, rfl, ?_⟩; have n0_ := Aside0.mk (Kd.R_below (by (with_reducible repeat (first | apply Kd.R_alloc | apply Kd.R_drewN | apply Kd.R_drew)); exact HO_5.out) hb); have n1_ := Aside0.mk (below_step (by repeat (first | (with_reducible first | exact HB.out | apply below_alloc | apply pw_below_drewN | apply below_drew1) | exact HB.out)) hb); clear HO_5; clear HB; have HO_5 := n0_; have HB := n1_; clear n0_ n1_; (try clear hb); (try clear hb2); (try clear hk); (try clear hi)) | ((with_reducible refine gate_callee (f := 39) rfl ?_); refine goesL_ (some 15) rfl rfl Try.func39 (by kernel_rfl) rfl #[.string t388, .int .i64 3] rfl (by (try simp only [List.map_toArray, List.map_cons, List.map_nil]); first | done | rfl | (simp only [List.length_drop, List.length_take]; rfl)) ?_; (with_reducible refine (wots_Chain.calls t388 3 t389 _ A5.out).mono ?_); rintro e w8 ⟨rfl, hb⟩; refine ⟨_, rfl, ?_⟩; have n0_ := Aside0.mk (Kd.R_below (by (with_reducible repeat (first | apply Kd.R_alloc | apply Kd.R_drewN | apply Kd.R_drew)); exact HO_5.out) hb); have n1_ := Aside0.mk (below_step (by repeat (first | (with_reducible first | exact HB.out | apply below_alloc | apply pw_below_drewN | apply below_drew1) | exact HB.out)) hb); clear HO_5; clear HB; have HO_5 := n0_; have HB := n1_; clear n0_ n1_; (try clear hb); (try clear hb2); (try clear hk); (try clear hi)) | ((with_reducible refine gate_builtin (b := .append) (xs := #[.tmp 10, .tmp 16]) rfl ?_); at_builtin; refine Kd.R_append Kd.string (w0 := w) w.heap.size rfl (.tmp 10) (.tmp 16) 36 9 (.string ⟨#[]⟩) 16 rfl Try.underlying36 info9 rfl (by decide) (by omega) u5 x5_1 t389 [.string t389] (fun _ => True) (fun _ => False) rfl rfl ?aP (fun _ hk => hk.elim) ?aF ?aO ?aB ?aS ?aL ?_; (case aP => exact rfl); (case aB => exact (by repeat (first | (with_reducible first | exact HB.out | apply below_alloc | apply pw_below_drewN | apply below_drew1) | exact HB.out))); (case aF => exact (fun _ _ => trivial)); (case aO => exact (by (with_reducible repeat (first | apply Kd.R_alloc | apply Kd.R_drewN | apply Kd.R_drew)); exact HO_5.out)); (case aS => exact (below_size (by repeat (first | (with_reducible first | exact HB.out | apply below_alloc | apply pw_below_drewN | apply below_drew1) | exact HB.out)))); (case aL => have := LMc6.out; omega); intro v391 w9 ho hb hg hat; rw [← Ny390.out] at ho; have n0_ := Aside0.mk (hb); have n1_ := Aside0.mk (ho); clear HB; clear HO_5; have HB := n0_; have HO392 := n1_; clear n0_ n1_; clear ho hb hg hat))
          go_roundg k1
          case measure => have := HK1.out; omega
          case rel => exact ⟨(y390), (wrap64 (x7_1 + 1)), (by first | rfl | (simp; done) | (simp [*]; done)), H', ⟨by have := HK1.out; omega⟩, ⟨by (with_reducible repeat (first | apply Kd.R_alloc | apply Kd.R_drewN | apply Kd.R_drew)); exact HO392.out⟩, ⟨by repeat (first | (with_reducible first | exact HB.out | apply below_alloc | apply pw_below_drewN | apply below_drew1) | exact HB.out)⟩⟩
        · rw [if_neg c6] at H
          exact absurd H (by simp)
      · rw [if_neg c3] at H
        have c3b0 : decide (x7_1 < 11) = false := decide_eq_false c3
        clear c3
        replace H := Option.bind_eq_some_iff.mp H
        obtain ⟨t393, A100, H⟩ := H
        replace H : (some t393) = some r := H
        have A10 := Aside0.mk A100
        clear A100
        obtain rfl := Option.some.inj H
        obtain ⟨Ao11, co11, eo11⟩ := Kd.R_slice HO_5.out
        subst eo11
        go_wp2_with (first | ((with_reducible refine gate_callee (f := 51) rfl ?_); refine goesL_ (some 20) rfl rfl Try.func51 (by kernel_rfl) rfl #[.slice Ao11 x5_1.length co11] rfl (by (try simp only [List.map_toArray, List.map_cons, List.map_nil]); first | done | rfl | (simp only [List.length_drop, List.length_take]; rfl)) ?_; (with_reducible refine (wots_ended.calls k1 _ _ x5_1 t393 _ ?side1 ?side2 A10.out).mono ?_); (case side1 => repeat (first | exact (Kd.R_reads' HO_5.out).2.2 | (with_reducible refine Kd.C_alloc ?_ _) | (with_reducible refine Kd.C_drewN ?_ _) | (with_reducible refine Kd.C_drew ?_))); (case side2 => exact (Kd.R_reads' HO_5.out).2.1); rintro e w12 ⟨rfl, hb⟩; refine ⟨_, rfl, ?_⟩; have n0_ := Aside0.mk (Kd.R_below (by (with_reducible repeat (first | apply Kd.R_alloc | apply Kd.R_drewN | apply Kd.R_drew)); exact HO_5.out) hb); have n1_ := Aside0.mk (below_step (by repeat (first | (with_reducible first | exact HB.out | apply below_alloc | apply pw_below_drewN | apply below_drew1) | exact HB.out)) hb); clear HO_5; clear HB; have HO_5 := n0_; have HB := n1_; clear n0_ n1_; (try clear hb); (try clear hb2); (try clear hk); (try clear hi)))
        go_ret
        exact ⟨by first | rfl | (simp [errW_none, errW_some] <;> rfl) | (simp [*, errW_none, errW_some] <;> rfl), by repeat (first | (with_reducible first | exact HB.out | apply below_alloc | apply pw_below_drewN | apply below_drew1) | exact HB.out)⟩

end Go.Proofs.Ytclmikbbjhdplaa.X
/- Ends, leaves and signatures in plain lists. -/
namespace Go.Proofs.Ytclmikbbjhdplaa.X
open Go.RowKit Go.Proofs.YtclmikbbjhdplaaW.PrintWords Go.Proofs.YtclmikbbjhdplaaW.PrintLast Go.Proofs.YtclmikbbjhdplaaW.PrintMore
set_option linter.unusedVariables false
set_option linter.unusedSimpArgs false

/-- All texts' octets. -/
def catB (l : List ByteArray) : List Int := l.flatMap bytesOf
def endB (l : List ByteArray) : ByteArray := shortB (catB l)
theorem catB_len : ∀ l : List ByteArray, (∀ x ∈ l, x.size = 8) → (catB l).length = 8 * l.length
  | [], _ => rfl
  | x :: l, h => by
    rw [catB, List.flatMap_cons, List.length_append, bytesOf_length, h x (by simp), ← catB, catB_len l (fun y hy => h y (by simp [hy])), List.length_cons]
    omega
theorem rdOf_at (l : List ByteArray) (i : Nat) (h : i < l.length) : rdOf ByteArray.empty l (i : Int) = l[i] := by simp [rdOf, List.getD_eq_getElem?_getD, h]
theorem ended_l0 (l : List ByteArray) (hl : l.length ≤ 100) (h8 : ∀ x ∈ l, x.size = 8) : ∀ (d k i : Nat) (acc : List Int), i + d = l.length → d + 20 < k → acc.length + 8 * d ≤ 1000 →
    wots_ended.l0 k acc l (l.length : Int) (i : Int) = some (shortB (acc ++ catB (l.drop i)))
  | 0, k, i, acc, hd, hk, ha => by
    obtain ⟨k, rfl⟩ : ∃ m, k = m + 1 := ⟨k - 1, by omega⟩
    rw [wots_ended.l0, if_neg (by omega), List.drop_of_length_le (by omega), short_f' [acc] (by simp) (by rw [tot_cons]; simp [tot]; omega) k (by omega), Option.bind_some]
    simp [catB]
  | d + 1, k, i, acc, hd, hk, ha => by
    obtain ⟨k, rfl⟩ : ∃ m, k = m + 1 := ⟨k - 1, by omega⟩
    have hi : i < l.length := by omega
    have hs := h8 _ (List.getElem_mem hi)
    have hw : wrap64 ((i : Int) + 1) = ((i + 1 : Nat) : Int) := by rw [wrap64_id _ (by omega) (by omega)]; rfl
    rw [wots_ended.l0, if_pos (by omega), if_pos (by omega), if_pos (by omega), rdOf_at l i hi, if_pos (by omega), hw]
    rw [ended_l0 l hl h8 d k (i + 1) _ (by omega) (by omega) (by rw [List.length_append, bytesOf_length]; omega), List.append_assoc, List.drop_eq_getElem_cons hi]
    rfl
theorem ended_f (l : List ByteArray) (hl : l.length ≤ 100) (h8 : ∀ x ∈ l, x.size = 8) (k : Nat) (hk : l.length + 20 < k) : wots_ended.f k l = some (endB l) := by
  unfold wots_ended.f
  have := ended_l0 l hl h8 l.length k 0 [] (by omega) hk (by simp; omega)
  simpa [endB] using this
def secS (seed : ByteArray) (leaf : Int) (i : Nat) : ByteArray := secretB seed leaf (i : Int)
/-- The chains' ends. -/
def leafL (seed : ByteArray) (leaf : Int) : List ByteArray := (List.range 11).map fun i => chainN (secS seed leaf i) 3
def signL (seed : ByteArray) (leaf : Int) (d : List Int) : List ByteArray := (List.range 11).map fun i => chainN (secS seed leaf i) (rd d (i : Int)).toNat
theorem snoc_range {α : Type} (f : Nat → α) (i : Nat) : (List.range i).map f ++ [f i] = (List.range (i + 1)).map f := by rw [List.range_succ, List.map_append]; rfl
theorem secret_f (seed : ByteArray) (hs : seed.size ≤ 140737488354000) (leaf : Int) (i : Nat) : wots_Secret.f seed leaf (i : Int) = some (secS seed leaf i) := by
  unfold wots_Secret.f
  rw [if_pos hs]
  rfl
theorem secS_size (seed : ByteArray) (leaf : Int) (i : Nat) : (secS seed leaf i).size = 8 := secretB_size _ _ _
theorem leaf_l0 (seed : ByteArray) (hs : seed.size ≤ 140737488354000) (leaf : Int) : ∀ (d k i : Nat), i + d = 11 → d + 35 < k →
    wots_Leaf.l0 k seed leaf ((List.range i).map fun i => chainN (secS seed leaf i) 3) (i : Int) = some (endB (leafL seed leaf))
  | 0, k, i, hd, hk => by
    obtain ⟨k, rfl⟩ : ∃ m, k = m + 1 := ⟨k - 1, by omega⟩
    obtain rfl : i = 11 := by omega
    rw [wots_Leaf.l0, if_neg (by omega), ended_f _ (by simp) (by
      intro x hx
      simp only [List.mem_map] at hx
      obtain ⟨j, _, rfl⟩ := hx
      exact chainN_size8 _ (secS_size _ _ _) 3) k (by simp; omega), Option.bind_some]
    rfl
  | d + 1, k, i, hd, hk => by
    obtain ⟨k, rfl⟩ : ∃ m, k = m + 1 := ⟨k - 1, by omega⟩
    have hw : wrap64 ((i : Int) + 1) = ((i + 1 : Nat) : Int) := by rw [wrap64_id _ (by omega) (by omega)]; rfl
    have hc := chain_f (secS seed leaf i) (by rw [secS_size]; omega) 3 (by omega)
    have e3 : ((3 : Nat) : Int) = 3 := rfl
    rw [e3] at hc
    rw [wots_Leaf.l0, if_pos (by omega), secret_f seed hs, Option.bind_some, hc, Option.bind_some, if_pos (by simp; omega), hw, snoc_range (fun i => chainN (secS seed leaf i) 3) i]
    exact leaf_l0 seed hs leaf d k (i + 1) (by omega) (by omega)
theorem leaf_f (seed : ByteArray) (hs : seed.size ≤ 140737488354000) (leaf : Int) (k : Nat) (hk : 50 ≤ k) : wots_Leaf.f k seed leaf = some (endB (leafL seed leaf)) := by
  unfold wots_Leaf.f
  exact leaf_l0 seed hs leaf 11 k 0 (by omega) (by omega)
theorem sign_l0 (seed : ByteArray) (hs : seed.size ≤ 140737488354000) (leaf : Int) (p : List Int) (hp : p.length = 11) (hr : ∀ i : Nat, i < 11 → 0 ≤ rd p (i : Int) ∧ rd p (i : Int) ≤ 3) : ∀ (d k i : Nat), i + d = 11 → d < k →
    wots_Sign.l0 k seed leaf ((List.range i).map fun i => chainN (secS seed leaf i) (rd p (i : Int)).toNat) p (p.length : Int) (i : Int) = some (signL seed leaf p)
  | 0, k, i, hd, hk => by
    obtain ⟨k, rfl⟩ : ∃ m, k = m + 1 := ⟨k - 1, by omega⟩
    obtain rfl : i = 11 := by omega
    rw [wots_Sign.l0, if_neg (by omega)]
    rfl
  | d + 1, k, i, hd, hk => by
    obtain ⟨k, rfl⟩ : ∃ m, k = m + 1 := ⟨k - 1, by omega⟩
    have hw : wrap64 ((i : Int) + 1) = ((i + 1 : Nat) : Int) := by rw [wrap64_id _ (by omega) (by omega)]; rfl
    have hri := hr i (by omega)
    have hc := chain_f (secS seed leaf i) (by rw [secS_size]; omega) (rd p (i : Int)).toNat (by omega)
    rw [Int.toNat_of_nonneg hri.1] at hc
    rw [wots_Sign.l0, if_pos (by omega), if_pos (by omega), if_pos (by omega), secret_f seed hs, Option.bind_some, hc, Option.bind_some, if_pos (by simp; omega), hw, snoc_range (fun i => chainN (secS seed leaf i) (rd p (i : Int)).toNat) i]
    exact sign_l0 seed hs leaf p hp hr d k (i + 1) (by omega) (by omega)
theorem sign_f (seed : ByteArray) (hs : seed.size ≤ 140737488354000) (leaf : Int) (l : List Int) (hl : l.length ≤ 140737488355000) (k : Nat) (hk : 12 ≤ k) : wots_Sign.f k seed leaf l = some (signL seed leaf (partsL l)) := by
  unfold wots_Sign.f
  rw [parts_f l hl, Option.bind_some]
  exact sign_l0 seed hs leaf (partsL l) (partsL_len l) (partsL_at l) 11 k 0 (by omega) (by omega)
/-- What parts open to. -/
def openL (x : List ByteArray) (p : List Int) : List ByteArray := (List.range 11).map fun (i : Nat) => chainN (rdOf ByteArray.empty x (i : Int)) (3 - rd p (i : Int)).toNat
theorem open_l0 (x : List ByteArray) (hx : x.length = 11) (h8 : ∀ y ∈ x, y.size = 8) (p : List Int) (hp : p.length = 11) (hr : ∀ i : Nat, i < 11 → 0 ≤ rd p (i : Int) ∧ rd p (i : Int) ≤ 3) : ∀ (d k i : Nat), i + d = 11 → d + 35 < k →
    wots_Open.l0 k x ((List.range i).map fun (i : Nat) => chainN (rdOf ByteArray.empty x (i : Int)) (3 - rd p (i : Int)).toNat) p (p.length : Int) (i : Int) = some (endB (openL x p))
  | 0, k, i, hd, hk => by
    obtain ⟨k, rfl⟩ : ∃ m, k = m + 1 := ⟨k - 1, by omega⟩
    obtain rfl : i = 11 := by omega
    rw [wots_Open.l0, if_neg (by omega), ended_f _ (by simp) (by
      intro y hy
      simp only [List.mem_map, List.mem_range] at hy
      obtain ⟨j, hj, rfl⟩ := hy
      rw [rdOf_at x j (by omega)]
      exact chainN_size8 _ (h8 _ (List.getElem_mem _)) _) k (by simp; omega), Option.bind_some]
    rfl
  | d + 1, k, i, hd, hk => by
    obtain ⟨k, rfl⟩ : ∃ m, k = m + 1 := ⟨k - 1, by omega⟩
    have hw : wrap64 ((i : Int) + 1) = ((i + 1 : Nat) : Int) := by rw [wrap64_id _ (by omega) (by omega)]; rfl
    have hri := hr i (by omega)
    have hw2 : wrap64 (3 - rd p (i : Int)) = 3 - rd p (i : Int) := wrap64_id _ (by omega) (by omega)
    have hsz : (rdOf ByteArray.empty x (i : Int)).size = 8 := by rw [rdOf_at x i (by omega)]; exact h8 _ (List.getElem_mem _)
    have hc := chain_f (rdOf ByteArray.empty x (i : Int)) (by rw [hsz]; omega) (3 - rd p (i : Int)).toNat (by omega)
    rw [Int.toNat_of_nonneg (by omega)] at hc
    rw [wots_Open.l0, if_pos (by omega), if_pos (by omega), if_pos (by omega), if_pos (by omega), if_pos (by rw [hsz]; rfl), hw2, hc, Option.bind_some, if_pos (by simp; omega), hw, snoc_range (fun (i : Nat) => chainN (rdOf ByteArray.empty x (i : Int)) (3 - rd p (i : Int)).toNat) i]
    exact open_l0 x hx h8 p hp hr d k (i + 1) (by omega) (by omega)
theorem open_f (x : List ByteArray) (hx : x.length = 11) (h8 : ∀ y ∈ x, y.size = 8) (l : List Int) (hl : l.length ≤ 140737488355000) (k : Nat) (hk : 50 ≤ k) : wots_Open.f k l x = some (endB (openL x (partsL l))) := by
  unfold wots_Open.f
  rw [if_pos (by rw [hx]; rfl), parts_f l hl, Option.bind_some]
  exact open_l0 x hx h8 (partsL l) (partsL_len l) (partsL_at l) 11 k 0 (by omega) (by omega)
theorem open_sign (seed : ByteArray) (leaf : Int) (p : List Int) (hr : ∀ i : Nat, i < 11 → 0 ≤ rd p (i : Int) ∧ rd p (i : Int) ≤ 3) : openL (signL seed leaf p) p = leafL seed leaf := by
  unfold openL leafL
  refine List.map_congr_left fun i hi => ?_
  have hi := List.mem_range.mp hi
  have hri := hr i hi
  rw [rdOf_at _ i (by simp [signL]; exact hi)]
  simp only [signL, List.getElem_map, List.getElem_range]
  rw [chainN_add]
  congr 1
  omega
end Go.Proofs.Ytclmikbbjhdplaa.X
-- Written by a program of this session (a turn of the kit's print with contracts by hand). Not trusted: Lean checks it.
namespace Go.Proofs.Ytclmikbbjhdplaa.X
open Go.RowKit Go.Proofs.YtclmikbbjhdplaaW.PrintWords Go.Proofs.YtclmikbbjhdplaaW.PrintLast Go.Proofs.YtclmikbbjhdplaaW.PrintMore
attribute [local go_sem] max2_int min2_int max_two min_two max_three min_three max_four min_four   -- for this text's walks alone
set_option linter.unusedVariables false
set_option linter.unusedSimpArgs false

/-! ### mootref03_Leaf: function 45 -/
def mootref03_Leaf.l0 : Nat → ByteArray → Int → List Int → Int → Option (ByteArray)
  | 0, _, _, _, _ => none
  | k + 1, x0, x1, x5, x6 => if x6 < 11 then ((mootref03_Secret.f x0 x1 x6).bind fun t437 => ((mootref03_Chain.f t437 3).bind fun t438 => (if x5.length + t438.size < 140737488355328 then (mootref03_Leaf.l0 k x0 x1 (x5 ++ bytesOf t438) (wrap64 (x6 + 1))) else (none)))) else ((mootref03_short.f x5).bind fun t442 => (some t442))
def mootref03_Leaf.f (k : Nat) (a0 : ByteArray) (a1 : Int) : Option (ByteArray) := mootref03_Leaf.l0 k a0 a1 ([] : List Int) 0
theorem mootref03_Leaf.mono_l : ∀ k, (∀ y0 y1 y2 y3, LeO (mootref03_Leaf.l0 k y0 y1 y2 y3) (mootref03_Leaf.l0 (k + 1) y0 y1 y2 y3))
  | 0 => fun _ _ _ _ r h => by simp [mootref03_Leaf.l0] at h
  | k + 1 => by
    have ih0 := mootref03_Leaf.mono_l k
    · intro y0 y1 y2 y3
      unfold mootref03_Leaf.l0
      repeat' first
      | (with_reducible exact ih0 _ _ _ _)
      | (with_reducible exact LeO.refl _)
      | (with_reducible exact LeO.none _)
      | (with_reducible refine LeO.ite ?_ ?_)
      | (with_reducible refine LeO.bind ?_ (fun _ => ?_))
      | exact ih0 _ _ _ _
      | exact LeO.none _
      | refine LeO.ite ?_ ?_
      | refine LeO.bind ?_ (fun _ => ?_)
theorem mootref03_Leaf.mono : ∀ a0 a1 k, LeO (mootref03_Leaf.f k a0 a1) (mootref03_Leaf.f (k + 1) a0 a1) := by
  intro a0 a1 k
  have ih0 := mootref03_Leaf.mono_l k
  unfold mootref03_Leaf.f
  repeat' first
      | (with_reducible exact ih0 _ _ _ _)
      | (with_reducible exact LeO.refl _)
      | (with_reducible exact LeO.none _)
      | (with_reducible refine LeO.ite ?_ ?_)
      | (with_reducible refine LeO.bind ?_ (fun _ => ?_))
      | exact ih0 _ _ _ _
      | exact LeO.none _
      | refine LeO.ite ?_ ?_
      | refine LeO.bind ?_ (fun _ => ?_)
set_option maxHeartbeats 8000000 in
set_option maxRecDepth 100000 in
theorem mootref03_Leaf.calls (k : Nat) (a0 : ByteArray) (a1 : Int) (r : ByteArray) (w : World) (h : mootref03_Leaf.f k a0 a1 = some r) :
    Calls Try.prog 45 #[.string a0, .int .i64 a1] w fun e w' => e = .returned (.string r) ∧ Below w.heap.size w w' := by
  have HB := Aside0.mk (Below.refl w.heap.size w)
  have H : (mootref03_Leaf.l0 k a0 a1 ([] : List Int) 0) = some r := h
  clear h
  have H' := Aside0.mk H
  clear H
  go_enter Try.func45, Try.ntmps45
  go_wp2
  go_loopg [5, 6] k (fun kq v5 v6 w' => ∃ (x5_1 : List Int) (x6_1 : Int), v6 = .int .i64 x6_1 ∧ Aside0 (mootref03_Leaf.l0 kq a0 a1 x5_1 x6_1 = some r) ∧ Aside0 (kq ≤ k) ∧ Aside0 (Kd.R (Kd.int .u8) 5 w' w.heap.size (fun _ => True) v5 x5_1) ∧ Aside0 (Below w.heap.size w w'))
  case atStart => exact ⟨(([] : List Int)), (0), (by first | rfl | (simp; done) | (simp [*]; done)), H', ⟨Nat.le_refl _⟩, ⟨by first | exact Kd.R_nil _ _ _ _ _ | exact Kd.N_nil _ _ _ _ _ | exact Kd.V_nil _ _ _ _ _ | exact Kd.Q_nil _ _ _ _ _ | exact Kd.S_nil _ _ _ _ _⟩, ⟨by repeat (first | (with_reducible first | exact HB.out | apply below_alloc | apply pw_below_drewN | apply below_drew1) | exact HB.out)⟩⟩
  case round =>
    clear H'
    try clear p2
    obtain ⟨x5_1, x6_1, rfl, HA, HK1, HO_5, HB⟩ := hrel
    cases gk with
    | zero => exact absurd HA.out (by simp [mootref03_Leaf.l0])
    | succ k1 =>
      have H := HA.out
      clear HA
      simp only [mootref03_Leaf.l0] at H
      by_cases c3 : x6_1 < 11
      · rw [if_pos c3] at H
        have c3b0 : decide (x6_1 < 11) = true := decide_eq_true c3
        clear c3
        replace H := Option.bind_eq_some_iff.mp H
        obtain ⟨t437, A40, H⟩ := H
        replace H : ((mootref03_Chain.f t437 3).bind fun t438 => (if x5_1.length + t438.size < 140737488355328 then (mootref03_Leaf.l0 k1 a0 a1 (x5_1 ++ bytesOf t438) (wrap64 (x6_1 + 1))) else (none))) = some r := H
        have A4 := Aside0.mk A40
        clear A40
        replace H := Option.bind_eq_some_iff.mp H
        obtain ⟨t438, A50, H⟩ := H
        replace H : (if x5_1.length + t438.size < 140737488355328 then (mootref03_Leaf.l0 k1 a0 a1 (x5_1 ++ bytesOf t438) (wrap64 (x6_1 + 1))) else (none)) = some r := H
        have A5 := Aside0.mk A50
        clear A50
        by_cases c6 : x5_1.length + t438.size < 140737488355328
        · rw [if_pos c6] at H
          have LMc6 := Aside0.mk c6
          clear c6
          obtain ⟨y439, hy439⟩ : ∃ y_ : List Int, y_ = (x5_1 ++ bytesOf t438) := ⟨_, rfl⟩
          replace H : (mootref03_Leaf.l0 k1 a0 a1 y439 (wrap64 (x6_1 + 1))) = some r := by first | (rw [hy439]; with_reducible exact H) | (have H2_ := (Option.bind_some _ _).symm.trans H; rw [hy439]; with_reducible exact H2_) | (have H2_ := (Option.bind_some _ _).symm.trans H; with_reducible exact H2_) | with_reducible exact H | (rw [hy439]; exact H) | exact H
          have Ny439 := Aside0.mk hy439
          clear hy439
          have H' := Aside0.mk H
          clear H
          go_wp2_with (first | ((with_reducible refine gate_callee (f := 44) rfl ?_); refine goesL_ (some 15) rfl rfl Try.func44 (by kernel_rfl) rfl #[.string a0, .int .i64 a1, .int .i64 x6_1] rfl (by (try simp only [List.map_toArray, List.map_cons, List.map_nil]); first | done | rfl | (simp only [List.length_drop, List.length_take]; rfl)) ?_; (with_reducible refine (mootref03_Secret.calls a0 a1 x6_1 t437 _ A4.out).mono ?_); rintro e w7 ⟨rfl, hb⟩; refine ⟨_, rfl, ?_⟩; have n0_ := Aside0.mk (Kd.R_below (by (with_reducible repeat (first | apply Kd.R_alloc | apply Kd.R_drewN | apply Kd.R_drew)); exact HO_5.out) hb); have n1_ := Aside0.mk (below_step (by repeat (first | (with_reducible first | exact HB.out | apply below_alloc | apply pw_below_drewN | apply below_drew1) | exact HB.out)) hb); clear HO_5; clear HB; have HO_5 := n0_; have HB := n1_; clear n0_ n1_; (try clear hb); (try clear hb2); (try clear hk); (try clear hi)) | ((with_reducible refine gate_callee (f := 42) rfl ?_); refine goesL_ (some 16) rfl rfl Try.func42 (by kernel_rfl) rfl #[.string t437, .int .i64 3] rfl (by (try simp only [List.map_toArray, List.map_cons, List.map_nil]); first | done | rfl | (simp only [List.length_drop, List.length_take]; rfl)) ?_; (with_reducible refine (mootref03_Chain.calls t437 3 t438 _ A5.out).mono ?_); rintro e w8 ⟨rfl, hb⟩; refine ⟨_, rfl, ?_⟩; have n0_ := Aside0.mk (Kd.R_below (by (with_reducible repeat (first | apply Kd.R_alloc | apply Kd.R_drewN | apply Kd.R_drew)); exact HO_5.out) hb); have n1_ := Aside0.mk (below_step (by repeat (first | (with_reducible first | exact HB.out | apply below_alloc | apply pw_below_drewN | apply below_drew1) | exact HB.out)) hb); clear HO_5; clear HB; have HO_5 := n0_; have HB := n1_; clear n0_ n1_; (try clear hb); (try clear hb2); (try clear hk); (try clear hi)) | (at_builtin; refine print_append_str (w0 := w) w.heap.size rfl (.tmp 11) _ 23 9 5 rfl Try.underlying23 Try.underlying9 info5 u5 x5_1 t438 rfl rfl ?aO ?aB ?aS ?aL ?_; (case aB => exact (by repeat (first | (with_reducible first | exact HB.out | apply below_alloc | apply pw_below_drewN | apply below_drew1) | exact HB.out))); (case aO => exact (Kd.own_of_R (by (with_reducible repeat (first | apply Kd.R_alloc | apply Kd.R_drewN | apply Kd.R_drew)); exact HO_5.out))); (case aS => exact (below_size (by repeat (first | (with_reducible first | exact HB.out | apply below_alloc | apply pw_below_drewN | apply below_drew1) | exact HB.out)))); (case aL => have := LMc6.out; omega); intro v440 w9 ho0 hb hg; have ho := Kd.R_of_own (h1 := fun _ => rfl) (ok := fun _ => True) ho0 (fun _ _ => trivial); clear ho0; have hat := True.intro; rw [← Ny439.out] at ho; change Kd.R (Kd.int .u8) 5 w9 w.heap.size (fun _ => True) v440 y439 at ho; have n0_ := Aside0.mk (hb); have n1_ := Aside0.mk (ho); clear HB; clear HO_5; have HB := n0_; have HO441 := n1_; clear n0_ n1_; clear ho hb hg hat))
          go_roundg k1
          case measure => have := HK1.out; omega
          case rel => exact ⟨(y439), (wrap64 (x6_1 + 1)), (by first | rfl | (simp; done) | (simp [*]; done)), H', ⟨by have := HK1.out; omega⟩, ⟨by (with_reducible repeat (first | apply Kd.R_alloc | apply Kd.R_drewN | apply Kd.R_drew)); exact HO441.out⟩, ⟨by repeat (first | (with_reducible first | exact HB.out | apply below_alloc | apply pw_below_drewN | apply below_drew1) | exact HB.out)⟩⟩
        · rw [if_neg c6] at H
          exact absurd H (by simp)
      · rw [if_neg c3] at H
        have c3b0 : decide (x6_1 < 11) = false := decide_eq_false c3
        clear c3
        replace H := Option.bind_eq_some_iff.mp H
        obtain ⟨t442, A100, H⟩ := H
        replace H : (some t442) = some r := H
        have A10 := Aside0.mk A100
        clear A100
        obtain rfl := Option.some.inj H
        obtain ⟨Ao11, co11, eo11⟩ := Kd.R_slice HO_5.out
        subst eo11
        go_wp2_with (first | ((with_reducible refine gate_callee (f := 61) rfl ?_); refine goesL_ (some 19) rfl rfl Try.func61 (by kernel_rfl) rfl #[.slice Ao11 x5_1.length co11] rfl (by (try simp only [List.map_toArray, List.map_cons, List.map_nil]); first | done | rfl | (simp only [List.length_drop, List.length_take]; rfl)) ?_; (with_reducible refine (mootref03_short.calls _ _ x5_1 t442 _ ?side1 ?side2 A10.out).mono ?_); (case side1 => repeat (first | exact (Kd.R_reads' HO_5.out).2.2 | (with_reducible refine Kd.C_alloc ?_ _) | (with_reducible refine Kd.C_drewN ?_ _) | (with_reducible refine Kd.C_drew ?_))); (case side2 => exact (Kd.R_reads' HO_5.out).2.1); rintro e w12 ⟨rfl, hb⟩; refine ⟨_, rfl, ?_⟩; have n0_ := Aside0.mk (Kd.R_below (by (with_reducible repeat (first | apply Kd.R_alloc | apply Kd.R_drewN | apply Kd.R_drew)); exact HO_5.out) hb); have n1_ := Aside0.mk (below_step (by repeat (first | (with_reducible first | exact HB.out | apply below_alloc | apply pw_below_drewN | apply below_drew1) | exact HB.out)) hb); clear HO_5; clear HB; have HO_5 := n0_; have HB := n1_; clear n0_ n1_; (try clear hb); (try clear hb2); (try clear hk); (try clear hi)))
        go_ret
        exact ⟨by first | rfl | (simp [errW_none, errW_some] <;> rfl) | (simp [*, errW_none, errW_some] <;> rfl), by repeat (first | (with_reducible first | exact HB.out | apply below_alloc | apply pw_below_drewN | apply below_drew1) | exact HB.out)⟩

end Go.Proofs.Ytclmikbbjhdplaa.X
/- The reference's signatures in plain lists: its digits, leaf and signature come to the same. -/
namespace Go.Proofs.Ytclmikbbjhdplaa.X
open Go.RowKit Go.Proofs.YtclmikbbjhdplaaW.PrintWords Go.Proofs.YtclmikbbjhdplaaW.PrintLast Go.Proofs.YtclmikbbjhdplaaW.PrintMore
set_option linter.unusedVariables false
set_option linter.unusedSimpArgs false

theorem tm_of (n : Int) (h0 : 0 ≤ n) (h1 : n < 65536) (y : Int) (j : Nat) (hj : j ≤ 14) (hy : y = (j : Int)) : Int.tmod (shr .i64 n y) 4 = dg n (2 ^ j) := by
  subst hy
  unfold shr dg
  have h2 : min (j : Int).toNat IntKind.i64.bits = j := by
    rw [Int.toNat_natCast]
    exact Nat.min_eq_left (by have : IntKind.i64.bits = 64 := rfl; omega)
  have hp : (0 : Int) < 2 ^ j := Int.pow_pos (by omega)
  rw [h2, Int.tmod_eq_emod_of_nonneg (Int.ediv_nonneg h0 (by omega))]
theorem tail_of (s : Int) (h0 : 0 ≤ s) (h1 : s ≤ 24) : ([Int.tmod (wrap64 (Int.tdiv s 16)) 4, Int.tmod (wrap64 (Int.tdiv s 4)) 4, Int.tmod s 4] : List Int) = d3L s := by
  rw [Int.tdiv_eq_ediv_of_nonneg h0, Int.tdiv_eq_ediv_of_nonneg h0, wrap64_id _ (by omega) (by omega), wrap64_id _ (by omega) (by omega), Int.tmod_eq_emod_of_nonneg (by omega), Int.tmod_eq_emod_of_nonneg (by omega), Int.tmod_eq_emod_of_nonneg h0, d3L]
  unfold dg
  rw [Int.ediv_one]
theorem refparts_l0 (n : Int) (h0 : 0 ≤ n) (h1 : n < 65536) : mootref03_Parts.l0 60 n [] 0 7 = some (d8L n ++ d3L (lackF n)) := by
  obtain ⟨T, hT⟩ : ∃ T : Int → Int, T = fun i => Int.tmod (shr .i64 n (IntKind.u64.wrap (wrap64 (2 * i)))) 4 := ⟨_, rfl⟩
  have e : mootref03_Parts.l0 60 n [] 0 7 = some ([Int.tmod (shr .i64 n (IntKind.u64.wrap (wrap64 (2 * 7)))) 4, Int.tmod (shr .i64 n (IntKind.u64.wrap (wrap64 (2 * (wrap64 (7 - 1)))))) 4, Int.tmod (shr .i64 n (IntKind.u64.wrap (wrap64 (2 * (wrap64 ((wrap64 (7 - 1)) - 1)))))) 4, Int.tmod (shr .i64 n (IntKind.u64.wrap (wrap64 (2 * (wrap64 ((wrap64 ((wrap64 (7 - 1)) - 1)) - 1)))))) 4, Int.tmod (shr .i64 n (IntKind.u64.wrap (wrap64 (2 * (wrap64 ((wrap64 ((wrap64 ((wrap64 (7 - 1)) - 1)) - 1)) - 1)))))) 4, Int.tmod (shr .i64 n (IntKind.u64.wrap (wrap64 (2 * (wrap64 ((wrap64 ((wrap64 ((wrap64 ((wrap64 (7 - 1)) - 1)) - 1)) - 1)) - 1)))))) 4, Int.tmod (shr .i64 n (IntKind.u64.wrap (wrap64 (2 * (wrap64 ((wrap64 ((wrap64 ((wrap64 ((wrap64 ((wrap64 (7 - 1)) - 1)) - 1)) - 1)) - 1)) - 1)))))) 4, Int.tmod (shr .i64 n (IntKind.u64.wrap (wrap64 (2 * (wrap64 ((wrap64 ((wrap64 ((wrap64 ((wrap64 ((wrap64 ((wrap64 (7 - 1)) - 1)) - 1)) - 1)) - 1)) - 1)) - 1)))))) 4] ++ (fun s => ([Int.tmod (wrap64 (Int.tdiv s 16)) 4, Int.tmod (wrap64 (Int.tdiv s 4)) 4, Int.tmod s 4] : List Int)) (wrap64 ((wrap64 ((wrap64 ((wrap64 ((wrap64 ((wrap64 ((wrap64 ((wrap64 ((wrap64 ((wrap64 ((wrap64 ((wrap64 ((wrap64 ((wrap64 ((wrap64 ((wrap64 (0 + 3)) - (Int.tmod (shr .i64 n (IntKind.u64.wrap (wrap64 (2 * 7)))) 4))) + 3)) - (Int.tmod (shr .i64 n (IntKind.u64.wrap (wrap64 (2 * (wrap64 (7 - 1)))))) 4))) + 3)) - (Int.tmod (shr .i64 n (IntKind.u64.wrap (wrap64 (2 * (wrap64 ((wrap64 (7 - 1)) - 1)))))) 4))) + 3)) - (Int.tmod (shr .i64 n (IntKind.u64.wrap (wrap64 (2 * (wrap64 ((wrap64 ((wrap64 (7 - 1)) - 1)) - 1)))))) 4))) + 3)) - (Int.tmod (shr .i64 n (IntKind.u64.wrap (wrap64 (2 * (wrap64 ((wrap64 ((wrap64 ((wrap64 (7 - 1)) - 1)) - 1)) - 1)))))) 4))) + 3)) - (Int.tmod (shr .i64 n (IntKind.u64.wrap (wrap64 (2 * (wrap64 ((wrap64 ((wrap64 ((wrap64 ((wrap64 (7 - 1)) - 1)) - 1)) - 1)) - 1)))))) 4))) + 3)) - (Int.tmod (shr .i64 n (IntKind.u64.wrap (wrap64 (2 * (wrap64 ((wrap64 ((wrap64 ((wrap64 ((wrap64 ((wrap64 (7 - 1)) - 1)) - 1)) - 1)) - 1)) - 1)))))) 4))) + 3)) - (Int.tmod (shr .i64 n (IntKind.u64.wrap (wrap64 (2 * (wrap64 ((wrap64 ((wrap64 ((wrap64 ((wrap64 ((wrap64 ((wrap64 (7 - 1)) - 1)) - 1)) - 1)) - 1)) - 1)) - 1)))))) 4)))) := by kernel_rfl
  rw [e, tm_of n h0 h1 _ 14 (by omega) (by decide +kernel), tm_of n h0 h1 _ 12 (by omega) (by decide +kernel), tm_of n h0 h1 _ 10 (by omega) (by decide +kernel), tm_of n h0 h1 _ 8 (by omega) (by decide +kernel), tm_of n h0 h1 _ 6 (by omega) (by decide +kernel), tm_of n h0 h1 _ 4 (by omega) (by decide +kernel), tm_of n h0 h1 _ 2 (by omega) (by decide +kernel), tm_of n h0 h1 _ 0 (by omega) (by decide +kernel)]
  have hs : wrap64 ((wrap64 ((wrap64 ((wrap64 ((wrap64 ((wrap64 ((wrap64 ((wrap64 ((wrap64 ((wrap64 ((wrap64 ((wrap64 ((wrap64 ((wrap64 ((wrap64 ((wrap64 (0 + 3)) - dg n (2 ^ 14))) + 3)) - dg n (2 ^ 12))) + 3)) - dg n (2 ^ 10))) + 3)) - dg n (2 ^ 8))) + 3)) - dg n (2 ^ 6))) + 3)) - dg n (2 ^ 4))) + 3)) - dg n (2 ^ 2))) + 3)) - dg n (2 ^ 0)) = lackF n := by
    have r0 := dg_range n 16384
    have r1 := dg_range n 4096
    have r2 := dg_range n 1024
    have r3 := dg_range n 256
    have r4 := dg_range n 64
    have r5 := dg_range n 16
    have r6 := dg_range n 4
    have r7 := dg_range n 1
    unfold lackF
    rw [show (2 : Int) ^ 14 = 16384 by decide, show (2 : Int) ^ 12 = 4096 by decide, show (2 : Int) ^ 10 = 1024 by decide, show (2 : Int) ^ 8 = 256 by decide, show (2 : Int) ^ 6 = 64 by decide, show (2 : Int) ^ 4 = 16 by decide, show (2 : Int) ^ 2 = 4 by decide, show (2 : Int) ^ 0 = 1 by decide]
    generalize dg n 16384 = a0 at *
    generalize dg n 4096 = a1 at *
    generalize dg n 1024 = a2 at *
    generalize dg n 256 = a3 at *
    generalize dg n 64 = a4 at *
    generalize dg n 16 = a5 at *
    generalize dg n 4 = a6 at *
    generalize dg n 1 = a7 at *
    have st : ∀ s a : Int, 0 ≤ s → s ≤ 30 → 0 ≤ a → a ≤ 3 → wrap64 ((wrap64 (s + 3)) - a) = s + 3 - a := by
      intro s a q1 q2 q3 q4
      rw [wrap64_id (s + 3) (by omega) (by omega), wrap64_id _ (by omega) (by omega)]
    rw [st 0 a0 (by omega) (by omega) (by omega) (by omega), st _ a1 (by omega) (by omega) (by omega) (by omega), st _ a2 (by omega) (by omega) (by omega) (by omega), st _ a3 (by omega) (by omega) (by omega) (by omega), st _ a4 (by omega) (by omega) (by omega) (by omega), st _ a5 (by omega) (by omega) (by omega) (by omega), st _ a6 (by omega) (by omega) (by omega) (by omega), st _ a7 (by omega) (by omega) (by omega) (by omega)]
    omega
  rw [hs]
  have hk := lack8 n
  have ht := tail_of (lackF n) hk.2.1 hk.2.2
  simp only [ht]
  rfl
theorem refparts_f (l : List Int) (ho : Octets l) (hl : l.length ≤ 140737488354000) : mootref03_Parts.f 60 l = some (partsL l) := by
  have h0 := sum_byte l 0 (by omega)
  have h1 := sum_byte l 1 (by omega)
  have e0 : ((0 : Nat) : Int) = 0 := rfl
  have e1 : ((1 : Nat) : Int) = 1 := rfl
  rw [e0] at h0
  rw [e1] at h1
  have hn := numP_range l
  have hlen := sumL_len l
  unfold mootref03_Parts.f mootref01_Sha.f
  rw [if_pos ⟨ho, hl⟩, Option.bind_some, if_pos (by omega), if_pos (by omega), wrap64_id (rd (sumL l) 0) (by omega) (by omega), wrap64_id (rd (sumL l) 1) (by omega) (by omega), wrap64_id (rd (sumL l) 0 * 256) (by omega) (by omega), wrap64_id _ (by omega) (by omega), ← numP_eq]
  exact refparts_l0 (numP l) hn.1 hn.2
theorem refchain_f (s : ByteArray) (hs : s.size ≤ 140737488354000) (n : Nat) (hn : n ≤ 3) : mootref03_Chain.f s (n : Int) = some (chainN s n) := by
  unfold mootref03_Chain.f
  rw [if_pos hs]
  have : (mn (mx (n : Int) 0) 3).toNat = n := by unfold mn mx; split <;> split <;> omega
  rw [this]
theorem refsecret_f (seed : ByteArray) (hs : seed.size ≤ 140737488353000) (leaf : Int) (i : Nat) : mootref03_Secret.f seed leaf (i : Int) = some (secS seed leaf i) := by
  unfold mootref03_Secret.f
  rw [if_pos hs]
  rfl
theorem catB_octets (l : List ByteArray) : Octets (catB l) := by
  intro x hx
  simp only [catB, List.mem_flatMap] at hx
  obtain ⟨b, _, h⟩ := hx
  exact bytesOf_octets b x h
theorem catB_snoc (l : List ByteArray) (b : ByteArray) : catB (l ++ [b]) = catB l ++ bytesOf b := by simp [catB]
theorem refleaf_l0 (seed : ByteArray) (hs : seed.size ≤ 140737488353000) (leaf : Int) : ∀ (d k i : Nat), i + d = 11 → d < k →
    mootref03_Leaf.l0 k seed leaf (catB ((List.range i).map fun i => chainN (secS seed leaf i) 3)) (i : Int) = some (endB (leafL seed leaf))
  | 0, k, i, hd, hk => by
    obtain ⟨k, rfl⟩ : ∃ m, k = m + 1 := ⟨k - 1, by omega⟩
    obtain rfl : i = 11 := by omega
    have hlen := catB_len ((List.range 11).map fun i => chainN (secS seed leaf i) 3) (by
      intro x hx
      simp only [List.mem_map] at hx
      obtain ⟨j, _, rfl⟩ := hx
      exact chainN_size8 _ (secS_size _ _ _) 3)
    rw [List.length_map, List.length_range] at hlen
    rw [mootref03_Leaf.l0, if_neg (by omega), short61 _ (catB_octets _) (by omega), Option.bind_some]
    rfl
  | d + 1, k, i, hd, hk => by
    obtain ⟨k, rfl⟩ : ∃ m, k = m + 1 := ⟨k - 1, by omega⟩
    have hw : wrap64 ((i : Int) + 1) = ((i + 1 : Nat) : Int) := by rw [wrap64_id _ (by omega) (by omega)]; rfl
    have hc := refchain_f (secS seed leaf i) (by rw [secS_size]; omega) 3 (by omega)
    have e3 : ((3 : Nat) : Int) = 3 := rfl
    rw [e3] at hc
    have hlen := catB_len ((List.range i).map fun i => chainN (secS seed leaf i) 3) (by
      intro x hx
      simp only [List.mem_map] at hx
      obtain ⟨j, _, rfl⟩ := hx
      exact chainN_size8 _ (secS_size _ _ _) 3)
    rw [List.length_map, List.length_range] at hlen
    have h8 := chainN_size8 _ (secS_size seed leaf i) 3
    rw [mootref03_Leaf.l0, if_pos (by omega), refsecret_f seed hs, Option.bind_some, hc, Option.bind_some, if_pos (by omega), hw, ← catB_snoc, snoc_range (fun i => chainN (secS seed leaf i) 3) i]
    exact refleaf_l0 seed hs leaf d k (i + 1) (by omega) (by omega)
theorem refleaf_f (seed : ByteArray) (hs : seed.size ≤ 140737488353000) (leaf : Int) (k : Nat) (hk : 12 ≤ k) : mootref03_Leaf.f k seed leaf = some (endB (leafL seed leaf)) := by
  unfold mootref03_Leaf.f
  exact refleaf_l0 seed hs leaf 11 k 0 (by omega) (by omega)
theorem refsign_l0 (seed : ByteArray) (hs : seed.size ≤ 140737488353000) (leaf : Int) (p : List Int) (hp : p.length = 11) (hr : ∀ i : Nat, i < 11 → 0 ≤ rd p (i : Int) ∧ rd p (i : Int) ≤ 3) : ∀ (d k i : Nat), i + d = 11 → d < k →
    mootref03_Sign.l0 k seed leaf p ((List.range i).map fun i => chainN (secS seed leaf i) (rd p (i : Int)).toNat) (i : Int) = some (signL seed leaf p)
  | 0, k, i, hd, hk => by
    obtain ⟨k, rfl⟩ : ∃ m, k = m + 1 := ⟨k - 1, by omega⟩
    obtain rfl : i = 11 := by omega
    rw [mootref03_Sign.l0, if_neg (by omega)]
    rfl
  | d + 1, k, i, hd, hk => by
    obtain ⟨k, rfl⟩ : ∃ m, k = m + 1 := ⟨k - 1, by omega⟩
    have hw : wrap64 ((i : Int) + 1) = ((i + 1 : Nat) : Int) := by rw [wrap64_id _ (by omega) (by omega)]; rfl
    have hri := hr i (by omega)
    have hc := refchain_f (secS seed leaf i) (by rw [secS_size]; omega) (rd p (i : Int)).toNat (by omega)
    rw [Int.toNat_of_nonneg hri.1] at hc
    rw [mootref03_Sign.l0, if_pos (by omega), refsecret_f seed hs, Option.bind_some, if_pos (by omega), if_pos (by omega), hc, Option.bind_some, if_pos (by simp; omega), hw, snoc_range (fun i => chainN (secS seed leaf i) (rd p (i : Int)).toNat) i]
    exact refsign_l0 seed hs leaf p hp hr d k (i + 1) (by omega) (by omega)
theorem refsign_f (seed : ByteArray) (hs : seed.size ≤ 140737488353000) (leaf : Int) (l : List Int) (ho : Octets l) (hl : l.length ≤ 140737488354000) : mootref03_Sign.f 60 seed leaf l = some (signL seed leaf (partsL l)) := by
  unfold mootref03_Sign.f
  rw [refparts_f l ho hl, Option.bind_some]
  exact refsign_l0 seed hs leaf (partsL l) (partsL_len l) (partsL_at l) 11 60 0 (by omega) (by omega)
end Go.Proofs.Ytclmikbbjhdplaa.X
/- mootref03.Open: what parts open to, by the reference. -/
namespace Go.Proofs.Ytclmikbbjhdplaa.X
open Go.RowKit Go.Proofs.YtclmikbbjhdplaaW.PrintWords Go.Proofs.YtclmikbbjhdplaaW.PrintLast Go.Proofs.YtclmikbbjhdplaaW.PrintMore
set_option linter.unusedVariables false
set_option linter.unusedSimpArgs false

section
variable {P : Program} {ops : Array Oper} {o : Oper} {a : Act} {Q : Exit → Act → World → Prop} {Kc : Act → World → Prop}
/-- A text appended to octets, as one step of a region that draws. -/
theorem append_str_step {w0 W : World} (base : Nat) (hw : Region.wanted o (yielded ops a.tmps) = true) (s x : Operand) (t u e : TypeId)
    (ho : o.op = .call { callee := .builtin .append, args := #[s, x], argTypes := #[t, u] })
    (ht : P.underlying t = some (.slice e)) (hu : P.underlying u = some .string) (hinfo : (P.info? e).map (fun i => (i.zero, i.size, i.bytes)) = some (some (.int .u8 0), 1, 1))
    (v : Value) (xs : List Int) (y : ByteArray) (hs : a.eval s = v) (hx : a.eval x = .string y)
    (HO : W.ownsRow base e 1 v xs.length (nums .u8 xs)) (HB : Below base w0 W) (hbase : base ≤ W.heap.size) (hl : xs.length + y.size ≤ 140737488355328)
    (h : ∀ v1 w1, w1.ownsRow base e 1 v1 (xs ++ bytesOf y).length (nums .u8 (xs ++ bytesOf y)) → Below base w0 w1 → Kc (a.put o.dst v1) w1) :
    if Region.wanted o (yielded ops a.tmps) = true then Oper.wp P o a W Kc Q else Kc (a.put o.dst undef) W := by
  obtain ⟨i0, hi, hzz⟩ := Option.map_eq_some_iff.1 hinfo
  simp only [Prod.mk.injEq] at hzz
  obtain ⟨hz0, hz1, hz2⟩ := hzz
  obtain ⟨v1, w1, hr, hown, hg, _⟩ := Lib.run_append_own_string (P := P) W base t u o.type e i0 ht hu hi hz0 hz1 hz2 v xs.length (nums .u8 xs) HO y (by simp only [maxLen]; omega) hl hbase
  have hl2 : (xs ++ bytesOf y).length = xs.length + y.size := by rw [List.length_append, bytesOf_length]
  have hc : nums .u8 (xs ++ bytesOf y) = nums .u8 xs ++ Lib.strCells y := by
    rw [nums_append]
    congr 1
    simp [nums, bytesOf, Lib.strCells]
  rw [if_pos hw]
  unfold Oper.wp execOp
  simp only [ho, resolve, invoke, builtin, Sem.run_bind, Sem.run_pure, Result.andThen_ok, List.map_toArray, List.map_cons, List.map_nil, hs, hx, hr]
  exact h v1 w1 (by rw [hl2, hc]; exact hown) (HB.grown hg hbase (own_base HO))
/-- The same, of a row of the call's own. -/
theorem R_append_str_step {w0 W : World} (base : Nat) (hw : Region.wanted o (yielded ops a.tmps) = true) (s x : Operand) (t u e : TypeId)
    (ho : o.op = .call { callee := .builtin .append, args := #[s, x], argTypes := #[t, u] })
    (ht : P.underlying t = some (.slice e)) (hu : P.underlying u = some .string) (hinfo : (P.info? e).map (fun i => (i.zero, i.size, i.bytes)) = some (some (.int .u8 0), 1, 1))
    (v : Value) (xs zs : List Int) (y : ByteArray) (hz : xs ++ bytesOf y = zs) (hs : a.eval s = v) (hx : a.eval x = .string y)
    (HO : Kd.R (Kd.int .u8) e W base (fun _ => True) v xs) (HB : Below base w0 W) (hl : xs.length + y.size ≤ 140737488355328) (hbase : base ≤ W.heap.size)
    (h : ∀ v1 w1, Kd.R (Kd.int .u8) e w1 base (fun _ => True) v1 zs → Below base w0 w1 → Kc (a.put o.dst v1) w1) :
    if Region.wanted o (yielded ops a.tmps) = true then Oper.wp P o a W Kc Q else Kc (a.put o.dst undef) W := by
  subst hz
  exact append_str_step base hw s x t u e ho ht hu hinfo v xs y hs hx (Kd.own_of_R HO) HB hbase hl (fun v1 w1 h1 h2 => h v1 w1 (Kd.R_of_own (enc := Value.int .u8) h1 (fun _ _ => trivial)) h2)
end
def openE (x : List ByteArray) (p : List Int) (i : Nat) : ByteArray := chainN (rdOf ByteArray.empty x (i : Int)) (3 - rd p (i : Int)).toNat
theorem openL_eq (x : List ByteArray) (p : List Int) : openL x p = (List.range 11).map (openE x p) := rfl
def goodB (x : List ByteArray) : Bool := decide (x.length = 11) && x.all (fun y => decide (y.size = 8))
def mootref03_Open.f (l2 : List Int) (l3 : List ByteArray) : Option ByteArray :=
  if (∀ x ∈ l2, 0 ≤ x ∧ x < 256) ∧ l2.length ≤ 140737488354000 then some (if goodB l3 = true then endB (openL l3 (partsL l2)) else ⟨#[]⟩) else none
set_option maxRecDepth 100000 in
set_option maxHeartbeats 4000000 in
theorem mootref03_Open.calls (A0 : Option Addr) (c0 : Nat) (l0 : List Int) (A1 : Option Addr) (c1 : Nat) (l1 : List ByteArray) (r : ByteArray) (w : World) (hr0 : Kd.C (Kd.int .u8) w A0 l0.length l0) (hc0 : l0.length ≤ c0) (hr1 : Kd.C Kd.string w A1 l1.length l1) (hc1 : l1.length ≤ c1) (h : mootref03_Open.f l0 l1 = some r) :
    Calls Try.prog 48 #[.slice A0 l0.length c0, .slice A1 l1.length c1] w fun e w' => e = .returned (.string r) ∧ Below w.heap.size w w' := by
  unfold mootref03_Open.f at h
  by_cases hs : (∀ x ∈ l0, 0 ≤ x ∧ x < 256) ∧ l0.length ≤ 140737488354000
  · rw [if_pos hs] at h
    obtain rfl := Option.some.inj h
    clear h
    by_cases h11 : l1.length = 11
    · have ne11 : ((l1.length : Int) != 11) = false := by rw [h11]; rfl
      obtain ⟨p, hp⟩ : ∃ p, partsL l0 = p := ⟨_, rfl⟩
      have hpf : mootref03_Parts.f 60 l0 = some p := by rw [← hp]; exact refparts_f l0 hs.1 hs.2
      have hpl : p.length = 11 := by rw [← hp]; exact partsL_len l0
      have hpr : ∀ i : Nat, i < 11 → 0 ≤ rd p (i : Int) ∧ rd p (i : Int) ≤ 3 := by rw [← hp]; exact partsL_at l0
      rw [hp]
      obtain ⟨res, hres⟩ : ∃ r, (if goodB l1 = true then endB (openL l1 p) else ⟨#[]⟩) = r := ⟨_, rfl⟩
      rw [hres]
      have HRES := Lib.hid hres
      have HPF := Lib.hid hpf
      have HPL := Lib.hid hpl
      have HPR := Lib.hid hpr
      have HR0 := Lib.hid hr0
      have HR1 := Lib.hid hr1
      have HC0 := Lib.hid hc0
      have H11 := Lib.hid h11
      clear hs hres hpf hpl hpr hr0 hr1 hc0 hc1 h11 hp
      go_enter Try.func48, Try.ntmps48
      go_wp2_with (go_at_call 41; go_must (refine (mootref03_Parts.calls 60 A0 c0 l0 p _ HR0.out HC0.out HPF.out).mono ?_; rintro e wd ⟨vd, rfl, hR, hb⟩; obtain ⟨Ad, cd, rfl⟩ := Kd.R_slice hR; have HD := Lib.hid (Kd.R_reads' hR); have HB := Lib.hid hb; clear hR hb))
      go_loopg [6, 7] 12 (fun kq v6 v7 w' => ∃ i : Nat, v7 = .int .i64 (i : Int) ∧ Hid (i ≤ 11 ∧ kq + i = 12) ∧ Hid (∀ j (h : j < l1.length), j < i → l1[j].size = 8) ∧ Hid (Below wd.heap.size wd w' ∧ Kd.R (Kd.int .u8) 5 w' wd.heap.size (fun _ => True) v6 (catB ((List.range i).map (openE l1 p)))))
      case atStart => exact ⟨0, rfl, Lib.hid ⟨by omega, rfl⟩, Lib.hid (fun j _ h => absurd h (Nat.not_lt_zero _)), Lib.hid ⟨Below.refl _ _, Kd.R_nil _ _ _ _ _⟩⟩
      case round =>
        obtain ⟨i, rfl, hi, hg, hI⟩ := hrel
        by_cases ci : i < 11
        · have c1 : decide ((i : Int) < 11) = true := decide_eq_true (by omega)
          have c2 : decide (i < 11) = true := decide_eq_true ci
          have p0 : 0 ≤ (i : Int) := by omega
          have hlt : i < l1.length := by rw [H11.out]; exact ci
          have p1 : (i : Int) < (l1.length : Int) := by omega
          obtain ⟨ad, e0, x0⟩ := Kd.at_string (Kd.C_below (Kd.C_below HR1.out HB.out) hI.out.1) (i : Int) p0 p1
          cases e0
          rw [Int.toNat_natCast] at x0
          obtain ⟨y, hy⟩ : ∃ y, rdOf ByteArray.empty l1 (i : Int) = y := ⟨_, rfl⟩
          rw [hy] at x0
          have hly : l1[i] = y := by rw [← hy, rdOf_at l1 i hlt]
          have HY : Hid (∀ h : i < l1.length, l1[i]'h = y) := Lib.hid (fun _ => hly)
          by_cases c8 : y.size = 8
          · have n8 : ((y.size : Int) != 8) = false := by rw [c8]; rfl
            have q1 : (i : Int) < (p.length : Int) := by rw [HPL.out]; omega
            obtain ⟨bd, e1, x1⟩ := Kd.at_int (Kd.C_below HD.out.2.2 hI.out.1) (i : Int) p0 q1
            cases e1
            rw [Int.toNat_natCast] at x1
            obtain ⟨d, hd⟩ : ∃ d, rd p (i : Int) = d := ⟨_, rfl⟩
            have hdr := HPR.out i ci
            rw [hd] at x1 hdr
            obtain ⟨st, hst⟩ : ∃ st : Int, 3 - d = st := ⟨_, rfl⟩
            have w3 : wrap64 (3 - d) = st := by unfold wrap64; omega
            have w3w : IntKind.i64.wrap (3 - d) = st := by rw [IntKind.wrap_i64]; omega
            obtain ⟨s1, hs1⟩ : ∃ s, openE l1 p i = s := ⟨_, rfl⟩
            have hch : mootref03_Chain.f y st = some s1 := by
              have := refchain_f y (by omega) (3 - rd p (i : Int)).toNat (by omega)
              rw [Int.toNat_of_nonneg (by omega), hd, hst] at this
              rw [this, ← hs1, openE, hy, hd, hst]
            have hsz1 : s1.size = 8 := by rw [← hs1, openE, hy]; exact chainN_size8 _ c8 _
            obtain ⟨acc, hacc⟩ : ∃ acc, catB ((List.range i).map (openE l1 p)) = acc := ⟨_, rfl⟩
            have hnext : acc ++ bytesOf s1 = catB ((List.range (i + 1)).map (openE l1 p)) := by rw [← hacc, ← hs1, ← catB_snoc, snoc_range]
            have hal : acc.length = 8 * i := by
              rw [← hacc, catB_len]
              · rw [List.length_map, List.length_range]
              · intro z hz
                simp only [List.mem_map, List.mem_range] at hz
                obtain ⟨j, hj, rfl⟩ := hz
                refine chainN_size8 _ ?_ _
                rw [rdOf_at l1 j (by omega)]
                exact hg.out j (by omega) hj
            have hR := hI.out.2
            rw [hacc] at hR
            have HR := Lib.hid hR
            have HE := Lib.hid hI.out.1
            have HCH := Lib.hid hch
            have HS1 := Lib.hid hsz1
            have HNX := Lib.hid hnext
            have HAL := Lib.hid hal
            have HLN : Hid (acc.length + s1.size ≤ 140737488355328) := Lib.hid (by omega)
            have HC8 := Lib.hid c8
            have HLT := Lib.hid hlt
            have HCI := Lib.hid ci
            replace p0 := eq_true p0
            replace p1 := eq_true p1
            replace q1 := eq_true q1
            clear hy hly hd hdr hst hs1 hch hsz1 hacc hnext hal hR hI c8 ci hlt
            go_wp2
            go_region_law (first | (refine goes_ Try.func42 (by kernel_rfl) rfl #[.string y, .int .i64 st] (by rfl) rfl rfl (by (try simp only [List.map_toArray, List.map_cons, List.map_nil]); first | done | rfl) ?_; refine (mootref03_Chain.calls y st s1 _ HCH.out).mono ?_; rintro e w8 ⟨rfl, hb⟩; refine ⟨_, rfl, ?_⟩; have B8 := Lib.hid (below_step (below_drew HE.out) hb); have R8 := Lib.hid (Kd.R_below (Kd.R_drew HR.out) hb); clear hb) | (refine R_append_str_step (w0 := wd) wd.heap.size (by rfl) (.tmp 23) (.tmp 33) 23 9 5 rfl Try.underlying23 Try.underlying9 info5 _ acc _ s1 HNX.out rfl rfl R8.out B8.out HLN.out B8.out.size ?_; intro v9 w9 R9 B9))
            all_goals go_wp2
            all_goals (obtain ⟨k1, rfl⟩ : ∃ k1, gk = k1 + 1 := ⟨gk - 1, by have := hi.out; omega⟩; go_roundg k1; (case measure => omega); (case rel => exact ⟨i + 1, congrArg (Value.int .i64) (by have := HCI.out; unfold wrap64; omega), Lib.hid ⟨HCI.out, by have := hi.out; omega⟩, Lib.hid (fun j h hj => by
              rcases Nat.lt_or_ge j i with h' | h'
              · exact hg.out j h h'
              · have : j = i := by omega
                subst this
                rw [HY.out h]; exact HC8.out), Lib.hid ⟨B9, R9⟩⟩))
          · have n8 : ((y.size : Int) != 8) = true := bne_iff_ne.mpr (by omega)
            have hbad : goodB l1 = false := by
              have : l1.all (fun y => decide (y.size = 8)) = false := by
                rw [List.all_eq_false]
                exact ⟨y, by rw [← hly]; exact List.getElem_mem hlt, by simpa using c8⟩
              rw [goodB, this, Bool.and_false]
            have hr : res = ⟨#[]⟩ := by rw [← HRES.out, hbad]; rfl
            have HRR := Lib.hid hr
            replace p0 := eq_true p0
            replace p1 := eq_true p1
            have HE := Lib.hid hI.out.1
            clear hy hly hbad hr c8 ci hlt hI
            go_wp2
            go_ret
            exact ⟨by rw [HRR.out]; rfl, below_step HB.out HE.out⟩
        · have c1 : decide ((i : Int) < 11) = false := decide_eq_false (by omega)
          have c2 : decide (i < 11) = false := decide_eq_false ci
          have h11 : i = 11 := by have := hi.out; omega
          subst h11
          have hgood : goodB l1 = true := by
            rw [goodB, decide_eq_true H11.out, Bool.true_and, List.all_eq_true]
            intro y hy
            obtain ⟨j, hj, rfl⟩ := List.getElem_of_mem hy
            simpa using hg.out j hj (by have := H11.out; omega)
          obtain ⟨acc, hacc⟩ : ∃ acc, catB ((List.range 11).map (openE l1 p)) = acc := ⟨_, rfl⟩
          have hal : acc.length = 88 := by
            rw [← hacc, catB_len]
            · rw [List.length_map, List.length_range]
            · intro z hz
              simp only [List.mem_map, List.mem_range] at hz
              obtain ⟨j, hj, rfl⟩ := hz
              refine chainN_size8 _ ?_ _
              rw [rdOf_at l1 j (by have := H11.out; omega)]
              exact hg.out j (by have := H11.out; omega) hj
          have hsh : mootref03_short.f acc = some res := by
            rw [short61 acc (by rw [← hacc]; exact catB_octets _) (by omega), ← HRES.out, hgood, if_pos rfl, endB, openL_eq, hacc]
          have hR := hI.out.2
          rw [hacc] at hR
          obtain ⟨Ab, cb, rfl⟩ := Kd.R_slice hR
          have HRR := Lib.hid (Kd.R_reads' hR)
          have HE := Lib.hid hI.out.1
          have HSH := Lib.hid hsh
          clear hgood hacc hal hsh hR hI hg hi ci
          go_wp2_with (go_at_call 61; go_must (refine (mootref03_short.calls _ _ acc res _ HRR.out.2.2 HRR.out.2.1 HSH.out).mono ?_; rintro e w9 ⟨rfl, hb⟩; have B9 := Lib.hid (below_step HE.out hb); clear hb))
          go_ret
          exact ⟨rfl, below_step HB.out B9.out⟩
    · have ne11 : ((l1.length : Int) != 11) = true := bne_iff_ne.mpr (by omega)
      have hbad : goodB l1 = false := by rw [goodB, decide_eq_false h11, Bool.false_and]
      rw [hbad]
      clear hs hr0 hc0 hr1 hc1 hbad h11
      go_enter Try.func48, Try.ntmps48
      go_wp2
      go_ret
      exact ⟨rfl, Below.refl _ _⟩
  · rw [if_neg hs] at h; cases h
end Go.Proofs.Ytclmikbbjhdplaa.X
-- Written by a program of this session (a turn of the kit's print with contracts by hand). Not trusted: Lean checks it.
namespace Go.Proofs.Ytclmikbbjhdplaa.X
open Go.RowKit Go.Proofs.YtclmikbbjhdplaaW.PrintWords Go.Proofs.YtclmikbbjhdplaaW.PrintLast Go.Proofs.YtclmikbbjhdplaaW.PrintMore
attribute [local go_sem] max2_int min2_int max_two min_two max_three min_three max_four min_four   -- for this text's walks alone
set_option linter.unusedVariables false
set_option linter.unusedSimpArgs false

/-! ### mootlaw03_WotsSigns: function 14 -/
def mootlaw03_WotsSigns.f (k : Nat) (a0 : ByteArray) (a1 : Int) (l2 : List Int) (l3 : List ByteArray) : Option (Bool) := (wots_Sign.f k a0 a1 l2).bind fun t468 => ((mootref03_Sign.f k a0 a1 l2).bind fun t471 => ((mootplain_Texts.f k t468 t471).bind fun t474 => (if t474 = true then ((wots_Open.f k l2 l3).bind fun t475 => ((mootref03_Open.f l2 l3).bind fun t476 => (if t475.toList = t476.toList then ((mootlaw03_alive.f).bind fun t477 => (some t477)) else (some false)))) else (some false))))
theorem mootlaw03_WotsSigns.mono : ∀ a0 a1 a2 a3 k, LeO (mootlaw03_WotsSigns.f k a0 a1 a2 a3) (mootlaw03_WotsSigns.f (k + 1) a0 a1 a2 a3) := by
  intro a0 a1 a2 a3 k
  unfold mootlaw03_WotsSigns.f
  repeat' first
      | (with_reducible exact mootplain_Texts.mono _ _ _)
      | (with_reducible exact mootref03_Sign.mono _ _ _ _)
      | (with_reducible exact wots_Open.mono _ _ _)
      | (with_reducible exact wots_Sign.mono _ _ _ _)
      | (with_reducible exact LeO.refl _)
      | (with_reducible exact LeO.none _)
      | (with_reducible refine LeO.ite ?_ ?_)
      | (with_reducible refine LeO.bind ?_ (fun _ => ?_))
      | exact mootplain_Texts.mono _ _ _
      | exact mootref03_Sign.mono _ _ _ _
      | exact wots_Open.mono _ _ _
      | exact wots_Sign.mono _ _ _ _
      | exact LeO.none _
      | refine LeO.ite ?_ ?_
      | refine LeO.bind ?_ (fun _ => ?_)
set_option maxHeartbeats 8000000 in
set_option maxRecDepth 100000 in
theorem mootlaw03_WotsSigns.calls (k : Nat) (a0 : ByteArray) (a1 : Int) (A2 : Option Addr) (c2 : Nat) (l2 : List Int) (A3 : Option Addr) (c3 : Nat) (l3 : List ByteArray) (r : Bool) (w : World) (hr2 : Kd.C (Kd.int .u8) w A2 l2.length l2) (hc2 : l2.length ≤ c2) (hr3 : Kd.C Kd.string w A3 l3.length l3) (hc3 : l3.length ≤ c3) (h : mootlaw03_WotsSigns.f k a0 a1 l2 l3 = some r) :
    Calls Try.prog 14 #[.string a0, .int .i64 a1, .slice A2 l2.length c2, .slice A3 l3.length c3] w fun e w' => e = .returned (.bool r) ∧ Below w.heap.size w w' := by
  have HR2 := Aside0.mk hr2
  have HC2 := Aside0.mk hc2
  clear hr2 hc2
  have HR3 := Aside0.mk hr3
  have HC3 := Aside0.mk hc3
  clear hr3 hc3
  have HB := Aside0.mk (Below.refl w.heap.size w)
  have H : ((wots_Sign.f k a0 a1 l2).bind fun t468 => ((mootref03_Sign.f k a0 a1 l2).bind fun t471 => ((mootplain_Texts.f k t468 t471).bind fun t474 => (if t474 = true then ((wots_Open.f k l2 l3).bind fun t475 => ((mootref03_Open.f l2 l3).bind fun t476 => (if t475.toList = t476.toList then ((mootlaw03_alive.f).bind fun t477 => (some t477)) else (some false)))) else (some false))))) = some r := h
  clear h
  replace H := Option.bind_eq_some_iff.mp H
  obtain ⟨t468, A50, H⟩ := H
  replace H : ((mootref03_Sign.f k a0 a1 l2).bind fun t471 => ((mootplain_Texts.f k t468 t471).bind fun t474 => (if t474 = true then ((wots_Open.f k l2 l3).bind fun t475 => ((mootref03_Open.f l2 l3).bind fun t476 => (if t475.toList = t476.toList then ((mootlaw03_alive.f).bind fun t477 => (some t477)) else (some false)))) else (some false)))) = some r := H
  have A5 := Aside0.mk A50
  clear A50
  replace H := Option.bind_eq_some_iff.mp H
  obtain ⟨t471, A60, H⟩ := H
  replace H : ((mootplain_Texts.f k t468 t471).bind fun t474 => (if t474 = true then ((wots_Open.f k l2 l3).bind fun t475 => ((mootref03_Open.f l2 l3).bind fun t476 => (if t475.toList = t476.toList then ((mootlaw03_alive.f).bind fun t477 => (some t477)) else (some false)))) else (some false))) = some r := H
  have A6 := Aside0.mk A60
  clear A60
  replace H := Option.bind_eq_some_iff.mp H
  obtain ⟨t474, A70, H⟩ := H
  replace H : (if t474 = true then ((wots_Open.f k l2 l3).bind fun t475 => ((mootref03_Open.f l2 l3).bind fun t476 => (if t475.toList = t476.toList then ((mootlaw03_alive.f).bind fun t477 => (some t477)) else (some false)))) else (some false)) = some r := H
  have A7 := Aside0.mk A70
  clear A70
  by_cases c8 : t474 = true
  · subst c8
    have H1 : ((wots_Open.f k l2 l3).bind fun t475 => ((mootref03_Open.f l2 l3).bind fun t476 => (if t475.toList = t476.toList then ((mootlaw03_alive.f).bind fun t477 => (some t477)) else (some false)))) = some r := by rw [if_pos rfl] at H; exact H
    clear H
    have H := H1
    clear H1
    replace H := Option.bind_eq_some_iff.mp H
    obtain ⟨t475, A90, H⟩ := H
    replace H : ((mootref03_Open.f l2 l3).bind fun t476 => (if t475.toList = t476.toList then ((mootlaw03_alive.f).bind fun t477 => (some t477)) else (some false))) = some r := H
    have A9 := Aside0.mk A90
    clear A90
    replace H := Option.bind_eq_some_iff.mp H
    obtain ⟨t476, A100, H⟩ := H
    replace H : (if t475.toList = t476.toList then ((mootlaw03_alive.f).bind fun t477 => (some t477)) else (some false)) = some r := H
    have A10 := Aside0.mk A100
    clear A100
    by_cases c11 : t475.toList = t476.toList
    · rw [if_pos c11] at H
      have c11b0 : (t475.toList == t476.toList) = true := beq_iff_eq.mpr c11
      have c11b1 : (t475.toList != t476.toList) = false := bne_eq_false_iff_eq.mpr c11
      clear c11
      replace H := Option.bind_eq_some_iff.mp H
      obtain ⟨t477, A120, H⟩ := H
      replace H : (some t477) = some r := H
      have A12 := Aside0.mk A120
      clear A120
      obtain rfl := Option.some.inj H
      go_enter Try.func14, Try.ntmps14
      go_wp2_with (first | ((with_reducible refine gate_callee (f := 22) rfl ?_); refine goesL_ (some 12) rfl rfl Try.func22 (by kernel_rfl) rfl #[.string a0, .int .i64 a1, .slice A2 l2.length c2] rfl (by (try simp only [List.map_toArray, List.map_cons, List.map_nil]); first | done | rfl | (simp only [List.length_drop, List.length_take]; rfl)) ?_; (with_reducible refine (wots_Sign.calls k a0 a1 _ _ l2 t468 _ ?side1 ?side2 A5.out).mono ?_); (case side1 => repeat (first | exact HR2.out | (with_reducible refine Kd.C_alloc ?_ _) | (with_reducible refine Kd.C_drewN ?_ _) | (with_reducible refine Kd.C_drew ?_))); (case side2 => exact HC2.out); rintro e w13 ⟨v469, rfl, ho0, hb⟩; refine ⟨_, rfl, ?_⟩; have n0_ := Aside0.mk (Kd.R_lower ho0 (below_size (by repeat (first | (with_reducible first | exact HB.out | apply below_alloc | apply pw_below_drewN | apply below_drew1) | exact HB.out)))); have n1_ := Aside0.mk (below_step (by repeat (first | (with_reducible first | exact HB.out | apply below_alloc | apply pw_below_drewN | apply below_drew1) | exact HB.out)) hb); clear HB; have HO470 := n0_; have HB := n1_; clear n0_ n1_; (try clear hb); (try clear hb2); (try clear hk); (try clear hi); (try clear ho0)) | ((with_reducible refine gate_callee (f := 47) rfl ?_); refine goesL_ (some 16) rfl rfl Try.func47 (by kernel_rfl) rfl #[.string a0, .int .i64 a1, .slice A2 l2.length c2] rfl (by (try simp only [List.map_toArray, List.map_cons, List.map_nil]); first | done | rfl | (simp only [List.length_drop, List.length_take]; rfl)) ?_; (with_reducible refine (mootref03_Sign.calls k a0 a1 _ _ l2 t471 _ ?side1 ?side2 A6.out).mono ?_); (case side1 => repeat (first | exact (Kd.C_below HR2.out HB.out) | (with_reducible refine Kd.C_alloc ?_ _) | (with_reducible refine Kd.C_drewN ?_ _) | (with_reducible refine Kd.C_drew ?_))); (case side2 => exact HC2.out); rintro e w14 ⟨v472, rfl, ho0, hb⟩; refine ⟨_, rfl, ?_⟩; have n0_ := Aside0.mk (Kd.R_elder' (by (with_reducible repeat (first | apply Kd.R_alloc | apply Kd.R_drewN | apply Kd.R_drew)); exact HO470.out) (Kd.R_base ho0) hb); have n1_ := Aside0.mk (Kd.R_lower (Kd.R_new' ho0 (Kd.R_lt (by (with_reducible repeat (first | apply Kd.R_alloc | apply Kd.R_drewN | apply Kd.R_drew)); exact HO470.out))) (below_size (by repeat (first | (with_reducible first | exact HB.out | apply below_alloc | apply pw_below_drewN | apply below_drew1) | exact HB.out)))); have n2_ := Aside0.mk (below_step (by repeat (first | (with_reducible first | exact HB.out | apply below_alloc | apply pw_below_drewN | apply below_drew1) | exact HB.out)) hb); clear HO470; clear HB; have HO470 := n0_; have HO473 := n1_; have HB := n2_; clear n0_ n1_ n2_; (try clear hb); (try clear hb2); (try clear hk); (try clear hi); (try clear ho0); obtain ⟨Ao15, co15, eo15⟩ := Kd.R_slice HO470.out; subst eo15; obtain ⟨Ao16, co16, eo16⟩ := Kd.R_slice HO473.out; subst eo16) | ((with_reducible refine gate_callee (f := 46) rfl ?_); refine goesL_ (some 17) rfl rfl Try.func46 (by kernel_rfl) rfl #[.slice Ao15 t468.length co15, .slice Ao16 t471.length co16] rfl (by (try simp only [List.map_toArray, List.map_cons, List.map_nil]); first | done | rfl | (simp only [List.length_drop, List.length_take]; rfl)) ?_; (with_reducible refine (mootplain_Texts.calls k _ _ t468 _ _ t471 true _ ?side1 ?side2 ?side3 ?side4 A7.out).mono ?_); (case side1 => repeat (first | exact (Kd.R_reads' HO470.out).2.2 | (with_reducible refine Kd.C_alloc ?_ _) | (with_reducible refine Kd.C_drewN ?_ _) | (with_reducible refine Kd.C_drew ?_))); (case side2 => exact (Kd.R_reads' HO470.out).2.1); (case side3 => repeat (first | exact (Kd.R_reads' HO473.out).2.2 | (with_reducible refine Kd.C_alloc ?_ _) | (with_reducible refine Kd.C_drewN ?_ _) | (with_reducible refine Kd.C_drew ?_))); (case side4 => exact (Kd.R_reads' HO473.out).2.1); rintro e w' ⟨rfl, ⟨nd, rfl⟩⟩; refine ⟨_, rfl, ?_⟩) | (go_at_call 21; (with_reducible refine (wots_Open.calls k _ _ l2 _ _ l3 t475 _ ?side1 ?side2 ?side3 ?side4 A9.out).mono ?_); (case side1 => repeat (first | exact (Kd.C_below HR2.out (by repeat (first | (with_reducible first | exact HB.out | apply below_alloc | apply pw_below_drewN | apply below_drew1) | exact HB.out))) | (with_reducible refine Kd.C_alloc ?_ _) | (with_reducible refine Kd.C_drewN ?_ _) | (with_reducible refine Kd.C_drew ?_))); (case side2 => exact HC2.out); (case side3 => repeat (first | exact (Kd.C_below HR3.out (by repeat (first | (with_reducible first | exact HB.out | apply below_alloc | apply pw_below_drewN | apply below_drew1) | exact HB.out))) | (with_reducible refine Kd.C_alloc ?_ _) | (with_reducible refine Kd.C_drewN ?_ _) | (with_reducible refine Kd.C_drew ?_))); (case side4 => exact HC3.out); rintro e w17 ⟨rfl, hb⟩; have n0_ := Aside0.mk (Kd.R_below (by (with_reducible repeat (first | apply Kd.R_alloc | apply Kd.R_drewN | apply Kd.R_drew)); exact HO470.out) hb); have n1_ := Aside0.mk (Kd.R_below (by (with_reducible repeat (first | apply Kd.R_alloc | apply Kd.R_drewN | apply Kd.R_drew)); exact HO473.out) hb); have n2_ := Aside0.mk (below_step (by repeat (first | (with_reducible first | exact HB.out | apply below_alloc | apply pw_below_drewN | apply below_drew1) | exact HB.out)) hb); clear HO470; clear HO473; clear HB; have HO470 := n0_; have HO473 := n1_; have HB := n2_; clear n0_ n1_ n2_; (try clear hb); (try clear hb2); (try clear hk); (try clear hi)) | (go_at_call 48; (with_reducible refine (mootref03_Open.calls _ _ l2 _ _ l3 t476 _ ?side1 ?side2 ?side3 ?side4 A10.out).mono ?_); (case side1 => repeat (first | exact (Kd.C_below HR2.out HB.out) | (with_reducible refine Kd.C_alloc ?_ _) | (with_reducible refine Kd.C_drewN ?_ _) | (with_reducible refine Kd.C_drew ?_))); (case side2 => exact HC2.out); (case side3 => repeat (first | exact (Kd.C_below HR3.out HB.out) | (with_reducible refine Kd.C_alloc ?_ _) | (with_reducible refine Kd.C_drewN ?_ _) | (with_reducible refine Kd.C_drew ?_))); (case side4 => exact HC3.out); rintro e w18 ⟨rfl, hb⟩; have n0_ := Aside0.mk (Kd.R_below (by (with_reducible repeat (first | apply Kd.R_alloc | apply Kd.R_drewN | apply Kd.R_drew)); exact HO470.out) hb); have n1_ := Aside0.mk (Kd.R_below (by (with_reducible repeat (first | apply Kd.R_alloc | apply Kd.R_drewN | apply Kd.R_drew)); exact HO473.out) hb); have n2_ := Aside0.mk (below_step (by repeat (first | (with_reducible first | exact HB.out | apply below_alloc | apply pw_below_drewN | apply below_drew1) | exact HB.out)) hb); clear HO470; clear HO473; clear HB; have HO470 := n0_; have HO473 := n1_; have HB := n2_; clear n0_ n1_ n2_; (try clear hb); (try clear hb2); (try clear hk); (try clear hi)) | (go_at_call 24; (with_reducible refine (mootlaw03_alive.calls  t477 _ A12.out).mono ?_); rintro e w19 ⟨rfl, hb⟩; have n0_ := Aside0.mk (Kd.R_below (by (with_reducible repeat (first | apply Kd.R_alloc | apply Kd.R_drewN | apply Kd.R_drew)); exact HO470.out) hb); have n1_ := Aside0.mk (Kd.R_below (by (with_reducible repeat (first | apply Kd.R_alloc | apply Kd.R_drewN | apply Kd.R_drew)); exact HO473.out) hb); have n2_ := Aside0.mk (below_step (by repeat (first | (with_reducible first | exact HB.out | apply below_alloc | apply pw_below_drewN | apply below_drew1) | exact HB.out)) hb); clear HO470; clear HO473; clear HB; have HO470 := n0_; have HO473 := n1_; have HB := n2_; clear n0_ n1_ n2_; (try clear hb); (try clear hb2); (try clear hk); (try clear hi)))
      go_ret
      exact ⟨by first | rfl | (simp [errW_none, errW_some] <;> rfl) | (simp [*, errW_none, errW_some] <;> rfl), by repeat (first | (with_reducible first | exact HB.out | apply below_alloc | apply pw_below_drewN | apply below_drew1) | exact HB.out)⟩
    · rw [if_neg c11] at H
      have c11b0 : (t475.toList == t476.toList) = false := beq_eq_false_iff_ne.mpr c11
      have c11b1 : (t475.toList != t476.toList) = true := bne_iff_ne.mpr c11
      obtain rfl := Option.some.inj H
      go_enter Try.func14, Try.ntmps14
      go_wp2_with (first | ((with_reducible refine gate_callee (f := 22) rfl ?_); refine goesL_ (some 12) rfl rfl Try.func22 (by kernel_rfl) rfl #[.string a0, .int .i64 a1, .slice A2 l2.length c2] rfl (by (try simp only [List.map_toArray, List.map_cons, List.map_nil]); first | done | rfl | (simp only [List.length_drop, List.length_take]; rfl)) ?_; (with_reducible refine (wots_Sign.calls k a0 a1 _ _ l2 t468 _ ?side1 ?side2 A5.out).mono ?_); (case side1 => repeat (first | exact HR2.out | (with_reducible refine Kd.C_alloc ?_ _) | (with_reducible refine Kd.C_drewN ?_ _) | (with_reducible refine Kd.C_drew ?_))); (case side2 => exact HC2.out); rintro e w20 ⟨v469, rfl, ho0, hb⟩; refine ⟨_, rfl, ?_⟩; have n0_ := Aside0.mk (Kd.R_lower ho0 (below_size (by repeat (first | (with_reducible first | exact HB.out | apply below_alloc | apply pw_below_drewN | apply below_drew1) | exact HB.out)))); have n1_ := Aside0.mk (below_step (by repeat (first | (with_reducible first | exact HB.out | apply below_alloc | apply pw_below_drewN | apply below_drew1) | exact HB.out)) hb); clear HB; have HO470 := n0_; have HB := n1_; clear n0_ n1_; (try clear hb); (try clear hb2); (try clear hk); (try clear hi); (try clear ho0)) | ((with_reducible refine gate_callee (f := 47) rfl ?_); refine goesL_ (some 16) rfl rfl Try.func47 (by kernel_rfl) rfl #[.string a0, .int .i64 a1, .slice A2 l2.length c2] rfl (by (try simp only [List.map_toArray, List.map_cons, List.map_nil]); first | done | rfl | (simp only [List.length_drop, List.length_take]; rfl)) ?_; (with_reducible refine (mootref03_Sign.calls k a0 a1 _ _ l2 t471 _ ?side1 ?side2 A6.out).mono ?_); (case side1 => repeat (first | exact (Kd.C_below HR2.out HB.out) | (with_reducible refine Kd.C_alloc ?_ _) | (with_reducible refine Kd.C_drewN ?_ _) | (with_reducible refine Kd.C_drew ?_))); (case side2 => exact HC2.out); rintro e w21 ⟨v472, rfl, ho0, hb⟩; refine ⟨_, rfl, ?_⟩; have n0_ := Aside0.mk (Kd.R_elder' (by (with_reducible repeat (first | apply Kd.R_alloc | apply Kd.R_drewN | apply Kd.R_drew)); exact HO470.out) (Kd.R_base ho0) hb); have n1_ := Aside0.mk (Kd.R_lower (Kd.R_new' ho0 (Kd.R_lt (by (with_reducible repeat (first | apply Kd.R_alloc | apply Kd.R_drewN | apply Kd.R_drew)); exact HO470.out))) (below_size (by repeat (first | (with_reducible first | exact HB.out | apply below_alloc | apply pw_below_drewN | apply below_drew1) | exact HB.out)))); have n2_ := Aside0.mk (below_step (by repeat (first | (with_reducible first | exact HB.out | apply below_alloc | apply pw_below_drewN | apply below_drew1) | exact HB.out)) hb); clear HO470; clear HB; have HO470 := n0_; have HO473 := n1_; have HB := n2_; clear n0_ n1_ n2_; (try clear hb); (try clear hb2); (try clear hk); (try clear hi); (try clear ho0); obtain ⟨Ao22, co22, eo22⟩ := Kd.R_slice HO470.out; subst eo22; obtain ⟨Ao23, co23, eo23⟩ := Kd.R_slice HO473.out; subst eo23) | ((with_reducible refine gate_callee (f := 46) rfl ?_); refine goesL_ (some 17) rfl rfl Try.func46 (by kernel_rfl) rfl #[.slice Ao22 t468.length co22, .slice Ao23 t471.length co23] rfl (by (try simp only [List.map_toArray, List.map_cons, List.map_nil]); first | done | rfl | (simp only [List.length_drop, List.length_take]; rfl)) ?_; (with_reducible refine (mootplain_Texts.calls k _ _ t468 _ _ t471 true _ ?side1 ?side2 ?side3 ?side4 A7.out).mono ?_); (case side1 => repeat (first | exact (Kd.R_reads' HO470.out).2.2 | (with_reducible refine Kd.C_alloc ?_ _) | (with_reducible refine Kd.C_drewN ?_ _) | (with_reducible refine Kd.C_drew ?_))); (case side2 => exact (Kd.R_reads' HO470.out).2.1); (case side3 => repeat (first | exact (Kd.R_reads' HO473.out).2.2 | (with_reducible refine Kd.C_alloc ?_ _) | (with_reducible refine Kd.C_drewN ?_ _) | (with_reducible refine Kd.C_drew ?_))); (case side4 => exact (Kd.R_reads' HO473.out).2.1); rintro e w' ⟨rfl, ⟨nd, rfl⟩⟩; refine ⟨_, rfl, ?_⟩) | (go_at_call 21; (with_reducible refine (wots_Open.calls k _ _ l2 _ _ l3 t475 _ ?side1 ?side2 ?side3 ?side4 A9.out).mono ?_); (case side1 => repeat (first | exact (Kd.C_below HR2.out (by repeat (first | (with_reducible first | exact HB.out | apply below_alloc | apply pw_below_drewN | apply below_drew1) | exact HB.out))) | (with_reducible refine Kd.C_alloc ?_ _) | (with_reducible refine Kd.C_drewN ?_ _) | (with_reducible refine Kd.C_drew ?_))); (case side2 => exact HC2.out); (case side3 => repeat (first | exact (Kd.C_below HR3.out (by repeat (first | (with_reducible first | exact HB.out | apply below_alloc | apply pw_below_drewN | apply below_drew1) | exact HB.out))) | (with_reducible refine Kd.C_alloc ?_ _) | (with_reducible refine Kd.C_drewN ?_ _) | (with_reducible refine Kd.C_drew ?_))); (case side4 => exact HC3.out); rintro e w24 ⟨rfl, hb⟩; have n0_ := Aside0.mk (Kd.R_below (by (with_reducible repeat (first | apply Kd.R_alloc | apply Kd.R_drewN | apply Kd.R_drew)); exact HO470.out) hb); have n1_ := Aside0.mk (Kd.R_below (by (with_reducible repeat (first | apply Kd.R_alloc | apply Kd.R_drewN | apply Kd.R_drew)); exact HO473.out) hb); have n2_ := Aside0.mk (below_step (by repeat (first | (with_reducible first | exact HB.out | apply below_alloc | apply pw_below_drewN | apply below_drew1) | exact HB.out)) hb); clear HO470; clear HO473; clear HB; have HO470 := n0_; have HO473 := n1_; have HB := n2_; clear n0_ n1_ n2_; (try clear hb); (try clear hb2); (try clear hk); (try clear hi)) | (go_at_call 48; (with_reducible refine (mootref03_Open.calls _ _ l2 _ _ l3 t476 _ ?side1 ?side2 ?side3 ?side4 A10.out).mono ?_); (case side1 => repeat (first | exact (Kd.C_below HR2.out HB.out) | (with_reducible refine Kd.C_alloc ?_ _) | (with_reducible refine Kd.C_drewN ?_ _) | (with_reducible refine Kd.C_drew ?_))); (case side2 => exact HC2.out); (case side3 => repeat (first | exact (Kd.C_below HR3.out HB.out) | (with_reducible refine Kd.C_alloc ?_ _) | (with_reducible refine Kd.C_drewN ?_ _) | (with_reducible refine Kd.C_drew ?_))); (case side4 => exact HC3.out); rintro e w25 ⟨rfl, hb⟩; have n0_ := Aside0.mk (Kd.R_below (by (with_reducible repeat (first | apply Kd.R_alloc | apply Kd.R_drewN | apply Kd.R_drew)); exact HO470.out) hb); have n1_ := Aside0.mk (Kd.R_below (by (with_reducible repeat (first | apply Kd.R_alloc | apply Kd.R_drewN | apply Kd.R_drew)); exact HO473.out) hb); have n2_ := Aside0.mk (below_step (by repeat (first | (with_reducible first | exact HB.out | apply below_alloc | apply pw_below_drewN | apply below_drew1) | exact HB.out)) hb); clear HO470; clear HO473; clear HB; have HO470 := n0_; have HO473 := n1_; have HB := n2_; clear n0_ n1_ n2_; (try clear hb); (try clear hb2); (try clear hk); (try clear hi)))
      go_ret
      exact ⟨by first | rfl | (simp [errW_none, errW_some] <;> rfl) | (simp [*, errW_none, errW_some] <;> rfl), by repeat (first | (with_reducible first | exact HB.out | apply below_alloc | apply pw_below_drewN | apply below_drew1) | exact HB.out)⟩
  · replace c8 := Bool.eq_false_iff.mpr c8
    subst c8
    have H1 : (some false) = some r := by rw [if_neg (show ¬ (false = true) by decide)] at H; exact H
    clear H
    have H := H1
    clear H1
    obtain rfl := Option.some.inj H
    go_enter Try.func14, Try.ntmps14
    go_wp2_with (first | ((with_reducible refine gate_callee (f := 22) rfl ?_); refine goesL_ (some 12) rfl rfl Try.func22 (by kernel_rfl) rfl #[.string a0, .int .i64 a1, .slice A2 l2.length c2] rfl (by (try simp only [List.map_toArray, List.map_cons, List.map_nil]); first | done | rfl | (simp only [List.length_drop, List.length_take]; rfl)) ?_; (with_reducible refine (wots_Sign.calls k a0 a1 _ _ l2 t468 _ ?side1 ?side2 A5.out).mono ?_); (case side1 => repeat (first | exact HR2.out | (with_reducible refine Kd.C_alloc ?_ _) | (with_reducible refine Kd.C_drewN ?_ _) | (with_reducible refine Kd.C_drew ?_))); (case side2 => exact HC2.out); rintro e w26 ⟨v469, rfl, ho0, hb⟩; refine ⟨_, rfl, ?_⟩; have n0_ := Aside0.mk (Kd.R_lower ho0 (below_size (by repeat (first | (with_reducible first | exact HB.out | apply below_alloc | apply pw_below_drewN | apply below_drew1) | exact HB.out)))); have n1_ := Aside0.mk (below_step (by repeat (first | (with_reducible first | exact HB.out | apply below_alloc | apply pw_below_drewN | apply below_drew1) | exact HB.out)) hb); clear HB; have HO470 := n0_; have HB := n1_; clear n0_ n1_; (try clear hb); (try clear hb2); (try clear hk); (try clear hi); (try clear ho0)) | ((with_reducible refine gate_callee (f := 47) rfl ?_); refine goesL_ (some 16) rfl rfl Try.func47 (by kernel_rfl) rfl #[.string a0, .int .i64 a1, .slice A2 l2.length c2] rfl (by (try simp only [List.map_toArray, List.map_cons, List.map_nil]); first | done | rfl | (simp only [List.length_drop, List.length_take]; rfl)) ?_; (with_reducible refine (mootref03_Sign.calls k a0 a1 _ _ l2 t471 _ ?side1 ?side2 A6.out).mono ?_); (case side1 => repeat (first | exact (Kd.C_below HR2.out HB.out) | (with_reducible refine Kd.C_alloc ?_ _) | (with_reducible refine Kd.C_drewN ?_ _) | (with_reducible refine Kd.C_drew ?_))); (case side2 => exact HC2.out); rintro e w27 ⟨v472, rfl, ho0, hb⟩; refine ⟨_, rfl, ?_⟩; have n0_ := Aside0.mk (Kd.R_elder' (by (with_reducible repeat (first | apply Kd.R_alloc | apply Kd.R_drewN | apply Kd.R_drew)); exact HO470.out) (Kd.R_base ho0) hb); have n1_ := Aside0.mk (Kd.R_lower (Kd.R_new' ho0 (Kd.R_lt (by (with_reducible repeat (first | apply Kd.R_alloc | apply Kd.R_drewN | apply Kd.R_drew)); exact HO470.out))) (below_size (by repeat (first | (with_reducible first | exact HB.out | apply below_alloc | apply pw_below_drewN | apply below_drew1) | exact HB.out)))); have n2_ := Aside0.mk (below_step (by repeat (first | (with_reducible first | exact HB.out | apply below_alloc | apply pw_below_drewN | apply below_drew1) | exact HB.out)) hb); clear HO470; clear HB; have HO470 := n0_; have HO473 := n1_; have HB := n2_; clear n0_ n1_ n2_; (try clear hb); (try clear hb2); (try clear hk); (try clear hi); (try clear ho0); obtain ⟨Ao28, co28, eo28⟩ := Kd.R_slice HO470.out; subst eo28; obtain ⟨Ao29, co29, eo29⟩ := Kd.R_slice HO473.out; subst eo29) | ((with_reducible refine gate_callee (f := 46) rfl ?_); refine goesL_ (some 17) rfl rfl Try.func46 (by kernel_rfl) rfl #[.slice Ao28 t468.length co28, .slice Ao29 t471.length co29] rfl (by (try simp only [List.map_toArray, List.map_cons, List.map_nil]); first | done | rfl | (simp only [List.length_drop, List.length_take]; rfl)) ?_; (with_reducible refine (mootplain_Texts.calls k _ _ t468 _ _ t471 false _ ?side1 ?side2 ?side3 ?side4 A7.out).mono ?_); (case side1 => repeat (first | exact (Kd.R_reads' HO470.out).2.2 | (with_reducible refine Kd.C_alloc ?_ _) | (with_reducible refine Kd.C_drewN ?_ _) | (with_reducible refine Kd.C_drew ?_))); (case side2 => exact (Kd.R_reads' HO470.out).2.1); (case side3 => repeat (first | exact (Kd.R_reads' HO473.out).2.2 | (with_reducible refine Kd.C_alloc ?_ _) | (with_reducible refine Kd.C_drewN ?_ _) | (with_reducible refine Kd.C_drew ?_))); (case side4 => exact (Kd.R_reads' HO473.out).2.1); rintro e w' ⟨rfl, ⟨nd, rfl⟩⟩; refine ⟨_, rfl, ?_⟩))
    go_ret
    exact ⟨by first | rfl | (simp [errW_none, errW_some] <;> rfl) | (simp [*, errW_none, errW_some] <;> rfl), by repeat (first | (with_reducible first | exact HB.out | apply below_alloc | apply pw_below_drewN | apply below_drew1) | exact HB.out)⟩

end Go.Proofs.Ytclmikbbjhdplaa.X
/- Arguments opened: what reads as data of a kind stands in memory as the print's words say it. -/
namespace Go.Proofs.Ytclmikbbjhdplaa.X
open Go.ChangeShapes Go.WideShapes Go.Deep
open Go.RowKit Go.Proofs.YtclmikbbjhdplaaW.PrintWords Go.Proofs.YtclmikbbjhdplaaW.PrintLast Go.Proofs.YtclmikbbjhdplaaW.PrintMore
set_option linter.unusedVariables false
set_option linter.unusedSimpArgs false

section
variable {H : Type} {enc : TypeId × Value → H} {P : Program} {w : World}

/-- What reads as data of type t is of kind d: some x, well formed, whose measure is at most the datum's bulk. -/
def Opens {α : Type} (enc : TypeId × Value → H) (P : Program) (w : World) (t : TypeId) (d : Kd α) (wf : α → Prop) (μ : α → Nat) : Prop :=
  ∀ (n : Nat) (cs : List Value) (y : DataW H × List MemPlace), DataW.trod enc P w 0 (fun _ => true) true n t cs = some y → ∃ x, d.K w x cs ∧ wf x ∧ μ x ≤ Rows.uptoBulk y.1

theorem Opens.int {t : TypeId} {k : IntKind} (hu : P.underlying t = some (.int k)) : Opens enc P w t (Kd.int k) (fun x => (Lit.int k x).wf = true) (fun _ => 1) := fun n cs y h => by
  obtain ⟨x, rfl, rfl, hw⟩ := DataW.trod_int hu h
  exact ⟨x, rfl, hw, by simp [Rows.uptoBulk]⟩
theorem Opens.bool {t : TypeId} (hu : P.underlying t = some .bool) : Opens enc P w t Kd.bool (fun _ => True) (fun _ => 1) := fun n cs y h => by
  obtain ⟨x, rfl, rfl⟩ := DataW.trod_bool hu h
  exact ⟨x, rfl, trivial, by simp [Rows.uptoBulk]⟩
theorem Opens.string {t : TypeId} (hu : P.underlying t = some .string) : Opens enc P w t Kd.string (fun _ => True) (fun s => s.size + 1) := fun n cs y h => by
  obtain ⟨x, rfl, rfl, hw⟩ := DataW.trod_string hu h
  exact ⟨x, rfl, trivial, by simp [Rows.uptoBulk]⟩

def sumM {α : Type} (μ : α → Nat) : List α → Nat
  | [] => 0
  | x :: l => μ x + sumM μ l
theorem sumM_append {α : Type} (μ : α → Nat) (l r : List α) : sumM μ (l ++ r) = sumM μ l + sumM μ r := by
  induction l with
  | nil => simp [sumM]
  | cons x l ih => simp only [List.cons_append, sumM, ih]; omega
theorem sumM_mem {α : Type} (μ : α → Nat) {l : List α} {x : α} (h : x ∈ l) : μ x ≤ sumM μ l := by
  induction l with
  | nil => cases h
  | cons y l ih =>
    simp only [sumM]
    rcases List.mem_cons.1 h with rfl | h
    · omega
    · have := ih h; omega
theorem sumM_len {α : Type} (μ : α → Nat) (hμ : ∀ x, 1 ≤ μ x) (l : List α) : l.length ≤ sumM μ l := by
  induction l with
  | nil => simp [sumM]
  | cons x l ih => have := hμ x; simp only [sumM, List.length_cons]; omega
theorem bulkAll_append (l r : List (DataW H)) : Rows.uptoBulkAll (l ++ r) = Rows.uptoBulkAll l + Rows.uptoBulkAll r := by
  induction l with
  | nil => simp [Rows.uptoBulkAll]
  | cons x l ih => simp only [List.cons_append, Rows.uptoBulkAll, ih]; omega
theorem sumM_range {α : Type} (μ : α → Nat) (X : Nat → α) (D : Nat → DataW H) : ∀ n, (∀ i, i < n → μ (X i) ≤ Rows.uptoBulk (D i)) → sumM μ ((List.range n).map X) ≤ Rows.uptoBulkAll ((List.range n).map D)
  | 0, _ => by simp [sumM]
  | n + 1, h => by
    have ih := sumM_range μ X D n (fun i hi => h i (by omega))
    have := h n (by omega)
    rw [List.range_succ, List.map_append, List.map_append, sumM_append, bulkAll_append]
    simp only [List.map_cons, List.map_nil, sumM, Rows.uptoBulkAll]
    omega

theorem Opens.slice {α : Type} [Inhabited α] {t e : TypeId} {d : Kd α} {wf : α → Prop} {μ : α → Nat} (ht : P.underlying t = some (.slice e)) (hsz : P.cellsOf e = d.sz) (h : Opens enc P w e d wf μ) :
    Opens enc P w t (Kd.slice e d) (fun xs => ∀ x ∈ xs, wf x) (fun xs => sumM μ xs + 1) := fun n cs y hy => by
  rcases open_slice ht hy with ⟨rfl, rfl⟩ | ⟨a, len, cap, m, n', D, Pl, rfl, _, hl, hm, hmm, rfl, hi⟩
  · exact ⟨[], ⟨none, 0, rfl, Nat.le_refl _, Kd.C_nil d w⟩, (fun x hx => by cases hx), by simp [Rows.uptoBulk, sumM]⟩
  · have hm' : m = cap := by simpa using hmm
    subst hm'
    obtain ⟨X, hX⟩ := choose_lt (α := α) (p := fun i x => ∃ cs', w.cells? 0 (a.add (i * P.cellsOf e)) (P.cellsOf e) = some cs' ∧ d.K w x cs' ∧ wf x ∧ μ x ≤ Rows.uptoBulk (D i)) (fun i hlt => by
      obtain ⟨cs', h1, h2⟩ := hi i hlt
      obtain ⟨x, k1, k2, k3⟩ := h n' cs' _ h2
      exact ⟨x, cs', h1, k1, k2, k3⟩)
    have hm63 : m ≤ 9223372036854775807 := by simpa [maxLen] using hm
    refine ⟨(List.range len).map X, ⟨some a, m, by simp, by simpa using hl, by simp, by simp; omega, fun _ => ⟨a, rfl, fun j p hj => ?_⟩⟩, ?_, ?_⟩
    · have hjl : j < len := by have := (List.getElem?_eq_some_iff.1 hj).1; simpa using this
      have hp : p = X j := by simpa [hjl] using hj.symm
      subst hp
      obtain ⟨cs', h1, k1, _, _⟩ := hX j (by omega)
      obtain ⟨_, hlen, hc⟩ := World.cells?_some h1
      rw [hsz] at hlen hc
      refine ⟨cs', hlen, k1, fun i u hu => ?_⟩
      have hil : i < d.sz := by have := (List.getElem?_eq_some_iff.1 hu).1; omega
      rw [← Go.Deep.add_add, hc i hil]
      exact hu
    · intro x hx
      obtain ⟨i, hi', rfl⟩ := List.mem_map.1 hx
      obtain ⟨_, _, _, k2, _⟩ := hX i (by have := List.mem_range.1 hi'; omega)
      exact k2
    · have := sumM_range μ X D len (fun i hi' => by obtain ⟨_, _, _, _, k3⟩ := hX i (by omega); exact k3)
      simp only [Rows.uptoBulk]
      omega

/-- A top argument that is a slice. -/
theorem Opens.arg_slice {α : Type} {t e : TypeId} {d : Kd α} {wf : List α → Prop} {μ : List α → Nat} {a : Option Addr} {len cap : Nat} {D : DataW H} {ps : List MemPlace}
    (h : Opens enc P w t (Kd.slice e d) wf μ) (ht : DataW.Trod enc P w 0 (fun _ => true) true t (.slice a len cap) D ps) : ∃ xs, len = xs.length ∧ len ≤ cap ∧ d.C w a xs.length xs ∧ wf xs ∧ μ xs ≤ Rows.uptoBulk D := by
  obtain ⟨fuel, hf⟩ := ht
  obtain ⟨xs, ⟨A, c, he, hc, hC⟩, h2, h3⟩ := h fuel _ _ hf
  simp [Value.cells] at he
  obtain ⟨rfl, rfl, rfl⟩ := he
  exact ⟨xs, rfl, hc, hC, h2, h3⟩
/-- .. and no longer than its weight allows. -/
theorem sized_any {t e : TypeId} {a : Option Addr} {len cap : Nat} {d : DataW H} {ps : List MemPlace} {ts : List TypeId} {ds : List (DataW H)} {j : Nat}
    (hsz : (DataW.weightsEach P ts ds).all (· ≤ reachBytes) = true) (ht : ts[j]? = some t) (hd : ds[j]? = some d) (hu : P.underlying t = some (.slice e)) {B : Nat} (hB : P.bytesOf e = B)
    (h : DataW.Trod enc P w 0 (fun _ => true) true t (.slice a len cap) d ps) : cap * B ≤ 140737488351232 := by
  obtain ⟨fuel, hf⟩ := h
  rcases open_slice hu hf with ⟨hcs, _⟩ | ⟨a', len', cap', m, n', D, Pl, hcs, _, hl, hm, hmm, hx, _⟩
  · simp [Value.cells] at hcs
    obtain ⟨rfl, rfl, rfl⟩ := hcs
    simp
  · simp [Value.cells] at hcs
    obtain ⟨rfl, rfl, rfl⟩ := hcs
    have hm' : m = cap := by simpa using hmm
    subst hm'
    simp only [Prod.mk.injEq] at hx
    obtain ⟨rfl, _⟩ := hx
    have z := sized_slice hsz ht hd hu
    rw [hB] at z
    have e1 : ((List.range len).map D).length + ((List.range (m - len)).map fun j => D (len + j)).length = m := by simp; omega
    rw [e1] at z
    exact z
end
end Go.Proofs.Ytclmikbbjhdplaa.X
/- The law WotsSigns over numbers and lists: any signature, and what any parts open to, are as the page says. No condition. -/
namespace Go.Proofs.Ytclmikbbjhdplaa.Pure
open Go.RowKit Go.Proofs.Ytclmikbbjhdplaa.X Go.Proofs.YtclmikbbjhdplaaW.PrintWords Go.Proofs.YtclmikbbjhdplaaW.PrintLast Go.Proofs.YtclmikbbjhdplaaW.PrintMore
set_option linter.unusedVariables false
set_option linter.unusedSimpArgs false
namespace Signs

theorem texts_same (l : List ByteArray) (hl : l.length ≤ 20) : ∀ (d k i : Nat), i + d = l.length → d < k → mootplain_Texts.l0 k l l (i : Int) = some true
  | 0, k, i, hd, hk => by
    obtain ⟨k, rfl⟩ : ∃ m, k = m + 1 := ⟨k - 1, by omega⟩
    rw [mootplain_Texts.l0, if_neg (by omega)]
  | d + 1, k, i, hd, hk => by
    obtain ⟨k, rfl⟩ : ∃ m, k = m + 1 := ⟨k - 1, by omega⟩
    have hw : wrap64 ((i : Int) + 1) = ((i + 1 : Nat) : Int) := by rw [wrap64_id _ (by omega) (by omega)]; rfl
    rw [mootplain_Texts.l0, if_pos (by omega), if_pos (by omega), if_pos (by omega), if_pos rfl, hw]
    exact texts_same l hl d k (i + 1) (by omega) (by omega)
theorem octets_wf (l : List Int) (h : ∀ x ∈ l, (Lit.int .u8 x).wf = true) : Octets l := by
  intro x hx
  have := h x hx
  simp [Lit.wf, IntKind.min, IntKind.max, IntKind.signed, IntKind.bits] at this
  omega
theorem open_bad (x : List ByteArray) (hx : x.length = 11) (p : List Int) (hp : p.length = 11) (hr : ∀ i : Nat, i < 11 → 0 ≤ rd p (i : Int) ∧ rd p (i : Int) ≤ 3) (m : Nat) (hm : m < x.length) (hmb : x[m].size ≠ 8) (hg : ∀ j (h : j < x.length), j < m → x[j].size = 8) : ∀ (d k i : Nat) (acc : List ByteArray), i + d = m → d < k → acc.length ≤ i →
    wots_Open.l0 k x acc p (p.length : Int) (i : Int) = some ⟨#[]⟩
  | 0, k, i, acc, hd, hk, ha => by
    obtain ⟨k, rfl⟩ : ∃ n, k = n + 1 := ⟨k - 1, by omega⟩
    obtain rfl : i = m := by omega
    rw [wots_Open.l0, if_pos (by omega), if_pos (by omega), if_pos (by omega), if_pos (by omega), rdOf_at x i hm, if_neg (by omega)]
  | d + 1, k, i, acc, hd, hk, ha => by
    obtain ⟨k, rfl⟩ : ∃ n, k = n + 1 := ⟨k - 1, by omega⟩
    have hw : wrap64 ((i : Int) + 1) = ((i + 1 : Nat) : Int) := by rw [wrap64_id _ (by omega) (by omega)]; rfl
    have hri := hr i (by omega)
    have hw2 : wrap64 (3 - rd p (i : Int)) = 3 - rd p (i : Int) := wrap64_id _ (by omega) (by omega)
    have hsz := hg i (by omega) (by omega)
    have hc := chain_f (x[i]'(by omega)) (by omega) (3 - rd p (i : Int)).toNat (by omega)
    rw [Int.toNat_of_nonneg (by omega)] at hc
    rw [wots_Open.l0, if_pos (by omega), if_pos (by omega), if_pos (by omega), if_pos (by omega), rdOf_at x i (by omega), if_pos (by omega), hw2, hc, Option.bind_some, if_pos (by omega), hw]
    exact open_bad x hx p hp hr m hm hmb hg d k (i + 1) _ (by omega) (by omega) (by simp; omega)
theorem open_any (l : List Int) (hl : l.length ≤ 140737488354000) (x : List ByteArray) : wots_Open.f 60 l x = some (if goodB x = true then endB (openL x (partsL l)) else ⟨#[]⟩) := by
  by_cases hx : x.length = 11
  · by_cases hg : ∀ y ∈ x, y.size = 8
    · have : goodB x = true := by
        rw [goodB, decide_eq_true hx, Bool.true_and, List.all_eq_true]
        intro y hy
        simpa using hg y hy
      rw [this, if_pos rfl]
      exact open_f x hx hg l (by omega) 60 (by omega)
    · have hb : goodB x = false := by
        have : x.all (fun y => decide (y.size = 8)) = false := by
          rw [List.all_eq_false]
          have ⟨y, h⟩ := Classical.not_forall.1 hg
          have ⟨hy, h⟩ := Classical.not_imp.1 h
          exact ⟨y, hy, by simpa using h⟩
        rw [goodB, this, Bool.and_false]
      rw [hb]
      obtain ⟨m, hf⟩ : ∃ m, x.findIdx? (fun y => decide (y.size ≠ 8)) = some m := by
        cases hc : x.findIdx? (fun y => decide (y.size ≠ 8)) with
        | some m => exact ⟨m, rfl⟩
        | none =>
          refine absurd (fun y hy => ?_) hg
          simpa using List.findIdx?_eq_none_iff.1 hc y hy
      obtain ⟨hm, h1, h2⟩ := List.findIdx?_eq_some_iff_getElem.1 hf
      unfold wots_Open.f
      rw [if_pos (by rw [hx]; rfl), parts_f l (by omega), Option.bind_some]
      exact open_bad x hx (partsL l) (partsL_len l) (partsL_at l) m hm (by simpa using h1) (fun j h hj => by simpa using h2 j hj) m 60 0 [] (by omega) (by omega) (by simp)
  · have hb : goodB x = false := by rw [goodB, decide_eq_false hx, Bool.false_and]
    rw [hb]
    unfold wots_Open.f
    rw [if_neg (by omega)]
    rfl
end Signs
theorem WotsSigns (a0 : ByteArray) (a1 : Int) (l2 : List Int) (l3 : List ByteArray) (w0 : a0.size ≤ 140737488351232) (w1 : (Lit.int .i64 a1).wf = true) (w2 : ∀ z ∈ l2, (Lit.int .u8 z).wf = true) (z2 : l2.length * 1 ≤ 140737488351232) (w3 : ∀ z ∈ l3, True) (z3 : l3.length * 16 ≤ 140737488351232) : ∃ k, mootlaw03_WotsSigns.f k a0 a1 l2 l3 = some true := by
  refine ⟨60, ?_⟩
  have ho := Signs.octets_wf l2 w2
  have hl : (signL a0 a1 (partsL l2)).length = 11 := by simp [signL]
  have ht : mootplain_Texts.l0 60 (signL a0 a1 (partsL l2)) (signL a0 a1 (partsL l2)) 0 = some true := Signs.texts_same _ (by omega) 11 60 0 (by omega) (by omega)
  unfold mootlaw03_WotsSigns.f mootplain_Texts.f
  rw [sign_f a0 (by omega) a1 l2 (by omega) 60 (by omega), Option.bind_some, refsign_f a0 (by omega) a1 l2 ho (by omega), Option.bind_some, if_pos rfl, ht, Option.bind_some, if_pos rfl, Signs.open_any l2 (by omega) l3, Option.bind_some]
  unfold mootref03_Open.f
  rw [if_pos ⟨ho, by omega⟩, Option.bind_some, if_pos rfl, alive03]
  rfl
end Go.Proofs.Ytclmikbbjhdplaa.Pure
