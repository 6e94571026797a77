/- The law HeldTells, walked. -/
import Derived.Test.YtccabdgfjcjpoaaQHeld
import Derived.Test.YtccabdgfjcjpoaaXF16
import Derived.Test.YtccabdgfjcjpoaaHArr
import Derived.Deep.Cut
import Derived.Deep.DeepCutAuto
import Derived.Deep.RegionHeld3
import Derived.Lib.Hide
namespace Go.Proofs.Ytccabdgfjcjpoaa.X
open Go.RowKit Go.Proofs.YtccabdgfjcjpoaaW.PrintWords Go.Proofs.YtccabdgfjcjpoaaW.PrintLast Go.Proofs.YtccabdgfjcjpoaaW.PrintMore
set_option linter.unusedVariables false
set_option linter.unusedSimpArgs false

/-- What lies there: the struct that came in. -/
structure HT (w : World) (v h s t : Int) (b : ByteArray) (W : World) : Prop where
  blk : W.heap[w.heap.size]? = some (.cells #[.int .i64 v, .int .i64 h, .string b, .int .i64 s, .int .i64 t] 32 (0, 0))
  below : Below w.heap.size w W
def fullP (s now : Int) : Int := if 0 ≤ s ∧ s ≤ 1099511627776 ∧ 0 ≤ now ∧ now ≤ 1099511627776 then mx (now - s - 1) 0 else 0
theorem full_f (v h s t now : Int) (b : ByteArray) : held_Full.f v h b s t now = some (fullP s now) := by
  unfold fullP
  split
  · rename_i c
    exact full_at v h s t now b c.1 c.2.1 c.2.2.1 c.2.2.2
  · rename_i c
    unfold held_Full.f held_odd.f
    by_cases h1 : s < 0
    · rw [if_pos h1]; rfl
    · rw [if_neg h1, Option.bind_some]
      by_cases h2 : s > 1099511627776
      · rw [if_pos (by simpa using h2)]
      · rw [if_neg (by simpa using h2)]
        by_cases h3 : now < 0
        · rw [if_pos h3]; rfl
        · rw [if_neg h3, Option.bind_some, if_pos (by simp; omega)]
/-- The reports from the u-th on. -/
def restL (b : ByteArray) (full u : Int) : List (Int × Int) := if b.toList = [] ∨ u < 0 then [] else tickL u full
def finT (b : ByteArray) (t full : Int) : Int := lastTold t (restL b full t)
theorem restL_step (b : ByteArray) (full u : Int) (hb : ¬ b.toList = []) (h0 : 0 ≤ u) (h7 : u < 7) : ∃ z : Int, wrap64 (2 ^ u.toNat) = z ∧ (z ≤ full → restL b full u = (z, u + 1) :: restL b full (u + 1)) ∧ (¬ z ≤ full → restL b full u = []) := by
  obtain ⟨n, rfl⟩ := Int.eq_ofNat_of_zero_le h0
  have hn : n < 7 := by omega
  have hw : wrap64 (2 ^ (n : Int).toNat) = 2 ^ n := by
    have : n = 0 ∨ n = 1 ∨ n = 2 ∨ n = 3 ∨ n = 4 ∨ n = 5 ∨ n = 6 := by omega
    rcases this with rfl | rfl | rfl | rfl | rfl | rfl | rfl <;> decide +kernel
  have e7 : 7 - n = (6 - n) + 1 := by omega
  have e6 : 6 - (6 - n) = n := by omega
  have e1 : ((7 - (6 - n) : Nat) : Int) = (n : Int) + 1 := by omega
  have e8 : ((n : Int) + 1).toNat = n + 1 := by omega
  have e9 : 7 - (n + 1) = 6 - n := by omega
  refine ⟨2 ^ n, hw, fun hz => ?_, fun hz => ?_⟩
  · unfold restL tickL
    rw [if_neg (by rintro (h | h); exact hb h; omega), if_neg (by rintro (h | h); exact hb h; omega), Int.toNat_natCast, e7, dueR, e6, if_pos hz, e1, e8, e9]
  · unfold restL tickL
    rw [if_neg (by rintro (h | h); exact hb h; omega), Int.toNat_natCast, e7, dueR, e6, if_neg hz]
theorem restL_none (b : ByteArray) (full u : Int) (h : b.toList = [] ∨ u < 0 ∨ 7 ≤ u) : restL b full u = [] := by
  unfold restL
  rcases h with h | h | h
  · rw [if_pos (.inl h)]
  · rw [if_pos (.inr h)]
  · split
    · rfl
    · unfold tickL
      rw [show 7 - u.toNat = 0 by omega]
      rfl
theorem HT.grown {w W W1 : World} {v h s t : Int} {b : ByteArray} (hT : HT w v h s t b W) {row : Option Nat} (hg : W.grownBy W1 row) (hr : ∀ k, row = some k → k ≠ w.heap.size) (hb : Below w.heap.size w W1) : HT w v h s t b W1 :=
  ⟨(hg.block _ (blk_lt hT.blk) (fun e => hr _ e.symm rfl)).trans hT.blk, hb⟩
theorem tick_f (v h s t now full : Int) (b : ByteArray) (hf : held_Full.f v h b s t now = some full) : held_Tick.f v h b s t now = some (v, h, b, s, finT b t full, (restL b full t).map (·.1)) := by
  unfold held_Tick.f finT restL
  by_cases hc : b.toList = [] ∨ t < 0
  · rw [if_pos hc, if_pos hc]; rfl
  · rw [if_neg hc, if_neg hc, hf]; rfl
theorem one5 (a b : Int) (c : ByteArray) (d e : Int) : #[Value.int .i64 a, .int .i64 b, .string c, .int .i64 d, .int .i64 e].all (·.oneCell') = true := by simp [Value.oneCell']
theorem s32 : (Try.prog.info? 32).map (·.size) = some 5 := by kernel_rfl
theorem i32 : (Try.prog.info? 32).map (fun i => (i.zero, i.size)) = some (some (.agg #[.int .i64 0, .int .i64 0, .string ⟨#[]⟩, .int .i64 0, .int .i64 0]), 5) := by kernel_rfl
theorem keep_S {w : World} {g8 g10 : Nat} {v h s t u : Int} {b : ByteArray} {A Ax : Option Addr} {ys : List Int} {W W1 : World} (hb : Below W.heap.size W W1)
    (hS : (fun w' : World => w'.cell? ⟨w.heap.size, 0, none⟩ = some (.int .i64 v) ∧ w'.cell? ⟨w.heap.size, 1, none⟩ = some (.int .i64 h) ∧ w'.cell? ⟨w.heap.size, 2, none⟩ = some (.string b) ∧ w'.cell? ⟨w.heap.size, 3, none⟩ = some (.int .i64 s) ∧ w'.cell? ⟨w.heap.size, 4, none⟩ = some (.int .i64 t) ∧ w'.cell? ⟨g8, 0, none⟩ = some (.int .i64 v) ∧ w'.cell? ⟨g8, 1, none⟩ = some (.int .i64 h) ∧ w'.cell? ⟨g8, 2, none⟩ = some (.string b) ∧ w'.cell? ⟨g8, 3, none⟩ = some (.int .i64 s) ∧ w'.cell? ⟨g8, 4, none⟩ = some (.int .i64 u) ∧ w'.cell? ⟨g10, 0, none⟩ = some (.int .i64 v) ∧ w'.cell? ⟨g10, 1, none⟩ = some (.int .i64 h) ∧ w'.cell? ⟨g10, 2, none⟩ = some (.string b) ∧ w'.cell? ⟨g10, 3, none⟩ = some (.int .i64 s) ∧ w'.cell? ⟨g10, 4, none⟩ = some (.int .i64 u) ∧ Kd.C (Kd.int .i64) w' A ys.length ys ∧ Kd.C (Kd.int .i64) w' Ax ys.length ys ∧ Below w.heap.size w w') W) : (fun w' : World => w'.cell? ⟨w.heap.size, 0, none⟩ = some (.int .i64 v) ∧ w'.cell? ⟨w.heap.size, 1, none⟩ = some (.int .i64 h) ∧ w'.cell? ⟨w.heap.size, 2, none⟩ = some (.string b) ∧ w'.cell? ⟨w.heap.size, 3, none⟩ = some (.int .i64 s) ∧ w'.cell? ⟨w.heap.size, 4, none⟩ = some (.int .i64 t) ∧ w'.cell? ⟨g8, 0, none⟩ = some (.int .i64 v) ∧ w'.cell? ⟨g8, 1, none⟩ = some (.int .i64 h) ∧ w'.cell? ⟨g8, 2, none⟩ = some (.string b) ∧ w'.cell? ⟨g8, 3, none⟩ = some (.int .i64 s) ∧ w'.cell? ⟨g8, 4, none⟩ = some (.int .i64 u) ∧ w'.cell? ⟨g10, 0, none⟩ = some (.int .i64 v) ∧ w'.cell? ⟨g10, 1, none⟩ = some (.int .i64 h) ∧ w'.cell? ⟨g10, 2, none⟩ = some (.string b) ∧ w'.cell? ⟨g10, 3, none⟩ = some (.int .i64 s) ∧ w'.cell? ⟨g10, 4, none⟩ = some (.int .i64 u) ∧ Kd.C (Kd.int .i64) w' A ys.length ys ∧ Kd.C (Kd.int .i64) w' Ax ys.length ys ∧ Below w.heap.size w w') W1 := by
  obtain ⟨a0, a1, a2, a3, a4, b0, b1, b2, b3, b4, c0, c1, c2, c3, c4, r1, r2, hB⟩ := hS
  have k : ∀ (g o : Nat) (x : Value), W.cell? ⟨g, o, none⟩ = some x → W1.cell? ⟨g, o, none⟩ = some x := fun g o x hx => (hb.cell (p := ⟨g, o, none⟩) (World.block_lt_of_cell? W _ hx)).trans hx
  exact ⟨k _ _ _ a0, k _ _ _ a1, k _ _ _ a2, k _ _ _ a3, k _ _ _ a4, k _ _ _ b0, k _ _ _ b1, k _ _ _ b2, k _ _ _ b3, k _ _ _ b4, k _ _ _ c0, k _ _ _ c1, k _ _ _ c2, k _ _ _ c3, k _ _ _ c4, Kd.C_below r1 hb, Kd.C_below r2 hb, below_step hB hb⟩
theorem S_rows {w : World} {g8 g10 : Nat} {v h s t u : Int} {b : ByteArray} {A Ax : Option Addr} {ys : List Int} {W : World}
    (hS : (fun w' : World => w'.cell? ⟨w.heap.size, 0, none⟩ = some (.int .i64 v) ∧ w'.cell? ⟨w.heap.size, 1, none⟩ = some (.int .i64 h) ∧ w'.cell? ⟨w.heap.size, 2, none⟩ = some (.string b) ∧ w'.cell? ⟨w.heap.size, 3, none⟩ = some (.int .i64 s) ∧ w'.cell? ⟨w.heap.size, 4, none⟩ = some (.int .i64 t) ∧ w'.cell? ⟨g8, 0, none⟩ = some (.int .i64 v) ∧ w'.cell? ⟨g8, 1, none⟩ = some (.int .i64 h) ∧ w'.cell? ⟨g8, 2, none⟩ = some (.string b) ∧ w'.cell? ⟨g8, 3, none⟩ = some (.int .i64 s) ∧ w'.cell? ⟨g8, 4, none⟩ = some (.int .i64 u) ∧ w'.cell? ⟨g10, 0, none⟩ = some (.int .i64 v) ∧ w'.cell? ⟨g10, 1, none⟩ = some (.int .i64 h) ∧ w'.cell? ⟨g10, 2, none⟩ = some (.string b) ∧ w'.cell? ⟨g10, 3, none⟩ = some (.int .i64 s) ∧ w'.cell? ⟨g10, 4, none⟩ = some (.int .i64 u) ∧ Kd.C (Kd.int .i64) w' A ys.length ys ∧ Kd.C (Kd.int .i64) w' Ax ys.length ys ∧ Below w.heap.size w w') W) : Kd.C (Kd.int .i64) W A ys.length ys ∧ Kd.C (Kd.int .i64) W Ax ys.length ys ∧ Below w.heap.size w W := by
  obtain ⟨a0, a1, a2, a3, a4, b0, b1, b2, b3, b4, c0, c1, c2, c3, c4, r1, r2, hB⟩ := hS
  exact ⟨r1, r2, hB⟩
theorem drawn_below {W W1 : World} (h : Drawn0 W W1) : Below W.heap.size W W1 := by
  obtain ⟨n, rfl⟩ := h
  exact pw_below_drewN (Below.refl _ _) n
theorem ints_l0 (ys : List Int) (hy : ys.length ≤ 9223372036854775807) : ∀ (d k i : Nat), i + d = ys.length → d < k → mootplain_Ints.l0 k ys ys (i : Int) = some true
  | 0, k, i, hd, hk => by
    obtain ⟨k, rfl⟩ : ∃ m, k = m + 1 := ⟨k - 1, by omega⟩
    rw [mootplain_Ints.l0, if_neg (by omega)]
  | d + 1, k, i, hd, hk => by
    obtain ⟨k, rfl⟩ : ∃ m, k = m + 1 := ⟨k - 1, by omega⟩
    rw [mootplain_Ints.l0, if_pos (by omega), if_pos (by omega), if_pos (by omega), if_pos rfl, show wrap64 ((i : Int) + 1) = ((i + 1 : Nat) : Int) by unfold wrap64; omega]
    exact ints_l0 ys hy d k (i + 1) (by omega) (by omega)
theorem ints_refl (ys : List Int) (hy : ys.length ≤ 9223372036854775807) : mootplain_Ints.f (ys.length + 1) ys ys = some true := by
  unfold mootplain_Ints.f
  rw [if_pos rfl]
  exact ints_l0 ys hy ys.length _ 0 (by omega) (by omega)
/-- What the loop keeps. -/
structure HL (w : World) (v h s t full : Int) (b : ByteArray) (u : Int) (pre : List (Int × Int)) (A : Option Addr) (c i : Nat) (ys : List Int) (W : World) : Prop where
  row : Kd.R (Kd.int .i64) 3 W w.heap.size (fun k => k ≠ w.heap.size) (.slice A ys.length c) ys
  eqs : ys = pre.map (·.1)
  rest : pre ++ restL b full u = restL b full t
  last : lastTold t pre = u
  cnt : i = 0 ∨ (i : Int) ≤ u
  len : ys.length = i
  held : HT w v h s t b W
set_option maxRecDepth 100000 in
set_option maxHeartbeats 4000000 in
theorem tells_calls (v h s t now : Int) (b : ByteArray) (w : World) :
    Calls Try.prog 4 #[.agg #[.int .i64 v, .int .i64 h, .string b, .int .i64 s, .int .i64 t], .int .i64 now] w fun e w' => e = .returned (.bool true) ∧ Below w.heap.size w w' := by
  obtain ⟨full, hf⟩ : ∃ full, fullP s now = full := ⟨_, rfl⟩
  have hff := full_f v h s t now b
  rw [hf] at hff
  have HF := Lib.hid hf
  have HFF := Lib.hid hff
  clear hf hff
  go_enter Try.func4, Try.ntmps4
  go_upto_region 2 with fail
  go_cut [26] (fun v26 wx => v26 = .bool (decide (0 ≤ s ∧ s ≤ 1099511627776 ∧ 0 ≤ now ∧ now ≤ 1099511627776)) ∧ Hid (HT w v h s t b wx))
  case first =>
    go_wp2
    all_goals go_meet
    all_goals (refine ⟨congrArg Value.bool (Bool.eq_iff_iff.mpr (by simp only [decide_eq_true_eq, Bool.false_eq_true]; constructor <;> intro hz <;> first | omega | exact hz.elim)), Lib.hid ⟨blk_new _ _, below_alloc (Below.refl _ _) _⟩⟩)
  case rest =>
  obtain ⟨rfl, hT⟩ := hcut
  go_upto_if 26 with fail
  go_cut [5] (fun v5 wx => v5 = .int .i64 full ∧ Hid (HT w v h s t b wx))
  case first =>
    have f3 := blk_cell hT.out.blk 3
    by_cases hc : 0 ≤ s ∧ s ≤ 1099511627776 ∧ 0 ≤ now ∧ now ≤ 1099511627776
    · have hd : decide (0 ≤ s ∧ s ≤ 1099511627776 ∧ 0 ≤ now ∧ now ≤ 1099511627776) = true := decide_eq_true hc
      have hv : full = mx (now - s - 1) 0 := by rw [← HF.out]; unfold fullP; rw [if_pos hc]
      have HV := Lib.hid hv
      clear hv
      obtain ⟨c1, c2, c3, c4⟩ := hc
      rw [hd]
      clear hd
      go_wp2
      all_goals go_meet
      all_goals (refine ⟨congrArg (Value.int .i64) ?_, hT⟩; rw [HV.out]; unfold mx; split <;> omega)
    · have hd : decide (0 ≤ s ∧ s ≤ 1099511627776 ∧ 0 ≤ now ∧ now ≤ 1099511627776) = false := decide_eq_false hc
      have hv : full = 0 := by rw [← HF.out]; unfold fullP; rw [if_neg hc]
      have HV := Lib.hid hv
      clear hv hc
      rw [hd]
      clear hd
      go_wp2
      go_meet
      exact ⟨by rw [HV.out], hT⟩
  case rest =>
    clear hT
    obtain ⟨rfl, hT⟩ := hcut
    have f0 := blk_cell hT.out.blk 0
    have f1 := blk_cell hT.out.blk 1
    have f2 := blk_cell hT.out.blk 2
    have f3 := blk_cell hT.out.blk 3
    have f4 := blk_cell hT.out.blk 4
    go_upto_block 0 with fail
    go_cut [6, 7] (fun v6 v7 wx => ∃ A c i, ∃ ys : List Int, ∃ pre : List (Int × Int), v7 = .int .i64 (finT b t full) ∧ v6 = .slice A ys.length c ∧ Hid (HL w v h s t full b (finT b t full) pre A c i ys wx) ∧ Hid (pre = restL b full t))
    case first =>
      go_wp2
      go_loopg [6, 7] 9 (fun kq v6 v7 w' => ∃ u A c i, ∃ ys : List Int, ∃ pre : List (Int × Int), v7 = .int .i64 u ∧ v6 = .slice A ys.length c ∧ Hid (HL w v h s t full b u pre A c i ys w') ∧ Hid (kq + i = 9))
      case atStart => exact ⟨t, none, 0, 0, [], [], rfl, rfl, Lib.hid ⟨Kd.R_nil _ _ _ _ _, rfl, rfl, rfl, .inl rfl, rfl, hT.out⟩, Lib.hid rfl⟩
      case round =>
        clear f0 f1 f2 f3 f4 hT
        obtain ⟨u, A, c, i, ys, pre, rfl, rfl, hL, hk⟩ := hrel
        have f2 := blk_cell hL.out.held.blk 2
        have hend : restL b full u = [] → finT b t full = u ∧ pre = restL b full t := fun hz => by
          have := hL.out.rest
          rw [hz, List.append_nil] at this
          exact ⟨by unfold finT; rw [← this]; exact hL.out.last, this⟩
        have HE := Lib.hid hend
        clear hend
        by_cases c1 : u < 0
        · have hz := restL_none b full u (.inr (.inl c1))
          have HZ := Lib.hid hz
          clear hz
          go_wp2
          go_meet
          obtain ⟨e1, e2⟩ := HE.out HZ.out
          exact ⟨A, c, i, ys, pre, by rw [e1], rfl, by rw [e1]; exact hL, Lib.hid e2⟩
        · by_cases c2 : u < 7
          · by_cases c3 : b.toList = []
            · have hb1 : (!b.toList.isEmpty) = false := by rw [c3]; rfl
              have hb2 : (b.toList != ([] : List UInt8)) = false := by rw [c3]; rfl
              have hz := restL_none b full u (.inl c3)
              have HZ := Lib.hid hz
              clear hz c3
              go_wp2
              go_meet
              obtain ⟨e1, e2⟩ := HE.out HZ.out
              exact ⟨A, c, i, ys, pre, by rw [e1], rfl, by rw [e1]; exact hL, Lib.hid e2⟩
            · have hb1 : (!b.toList.isEmpty) = true := by cases hq : b.toList <;> simp_all
              have hb2 : (b.toList != ([] : List UInt8)) = true := by cases hq : b.toList <;> simp_all
              obtain ⟨z, hz, hz1, hz2⟩ := restL_step b full u c3 (by omega) c2
              have HZ1 := Lib.hid hz1
              have HZ2 := Lib.hid hz2
              have hi : i ≤ 6 := by have := hL.out.cnt; omega
              have HI := Lib.hid hi
              have hyl : ys.length ≤ 100 := by rw [hL.out.len]; omega
              have HYL := Lib.hid hyl
              clear hz1 hz2 c3 hi hyl
              by_cases c4 : z ≤ full
              · go_wp2_with ((with_reducible refine gate_builtin (b := .append) (xs := #[.tmp 54, .tmp 58]) rfl ?_); at_builtin; refine Kd.R_append (Kd.int .i64) (w0 := w) w.heap.size rfl (.tmp 54) (.tmp 58) 33 3 (.int .i64 0) 8 rfl Try.underlying33 info3 rfl (by decide) (by omega) (.slice A ys.length c) ys z [.int .i64 z] (fun k => k ≠ w.heap.size) (fun _ => False) rfl rfl rfl (fun _ hk => hk.elim) (fun k hk => by have := blk_lt hL.out.held.blk; omega) hL.out.row hL.out.held.below hL.out.held.below.size (by have := HYL.out; omega) ?_; intro v1 w1 hR1 hb1 hg1 hat1; obtain ⟨A1, cc1, rfl⟩ := Kd.R_slice hR1; have HR1 := Lib.hid hR1; have HT1 := Lib.hid (hL.out.held.grown hg1 hL.out.row.1 hb1); clear hR1 hb1 hg1 hat1)
                obtain ⟨k1, rfl⟩ : ∃ k1, gk = k1 + 1 := ⟨gk - 1, by have := hk.out; have := HI.out; omega⟩
                go_roundg k1
                case measure => omega
                case rel => exact ⟨u + 1, A1, cc1, i + 1, ys ++ [z], pre ++ [(z, u + 1)], rfl, by simp, Lib.hid ⟨HR1.out, by rw [hL.out.eqs]; simp, by rw [List.append_assoc, List.cons_append, List.nil_append, ← HZ1.out c4]; exact hL.out.rest, by simp [lastTold], .inr (by have := hL.out.cnt; omega), by simp [hL.out.len], HT1.out⟩, Lib.hid (by have := hk.out; omega)⟩
              · have hzz := HZ2.out c4
                have HZ := Lib.hid hzz
                clear hzz
                go_wp2
                go_meet
                obtain ⟨e1, e2⟩ := HE.out HZ.out
                exact ⟨A, c, i, ys, pre, by rw [e1], rfl, by rw [e1]; exact hL, Lib.hid e2⟩
          · have hz := restL_none b full u (.inr (.inr (by omega)))
            have HZ := Lib.hid hz
            clear hz
            go_wp2
            go_meet
            obtain ⟨e1, e2⟩ := HE.out HZ.out
            exact ⟨A, c, i, ys, pre, by rw [e1], rfl, by rw [e1]; exact hL, Lib.hid e2⟩
    case rest =>
      clear f0 f1 f2 f3 f4 hT
      obtain ⟨A, c, i, ys, pre, rfl, rfl, hL, hp⟩ := hcut
      have htick := tick_f v h s t now full b HFF.out
      obtain ⟨u, hu⟩ : ∃ u, finT b t full = u := ⟨_, rfl⟩
      have hys : (restL b full t).map (·.1) = ys := by rw [← hp.out, hL.out.eqs]
      rw [hu, hys] at htick
      rw [hu] at hL ⊢
      have HTK := Lib.hid htick
      have hB := hL.out.held.below
      have hG := hL.out.held.blk
      have hR := hL.out.row
      have f0 := blk_cell hG 0
      have f1 := blk_cell hG 1
      have f2 := blk_cell hG 2
      have f3 := blk_cell hG 3
      have f4 := blk_cell hG 4
      have HB := Lib.hid hB
      have HG := Lib.hid hG
      have HR := Lib.hid hR
      clear htick hu hys hp hL hB hG hR
      go_wp2_with (first | (go_at_call 12; go_must ((with_reducible refine (held_Tick.calls _ _ _ _ _ _ _ _ _ _ _ _ _ HTK.out).mono ?_); rintro e w1 ⟨v5_, rfl, ho, hb⟩; obtain ⟨Ax, cx, rfl⟩ := Kd.R_slice ho; have B1 := below_step HB.out hb; have G1 := (hb.block _ (blk_lt HG.out)).trans HG.out; have RW := Kd.R_below HR.out hb; have RX := Kd.R_lower ho HB.out.size; clear hb ho f0 f1 f2 f3 f4)) | ((with_reducible refine gate_dst (N := 8) rfl ?_); go_must (refine box_event rfl (N := 8) rfl (run_alloc _ 32 _ 5 i32 _ _ rfl _) ?_; intro g8 hg8 w2 b8 hb; have BX2 := hb; have L8 := Nat.le_of_eq hg8.symm; clear hb hg8)) | ((with_reducible refine gate_dst (N := 10) rfl ?_); go_must (refine box_event rfl (N := 10) rfl (run_alloc _ 32 _ 5 i32 _ _ rfl _) ?_; intro g10 hg10 w4 b10 hb; have BX4 := below_step BX3 hb; have e8 := (hb.block _ (blk_lt d8)).trans d8; have L10 := hg10 ▸ BX3.size; have N8 : g8 < g10 := hg10 ▸ blk_lt d8; clear hb hg10 d8 BX3 f0 f1 f2 f3 f4)) | ((with_reducible refine gate_store (t := 32) rfl ?_); (first | (refine store_ev rfl rfl 32 (.tmp 8) (.tmp 66) rfl g8 _ _ rfl rfl b8 rfl s32 (one5 _ _ _ _ _) ?_; intro w3 hst; have BX3 := hst.below _ BX2 L8; have d8 := hst.at_; have G3 := (BX3.block _ (blk_lt G1)).trans G1; have f0 := blk_cell G3 0; have f1 := blk_cell G3 1; have f2 := blk_cell G3 2; have f3 := blk_cell G3 3; have f4 := blk_cell G3 4; clear hst BX2 b8 G3) | (refine store_ev rfl rfl 32 (.tmp 10) (.tmp 68) rfl g10 _ _ rfl rfl b10 rfl s32 (one5 _ _ _ _ _) ?_; intro w5 hst; have BX5 := hst.below _ BX4 L10; have d10 := hst.at_; have h8 := (hst.far _ (Nat.ne_of_lt N8)).trans e8; have c4 := blk_cell d10 4; have fr4 := blk_frozen d10 4; clear hst BX4 b10 e8))))
      have BXu := BX5
      obtain ⟨W6, hW6⟩ : ∃ W6, w5.setCell ⟨g10, 4, none⟩ (.int .i64 u) = W6 := ⟨_, rfl⟩
      rw [hW6]
      have BX6 : Below w1.heap.size w1 W6 := by rw [← hW6]; exact below_set BX5 L10
      have G6 : W6.heap[w.heap.size]? = some (.cells #[.int .i64 v, .int .i64 h, .string b, .int .i64 s, .int .i64 t] 32 (0, 0)) := (BX6.block _ (blk_lt G1)).trans G1
      have E6 : W6.heap[g8]? = some (.cells #[.int .i64 v, .int .i64 h, .string b, .int .i64 s, .int .i64 u] 32 (0, 0)) := by rw [← hW6]; exact blk_far h8 (Nat.ne_of_lt N8) _
      have D6 : W6.heap[g10]? = some (.cells #[.int .i64 v, .int .i64 h, .string b, .int .i64 s, .int .i64 u] 32 (0, 0)) := by rw [← hW6]; exact blk_put d10 4 _ rfl
      have CA := Kd.C_below (Kd.R_reads' RW).2.2 BX6
      have CX := Kd.C_below (Kd.R_reads' RX).2.2 BX6
      have HCA := Lib.hid (Kd.R_reads' RW).2.1
      have HCX := Lib.hid (Kd.R_reads' RX).2.1
      have B6 := below_step B1 BX6
      have HS0 := Lib.hid (show (fun w' : World => w'.cell? ⟨w.heap.size, 0, none⟩ = some (.int .i64 v) ∧ w'.cell? ⟨w.heap.size, 1, none⟩ = some (.int .i64 h) ∧ w'.cell? ⟨w.heap.size, 2, none⟩ = some (.string b) ∧ w'.cell? ⟨w.heap.size, 3, none⟩ = some (.int .i64 s) ∧ w'.cell? ⟨w.heap.size, 4, none⟩ = some (.int .i64 t) ∧ w'.cell? ⟨g8, 0, none⟩ = some (.int .i64 v) ∧ w'.cell? ⟨g8, 1, none⟩ = some (.int .i64 h) ∧ w'.cell? ⟨g8, 2, none⟩ = some (.string b) ∧ w'.cell? ⟨g8, 3, none⟩ = some (.int .i64 s) ∧ w'.cell? ⟨g8, 4, none⟩ = some (.int .i64 u) ∧ w'.cell? ⟨g10, 0, none⟩ = some (.int .i64 v) ∧ w'.cell? ⟨g10, 1, none⟩ = some (.int .i64 h) ∧ w'.cell? ⟨g10, 2, none⟩ = some (.string b) ∧ w'.cell? ⟨g10, 3, none⟩ = some (.int .i64 s) ∧ w'.cell? ⟨g10, 4, none⟩ = some (.int .i64 u) ∧ Kd.C (Kd.int .i64) w' A ys.length ys ∧ Kd.C (Kd.int .i64) w' Ax ys.length ys ∧ Below w.heap.size w w') W6 from ⟨blk_cell G6 0, blk_cell G6 1, blk_cell G6 2, blk_cell G6 3, blk_cell G6 4, blk_cell E6 0, blk_cell E6 1, blk_cell E6 2, blk_cell E6 3, blk_cell E6 4, blk_cell D6 0, blk_cell D6 1, blk_cell D6 2, blk_cell D6 3, blk_cell D6 4, CA, CX, B6⟩)
      have HI := Lib.hid (ints_refl ys (Kd.C_max CA))
      clear hW6 BX6 G6 E6 D6 CA CX B6 BXu BX5 d10 h8 c4 fr4 RW RX G1 B1 L8 L10 N8
      obtain ⟨a0, a1, a2, a3, a4, b0, b1, b2, b3, b4, c0, c1, c2, c3, c4, r1, r2, hB⟩ := HS0.out
      by_cases hb : b.toList = []
      · have hb1 : (!b.toList.isEmpty) = false := by rw [hb]; rfl
        have hb2 : (b.toList != ([] : List UInt8)) = false := by rw [hb]; rfl
        clear hb
        go_region_held3 (fun w' => w'.cell? ⟨w.heap.size, 0, none⟩ = some (.int .i64 v) ∧ w'.cell? ⟨w.heap.size, 1, none⟩ = some (.int .i64 h) ∧ w'.cell? ⟨w.heap.size, 2, none⟩ = some (.string b) ∧ w'.cell? ⟨w.heap.size, 3, none⟩ = some (.int .i64 s) ∧ w'.cell? ⟨w.heap.size, 4, none⟩ = some (.int .i64 t) ∧ w'.cell? ⟨g8, 0, none⟩ = some (.int .i64 v) ∧ w'.cell? ⟨g8, 1, none⟩ = some (.int .i64 h) ∧ w'.cell? ⟨g8, 2, none⟩ = some (.string b) ∧ w'.cell? ⟨g8, 3, none⟩ = some (.int .i64 s) ∧ w'.cell? ⟨g8, 4, none⟩ = some (.int .i64 u) ∧ w'.cell? ⟨g10, 0, none⟩ = some (.int .i64 v) ∧ w'.cell? ⟨g10, 1, none⟩ = some (.int .i64 h) ∧ w'.cell? ⟨g10, 2, none⟩ = some (.string b) ∧ w'.cell? ⟨g10, 3, none⟩ = some (.int .i64 s) ∧ w'.cell? ⟨g10, 4, none⟩ = some (.int .i64 u) ∧ Kd.C (Kd.int .i64) w' A ys.length ys ∧ Kd.C (Kd.int .i64) w' Ax ys.length ys ∧ Below w.heap.size w w') (first | exact keep_S hb (by assumption) | exact keep_S (below_drew (Below.refl _ _)) HS0.out) (first | (go_at_call 13; (with_reducible refine (held_Full.calls _ _ _ _ _ _ _ _ HFF.out).mono ?_); rintro e w' ⟨rfl, hb⟩) | (go_at_call 15; (with_reducible refine (held_Running.calls _ _ _ _ _ _ _ rfl).mono ?_); rintro e w' ⟨rfl, hb⟩) | (go_at_call 16; (with_reducible refine (held_Start.calls _ _ _ _ _ _ _ _ _ _ rfl).mono ?_); rintro e w' ⟨rfl, hb⟩) | (go_at_call 17; (with_reducible refine (mootlaw19_alive.calls 9 true _ alive19).mono ?_); rintro e w' ⟨rfl, hb⟩) | (go_at_call 14; (with_reducible refine (mootplain_Ints.calls _ _ _ _ _ _ _ true _ ?s1 HCX.out ?s2 HCA.out HI.out).mono ?_); (case s1 => exact (S_rows (w := w) (g8 := g8) (g10 := g10) (v := v) (h := h) (s := s) (t := t) (u := u) (b := b) (A := A) (Ax := Ax) (ys := ys) (by assumption)).2.1); (case s2 => exact (S_rows (w := w) (g8 := g8) (g10 := g10) (v := v) (h := h) (s := s) (t := t) (u := u) (b := b) (A := A) (Ax := Ax) (ys := ys) (by assumption)).1); rintro e w' ⟨rfl, hd⟩; have hb := drawn_below hd))
        all_goals go_wp2
        all_goals go_ret
        all_goals exact ⟨rfl, (S_rows (w := w) (g8 := g8) (g10 := g10) (v := v) (h := h) (s := s) (t := t) (u := u) (b := b) (A := A) (Ax := Ax) (ys := ys) (by assumption)).2.2⟩
      · have hb1 : (!b.toList.isEmpty) = true := by cases hq : b.toList <;> simp_all
        have hb2 : (b.toList != ([] : List UInt8)) = true := by cases hq : b.toList <;> simp_all
        clear hb
        go_region_held3 (fun w' => w'.cell? ⟨w.heap.size, 0, none⟩ = some (.int .i64 v) ∧ w'.cell? ⟨w.heap.size, 1, none⟩ = some (.int .i64 h) ∧ w'.cell? ⟨w.heap.size, 2, none⟩ = some (.string b) ∧ w'.cell? ⟨w.heap.size, 3, none⟩ = some (.int .i64 s) ∧ w'.cell? ⟨w.heap.size, 4, none⟩ = some (.int .i64 t) ∧ w'.cell? ⟨g8, 0, none⟩ = some (.int .i64 v) ∧ w'.cell? ⟨g8, 1, none⟩ = some (.int .i64 h) ∧ w'.cell? ⟨g8, 2, none⟩ = some (.string b) ∧ w'.cell? ⟨g8, 3, none⟩ = some (.int .i64 s) ∧ w'.cell? ⟨g8, 4, none⟩ = some (.int .i64 u) ∧ w'.cell? ⟨g10, 0, none⟩ = some (.int .i64 v) ∧ w'.cell? ⟨g10, 1, none⟩ = some (.int .i64 h) ∧ w'.cell? ⟨g10, 2, none⟩ = some (.string b) ∧ w'.cell? ⟨g10, 3, none⟩ = some (.int .i64 s) ∧ w'.cell? ⟨g10, 4, none⟩ = some (.int .i64 u) ∧ Kd.C (Kd.int .i64) w' A ys.length ys ∧ Kd.C (Kd.int .i64) w' Ax ys.length ys ∧ Below w.heap.size w w') (first | exact keep_S hb (by assumption) | exact keep_S (below_drew (Below.refl _ _)) HS0.out) (first | (go_at_call 13; (with_reducible refine (held_Full.calls _ _ _ _ _ _ _ _ HFF.out).mono ?_); rintro e w' ⟨rfl, hb⟩) | (go_at_call 15; (with_reducible refine (held_Running.calls _ _ _ _ _ _ _ rfl).mono ?_); rintro e w' ⟨rfl, hb⟩) | (go_at_call 16; (with_reducible refine (held_Start.calls _ _ _ _ _ _ _ _ _ _ rfl).mono ?_); rintro e w' ⟨rfl, hb⟩) | (go_at_call 17; (with_reducible refine (mootlaw19_alive.calls 9 true _ alive19).mono ?_); rintro e w' ⟨rfl, hb⟩) | (go_at_call 14; (with_reducible refine (mootplain_Ints.calls _ _ _ _ _ _ _ true _ ?s1 HCX.out ?s2 HCA.out HI.out).mono ?_); (case s1 => exact (S_rows (w := w) (g8 := g8) (g10 := g10) (v := v) (h := h) (s := s) (t := t) (u := u) (b := b) (A := A) (Ax := Ax) (ys := ys) (by assumption)).2.1); (case s2 => exact (S_rows (w := w) (g8 := g8) (g10 := g10) (v := v) (h := h) (s := s) (t := t) (u := u) (b := b) (A := A) (Ax := Ax) (ys := ys) (by assumption)).1); rintro e w' ⟨rfl, hd⟩; have hb := drawn_below hd))
        all_goals go_wp2
        all_goals go_ret
        all_goals exact ⟨rfl, (S_rows (w := w) (g8 := g8) (g10 := g10) (v := v) (h := h) (s := s) (t := t) (u := u) (b := b) (A := A) (Ax := Ax) (ys := ys) (by assumption)).2.2⟩
def mootlaw19_HeldTells.f (a0_0 : Int) (a0_1 : Int) (a0_2 : ByteArray) (a0_3 : Int) (a0_4 : Int) (a1 : Int) : Option Bool := some true
theorem mootlaw19_HeldTells.calls (a0_0 : Int) (a0_1 : Int) (a0_2 : ByteArray) (a0_3 : Int) (a0_4 : Int) (a1 : Int) (r : Bool) (w : World) (hh : mootlaw19_HeldTells.f a0_0 a0_1 a0_2 a0_3 a0_4 a1 = some r) :
    Calls Try.prog 4 #[.agg #[.int .i64 a0_0, .int .i64 a0_1, .string a0_2, .int .i64 a0_3, .int .i64 a0_4], .int .i64 a1] w fun e w' => e = .returned (.bool r) ∧ Below w.heap.size w w' := by
  cases hh
  exact tells_calls _ _ _ _ _ _ w
end Go.Proofs.Ytccabdgfjcjpoaa.X
