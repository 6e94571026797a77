/- sha.Sum: the sum of octets. -/
import Derived.Test.YtclmikbbjhdplaaHBlock
import Derived.Test.YtclmikbbjhdplaaXF34
import Derived.Test.YtclmikbbjhdplaaXF18
import Derived.Test.YtclmikbbjhdplaaQWord
import Derived.StillTailTactics
namespace Go.Proofs.Ytclmikbbjhdplaa.X
open Go.RowKit Go.Proofs.YtclmikbbjhdplaaW.PrintWords Go.Proofs.YtclmikbbjhdplaaW.PrintLast Go.Proofs.YtclmikbbjhdplaaW.PrintMore
set_option linter.unusedVariables false
set_option linter.unusedSimpArgs false

/-- The state behind n blocks. -/
def statesA (p : List Int) : Nat → List Int
  | 0 => H0
  | n + 1 => blockA (statesA p n) K0 ((p.drop (64 * n)).take 64)
def sha_Sum.f (l0 : List Int) : Option (List Int) :=
  (sha_Pad.f 20 l0).bind fun p => if p.length % 64 = 0 ∧ p.length ≤ 140737488355328 then octets_Words.f 20 (statesA p (p.length / 64)) else none

/-- What the loop over the blocks keeps. -/
structure MI (w w7 : World) (z g3 g4 n : Nat) (p : List Int) (W : World) : Prop where
  b3 : W.heap[g3]? = some (.cells (nums .u32 (statesA p n)).toArray 66 (0, 0))
  b4 : W.heap[g4]? = some (.cells (nums .u32 K0).toArray 68 (0, 0))
  kept : ∀ k, z ≤ k → k < w7.heap.size → W.heap[k]? = w7.heap[k]?
  size : w7.heap.size ≤ W.heap.size
  below : Below w.heap.size w W
theorem MI.row {w w7 W : World} {z g3 g4 n : Nat} {p q : List Int} {A : Option Addr} (h : MI w w7 z g3 g4 n p W) (hF : Kd.F (Kd.int .u8) w7 (fun k => z ≤ k) A q.length q) : Kd.C (Kd.int .u8) W A q.length q :=
  Kd.F_now (Kd.F_step hF (fun k hk hlt => h.kept k hk hlt))
theorem MI.drewN {w w7 W : World} {z g3 g4 n : Nat} {p : List Int} (h : MI w w7 z g3 g4 n p W) (m : Nat) : MI w w7 z g3 g4 n p (W.drewN m) := ⟨h.b3, h.b4, h.kept, h.size, pw_below_drewN h.below m⟩
theorem MI.step {w w7 W W1 : World} {z g3 g4 n : Nat} {p : List Int} (h : MI w w7 z g3 g4 n p W) (hb : Below W.heap.size W W1) : MI w w7 z g3 g4 n p W1 :=
  ⟨(hb.block _ (blk_lt h.b3)).trans h.b3, (hb.block _ (blk_lt h.b4)).trans h.b4, fun k hk hlt => (hb.block _ (Nat.lt_of_lt_of_le hlt h.size)).trans (h.kept k hk hlt), Nat.le_trans h.size hb.size, below_step h.below hb⟩
theorem MI.store {w w7 W W1 : World} {z g3 g4 n : Nat} {p : List Int} (h : MI w w7 z g3 g4 n p W) (hst : Stored g3 66 (nums .u32 (statesA p (n + 1))).toArray W W1) (h3 : g3 < z) (h34 : g3 < g4) (hg : w.heap.size ≤ g3) : MI w w7 z g3 g4 (n + 1) p W1 :=
  ⟨hst.at_, (hst.far _ (by omega)).trans h.b4, fun k hk hlt => (hst.far _ (by omega)).trans (h.kept k hk hlt), by rw [hst.size]; exact h.size, hst.below _ h.below hg⟩
theorem row_nums {W : World} {g : Nat} {t : TypeId} {k : IntKind} {xs : List Int} (h : W.heap[g]? = some (.cells (nums k xs).toArray t (0, 0))) (hn : xs.length ≤ 9223372036854775807) : Kd.C (Kd.int k) W (some ⟨g, 0, none⟩) xs.length xs := by
  refine Kd.C_of_reads (d := (0 : Int)) (h1 := fun _ => rfl) ⟨rfl, hn, fun _ => ⟨_, rfl, fun j hj => ?_⟩⟩
  have := cell_nums h j hj
  rw [show (⟨g, 0, none⟩ : Addr).add j = ⟨g, j, none⟩ by simp only [Addr.add]; split <;> simp_all, this]
  simp [rd]
/-- A whole array read, as a step that stays. -/
theorem still_load {P : Program} {ops : Array Oper} {rest : List Oper} {o : Oper} {a : Act} {W : World} {Q : Act → Prop} (hgd : o.guard = none) {N : Tmp} (hd : o.dst = some N) (ty : TypeId) (x : Operand) (ho : o.op = .load ty x) (g : Nat) (cs : Array Value) (d : TypeDesc) (hx : a.eval x = .pointer (some ⟨g, 0, none⟩))
    (hg : W.heap[g]? = some (.cells cs ty (0, 0))) (hu : P.underlying ty = some d) (hd2 : d.isRow = true) (hi : (P.info? ty).map (·.size) = some cs.size)
    (h : wpStill P ops W Q rest (a.put (some N) (.agg cs))) : wpStill P ops W Q (o :: rest) a := by
  refine wpStill_step (fun K hK => ?_)
  rw [if_pos (by simp [Region.wanted, hgd])]
  have hS : W.rangeAt g 0 cs.toList := fun j v hv => by
    rw [Nat.zero_add, blk_cell hg]
    simpa using hv
  have hr : (execOp a.eval o).run P W = .ok (.value (.agg cs)) W := by
    unfold execOp
    simp only [ho, hx, Instr.loadAt, Instr.sureAddr, Sem.run_bind, Sem.run_pure, Result.andThen_ok, run_loadVar_mid W g 0 ty cs.toList d hS hu hd2 (by simpa using hi)]
  unfold Oper.still
  rw [hr, Oper.stillUpon_value, hd]
  exact hK _ h
theorem K0_len : K0.length = 64 := by decide +kernel
theorem H0_len : H0.length = 8 := rfl
theorem statesA_len (p : List Int) : ∀ n, (statesA p n).length = 8
  | 0 => rfl
  | n + 1 => by rw [statesA, blockA, addA_len, roundsA_len (statesA_len p n)]
theorem info68_of {n : Nat} (h : n = 64) : (Try.prog.info? 68).map (·.size) = some n := by rw [h]; kernel_rfl

set_option maxRecDepth 100000 in
set_option maxHeartbeats 4000000 in
theorem sha_Sum.calls (A0 : Option Addr) (c0 : Nat) (l0 : List Int) (r : List Int) (w : World) (hr0 : Kd.C (Kd.int .u8) w A0 l0.length l0) (hc0 : l0.length ≤ c0) (h : sha_Sum.f l0 = some r) :
    Calls Try.prog 31 #[.slice A0 l0.length c0] w fun e w' => ∃ v0_ : Value, e = .returned (v0_) ∧ Kd.R (Kd.int .u8) 5 w' w.heap.size (fun _ => True) v0_ r ∧ Below w.heap.size w w' := by
  unfold sha_Sum.f at h
  obtain ⟨p, hp, h⟩ := Option.bind_eq_some_iff.mp h
  have hc : p.length % 64 = 0 ∧ p.length ≤ 140737488355328 := by
    by_cases hc : p.length % 64 = 0 ∧ p.length ≤ 140737488355328
    · exact hc
    · rw [if_neg hc] at h; cases h
  rw [if_pos hc] at h
  obtain ⟨st, hst⟩ : ∃ st, statesA p (p.length / 64) = st := ⟨_, rfl⟩
  rw [hst] at h
  have HP := Lib.hid hp
  have HH := Lib.hid h
  have HST := Lib.hid hst
  have HC := Lib.hid hc
  clear hp h hst hc
  go_enter Try.func31, Try.ntmps31
  have hs3 : (nums .u32 H0).toArray.size = 8 := by simp [nums, H0_len]
  have hs4 : (nums .u32 K0).toArray.size = 64 := by simp [nums, K0_len]
  have Hs3 := Lib.hid hs3
  have Hs4 := Lib.hid hs4
  clear hs3 hs4
  go_wp2_with (first | (go_at_call 55; go_must (refine (first_calls _).mono ?_; rintro e w1 ⟨rfl, hb1⟩)) | (go_at_call 56; go_must (refine (constants_calls _).mono ?_; rintro e w2 ⟨rfl, hb2⟩; have P2 := below_step hb1 hb2; clear hb1 hb2)) | ((with_reducible refine gate_dst (N := 3) rfl ?_); go_must (refine box_event rfl (N := 3) rfl (run_alloc _ 66 _ 8 i66 _ _ rfl _) ?_; intro g3 hg3 w3 b3 hb; have P3 := below_step P2 hb; have G3 := hg3 ▸ P2.size; clear hb P2 hg3)) | ((with_reducible refine gate_dst (N := 4) rfl ?_); go_must (refine box_event rfl (N := 4) rfl (run_alloc _ 68 _ 64 i68 _ _ rfl _) ?_; intro g4 hg4 w4 b4 hb; have P4 := below_step P3 hb; have G4 := hg4 ▸ P3.size; have c3 := (hb.block _ (blk_lt b3)).trans b3; have G34 : g3 < g4 := hg4 ▸ blk_lt b3; clear hb P3 hg4 b3)) | ((with_reducible refine gate_store (t := 66) rfl ?_); go_must (refine store_ev rfl rfl 66 (.tmp 3) (.tmp 6) rfl g3 _ _ rfl rfl c3 (by rw [Hs3.out]; rfl) (info66_of Hs3.out) (nums_one _ _) ?_; intro w5 hst; have P5 := hst.below _ P4 G3; have d3 := hst.at_; have c4 := (hst.far _ (Nat.ne_of_gt G34)).trans b4; clear hst P4 b4 c3)) | ((with_reducible refine gate_store (t := 68) rfl ?_); go_must (refine store_ev rfl rfl 68 (.tmp 4) (.tmp 7) rfl g4 _ _ rfl rfl c4 (by rw [Hs4.out]; rfl) (info68_of Hs4.out) (nums_one _ _) ?_; intro w6 hst; have P6 := hst.below _ P5 G4; have d4 := hst.at_; have e3 := (hst.far _ (Nat.ne_of_lt G34)).trans d3; clear hst P5 d3 c4)) | (go_at_call 34; go_must (refine (sha_Pad.calls 20 (fun k_ => k_ < w.heap.size) A0 c0 l0 p _ (Kd.V_mk hc0 (Kd.F_below (Kd.C_F (Kd.heap_int .u8) hr0) P6)) HP.out).mono ?_; rintro e w7 ⟨v0, rfl, hR, hb⟩; have P7 := below_step P6 hb; have f3 := (hb.block _ (blk_lt e3)).trans e3; have f4 := (hb.block _ (blk_lt d4)).trans d4; have L3 := blk_lt e3; have L4 := blk_lt d4; obtain ⟨Ap, cp, rfl⟩ := Kd.R_slice hR; have hRR := Kd.R_reads' hR; clear hb P6 e3 d4)))
  have hlt := HC.out
  have hF0 : Kd.F (Kd.int .u8) w7 (fun k => w6.heap.size ≤ k) Ap p.length p := Kd.R_F hR
  have hI0 : MI w w7 w6.heap.size g3 g4 0 p w7 := ⟨f3, f4, fun _ _ _ => rfl, Nat.le_refl _, P7⟩
  have HF0 := Lib.hid hF0
  have HI0 := Lib.hid hI0
  have HL := Lib.hid hRR.2.1
  clear hF0 hI0 hRR hR P7 f3 f4
  obtain ⟨m, hm⟩ : ∃ m, p.length / 64 = m := ⟨_, rfl⟩
  have hpl : p.length = 64 * m := by omega
  rw [hm] at HST
  have HP := Lib.hid hpl
  have HM := Lib.hid hlt.2
  clear hlt hm HC hpl
  obtain ⟨i5, hi5, _, hsz5, _⟩ := info_parts info5'
  go_loopg [5] (m + 1) (fun kq v5 w' => ∃ n : Nat, ∃ q A c, v5 = .slice A (q : List Int).length c ∧ Hid (q = p.drop (64 * n)) ∧ Hid (q.length ≤ c) ∧ Hid (Kd.F (Kd.int .u8) w7 (fun k => w6.heap.size ≤ k) A q.length q) ∧ Hid (kq + n = m + 1) ∧ Hid (n ≤ m) ∧ Hid (MI w w7 w6.heap.size g3 g4 n p w'))
  case atStart => exact ⟨0, p, Ap, cp, rfl, Lib.hid (by simp), HL, HF0, Lib.hid rfl, Lib.hid (by omega), HI0⟩
  case round =>
    clear HF0 HI0 HL
    obtain ⟨n, q, A, c, rfl, hq, hc, hF, hk, hn, hI⟩ := hrel
    have hql : q.length = 64 * m - 64 * n := by rw [hq.out, List.length_drop, HP.out]
    have hM := HM.out
    have hPL := HP.out
    by_cases cn : n < m
    · have h64 : 64 ≤ q.length := by omega
      have hqc := hc.out
      have cpos : decide (0 < q.length) = true := decide_eq_true (by omega)
      have hto := cut_to (P := Try.prog) 23 5 .i64 Try.underlying23 hi5 A q.length c 64 (by omega) (by omega) hqc
      have hfrom := cut_from (P := Try.prog) 23 5 .i64 Try.underlying23 hi5 1 hsz5 A q.length c 64 (by omega) (by omega)
      have hFt := Kd.F_take hF.out h64
      have hFd := Kd.F_cut hF.out h64 hqc
      have htl : (q.take 64).length = 64 := by rw [List.length_take]; omega
      rw [show ((64 : Int).toNat) = (q.take 64).length by rw [htl]; rfl] at hto
      have hdl : (q.drop 64).length = q.length - (64 : Int).toNat := by rw [List.length_drop]; rfl
      rw [← hdl] at hfrom
      obtain ⟨A2, hA2⟩ : ∃ A2, (if c = (64 : Int).toNat then A else A.map (·.add ((64 : Int).toNat * 1))) = A2 := ⟨_, rfl⟩
      obtain ⟨c2, hc2⟩ : ∃ c2, c - (64 : Int).toNat = c2 := ⟨_, rfl⟩
      rw [hA2, hc2] at hfrom
      have hFd' : Kd.F (Kd.int .u8) w7 (fun k => w6.heap.size ≤ k) A2 (q.drop 64).length (q.drop 64) := by rw [← hA2]; exact hFd
      have hc2' : (q.drop 64).length ≤ c2 := by rw [← hc2, hdl]; omega
      have hword := fun t ht => word_ok (q.take 64) htl t ht
      obtain ⟨q1, hq1⟩ : ∃ q1, q.take 64 = q1 := ⟨_, rfl⟩
      obtain ⟨q2, hq2⟩ : ∃ q2, q.drop 64 = q2 := ⟨_, rfl⟩
      have hqq2 : q2 = p.drop (64 * (n + 1)) := by rw [← hq2, hq.out, List.drop_drop, Nat.mul_succ]
      have hst : statesA p (n + 1) = blockA (statesA p n) K0 q1 := by rw [statesA, ← hq1, hq.out]
      rw [hq1] at hto hword hFt htl
      rw [hq2] at hfrom hFd' hc2' hdl
      have hsl := statesA_len p n
      have hsl1 := statesA_len p (n + 1)
      have hz3 : (nums .u32 (statesA p n)).toArray.size = 8 := by simp [nums, hsl]
      have hz4 : (nums .u32 (statesA p (n + 1))).toArray.size = 8 := by simp [nums, hsl1]
      have hc1 : q1.length ≤ c := by omega
      have HW := Lib.hid hword
      have HFT := Lib.hid hFt
      have HFD := Lib.hid hFd'
      have HC2 := Lib.hid hc2'
      have HC1 := Lib.hid hc1
      have HQ2 := Lib.hid hqq2
      have HS := Lib.hid hst
      have HZ3 := Lib.hid hz3
      have HZ4 := Lib.hid hz4
      have HSL := Lib.hid hsl
      have HCN := Lib.hid cn
      clear hword hFt hFd hFd' hc2' hc1 hqq2 hst hz3 hz4 hsl hsl1 hql hqc hdl htl hA2 hc2 hq1 hq2 hM hPL cn h64
      go_wp2
      have hmix : Try.prog.follows .mixedOrders = true := by kernel_rfl
      go_still_tail 3, hmix
      refine still_load rfl rfl 66 (.tmp 3) rfl g3 _ _ rfl hI.out.b3 Try.underlying66 rfl (info66_of HZ3.out) ?_
      repeat still_step
      refine wpStill_nil ?_
      clear hto
      go_wp2_with (first | (go_at_call 57; go_must (refine (block_calls A c q1 (statesA p n) K0 g4 _ HSL.out K0_len ((hI.out.drewN 1).row HFT.out) HC1.out HW.out (hI.out.drewN 1).b4 _ HS.out.symm).mono ?_; rintro e w8 ⟨rfl, hb8⟩; have hI8 := (hI.out.drewN 1).step hb8; clear hb8)) | ((with_reducible refine gate_store (t := 66) rfl ?_); go_must (refine store_ev rfl rfl 66 (.tmp 3) (.tmp 18) rfl g3 _ _ rfl rfl hI8.b3 (by rw [HZ3.out, HZ4.out]) (info66_of HZ4.out) (nums_one _ _) ?_; intro w9 hst; have HN := Lib.hid (hI8.store hst L3 G34 G3); clear hst hI8)))
      obtain ⟨k1, rfl⟩ : ∃ k1, gk = k1 + 1 := ⟨gk - 1, by have := hk.out; have := hn.out; omega⟩
      go_roundg k1
      case measure => omega
      case rel => exact ⟨n + 1, q2, A2, c2, rfl, HQ2, HC2, HFD, Lib.hid (by have := hk.out; omega), Lib.hid HCN.out, HN⟩
    · have h0 : q.length = 0 := by omega
      have hnm : n = m := by have := hn.out; omega
      have cpos : decide (0 < q.length) = false := decide_eq_false (by omega)
      have hI' : MI w w7 w6.heap.size g3 g4 m p wr := hnm ▸ hI.out
      have hb3 : wr.heap[g3]? = some (.cells (nums .u32 st).toArray 66 (0, 0)) := by rw [← HST.out]; exact hI'.b3
      have hsl : st.length = 8 := by rw [← HST.out]; exact statesA_len p m
      have hC : Kd.C (Kd.int .u32) wr (some ⟨g3, 0, none⟩) 8 st := by
        have := row_nums hb3 (by omega)
        rwa [hsl] at this
      have hB := hI'.below
      have hcall := octets_Words.calls 20 (some ⟨g3, 0, none⟩) 8 st r wr (by rw [hsl]; exact hC) (by rw [hsl]; exact Nat.le_refl _) HH.out
      rw [hsl] at hcall
      have HBB := Lib.hid hB
      clear hI hI' hb3 hsl hC h0 hnm hn hk hF hc hq hql hM hPL cn hB
      go_wp2_with (go_at_call 18; go_must ((with_reducible refine hcall.mono ?_); rintro e w8 ⟨v8, rfl, ho8, hb8⟩; have P8 := below_step HBB.out hb8; have L8 := HBB.out.size))
      go_ret
      exact ⟨_, rfl, Kd.R_lower ho8 L8, P8⟩
end Go.Proofs.Ytclmikbbjhdplaa.X
