/- Texts of this session joined into one: HFrames, HScan, HBackR, HKeep, QKeep. -/
import Derived.Test.YtfdpbdaekfdnjaaZFrm
/- journal.frames: the iterator over records that are whole: its contract, and what comes. -/
namespace Go.Proofs.Ytfdpbdaekfdnjaa.X
open Go.RowKit Go.Shelf Go.Proofs.YtfdpbdaekfdnjaaW.PrintWords Go.Proofs.YtfdpbdaekfdnjaaW.PrintLast Go.Proofs.YtfdpbdaekfdnjaaW.PrintMore
set_option linter.unusedVariables false
set_option linter.unusedSimpArgs false
attribute [local go_sem] Oper.semAt_some

/-- The records that are whole, from a place on: where each begins, and how long it is. -/
def scanN (b : List Int) : Nat → Nat → List (Nat × Nat)
  | 0, _ => []
  | k + 1, at_ => if at_ + 3 ≤ b.length then (if 16384 < (lenAt b at_).toNat ∨ b.length < at_ + 3 + (lenAt b at_).toNat then [] else (at_ + 3, (lenAt b at_).toNat) :: scanN b k (at_ + 3 + (lenAt b at_).toNat)) else []
abbrev Piece (b : List Int) := {x : Nat × Nat // x.1 + x.2 ≤ b.length}
/-- A part of the octets, as a slice. -/
def cutA (A : Option Addr) (c lo : Nat) : Option Addr := if c = lo then A else A.map (·.add (lo * 1))
def cutV (A : Option Addr) (c lo n : Nat) : Value := .slice (cutA A c lo) n (c - lo)
theorem cut_run (A : Option Addr) (len c lo n : Nat) (h : lo + n ≤ len) (hc : len ≤ c) (y x : Int) (hy : y = (lo : Int)) (hx : x = ((lo + n : Nat) : Int)) :
    ∀ W : World, (Instr.slice 22 (.slice A len c) (some (.int .i64 y)) (some (.int .i64 x)) none).run Try.prog W = .ok (cutV A c lo n) W := by
  obtain ⟨i0, hi0, _, hsz, _⟩ := info_parts info5
  intro W
  subst hx
  subst hy
  have := cut_mid (P := Try.prog) 22 5 .i64 .i64 Try.underlying22 hi0 1 hsz A len c (lo : Int) ((lo + n : Nat) : Int) (by omega) (by omega) (by omega) hc W
  rw [this]
  simp only [Int.toNat_natCast, cutV, cutA]
  rw [show lo + n - lo = n by omega]
theorem cut_C {W : World} {A : Option Addr} {c : Nat} {b : List Int} (hC : Kd.C (Kd.int .u8) W A b.length b) (hc : b.length ≤ c) (lo n : Nat) (h : lo + n ≤ b.length) :
    Kd.C (Kd.int .u8) W (cutA A c lo) n ((b.take (lo + n)).drop lo) := by
  have := Kd.C_mid (lo := lo) (hi := lo + n) hC (by omega) h hc
  have e : ((b.take (lo + n)).drop lo).length = n := by rw [List.length_drop, List.length_take]; omega
  rw [e] at this
  exact this

/-- What has come when d rounds at most are still to come, from the place at on. -/
def CameF (b : List Int) (d at_ : Nat) (pre : List (Piece b)) : Prop :=
  pre.map (·.1) ++ scanN b d at_ = scanN b (b.length + 1) 0 ∧ b.length < at_ + d ∧ at_ ≤ b.length ∧ pre.length ≤ at_ ∧ ((pre.getLast?.map (fun x => x.1.1 + x.1.2)).getD 0) = at_
theorem CameF.start (b : List Int) : CameF b (b.length + 1) 0 [] := ⟨rfl, by omega, by omega, by simp, rfl⟩
theorem CameF.step {b : List Int} {d at_ n : Nat} {pre : List (Piece b)} (h : CameF b (d + 1) at_ pre) (h3 : at_ + 3 + n ≤ b.length) (hn : (lenAt b at_).toNat = n) (hs : n ≤ 16384) (hx : at_ + 3 + n ≤ b.length) :
    CameF b d (at_ + 3 + n) (pre ++ [⟨(at_ + 3, n), hx⟩]) := by
  obtain ⟨h1, h2, h4, h5, h6⟩ := h
  rw [scanN, if_pos (by omega), hn, if_neg (by omega)] at h1
  refine ⟨by rw [List.map_append, List.append_assoc]; exact h1, by omega, by omega, by simp; omega, by simp⟩
theorem CameF.end1 {b : List Int} {d at_ : Nat} {pre : List (Piece b)} (h : CameF b (d + 1) at_ pre) (h3 : ¬ at_ + 3 ≤ b.length) : pre.map (·.1) = scanN b (b.length + 1) 0 := by
  have h1 := h.1
  rwa [scanN, if_neg h3, List.append_nil] at h1
theorem CameF.end2 {b : List Int} {d at_ : Nat} {pre : List (Piece b)} (h : CameF b (d + 1) at_ pre) (h3 : 16384 < (lenAt b at_).toNat ∨ b.length < at_ + 3 + (lenAt b at_).toNat) : pre.map (·.1) = scanN b (b.length + 1) 0 := by
  have h1 := h.1
  by_cases h5 : at_ + 3 ≤ b.length
  · rwa [scanN, if_pos h5, if_pos h3, List.append_nil] at h1
  · rwa [scanN, if_neg h5, List.append_nil] at h1
theorem get_cut {W : World} {A : Option Addr} {c : Nat} {b : List Int} (hC : Kd.C (Kd.int .u8) W A b.length b) (hc : b.length ≤ c) (hO : Octets b) (at_ : Nat) (h : at_ + 3 ≤ b.length) (m : Nat) (hm : lenAt b at_ = (m : Int)) :
    Calls Try.prog 57 #[cutV A c at_ 3] W fun e w' => e = .returned (.int .i64 (m : Int)) ∧ Drawn0 W w' := by
  have hl : ((b.take (at_ + 3)).drop at_).length = 3 := by rw [List.length_drop, List.length_take]; omega
  have := octets_Get.calls 4 (cutA A c at_) (c - at_) ((b.take (at_ + 3)).drop at_) (lenAt b at_) W (by rw [hl]; exact cut_C hC hc at_ 3 h) (by omega) (lenAt_get b hO at_ h)
  rw [hl, hm] at this
  exact this

/-- The octets and their box are as they were. -/
def KeepsRow (Bs : Nat) (A : Option Addr) (b : List Int) (W W' : World) : Prop :=
  (∀ v, W.cell? ⟨Bs, 0, none⟩ = some v → W'.cell? ⟨Bs, 0, none⟩ = some v) ∧ (Kd.C (Kd.int .u8) W A b.length b → Kd.C (Kd.int .u8) W' A b.length b)
theorem KeepsRow.trans {Bs : Nat} {A : Option Addr} {b : List Int} {X Y Z : World} (h : KeepsRow Bs A b X Y) (k : KeepsRow Bs A b Y Z) : KeepsRow Bs A b X Z := ⟨fun v hv => k.1 v (h.1 v hv), fun hC => k.2 (h.2 hC)⟩
theorem KeepsRow.of_cells {Bs : Nat} {A : Option Addr} {b : List Int} {W W' : World} (h : ∀ p v, W.cell? p = some v → W'.cell? p = some v) : KeepsRow Bs A b W W' :=
  ⟨fun v hv => h _ v hv, fun hC => by
    have hr := Kd.reads_of_C (d := (0 : Int)) (h1 := fun _ => rfl) hC
    refine Kd.C_of_reads (d := (0 : Int)) (h1 := fun _ => rfl) ⟨hr.1, hr.2.1, fun hn => ?_⟩
    obtain ⟨ad, e, hc⟩ := hr.2.2 hn
    exact ⟨ad, e, fun j hj => h _ _ (hc j hj)⟩⟩
theorem KeepsRow.of_grown {Bs : Nat} {A : Option Addr} {b : List Int} {W W' : World} {row : Option Nat} (hg : W.grownBy W' row) (hr : ∀ r, row = some r → ∃ o : Obj, W.heap[r]? = some o ∧ o.isCells = false) : KeepsRow Bs A b W W' :=
  .of_cells (fun p v hv => cell_kept hv hg hr)
theorem KeepsRow.drewN {Bs : Nat} {A : Option Addr} {b : List Int} (W : World) (n : Nat) : KeepsRow Bs A b W (W.drewN n) := .of_cells (fun p v hv => hv)

set_option maxRecDepth 100000 in
set_option maxHeartbeats 40000000 in
theorem frames1_in (F : Fence) (n : Nat) (h56 : F.fn 56) (h57 : F.fn 57) (hF : F = Fence.wide) (hro : F.round = none) (hn : 1 ≤ n) (l Bs : Nat) (A : Option Addr) (c : Nat) (b : List Int) (hO : Octets b) (hlen : b.length ≤ 1000000000000) (hc : b.length ≤ c) (J Jx : List (Piece b) → World → Prop)
    (hY : ∀ pre x W, J pre W → pre.length < b.length + 1 → YieldAt F (n - 1) Try.prog l #[cutV A c x.1.1 x.1.2, .int .i64 ((x.1.1 + x.1.2 : Nat) : Int)] W fun e W' =>
      (e = .returned (.bool true) ∧ J (pre ++ [x]) W' ∧ KeepsRow Bs A b W W') ∨ (e = .returned (.bool false) ∧ Jx (pre ++ [x]) W'))
    (W : World) (hBs : W.cell? ⟨Bs, 0, none⟩ = some (.slice A b.length c)) (hC : Kd.C (Kd.int .u8) W A b.length b) (hJ : ∀ s w w', J s w → w.grownBy w' none → J s w') (h0 : J [] W) :
    CallsIn F n Try.prog 56 #[.func (.yield l) #[] #[], .pointer (some ⟨Bs, 0, none⟩)] W fun e W' => (∃ v, e = .returned v) ∧
      ((∃ ys : List (Piece b), ys.map (·.1) = scanN b (b.length + 1) 0 ∧ J ys W') ∨ (∃ pre, True ∧ Jx pre W')) := by
  subst hF
  refine callsIn_of_wp Try.func56 rfl h56 ?_ hro
  simp only [Try.ntmps56, List.size_toArray, List.length_cons, List.length_nil, Nat.reduceAdd, Nat.reduceSub, Array.replicate_succ, Array.replicate_zero, List.push_toArray, List.append_toArray, List.nil_append, List.cons_append]
  gi_wp2
  gi_loopw [3] (fun i wr => ∃ (d at_ : Nat) (pre : List (Piece b)), i = .int .i64 (at_ : Int) ∧ CameF b (d + 1) at_ pre ∧ J pre wr ∧ KeepsRow Bs A b W wr)
    (fun i _ => (b.length : Nat) + 1 - (intOf i).toNat)
  case atStart => exact ⟨b.length, 0, [], rfl, CameF.start b, h0, ⟨fun _ h => h, fun h => h⟩⟩
  case round =>
    obtain ⟨d, at_, pre, rfl, hcame, hJs, hnx⟩ := hrel
    have hb1 := hnx.1 _ hBs
    have hC1 := hnx.2 hC
    have hle := hcame.2.2.1
    have e1 : wrap64 ((b.length : Int) - (at_ : Int)) = (b.length : Int) - at_ := wrap64_id _ (by omega) (by omega)
    by_cases h3 : at_ + 3 ≤ b.length
    · have c1 : decide ((b.length : Int) - (at_ : Int) ≥ 3) = true := decide_eq_true (by omega)
      have c2 : decide (3 ≤ (b.length : Int) - (at_ : Int)) = true := decide_eq_true (by omega)
      have e2 : wrap64 ((at_ : Int) + 3) = (at_ : Int) + 3 := wrap64_id _ (by omega) (by omega)
      have hcut := cut_run A b.length c at_ 3 h3 hc (at_ : Int) ((at_ : Int) + 3) rfl (by omega)
      obtain ⟨m, hm⟩ := Int.eq_ofNat_of_zero_le (lenAt_nonneg b at_)
      have hmn : (lenAt b at_).toNat = m := by rw [hm]; rfl
      have HM := Lib.hid hm
      have HMN := Lib.hid hmn
      clear hm hmn
      have hJd : ∀ k, J pre (wr.drewN k) := fun k => hJ _ _ _ hJs ⟨rfl, rfl, rfl, Nat.le_refl _, fun _ _ _ => rfl⟩
      by_cases h4 : 16384 < m
      · have c3 : decide ((m : Int) > 16384) = true := decide_eq_true (by omega)
        have c4 : decide (16384 < (m : Int)) = true := decide_eq_true (by omega)
        have c5 : decide (16384 < m) = true := decide_eq_true h4
        have hen := hcame.end2 (.inl (by rw [HMN.out]; exact h4))
        have HEN := Lib.hid hen
        clear hen h4
        gi_wp2_with (gi_at_call 57; (with_reducible refine (callsIn_wide.2 (get_cut hC1 hc hO at_ h3 m HM.out)).mono ?_); rintro e w1 ⟨rfl, ⟨nd, rfl⟩⟩)
        refine bodyPost_ret (results_none rfl _ _ _) rfl ?_
        exact ⟨⟨_, rfl⟩, .inl ⟨pre, HEN.out, hJd nd⟩⟩
      · have c3 : decide ((m : Int) > 16384) = false := decide_eq_false (by omega)
        have c4 : decide (16384 < (m : Int)) = false := decide_eq_false (by omega)
        have c5 : decide (16384 < m) = false := decide_eq_false h4
        have e3 : wrap64 ((b.length : Int) - (at_ : Int) - 3) = (b.length : Int) - at_ - 3 := wrap64_id _ (by omega) (by omega)
        by_cases h5 : b.length < at_ + 3 + m
        · have c6 : decide ((m : Int) > (b.length : Int) - at_ - 3) = true := decide_eq_true (by omega)
          have c7 : decide ((b.length : Int) - at_ - 3 < (m : Int)) = true := decide_eq_true (by omega)
          have hen := hcame.end2 (.inr (by rw [HMN.out]; exact h5))
          have HEN := Lib.hid hen
          clear hen h4 h5
          gi_wp2_with (gi_at_call 57; (with_reducible refine (callsIn_wide.2 (get_cut hC1 hc hO at_ h3 m HM.out)).mono ?_); rintro e w1 ⟨rfl, ⟨nd, rfl⟩⟩)
          refine bodyPost_ret (results_none rfl _ _ _) rfl ?_
          exact ⟨⟨_, rfl⟩, .inl ⟨pre, HEN.out, hJd nd⟩⟩
        · have c6 : decide ((m : Int) > (b.length : Int) - at_ - 3) = false := decide_eq_false (by omega)
          have c7 : decide ((b.length : Int) - at_ - 3 < (m : Int)) = false := decide_eq_false (by omega)
          have hx : at_ + 3 + m ≤ b.length := by omega
          have e4 : wrap64 (3 + (m : Int)) = 3 + (m : Int) := wrap64_id _ (by omega) (by omega)
          have e5 : wrap64 ((at_ : Int) + (3 + (m : Int))) = (at_ : Int) + (3 + (m : Int)) := wrap64_id _ (by omega) (by omega)
          have e6 : wrap64 ((at_ : Int) + (3 + (m : Int)) - (m : Int)) = (at_ : Int) + (3 + (m : Int)) - (m : Int) := wrap64_id _ (by omega) (by omega)
          have hcut2 := cut_run A b.length c (at_ + 3) m hx hc ((at_ : Int) + (3 + (m : Int)) - (m : Int)) ((at_ : Int) + (3 + (m : Int))) (by omega) (by omega)
          have e8 : (((at_ + 3 + m : Nat)) : Int) = (at_ : Int) + (3 + (m : Int)) := by omega
          have E8 := Lib.hid e8
          clear e8
          have hst := hcame.step hx HMN.out (by omega) hx
          have hlt : pre.length < b.length + 1 := by have := hcame.2.2.2.1; omega
          have HST := Lib.hid hst
          have HX := Lib.hid hx
          clear hst h4 h5
          gi_wp2_with (gi_at_call 57; ((with_reducible refine (callsIn_wide.2 (get_cut hC1 hc hO at_ h3 m HM.out)).mono ?_); rintro e w1 ⟨rfl, hd⟩; obtain ⟨nd, hnd⟩ := hd; have hJ1 : J pre w1 := (by rw [hnd]; exact hJd nd); have hk1 : KeepsRow Bs A b wr w1 := (by rw [hnd]; exact KeepsRow.drewN wr nd); have hb2 : w1.cell? ⟨Bs, 0, none⟩ = some (.slice A b.length c) := hk1.1 _ hb1; clear hnd; have hYY := hY pre ⟨(at_ + 3, m), HX.out⟩ w1 hJ1 hlt; (try dsimp only at hYY); rw [E8.out] at hYY; obtain ⟨fn, tmps, assign, body, hy, hR⟩ := hYY; (try dsimp only at hy)))
          refine hR.mono ?_
          rintro e W3 (⟨rfl, hJ3, hk3⟩ | ⟨rfl, hJx3⟩)
          · gi_wp2
            obtain ⟨d1, rfl⟩ : ∃ d1, d = d1 + 1 := ⟨d - 1, by have := HST.out.2.1; have := HST.out.2.2.1; omega⟩
            go_roundw
            case rel => exact ⟨d1, _, _, congrArg (Value.int .i64) E8.out.symm, HST.out, hJ3, (hnx.trans hk1).trans hk3⟩
            case measure => simp [intOf]; omega
          · gi_wp2
            refine bodyPost_ret (results_none rfl _ _ _) rfl ?_
            exact ⟨⟨_, rfl⟩, .inr ⟨_, trivial, hJx3⟩⟩
    · have c1 : decide ((b.length : Int) - (at_ : Int) ≥ 3) = false := decide_eq_false (by omega)
      have c2 : decide (3 ≤ (b.length : Int) - (at_ : Int)) = false := decide_eq_false (by omega)
      have hen := hcame.end1 h3
      have HEN := Lib.hid hen
      clear hen h3
      gi_wp2
      go_end0
      exact ⟨⟨_, rfl⟩, .inl ⟨pre, HEN.out, hJs⟩⟩
end Go.Proofs.Ytfdpbdaekfdnjaa.X
/- journal.Scan: records that are whole, each in memory of its own, and where they end. -/
namespace Go.Proofs.Ytfdpbdaekfdnjaa.X
open Go.RowKit Go.Shelf Go.Proofs.YtfdpbdaekfdnjaaW.PrintWords Go.Proofs.YtfdpbdaekfdnjaaW.PrintLast Go.Proofs.YtfdpbdaekfdnjaaW.PrintMore
set_option linter.unusedVariables false
set_option linter.unusedSimpArgs false
attribute [local go_sem] Oper.semAt_some

def pieceL (b : List Int) (x : Nat × Nat) : List Int := (b.take (x.1 + x.2)).drop x.1
def scanL (b : List Int) : List (List Int) := (scanN b (b.length + 1) 0).map (pieceL b)
def endN (l : List (Nat × Nat)) : Nat := (l.getLast?.map (fun x => x.1 + x.2)).getD 0
def scanEnd (b : List Int) : Nat := endN (scanN b (b.length + 1) 0)

theorem frames_in (F : Fence) (n : Nat) (h44 : F.fn 44) (hro : F.round = none) (A : Option Addr) (len c : Nat) (w : World) :
    CallsIn F n Try.prog 44 #[.slice A len c] w fun e w' => e = .returned (.func (.func 56) #[] #[.pointer (some ⟨w.heap.size, 0, none⟩)]) ∧ w' = w.alloc (.cells #[.slice A len c] 22) := by
  refine callsIn_of_wp Try.func44 rfl h44 ?_ hro
  simp only [Try.ntmps44, List.size_toArray, List.length_cons, List.length_nil, Nat.reduceAdd, Nat.reduceSub, Array.replicate_succ, Array.replicate_zero, List.push_toArray, List.append_toArray, List.nil_append, List.cons_append]
  gi_wp2
  go_ret
  exact ⟨rfl, rfl⟩

/-- An append inside a fence, by what it comes to. -/
theorem stepIn_append {F : Fence} {n : Nat} {P : Program} {o : Oper} {a : Act} {Q : Exit → Act → World → Prop} {K : Act → World → Prop} {W w1 : World} {t : TypeId} (s x : Operand) (hop : o.op = Op.call { callee := Callee.builtin Builtin.append, args := #[s, x], argTypes := #[t, t] })
    (v xv v1 : Value) (hs : a.eval s = v) (hx : a.eval x = xv) (hrun : (Builtin.append_ #[t, t] o.type #[v, xv]).run P W = .ok v1 w1) (h : K (a.put o.dst v1) w1) : Oper.wpIn F n P o a W K Q := by
  unfold Oper.wpIn
  refine ⟨?_, ?_⟩
  · simp [Oper.about, hop, resolve, Target.leads, Sem.run_pure]
  · rw [Oper.semAt_plain F _ _ (by rw [hop]; intro c hc'; cases hc')]
    simp [execOp, hop, resolve, invoke, builtin, hs, hx, hrun, Result.andThen]
    exact h
/-- One row more behind rows of one's own. -/
theorem rows_push {W : World} {Z : Nat} {sv : Value} {rows : List (List Int)} {v2 : Value} {x : List Int} (hR : Kd.R (Kd.slice 5 (Kd.int .u8)) 22 W Z (fun k => Z ≤ k) sv rows)
    (hx : Kd.R (Kd.int .u8) 5 W Z (fun k => Z ≤ k ∧ some k ≠ sv.ownBlock) v2 x) (hZ : Z ≤ W.heap.size) (hl : rows.length ≤ 1000000000000) :
    ∃ v1 w1, (Builtin.append_ #[33, 33] 33 #[sv, .slice (some ⟨W.heap.size, 0, none⟩) 1 1]).run Try.prog (W.alloc (.cells #[v2] 22)) = .ok v1 w1 ∧
      Kd.R (Kd.slice 5 (Kd.int .u8)) 22 w1 Z (fun k => Z ≤ k) v1 (rows ++ [x]) ∧ (W.alloc (.cells #[v2] 22)).grownBy w1 sv.ownBlock := by
  obtain ⟨i0, hi0, hz0, hsz, hby⟩ := info_parts info22
  have hR' := Kd.R_alloc hR (.cells #[v2] 22)
  have hx' := Kd.R_alloc hx (.cells #[v2] 22)
  obtain ⟨h0, inner, hown, hr⟩ := hR'
  have h1c : v2.oneCell' = true := by
    obtain ⟨A2, c2, rfl⟩ := Kd.R_slice hx
    rfl
  obtain ⟨v1, w1, hrun, hown1, hg1, _, hat1⟩ := run_append_own_at (P := Try.prog) (w := W.alloc (.cells #[v2] 22)) Z 33 33 22 i0 (.slice none 0 0) 1 24 Try.underlying33 hi0 hz0 hsz hby rfl (by omega) sv rows.length inner hown ⟨W.heap.size, 0, none⟩ 1 1 [v2] rfl (cell_one_new _ _ _) (by simpa using h1c) (by unfold maxLen; omega) (by omega) (by rw [World.size_alloc]; omega)
  refine ⟨v1, w1, hrun, ?_, hg1⟩
  refine Kd.R_appended (okp := fun k => Z ≤ k ∧ some k ≠ sv.ownBlock) h0 hr ⟨v2, rfl, hx'⟩ (fun k hk => hk) (fun k hk => by rw [World.size_alloc] at hk; omega) hown1 hg1 ?_
  rcases hat1 with h | h
  · exact .inl h
  · exact .inr ⟨_, h, Nat.le_refl _⟩

/-- A way on that neither panics nor jumps. -/
def Calm (K : Act → World → Prop) : Exit → Act → World → Prop
  | .normal, a, w => K a w
  | _, _, _ => False
theorem wpIn_cut {F : Fence} {n : Nat} {P : Program} {c : Code} {Q : Exit → Act → World → Prop} {a : Act} {w : World} (S : Act → World → Prop) (h : c.wpIn F n P (Calm S) a w) (hk : ∀ a w, S a w → Q .normal a w) : c.wpIn F n P Q a w :=
  wpIn_mono h (fun e a w he => by cases e <;> first | exact hk _ _ he | exact he.elim)
theorem wpIn_calm {F : Fence} {n : Nat} {P : Program} {c : Code} {Q : Exit → Act → World → Prop} {a : Act} {w : World} (h : c.wpIn F n P (Calm (Q .normal)) a w) : c.wpIn F n P Q a w :=
  wpIn_mono h (fun e a w he => by cases e <;> first | exact he | exact he.elim)
theorem clone_cut {W : World} {A : Option Addr} {c : Nat} {b : List Int} (hC : Kd.C (Kd.int .u8) W A b.length b) (hc : b.length ≤ c) (hl : b.length ≤ 100000000000) (x : Piece b) :
    Calls Try.prog 40 #[cutV A c x.1.1 x.1.2] W fun e w' => ∃ v0_ : Value, e = .returned v0_ ∧ Kd.R (Kd.int .u8) 5 w' W.heap.size (fun _ => True) v0_ (pieceL b x.1) ∧ Below W.heap.size W w' := by
  have hx := x.2
  have hlen : (pieceL b x.1).length = x.1.2 := by rw [pieceL, List.length_drop, List.length_take]; omega
  have := cloneB_calls (cutA A c x.1.1) (c - x.1.1) (pieceL b x.1) W (by rw [hlen]; exact cut_C hC hc _ _ hx) (by omega) (by omega)
  rw [hlen] at this
  exact this
/-- What one round has left untouched. -/
structure BodyOut (w W : World) (sv : Value) (w3 : World) : Prop where
  size : W.heap.size ≤ w3.heap.size
  same : ∀ k, k < W.heap.size → some k ≠ sv.ownBlock → w3.heap[k]? = W.heap[k]?
  below : Below w.heap.size w w3
theorem body_out {w W w2 w3 : World} {Z : Nat} {sv : Value} {o : Obj} (hB : Below w.heap.size w W) (hb2 : Below W.drew.heap.size W.drew w2) (hg : (w2.alloc o).grownBy w3 sv.ownBlock) (hZ : ∀ k, sv.ownBlock = some k → Z ≤ k) (hz : w.heap.size ≤ Z) : BodyOut w W sv w3 := by
  have hB2 : Below w.heap.size w w2 := below_step (below_drew hB) hb2
  have hB3 : Below w.heap.size w (w2.alloc o) := below_alloc hB2 o
  have h2 : W.heap.size ≤ w2.heap.size := hb2.size
  have h3 := hg.size
  rw [World.size_alloc] at h3
  refine ⟨by omega, fun k hk hne => ?_, pw_below_grown hB3 _ hB3.size hg (fun k hk => Nat.le_trans hz (hZ k hk))⟩
  rw [hg.block k (by rw [World.size_alloc]; omega) hne, Below.heap_alloc _ _ _ (by omega)]
  exact hb2.block k hk

/-- What the loop over the records keeps. -/
structure ScanInv (w : World) (Z : Nat) (rows : List (List Int)) (e : Nat) (W : World) : Prop where
  out : ∃ sv, W.heap[w.heap.size]? = some (.cells #[sv] 33 (0, 0)) ∧ Kd.R (Kd.slice 5 (Kd.int .u8)) 22 W Z (fun k => Z ≤ k) sv rows
  end_ : W.heap[w.heap.size + 1]? = some (.cells #[.int .i64 (e : Int)] 3 (0, 0))
  size : Z ≤ W.heap.size
  box : w.heap.size + 2 < Z
theorem ScanInv.grown {w : World} {Z : Nat} {rows : List (List Int)} {e : Nat} {W W' : World} {row : Option Nat} (h : ScanInv w Z rows e W) (hg : W.grownBy W' row) (hr : ∀ r, row = some r → ∃ o : Obj, W.heap[r]? = some o ∧ o.isCells = false) : ScanInv w Z rows e W' := by
  obtain ⟨sv, hb, hR⟩ := h.out
  refine ⟨⟨sv, blk_own hb hg hr, ?_⟩, blk_own h.end_ hg hr, Nat.le_trans h.size hg.size, h.box⟩
  refine Kd.R_mono (Kd.R_grown (Kd.R_bound hR) hg (fun k hk e_ => ?_)) (fun _ hk => hk.1)
  obtain ⟨_, _, _, q, _, cells, hc⟩ := hk
  obtain ⟨o, ho, hcl⟩ := hr k e_.symm
  rw [hc] at ho
  cases ho
  cases hcl

set_option maxRecDepth 100000 in
set_option maxHeartbeats 40000000 in
theorem scan_calls (A : Option Addr) (c : Nat) (b : List Int) (w : World) (hC : Kd.C (Kd.int .u8) w A b.length b) (hc : b.length ≤ c) (hO : Octets b) (hlen : b.length ≤ 100000000000) :
    Calls Try.prog 31 #[.slice A b.length c] w fun e w' => ∃ v : Value, e = .returned (.tuple #[v, .int .i64 (scanEnd b : Int)]) ∧ Kd.R (Kd.slice 5 (Kd.int .u8)) 22 w' w.heap.size (fun _ => True) v (scanL b) ∧ Below w.heap.size w w' := by
  refine callsIn_wide (n := 5).1 ?_
  have hro : Fence.wide.round = none := rfl
  have hn1 : 1 ≤ 5 := by omega
  have h44 : Fence.wide.fn 44 := trivial
  have h56 : Fence.wide.fn 56 := trivial
  have h57 : Fence.wide.fn 57 := trivial
  refine callsIn_of_wp_marks Try.func31 rfl trivial ?_ hro
  simp only [Try.ntmps31, List.size_toArray, List.length_cons, List.length_nil, Nat.reduceAdd, Nat.reduceSub, Array.replicate_succ, Array.replicate_zero, List.push_toArray, List.append_toArray, List.nil_append, List.cons_append]
  gi_wp2_with (gi_at_call 44; (with_reducible refine (frames_in Fence.wide 4 h44 hro _ _ _ _).mono ?_); rintro e w1 ⟨rfl, rfl⟩)
  obtain ⟨W0, hW0⟩ : ∃ W0, ((w.alloc (Obj.cells #[Value.slice none 0 0] 33)).alloc (Obj.cells #[Value.int IntKind.i64 0] 3)).alloc (Obj.cells #[Value.slice A b.length c] 22) = W0 := ⟨_, rfl⟩
  rw [hW0]
  have hsz : W0.heap.size = w.heap.size + 3 := by rw [← hW0]; simp
  have hB0 : Below w.heap.size w W0 := by rw [← hW0]; exact below_alloc (below_alloc (below_alloc (Below.refl _ _) _) _) _
  have g1 : W0.heap[w.heap.size]? = some (.cells #[.slice none 0 0] 33 (0, 0)) := by rw [← hW0]; exact blk_alloc (blk_alloc (blk_new _ _) _) _
  have g2 : W0.heap[w.heap.size + 1]? = some (.cells #[.int .i64 0] 3 (0, 0)) := by
    rw [← hW0]
    have := blk_new (w.alloc (Obj.cells #[Value.slice none 0 0] 33)) (Obj.cells #[Value.int IntKind.i64 0] 3)
    rw [World.size_alloc] at this
    exact blk_alloc this _
  have g3 : W0.heap[w.heap.size + 2]? = some (.cells #[.slice A b.length c] 22 (0, 0)) := by
    rw [← hW0]
    have := blk_new ((w.alloc (Obj.cells #[Value.slice none 0 0] 33)).alloc (Obj.cells #[Value.int IntKind.i64 0] 3)) (Obj.cells #[Value.slice A b.length c] 22)
    simpa using this
  have hI0 : ScanInv w W0.heap.size [] 0 W0 := ⟨⟨_, g1, Kd.R_nil _ _ _ _ _⟩, g2, Nat.le_refl _, by omega⟩
  have hC0 := Kd.C_below hC hB0
  clear hW0 g1 g2
  rw [show w.heap.size + 1 + 1 = w.heap.size + 2 from rfl]
  have hmix : Try.prog.follows .mixedOrders = true := by kernel_rfl
  refine wpIn_rangeFunc_ownG hro hn1 (gf := 56) (lb := #[.pointer (some ⟨w.heap.size + 2, 0, none⟩)]) rfl h56 (enters_of Try.func56 (by kernel_rfl) rfl)
    (encs := fun x : Piece b => #[cutV A c x.1.1 x.1.2, Value.int .i64 ((x.1.1 + x.1.2 : Nat) : Int)]) (Kp := KeepsRow (w.heap.size + 2) A b) (S := fun ys => ys.map (·.1) = scanN b (b.length + 1) 0) (Sp := fun _ => True) (N := b.length + 1) (w0 := W0) ?seq ?kt ?kb (Below.refl _ _) (fun _ => rfl)
    (fun pre W => ScanInv w W0.heap.size (pre.map (fun x => pieceL b x.1)) (endN (pre.map (·.1))) W ∧ Below w.heap.size w W)
    (fun _ _ _ => False)
    ?own (fun _ _ _ _ _ hs _ _ => hs) ⟨hI0, hB0⟩
    (fun x => { tmps := #[Value.slice A b.length c, undef, Value.slice none 0 0, Value.int IntKind.i64 0,
          Value.pointer (some { block := w.heap.size, off := 0 }),
          Value.pointer (some { block := w.heap.size + 1, off := 0 }), cutV A c x.1.1 x.1.2, Value.int .i64 ((x.1.1 + x.1.2 : Nat) : Int), Value.slice A b.length c,
          Value.func (Fn.func 56) #[] #[Value.pointer (some { block := w.heap.size + 2, off := 0 })], cutV A c x.1.1 x.1.2, Value.int .i64 ((x.1.1 + x.1.2 : Nat) : Int),
          undef, undef, undef, undef, undef, undef, undef, undef], defers := [] }) ?assign ?body ?done ?stop
  case seq =>
    intro l J Jx W hW hJ _ hY h0
    have f1 : W.heap[w.heap.size + 2]? = W0.heap[w.heap.size + 2]? := hW.block _ (by omega)
    exact frames1_in Fence.wide 4 h56 h57 rfl hro (by omega) l (w.heap.size + 2) A c b hO (by omega) hc J Jx hY W ((blk_cell (f1.trans g3) 0).trans rfl) (Kd.C_below hC0 hW) (fun s w w' hs hg => hJ s w w' none hs hg (fun r e => by cases e)) h0
  case kt => exact fun h k => h.trans k
  case kb =>
    intro W l o o' hl ho hcl hw
    exact KeepsRow.of_grown (grownBy_putObj' W l o') (fun r e => by cases e; exact ⟨o, ho, hcl⟩)
  case own =>
    exact OwnFrom.and (Own.from (fun s_ A' B' row hs hg hr => hs.grown hg hr) _) (ownFrom_below (Nat.le_refl _) (by omega))
  case assign =>
    intro l x W K hK
    gi_wp2
    exact hK
  case body =>
    rintro l pre x W ⟨hI, hB⟩ hN
    obtain ⟨sv, hsv, hR⟩ := hI.out
    have hlt : w.heap.size < W.heap.size := by have := hI.size; have := hI.box; omega
    have c1 : W.drew.cell? ⟨w.heap.size, 0, none⟩ = some sv := (blk_cell hsv 0).trans rfl
    have hCW : Kd.C (Kd.int .u8) W.drew A b.length b := Kd.C_drew (Kd.C_below hC hB)
    have hRd := Kd.R_drew hR
    have hZW : W0.heap.size ≤ W.drew.heap.size := hI.size
    have hrl : (pre.map (fun x => pieceL b x.1)).length ≤ 1000000000000 := by rw [List.length_map]; omega
    have hown0 : ∀ k, sv.ownBlock = some k → W0.heap.size ≤ k := fun k hk => hR.1 k hk
    have hne : some w.heap.size ≠ sv.ownBlock := fun e => by have := hown0 _ e.symm; have := hI.box; omega
    have hfr : ∀ k, W.drew.heap.size ≤ k → W0.heap.size ≤ k ∧ some k ≠ sv.ownBlock := fun k hk => ⟨Nat.le_trans hZW hk, fun e => by
      obtain ⟨_, inner, ho, _⟩ := hR
      have := own_lt ho k e.symm
      exact absurd this (Nat.not_lt.2 hk)⟩
    have hI2 := Lib.hid hI
    gi_wp2
    refine wpIn_cut (fun a' w' => ∃ (v2 v3 : Value) (z : Nat) (w3 : World), a' = { tmps := #[Value.slice A b.length c, undef, Value.slice none 0 0, Value.int IntKind.i64 0, Value.pointer (some { block := w.heap.size, off := 0 }), Value.pointer (some { block := w.heap.size + 1, off := 0 }), cutV A c x.1.1 x.1.2, Value.int .i64 ((x.1.1 + x.1.2 : Nat) : Int), Value.slice A b.length c, Value.func (Fn.func 56) #[] #[Value.pointer (some { block := w.heap.size + 2, off := 0 })], cutV A c x.1.1 x.1.2, Value.int .i64 ((x.1.1 + x.1.2 : Nat) : Int), sv, cutV A c x.1.1 x.1.2, v2, Value.slice (some ⟨z, 0, none⟩) 1 1, v3, undef, undef, undef], defers := [] } ∧ w' = w3.setCell ⟨w.heap.size, 0, none⟩ v3 ∧ Kd.R (Kd.slice 5 (Kd.int .u8)) 22 w3 W0.heap.size (fun k => W0.heap.size ≤ k) v3 (pre.map (fun x => pieceL b x.1) ++ [pieceL b x.1]) ∧ BodyOut w W sv w3) ?_ ?_
    · refine wpIn_region_any hmix ?_
      (try (change wpAnyIn _ _ _ _ _ _ _ _ _ (World.drew _)))
      clear hI
      refine wpAnyIn_ready (rs := [0, 1]) (by kernel_rfl) (by simp) ?_
      refine AllReadyIn.cons rfl (fun K hK => ?_) (AllReadyIn.cons rfl (fun K hK => ?_) AllReadyIn.nil)
      · go_simp
        refine hK _ _ ?_
        clear hK K
        (try simp only [Act.put, List.setIfInBounds_toArray, List.set_cons_zero, List.set_cons_succ])
        refine wpAnyIn_ready (rs := [1]) (by kernel_rfl) (by simp) ?_
        refine AllReadyIn.cons rfl (fun K hK => ?_) AllReadyIn.nil
        go_simp
        refine hK _ _ ?_
        clear hK K
        (try simp only [Act.put, List.setIfInBounds_toArray, List.set_cons_zero, List.set_cons_succ])
        refine wpAnyIn_ready (rs := [2]) (by kernel_rfl) (by simp) ?_
        refine AllReadyIn.cons rfl (fun K hK => ?_) AllReadyIn.nil
        go_simp
        refine ⟨trivial, ?_⟩
        refine (CallsIn.inRound l (callsIn_wide.2 (clone_cut hCW hc hlen x))).mono ?_
        rintro e w2 ⟨v2, rfl, hR2, hb2⟩
        obtain ⟨A2, cap2, rfl⟩ := Kd.R_slice hR2
        dsimp only
        have c2 : w2.cell? ⟨w.heap.size, 0, none⟩ = some sv := (hb2.cell (p := ⟨w.heap.size, 0, none⟩) hlt).trans c1
        have c3 : (w2.alloc (.cells #[.slice A2 (pieceL b x.1).length cap2] 22)).cell? ⟨w.heap.size, 0, none⟩ = some sv := ((below_alloc (Below.refl _ w2) (.cells #[.slice A2 (pieceL b x.1).length cap2] 22)).cell (p := ⟨w.heap.size, 0, none⟩) (Nat.lt_of_lt_of_le hlt hb2.size)).trans c2
        refine hK _ _ ?_
        clear hK K
        (try simp only [Act.put, List.setIfInBounds_toArray, List.set_cons_zero, List.set_cons_succ])
        refine wpAnyIn_ready (rs := [3]) (by kernel_rfl) (by simp) ?_
        refine AllReadyIn.cons rfl (fun K hK => ?_) AllReadyIn.nil
        go_simp
        refine hK _ _ ?_
        clear hK K
        (try simp only [Act.put, List.setIfInBounds_toArray, List.set_cons_zero, List.set_cons_succ])
        refine wpAnyIn_ready (rs := [4]) (by kernel_rfl) (by simp) ?_
        refine AllReadyIn.cons rfl (fun K hK => ?_) AllReadyIn.nil
        obtain ⟨v3, w3, hrun, hR3, hg3⟩ := rows_push (Kd.R_below hRd hb2) (Kd.R_lower (Kd.R_mono (Kd.R_bound hR2) (fun k hk => hfr k hk.2.1)) hZW) (Nat.le_trans hZW hb2.size) hrl
        obtain ⟨A3, cap3, rfl⟩ := Kd.R_slice hR3
        have hbo := body_out hB hb2 hg3 hown0 (by omega)
        have g4 : w3.heap[w.heap.size]? = some (.cells #[sv] 33 (0, 0)) := (hbo.same _ hlt hne).trans hsv
        have c4 : w3.cell? ⟨w.heap.size, 0, none⟩ = some sv := (blk_cell g4 0).trans rfl
        have f4 := blk_frozen g4 0
        have HBO := Lib.hid hbo
        have HR3 := Lib.hid hR3
        clear hbo hR3 g4 hg3 c2 c3 hR2
        rw [if_pos (by rfl)]
        refine stepIn_append (.tmp 12) (.tmp 15) rfl sv (.slice (some ⟨w2.heap.size, 0, none⟩) 1 1) _ rfl rfl hrun ?_
        clear hrun
        refine hK _ _ ?_
        clear hK K
        (try simp only [Act.put, List.setIfInBounds_toArray, List.set_cons_zero, List.set_cons_succ])
        refine wpAnyIn_ready (rs := [5]) (by kernel_rfl) (by simp) ?_
        refine AllReadyIn.cons rfl (fun K hK => ?_) AllReadyIn.nil
        go_simp
        refine hK _ _ ?_
        clear hK K
        (try simp only [Act.put, List.setIfInBounds_toArray, List.set_cons_zero, List.set_cons_succ])
        refine wpAnyIn_done (by kernel_rfl) ?_ _
        exact ⟨_, _, w2.heap.size, w3, rfl, rfl, (by have := HR3.out; simpa only [List.length_append, List.length_map, List.length_cons, List.length_nil, Nat.zero_add] using this), HBO.out⟩
      · go_simp
        refine hK _ _ ?_
        clear hK K
        (try simp only [Act.put, List.setIfInBounds_toArray, List.set_cons_zero, List.set_cons_succ])
        refine wpAnyIn_ready (rs := [0, 2]) (by kernel_rfl) (by simp) ?_
        refine AllReadyIn.cons rfl (fun K hK => ?_) (AllReadyIn.cons rfl (fun K hK => ?_) AllReadyIn.nil)
        · go_simp
          refine hK _ _ ?_
          clear hK K
          (try simp only [Act.put, List.setIfInBounds_toArray, List.set_cons_zero, List.set_cons_succ])
          refine wpAnyIn_ready (rs := [2]) (by kernel_rfl) (by simp) ?_
          refine AllReadyIn.cons rfl (fun K hK => ?_) AllReadyIn.nil
          go_simp
          refine ⟨trivial, ?_⟩
          refine (CallsIn.inRound l (callsIn_wide.2 (clone_cut hCW hc hlen x))).mono ?_
          rintro e w2 ⟨v2, rfl, hR2, hb2⟩
          obtain ⟨A2, cap2, rfl⟩ := Kd.R_slice hR2
          dsimp only
          have c2 : w2.cell? ⟨w.heap.size, 0, none⟩ = some sv := (hb2.cell (p := ⟨w.heap.size, 0, none⟩) hlt).trans c1
          have c3 : (w2.alloc (.cells #[.slice A2 (pieceL b x.1).length cap2] 22)).cell? ⟨w.heap.size, 0, none⟩ = some sv := ((below_alloc (Below.refl _ w2) (.cells #[.slice A2 (pieceL b x.1).length cap2] 22)).cell (p := ⟨w.heap.size, 0, none⟩) (Nat.lt_of_lt_of_le hlt hb2.size)).trans c2
          refine hK _ _ ?_
          clear hK K
          (try simp only [Act.put, List.setIfInBounds_toArray, List.set_cons_zero, List.set_cons_succ])
          refine wpAnyIn_ready (rs := [3]) (by kernel_rfl) (by simp) ?_
          refine AllReadyIn.cons rfl (fun K hK => ?_) AllReadyIn.nil
          go_simp
          refine hK _ _ ?_
          clear hK K
          (try simp only [Act.put, List.setIfInBounds_toArray, List.set_cons_zero, List.set_cons_succ])
          refine wpAnyIn_ready (rs := [4]) (by kernel_rfl) (by simp) ?_
          refine AllReadyIn.cons rfl (fun K hK => ?_) AllReadyIn.nil
          obtain ⟨v3, w3, hrun, hR3, hg3⟩ := rows_push (Kd.R_below hRd hb2) (Kd.R_lower (Kd.R_mono (Kd.R_bound hR2) (fun k hk => hfr k hk.2.1)) hZW) (Nat.le_trans hZW hb2.size) hrl
          obtain ⟨A3, cap3, rfl⟩ := Kd.R_slice hR3
          have hbo := body_out hB hb2 hg3 hown0 (by omega)
          have g4 : w3.heap[w.heap.size]? = some (.cells #[sv] 33 (0, 0)) := (hbo.same _ hlt hne).trans hsv
          have c4 : w3.cell? ⟨w.heap.size, 0, none⟩ = some sv := (blk_cell g4 0).trans rfl
          have f4 := blk_frozen g4 0
          have HBO := Lib.hid hbo
          have HR3 := Lib.hid hR3
          clear hbo hR3 g4 hg3 c2 c3 hR2
          rw [if_pos (by rfl)]
          refine stepIn_append (.tmp 12) (.tmp 15) rfl sv (.slice (some ⟨w2.heap.size, 0, none⟩) 1 1) _ rfl rfl hrun ?_
          clear hrun
          refine hK _ _ ?_
          clear hK K
          (try simp only [Act.put, List.setIfInBounds_toArray, List.set_cons_zero, List.set_cons_succ])
          refine wpAnyIn_ready (rs := [5]) (by kernel_rfl) (by simp) ?_
          refine AllReadyIn.cons rfl (fun K hK => ?_) AllReadyIn.nil
          go_simp
          refine hK _ _ ?_
          clear hK K
          (try simp only [Act.put, List.setIfInBounds_toArray, List.set_cons_zero, List.set_cons_succ])
          refine wpAnyIn_done (by kernel_rfl) ?_ _
          exact ⟨_, _, w2.heap.size, w3, rfl, rfl, (by have := HR3.out; simpa only [List.length_append, List.length_map, List.length_cons, List.length_nil, Nat.zero_add] using this), HBO.out⟩
        · go_simp
          refine ⟨trivial, ?_⟩
          refine (CallsIn.inRound l (callsIn_wide.2 (clone_cut hCW hc hlen x))).mono ?_
          rintro e w2 ⟨v2, rfl, hR2, hb2⟩
          obtain ⟨A2, cap2, rfl⟩ := Kd.R_slice hR2
          dsimp only
          have c2 : w2.cell? ⟨w.heap.size, 0, none⟩ = some sv := (hb2.cell (p := ⟨w.heap.size, 0, none⟩) hlt).trans c1
          have c3 : (w2.alloc (.cells #[.slice A2 (pieceL b x.1).length cap2] 22)).cell? ⟨w.heap.size, 0, none⟩ = some sv := ((below_alloc (Below.refl _ w2) (.cells #[.slice A2 (pieceL b x.1).length cap2] 22)).cell (p := ⟨w.heap.size, 0, none⟩) (Nat.lt_of_lt_of_le hlt hb2.size)).trans c2
          refine hK _ _ ?_
          clear hK K
          (try simp only [Act.put, List.setIfInBounds_toArray, List.set_cons_zero, List.set_cons_succ])
          refine wpAnyIn_ready (rs := [0, 3]) (by kernel_rfl) (by simp) ?_
          refine AllReadyIn.cons rfl (fun K hK => ?_) (AllReadyIn.cons rfl (fun K hK => ?_) AllReadyIn.nil)
          · go_simp
            refine hK _ _ ?_
            clear hK K
            (try simp only [Act.put, List.setIfInBounds_toArray, List.set_cons_zero, List.set_cons_succ])
            refine wpAnyIn_ready (rs := [3]) (by kernel_rfl) (by simp) ?_
            refine AllReadyIn.cons rfl (fun K hK => ?_) AllReadyIn.nil
            go_simp
            refine hK _ _ ?_
            clear hK K
            (try simp only [Act.put, List.setIfInBounds_toArray, List.set_cons_zero, List.set_cons_succ])
            refine wpAnyIn_ready (rs := [4]) (by kernel_rfl) (by simp) ?_
            refine AllReadyIn.cons rfl (fun K hK => ?_) AllReadyIn.nil
            obtain ⟨v3, w3, hrun, hR3, hg3⟩ := rows_push (Kd.R_below hRd hb2) (Kd.R_lower (Kd.R_mono (Kd.R_bound hR2) (fun k hk => hfr k hk.2.1)) hZW) (Nat.le_trans hZW hb2.size) hrl
            obtain ⟨A3, cap3, rfl⟩ := Kd.R_slice hR3
            have hbo := body_out hB hb2 hg3 hown0 (by omega)
            have g4 : w3.heap[w.heap.size]? = some (.cells #[sv] 33 (0, 0)) := (hbo.same _ hlt hne).trans hsv
            have c4 : w3.cell? ⟨w.heap.size, 0, none⟩ = some sv := (blk_cell g4 0).trans rfl
            have f4 := blk_frozen g4 0
            have HBO := Lib.hid hbo
            have HR3 := Lib.hid hR3
            clear hbo hR3 g4 hg3 c2 c3 hR2
            rw [if_pos (by rfl)]
            refine stepIn_append (.tmp 12) (.tmp 15) rfl sv (.slice (some ⟨w2.heap.size, 0, none⟩) 1 1) _ rfl rfl hrun ?_
            clear hrun
            refine hK _ _ ?_
            clear hK K
            (try simp only [Act.put, List.setIfInBounds_toArray, List.set_cons_zero, List.set_cons_succ])
            refine wpAnyIn_ready (rs := [5]) (by kernel_rfl) (by simp) ?_
            refine AllReadyIn.cons rfl (fun K hK => ?_) AllReadyIn.nil
            go_simp
            refine hK _ _ ?_
            clear hK K
            (try simp only [Act.put, List.setIfInBounds_toArray, List.set_cons_zero, List.set_cons_succ])
            refine wpAnyIn_done (by kernel_rfl) ?_ _
            exact ⟨_, _, w2.heap.size, w3, rfl, rfl, (by have := HR3.out; simpa only [List.length_append, List.length_map, List.length_cons, List.length_nil, Nat.zero_add] using this), HBO.out⟩
          · go_simp
            refine hK _ _ ?_
            clear hK K
            (try simp only [Act.put, List.setIfInBounds_toArray, List.set_cons_zero, List.set_cons_succ])
            refine wpAnyIn_ready (rs := [0]) (by kernel_rfl) (by simp) ?_
            refine AllReadyIn.cons rfl (fun K hK => ?_) AllReadyIn.nil
            go_simp
            refine hK _ _ ?_
            clear hK K
            (try simp only [Act.put, List.setIfInBounds_toArray, List.set_cons_zero, List.set_cons_succ])
            refine wpAnyIn_ready (rs := [4]) (by kernel_rfl) (by simp) ?_
            refine AllReadyIn.cons rfl (fun K hK => ?_) AllReadyIn.nil
            obtain ⟨v3, w3, hrun, hR3, hg3⟩ := rows_push (Kd.R_below hRd hb2) (Kd.R_lower (Kd.R_mono (Kd.R_bound hR2) (fun k hk => hfr k hk.2.1)) hZW) (Nat.le_trans hZW hb2.size) hrl
            obtain ⟨A3, cap3, rfl⟩ := Kd.R_slice hR3
            have hbo := body_out hB hb2 hg3 hown0 (by omega)
            have g4 : w3.heap[w.heap.size]? = some (.cells #[sv] 33 (0, 0)) := (hbo.same _ hlt hne).trans hsv
            have c4 : w3.cell? ⟨w.heap.size, 0, none⟩ = some sv := (blk_cell g4 0).trans rfl
            have f4 := blk_frozen g4 0
            have HBO := Lib.hid hbo
            have HR3 := Lib.hid hR3
            clear hbo hR3 g4 hg3 c2 c3 hR2
            rw [if_pos (by rfl)]
            refine stepIn_append (.tmp 12) (.tmp 15) rfl sv (.slice (some ⟨w2.heap.size, 0, none⟩) 1 1) _ rfl rfl hrun ?_
            clear hrun
            refine hK _ _ ?_
            clear hK K
            (try simp only [Act.put, List.setIfInBounds_toArray, List.set_cons_zero, List.set_cons_succ])
            refine wpAnyIn_ready (rs := [5]) (by kernel_rfl) (by simp) ?_
            refine AllReadyIn.cons rfl (fun K hK => ?_) AllReadyIn.nil
            go_simp
            refine hK _ _ ?_
            clear hK K
            (try simp only [Act.put, List.setIfInBounds_toArray, List.set_cons_zero, List.set_cons_succ])
            refine wpAnyIn_done (by kernel_rfl) ?_ _
            exact ⟨_, _, w2.heap.size, w3, rfl, rfl, (by have := HR3.out; simpa only [List.length_append, List.length_map, List.length_cons, List.length_nil, Nat.zero_add] using this), HBO.out⟩
    rintro _ _ ⟨v2, v3, z, w3, rfl, rfl, hR3, hbo⟩
    have hI := hI2.out
    have hsv2 := own_typed (hR.2.choose_spec.1)
    have hlt2 : w.heap.size + 1 < W.heap.size := by have := hI.size; have := hI.box; omega
    have hlt3 : w.heap.size + 2 < W.heap.size := by have := hI.size; have := hI.box; omega
    have hne2 : some (w.heap.size + 1) ≠ sv.ownBlock := fun e => by have := hown0 _ e.symm; have := hI.box; omega
    have hne3 : some (w.heap.size + 2) ≠ sv.ownBlock := fun e => by have := hown0 _ e.symm; have := hI.box; omega
    have g4 : w3.heap[w.heap.size]? = some (.cells #[sv] 33 (0, 0)) := (hbo.same _ hlt hne).trans hsv
    have g5 : w3.heap[w.heap.size + 1]? = some (.cells #[.int .i64 (endN (pre.map (·.1)) : Int)] 3 (0, 0)) := (hbo.same _ hlt2 hne2).trans hI.end_
    have k5 := blk_far (p := ⟨w.heap.size, 0, none⟩) g5 (by dsimp only; omega) v3
    have c5 : (w3.setCell ⟨w.heap.size, 0, none⟩ v3).cell? ⟨w.heap.size + 1, 0, none⟩ = some (.int .i64 (endN (pre.map (·.1)) : Int)) := (blk_cell k5 0).trans rfl
    have f5 := blk_frozen k5 0
    have k4 := blk_set g4 0 v3
    have HK5 := Lib.hid k5
    have HK4 := Lib.hid k4
    have hko : KeepsOthers W w3 := ⟨hbo.size, fun k o hk ho => by
      have hkl : k < W.heap.size := by
        rcases Nat.lt_or_ge k W.heap.size with h | h
        · exact h
        · rw [Array.getElem?_eq_none h] at hk; cases hk
      rw [hbo.same k hkl (fun e => by obtain ⟨cells, hc⟩ := hsv2 k e.symm; rw [hc] at hk; cases hk; cases ho)]
      exact hk⟩
    have HKO := Lib.hid hko
    clear hko k4 k5 g4 g5 hsv2 hI
    gi_wp2
    have hBf : Below w.heap.size w ((w3.setCell ⟨w.heap.size, 0, none⟩ v3).setCell ⟨w.heap.size + 1, 0, none⟩ (Value.int .i64 ((x.1.1 + x.1.2 : Nat) : Int))) := below_set (below_set hbo.below (Nat.le_refl _)) (by omega)
    refine ⟨((HKO.out.trans (KeepsOthers.setCell _ _ _)).trans (KeepsOthers.setCell _ _ _)).from _, ⟨fun v hv => ?_, fun _ => Kd.C_below hC hBf⟩, ⟨⟨v3, ?_, ?_⟩, ?_, ?_, hI2.out.box⟩, hBf⟩
    · rw [← hv]
      refine World.cell?_of_block (a := ⟨w.heap.size + 2, 0, none⟩) ?_
      rw [Below.heap_setCell _ _ _ _ (by dsimp only; omega), Below.heap_setCell _ _ _ _ (by dsimp only; omega)]
      exact hbo.same _ hlt3 hne3
    · exact blk_far HK4.out (by dsimp only; omega) _
    · have hz := hI2.out.box
      rw [List.map_append]
      exact Kd.R_far (Kd.R_far hR3 (fun k hk e => by dsimp only at e; omega) _) (fun k hk e => by dsimp only at e; omega) _
    · have := blk_set HK5.out 0 (Value.int .i64 ((x.1.1 + x.1.2 : Nat) : Int))
      rw [show endN ((pre ++ [x]).map (·.1)) = x.1.1 + x.1.2 by simp [endN]]
      exact this
    · have := hbo.size
      have := hI2.out.size
      simp [World.setCell]
      omega
  case done =>
    rintro D ys W hD hys ⟨hI, hB⟩ hK
    obtain ⟨sv, hsv, hR⟩ := hI.out
    have c1 : W.cell? ⟨w.heap.size, 0, none⟩ = some sv := (blk_cell hsv 0).trans rfl
    have c2 : W.cell? ⟨w.heap.size + 1, 0, none⟩ = some (.int .i64 (endN (ys.map (·.1)) : Int)) := (blk_cell hI.end_ 0).trans rfl
    have HR := Lib.hid hR
    have HI := Lib.hid hI
    have HY := Lib.hid hys
    clear hR hI hsv hys
    gi_wp2
    refine wpIn_calm ?_
    gi_region
    all_goals simp only [Calm]
    all_goals (have hKd : W.drew.heap[D]? = some (.deferred (some [])) := hK)
    all_goals gi_wp2
    all_goals (
      refine ⟨by simp, .inl ⟨_, _, rfl, run_takeDeferred hKd, ?_⟩⟩
      have hgp : W.drew.grownBy (W.drew.putObj D (.deferred none)) (some D) := grownBy_putObj' _ _ _
      have hgr : ∀ r, some D = some r → ∃ o : Obj, W.drew.heap[r]? = some o ∧ o.isCells = false := fun r e => by cases e; exact ⟨_, hKd, rfl⟩
      have hId : ScanInv w W0.heap.size (ys.map (fun x => pieceL b x.1)) (endN (ys.map (·.1))) W.drew := HI.out.grown (row := none) ⟨rfl, rfl, rfl, Nat.le_refl _, fun _ _ _ => rfl⟩ (fun r e => by cases e)
      have hRd : Kd.R (Kd.slice 5 (Kd.int .u8)) 22 (W.drew.putObj D (.deferred none)) W0.heap.size (fun k => W0.heap.size ≤ k) sv (ys.map (fun x => pieceL b x.1)) := by
        refine Kd.R_mono (Kd.R_grown (Kd.R_bound (Kd.R_drew HR.out)) hgp (fun k hk e_ => ?_)) (fun _ hk => hk.1)
        obtain ⟨_, _, _, q, _, cells, hc⟩ := hk
        obtain ⟨o, ho, hcl⟩ := hgr k e_.symm
        rw [hc] at ho
        cases ho
        cases hcl
      have e1 : ys.map (fun x => pieceL b x.1) = scanL b := by rw [scanL, ← HY.out, List.map_map]; rfl
      have e2 : endN (ys.map (·.1)) = scanEnd b := by rw [scanEnd, ← HY.out]
      rw [e1] at hRd
      rw [e2]
      refine ⟨_, results_tmp2 rfl _ _ _, sv, rfl, Kd.R_lower (Kd.R_mono hRd (fun _ _ => trivial)) (by omega), ?_⟩
      exact hB.drew.trans (belowK_b (w := w) (Nat.le_refl _) W.drew D _ _ (by omega) hKd rfl rfl))
  case stop =>
    rintro D c' pre W _ _ h _
    exact h.elim
end Go.Proofs.Ytfdpbdaekfdnjaa.X
/- slices.Backward over rows: the iterator's contract, for a loop body that leaves what is old as it is. -/
namespace Go.Proofs.Ytfdpbdaekfdnjaa.X
open Go.RowKit Go.Shelf Go.Proofs.YtfdpbdaekfdnjaaW.PrintWords Go.Proofs.YtfdpbdaekfdnjaaW.PrintLast Go.Proofs.YtfdpbdaekfdnjaaW.PrintMore
set_option linter.unusedVariables false
set_option linter.unusedSimpArgs false
attribute [local go_sem] Oper.semAt_some

/-- A row's place, and its slice's address and room, as it is read at the world w. -/
abbrev BElem (w : World) (xs : List (List Int)) := {x : Nat × Option Addr × Nat // x.1 < xs.length ∧ (xs.getD x.1 []).length ≤ x.2.2 ∧ Kd.C (Kd.int .u8) w x.2.1 (xs.getD x.1 []).length (xs.getD x.1 [])}
def BElem.row {w : World} {xs : List (List Int)} (x : BElem w xs) : List Int := xs.getD x.1.1 []
def BElem.enc {w : World} {xs : List (List Int)} (x : BElem w xs) : Array Value := #[.int .i64 (x.1.1 : Int), .slice x.1.2.1 x.row.length x.1.2.2]
/-- A box and all that is old are as they were. -/
def KeepsOld (Bs m : Nat) (W W' : World) : Prop :=
  (∀ v, W.cell? ⟨Bs, 0, none⟩ = some v → W'.cell? ⟨Bs, 0, none⟩ = some v) ∧ ∀ p v, p.block < m → W.cell? p = some v → W'.cell? p = some v
theorem KeepsOld.trans {Bs m : Nat} {X Y Z : World} (h : KeepsOld Bs m X Y) (k : KeepsOld Bs m Y Z) : KeepsOld Bs m X Z :=
  ⟨fun v hv => k.1 v (h.1 v hv), fun p v hp hv => k.2 p v hp (h.2 p v hp hv)⟩
theorem KeepsOld.of_grown {Bs m : Nat} {W W' : World} {row : Option Nat} (hg : W.grownBy W' row) (hr : ∀ r, row = some r → ∃ o : Obj, W.heap[r]? = some o ∧ o.isCells = false) : KeepsOld Bs m W W' :=
  ⟨fun v hv => cell_kept hv hg hr, fun p v _ hv => cell_kept hv hg hr⟩
/-- What has come when d are still to come. -/
def CameR {w : World} (xs : List (List Int)) (d : Nat) (ys : List (BElem w xs)) : Prop := ys.length + d = xs.length ∧ ys.map BElem.row = xs.reverse.take (xs.length - d)
theorem CameR.step {w : World} {xs : List (List Int)} {m : Nat} {ys : List (BElem w xs)} (h : CameR xs (m + 1) ys) (x : BElem w xs) (hx : x.1.1 = m) (hm : m < xs.length) : CameR xs m (ys ++ [x]) := by
  obtain ⟨h1, h2⟩ := h
  refine ⟨by simp; omega, ?_⟩
  rw [List.map_append, h2, show xs.length - m = (xs.length - (m + 1)) + 1 by omega, List.take_succ_eq_append_getElem (by simp; omega)]
  congr 1
  simp only [List.map_cons, List.map_nil, List.getElem_reverse, BElem.row, hx]
  rw [List.getD_eq_getElem?_getD, List.getElem?_eq_getElem hm, Option.getD_some]
  congr 1
  congr 1
  omega
theorem backR_in (F : Fence) (n : Nat) (h46 : F.fn 46) (hro : F.round = none) (A : Option Addr) (len c : Nat) (w : World) :
    CallsIn F n Try.prog 46 #[.slice A len c] w fun e w' => e = .returned (.func (.func 58) #[] #[.pointer (some ⟨w.heap.size, 0, none⟩)]) ∧ w' = w.alloc (.cells #[.slice A len c] 33) := by
  refine callsIn_of_wp Try.func46 rfl h46 ?_ hro
  simp only [Try.ntmps46, List.size_toArray, List.length_cons, List.length_nil, Nat.reduceAdd, Nat.reduceSub, Array.replicate_succ, Array.replicate_zero, List.push_toArray, List.append_toArray, List.nil_append, List.cons_append]
  gi_wp2
  go_ret
  exact ⟨rfl, rfl⟩
set_option maxRecDepth 100000 in
set_option maxHeartbeats 2000000 in
theorem backR1_in (F : Fence) (n : Nat) (h58 : F.fn 58) (hro : F.round = none) (hn : 1 ≤ n) (l Bs : Nat) (w : World) (A : Option Addr) (c : Nat) (xs : List (List Int)) (hC : Kd.C (Kd.slice 5 (Kd.int .u8)) w A xs.length xs) (hlen : xs.length ≤ 1000000000000) (J Jx : List (BElem w xs) → World → Prop)
    (hY : ∀ pre x W, J pre W → pre.length < xs.length → YieldAt F (n - 1) Try.prog l (BElem.enc x) W fun e W' =>
      (e = .returned (.bool true) ∧ J (pre ++ [x]) W' ∧ KeepsOld Bs w.heap.size W W') ∨ (e = .returned (.bool false) ∧ Jx (pre ++ [x]) W'))
    (W : World) (hBs : W.cell? ⟨Bs, 0, none⟩ = some (.slice A xs.length c)) (hold : ∀ p v, p.block < w.heap.size → w.cell? p = some v → W.cell? p = some v) (h0 : J [] W) :
    CallsIn F n Try.prog 58 #[.func (.yield l) #[] #[], .pointer (some ⟨Bs, 0, none⟩)] W fun e W' => (∃ v, e = .returned v) ∧
      ((∃ ys : List (BElem w xs), ys.map BElem.row = xs.reverse ∧ J ys W') ∨ (∃ pre, True ∧ Jx pre W')) := by
  refine callsIn_of_wp Try.func58 rfl h58 ?_ hro
  simp only [Try.ntmps58, List.size_toArray, List.length_cons, List.length_nil, Nat.reduceAdd, Nat.reduceSub, Array.replicate_succ, Array.replicate_zero, List.push_toArray, List.append_toArray, List.nil_append, List.cons_append]
  have e0 : wrap64 ((xs.length : Int) - 1) = (xs.length : Int) - 1 := wrap64_id _ (by omega) (by omega)
  gi_wp2
  gi_loopw [3] (fun i wr => ∃ (d : Nat) (ys : List (BElem w xs)), d ≤ xs.length ∧ i = .int .i64 ((d : Int) - 1) ∧ CameR xs d ys ∧ J ys wr ∧ KeepsOld Bs w.heap.size W wr)
    (fun i _ => (intOf i + 1).toNat)
  case atStart => exact ⟨xs.length, [], Nat.le_refl _, rfl, ⟨by simp, by simp⟩, h0, ⟨fun _ h => h, fun _ _ _ h => h⟩⟩
  case round =>
    obtain ⟨d, ys, hd, rfl, hys, hJs, hnx⟩ := hrel
    have hb1 := hnx.1 _ hBs
    rcases d with _ | m
    · have hen : ys.map BElem.row = xs.reverse := by
        have := hys.2
        rwa [Nat.sub_zero, ← List.length_reverse, List.take_length] at this
      gi_wp2
      go_end0
      exact ⟨⟨_, rfl⟩, .inl ⟨_, hen, hJs⟩⟩
    · have hml : m < xs.length := hd
      obtain ⟨ad, A2, c3, rfl, x0, hlc, hCx⟩ := at_L1 hC (m : Int) (by omega) (by omega)
      rw [Int.toNat_natCast] at x0
      have hrd : rd_L1 xs (m : Int) = xs.getD m [] := by unfold rd_L1; rw [Int.toNat_natCast]
      rw [hrd] at x0 hlc hCx
      have x1 := hnx.2 _ _ (World.block_lt_of_cell? w _ x0) (hold _ _ (World.block_lt_of_cell? w _ x0) x0)
      obtain ⟨X, hX⟩ : ∃ X : BElem w xs, X.1 = (m, A2, c3) := ⟨⟨(m, A2, c3), hml, hlc, hCx⟩, rfl⟩
      have hst := hys.step X (by rw [hX]) hml
      obtain ⟨fn, tmps, assign, body, hy, hR⟩ := hY ys X wr hJs (by have := hys.1; omega)
      have henc : BElem.enc X = #[.int .i64 (m : Int), .slice A2 (xs.getD m []).length c3] := by
        unfold BElem.enc BElem.row
        rw [hX]
      rw [henc] at hy
      obtain ⟨q, hq⟩ : ∃ q, (xs.getD m []).length = q := ⟨_, rfl⟩
      rw [hq] at x1 hy
      have HST := Lib.hid hst
      clear hst hq hlc hCx hrd x0 hX henc
      try dsimp only at hy
      rw [show (((m + 1 : Nat) : Int) - 1) = (m : Int) by omega]
      have p0 : (0 ≤ (m : Int)) = True := eq_true (by omega)
      have p1 : ((m : Int) < (xs.length : Int)) = True := eq_true (by omega)
      have p2 : (m < xs.length) = True := eq_true hml
      have e1 : wrap64 ((m : Int) - 1) = (m : Int) - 1 := wrap64_id _ (by omega) (by omega)
      gi_wp2
      refine hR.mono ?_
      rintro e W3 (⟨rfl, hJ3, hk3⟩ | ⟨rfl, hJx3⟩)
      · gi_wp2
        go_roundw
        case rel => exact ⟨m, _, by omega, rfl, HST.out, hJ3, hnx.trans hk3⟩
        case measure => simp [intOf]
      · gi_wp2
        refine bodyPost_ret (results_none rfl _ _ _) rfl ?_
        exact ⟨⟨_, rfl⟩, .inr ⟨_, trivial, hJx3⟩⟩
end Go.Proofs.Ytfdpbdaekfdnjaa.X
/- compact.Keep: what counts of records. Written by genkeep.py. -/
namespace Go.Proofs.Ytfdpbdaekfdnjaa.X
open Go.RowKit Go.Shelf Go.Proofs.YtfdpbdaekfdnjaaW.PrintWords Go.Proofs.YtfdpbdaekfdnjaaW.PrintLast Go.Proofs.YtfdpbdaekfdnjaaW.PrintMore
set_option linter.unusedVariables false
set_option linter.unusedSimpArgs false
attribute [local go_sem] Oper.semAt_some

theorem oper_round {F : Fence} {n l : Nat} {P : Program} {o : Oper} {a : Act} {w : World} {K : Act → World → Prop} {Q : Exit → Act → World → Prop} (hd : ∀ c, o.op ≠ .defer c) (h : o.wpIn F n P a w K Q) : o.wpIn (F.inRound l) n P a w K Q := by
  refine ⟨h.1, ?_⟩
  have h2 := h.2
  rw [Oper.semAt_plain F _ _ hd] at h2
  rw [Oper.semAt_plain (F.inRound l) _ _ hd]
  exact h2
/-- No operation defers. -/
def noDefer (ops : Array Oper) : Bool := ops.all fun o => match o.op with | .defer _ => false | _ => true
theorem noDefer_spec {ops : Array Oper} {i : Nat} {o : Oper} (h : noDefer ops = true) (ho : ops[i]? = some o) : ∀ c, o.op ≠ .defer c := fun c hc => by
  have h1 := Array.all_eq_true.1 h i (Array.getElem?_eq_some_iff.1 ho).1
  rw [(Array.getElem?_eq_some_iff.1 ho).2, hc] at h1
  cases h1
/-- A region without a defer, in a round: as it is outside. -/
theorem any_round {F : Fence} {n l : Nat} {P : Program} {md : Region.Mode} {ops : Array Oper} {Q : Exit → Act → World → Prop} (hd : noDefer ops = true) :
    ∀ (fuel : Nat) (listed : Array Bool) (a : Act) (w : World), wpAnyIn F n P md ops Q fuel listed a w → wpAnyIn (F.inRound l) n P md ops Q fuel listed a w
  | 0, _, _, _, h => h
  | fuel + 1, listed, a, w, h => by
    refine ⟨h.1, fun i hi => ?_⟩
    refine wpOpIn_mono (fun a w hk => any_round hd fuel _ a w hk) ?_
    have h2 := h.2 i hi
    unfold wpOpIn at h2 ⊢
    split
    · rename_i ho
      rw [ho] at h2
      exact h2
    · rename_i o ho
      rw [ho] at h2
      dsimp only at h2
      split
      · rename_i hw
        rw [if_pos hw] at h2
        exact oper_round (noDefer_spec hd ho) h2
      · rename_i hw
        rw [if_neg hw] at h2
        exact h2
/-- One record more, from the end on: the kinds met, and what is kept. -/
def sieveF (s : List Bool × List (List Int)) (b : List Int) : List Bool × List (List Int) := (takeK s.1 b, if takeB s.1 b = true then s.2 ++ [b] else s.2)
/-- What counts. -/
def keepL (l : List (List Int)) : List (List Int) := firstsL [] ((l.reverse.foldl sieveF (List.replicate 8 false, [])).2.reverse)
def sieved {w : World} {xs : List (List Int)} (pre : List (BElem w xs)) : List Bool × List (List Int) := (pre.map BElem.row).foldl sieveF (List.replicate 8 false, [])
theorem sieved_step {w : World} {xs : List (List Int)} (pre : List (BElem w xs)) (x : BElem w xs) : sieved (pre ++ [x]) = sieveF (sieved pre) x.row := by
  unfold sieved
  rw [List.map_append, List.foldl_append]
  rfl
theorem foldl_sieve (l : List (List Int)) : ∀ s : List Bool × List (List Int), (l.foldl sieveF s).1.length = s.1.length ∧ (l.foldl sieveF s).2.length ≤ s.2.length + l.length ∧ ∀ x ∈ (l.foldl sieveF s).2, x ∈ s.2 ∨ x ∈ l := by
  induction l with
  | nil => intro s; exact ⟨rfl, Nat.le_refl _, fun x hx => .inl hx⟩
  | cons b l ih =>
    intro s
    obtain ⟨h1, h2, h3⟩ := ih (sieveF s b)
    rw [List.foldl_cons]
    refine ⟨h1.trans (takeK_len _ _), ?_, fun x hx => ?_⟩
    · have : (sieveF s b).2.length ≤ s.2.length + 1 := by
        unfold sieveF
        dsimp only
        split
        · simp
        · omega
      rw [List.length_cons]
      omega
    · rcases h3 x hx with h | h
      · unfold sieveF at h
        dsimp only at h
        split at h
        · rcases List.mem_append.1 h with h | h
          · exact .inl h
          · exact .inr (by rw [List.mem_singleton.1 h]; exact List.mem_cons_self)
        · exact .inl h
      · exact .inr (List.mem_cons_of_mem _ h)
theorem sieved_len {w : World} {xs : List (List Int)} (pre : List (BElem w xs)) : (sieved pre).1.length = 8 ∧ (sieved pre).2.length ≤ pre.length := by
  have h := foldl_sieve (pre.map BElem.row) (List.replicate 8 false, [])
  exact ⟨h.1.trans (by simp), by have := h.2.1; rw [List.length_map] at this; simpa [sieved] using this⟩

/-- What the loop over the records keeps. -/
structure KeepInv (w : World) (Z : Nat) (st : List Bool × List (List Int)) (W : World) : Prop where
  out : ∃ sv, W.heap[w.heap.size]? = some (.cells (sieveC st.1 sv) 71 (0, 0)) ∧ Kd.R (Kd.slice 5 (Kd.int .u8)) 22 W Z (fun k => Z ≤ k) sv st.2
  ptr : W.heap[w.heap.size + 1]? = some (.cells #[.pointer (some ⟨w.heap.size, 0, none⟩)] 68 (0, 0))
  size : Z ≤ W.heap.size
  box : w.heap.size + 2 < Z
theorem KeepInv.grown {w : World} {Z : Nat} {st : List Bool × List (List Int)} {W W' : World} {row : Option Nat} (h : KeepInv w Z st W) (hg : W.grownBy W' row) (hr : ∀ r, row = some r → ∃ o : Obj, W.heap[r]? = some o ∧ o.isCells = false) : KeepInv w Z st W' := by
  obtain ⟨sv, hb, hR⟩ := h.out
  refine ⟨⟨sv, blk_own hb hg hr, ?_⟩, blk_own h.ptr hg hr, Nat.le_trans h.size hg.size, h.box⟩
  refine Kd.R_mono (Kd.R_grown (Kd.R_bound hR) hg (fun k hk e_ => ?_)) (fun _ hk => hk.1)
  obtain ⟨_, _, _, q, _, cells, hc⟩ := hk
  obtain ⟨o, ho, hcl⟩ := hr k e_.symm
  rw [hc] at ho
  cases ho
  cases hcl
theorem touch_others {W w1 : World} {g : Nat} {cs : Array Value} {t : TypeId} (hg : W.heap[g]? = some (.cells cs t (0, 0))) (ht : Touch (· = g) W w1) : KeepsOthers W w1 := ⟨ht.size, fun k o hk ho => by
  have hkl : k < W.heap.size := by
    rcases Nat.lt_or_ge k W.heap.size with h | h
    · exact h
    · rw [Array.getElem?_eq_none h] at hk; cases hk
  rw [ht.block k hkl (fun e => by (try dsimp only at e); rw [e, hg] at hk; cases hk; cases ho)]
  exact hk⟩
set_option maxRecDepth 100000 in
set_option maxHeartbeats 40000000 in
theorem keep_calls (A : Option Addr) (c : Nat) (xs : List (List Int)) (w : World) (hC : Kd.C (Kd.slice 5 (Kd.int .u8)) w A xs.length xs) (hc : xs.length ≤ c) (hO : ∀ x ∈ xs, Octets x ∧ x.length ≤ 140737488355328) (hlen : xs.length ≤ 1000000000) :
    Calls Try.prog 35 #[.slice A xs.length c] w fun e w' => ∃ v : Value, e = .returned v ∧ Kd.R (Kd.slice 5 (Kd.int .u8)) 22 w' w.heap.size (fun _ => True) v (keepL xs) ∧ Below w.heap.size w w' := by
  refine callsIn_wide (n := 5).1 ?_
  have hro : Fence.wide.round = none := rfl
  have hn1 : 1 ≤ 5 := by omega
  have h46 : Fence.wide.fn 46 := trivial
  have h58 : Fence.wide.fn 58 := trivial
  have h47 : Fence.wide.fn 47 := trivial
  have h48 : Fence.wide.fn 48 := trivial
  have h49 : Fence.wide.fn 49 := trivial
  refine callsIn_of_wp_marks Try.func35 rfl trivial ?_ hro
  simp only [Try.ntmps35, List.size_toArray, List.length_cons, List.length_nil, Nat.reduceAdd, Nat.reduceSub, Array.replicate_succ, Array.replicate_zero, List.push_toArray, List.append_toArray, List.nil_append, List.cons_append]
  gi_wp2_with (gi_at_call 46; (with_reducible refine (backR_in Fence.wide 4 h46 hro _ _ _ _).mono ?_); rintro e w1 ⟨rfl, rfl⟩)
  obtain ⟨W0, hW0⟩ : ∃ W0, ((w.alloc (Obj.cells #[Value.bool false, Value.bool false, Value.bool false, Value.bool false, Value.bool false, Value.bool false, Value.bool false, Value.bool false, Value.slice none 0 0] 71)).alloc (Obj.cells #[Value.pointer (some { block := w.heap.size, off := 0 })] 68)).alloc (Obj.cells #[Value.slice A xs.length c] 33) = W0 := ⟨_, rfl⟩
  rw [hW0]
  have hsz : W0.heap.size = w.heap.size + 3 := by rw [← hW0]; simp
  have hB0 : Below w.heap.size w W0 := by rw [← hW0]; exact below_alloc (below_alloc (below_alloc (Below.refl _ _) _) _) _
  have g1 : W0.heap[w.heap.size]? = some (.cells (sieveC (List.replicate 8 false) (.slice none 0 0)) 71 (0, 0)) := by rw [← hW0]; exact blk_alloc (blk_alloc (blk_new _ _) _) _
  have g2 : W0.heap[w.heap.size + 1]? = some (.cells #[.pointer (some ⟨w.heap.size, 0, none⟩)] 68 (0, 0)) := by
    rw [← hW0]
    have := blk_new (w.alloc (Obj.cells #[Value.bool false, Value.bool false, Value.bool false, Value.bool false, Value.bool false, Value.bool false, Value.bool false, Value.bool false, Value.slice none 0 0] 71)) (Obj.cells #[Value.pointer (some { block := w.heap.size, off := 0 })] 68)
    rw [World.size_alloc] at this
    exact blk_alloc this _
  have g3 : W0.heap[w.heap.size + 2]? = some (.cells #[.slice A xs.length c] 33 (0, 0)) := by
    rw [← hW0]
    have := blk_new ((w.alloc (Obj.cells #[Value.bool false, Value.bool false, Value.bool false, Value.bool false, Value.bool false, Value.bool false, Value.bool false, Value.bool false, Value.slice none 0 0] 71)).alloc (Obj.cells #[Value.pointer (some { block := w.heap.size, off := 0 })] 68)) (Obj.cells #[Value.slice A xs.length c] 33)
    simpa using this
  have hI0 : KeepInv w W0.heap.size (sieved ([] : List (BElem w xs))) W0 := ⟨⟨_, g1, Kd.R_nil _ _ _ _ _⟩, g2, Nat.le_refl _, by omega⟩
  clear hW0 g1 g2
  rw [show w.heap.size + 1 + 1 = w.heap.size + 2 from rfl]
  have hmix : Try.prog.follows .mixedOrders = true := by kernel_rfl
  refine wpIn_rangeFunc_ownG hro hn1 (gf := 58) (lb := #[.pointer (some ⟨w.heap.size + 2, 0, none⟩)]) rfl h58 (enters_of Try.func58 (by kernel_rfl) rfl)
    (encs := fun x : BElem w xs => #[Value.int .i64 (x.1.1 : Int), Value.slice x.1.2.1 x.row.length x.1.2.2]) (Kp := KeepsOld (w.heap.size + 2) w.heap.size) (S := fun ys => ys.map BElem.row = xs.reverse) (Sp := fun _ => True) (N := xs.length) (w0 := W0) ?seq ?kt ?kb (Below.refl _ _) (fun _ => rfl)
    (fun pre W => KeepInv w W0.heap.size (sieved pre) W ∧ Below w.heap.size w W)
    (fun _ _ _ => False)
    ?own (fun _ _ _ _ _ hs _ _ => hs) ⟨hI0, hB0⟩
    (fun x => { tmps := #[Value.slice A xs.length c, undef, Value.slice none 0 0, Value.pointer (some { block := w.heap.size + 1, off := 0 }), undef, Value.slice x.1.2.1 x.row.length x.1.2.2, Value.agg #[Value.bool false, Value.bool false, Value.bool false, Value.bool false, Value.bool false, Value.bool false, Value.bool false, Value.bool false, Value.slice none 0 0], Value.pointer (some { block := w.heap.size, off := 0 }), Value.slice A xs.length c, Value.func (Fn.func 58) #[] #[Value.pointer (some { block := w.heap.size + 2, off := 0 })], Value.int .i64 (x.1.1 : Int), Value.slice x.1.2.1 x.row.length x.1.2.2, undef, undef, undef, undef, undef, undef, undef, undef, undef, undef, undef, undef, undef, undef, undef, undef, undef, undef, undef, undef, undef, undef, undef, undef], defers := [] }) ?assign ?body ?done ?stop
  case seq =>
    intro l J Jx W hW hJ _ hY h0
    have f1 : W.heap[w.heap.size + 2]? = W0.heap[w.heap.size + 2]? := hW.block _ (by omega)
    exact backR1_in Fence.wide 4 h58 hro (by omega) l (w.heap.size + 2) w A c xs hC (by omega) J Jx hY W ((blk_cell (f1.trans g3) 0).trans rfl) (fun p v hp hv => by
      have h1 := World.cell?_of_block (w := w) (w' := W) (a := p) (by rw [hW.block _ (by omega), hB0.block _ hp])
      rw [h1]; exact hv) h0
  case kt => exact fun h k => h.trans k
  case kb =>
    intro W l o o' hl ho hcl hw
    exact KeepsOld.of_grown (grownBy_putObj' W l o') (fun r e => by cases e; exact ⟨o, ho, hcl⟩)
  case own =>
    exact OwnFrom.and (Own.from (fun s_ A' B' row hs hg hr => hs.grown hg hr) _) (ownFrom_below (Nat.le_refl _) (by omega))
  case assign =>
    intro l x W K hK
    gi_wp2
    exact hK
  case body =>
    rintro l pre x W ⟨hI, hB⟩ hN
    obtain ⟨sv, hsv, hR⟩ := hI.out
    obtain ⟨hks, hol⟩ := sieved_len pre
    have hxi := x.2.1
    have hcq : x.row.length ≤ x.1.2.2 := x.2.2.1
    have hCq : Kd.C (Kd.int .u8) W x.1.2.1 x.row.length x.row := Kd.C_below x.2.2.2 hB
    have hmq : x.row ∈ xs := by
      rw [BElem.row, List.getD_eq_getElem?_getD, List.getElem?_eq_getElem hxi, Option.getD_some]
      exact List.getElem_mem hxi
    obtain ⟨hOq, hlq⟩ := hO _ hmq
    have c1 : W.cell? ⟨w.heap.size + 1, 0, none⟩ = some (Value.pointer (some { block := w.heap.size, off := 0 })) := (blk_cell hI.ptr 0).trans rfl
    have hlt0 : w.heap.size < W.heap.size := by have := hI.size; have := hI.box; omega
    have hlt20 : w.heap.size + 1 < W.heap.size := by have := hI.size; have := hI.box; omega
    have hlt30 : w.heap.size + 2 < W.heap.size := by have := hI.size; have := hI.box; omega
    have hown0 : ∀ k, sv.ownBlock = some k → W0.heap.size ≤ k := fun k hk => hR.1 k hk
    have hne : some w.heap.size ≠ sv.ownBlock := fun e => by have := hown0 _ e.symm; have := hI.box; omega
    have hne2 : some (w.heap.size + 1) ≠ sv.ownBlock := fun e => by have := hown0 _ e.symm; have := hI.box; omega
    have hne3 : some (w.heap.size + 2) ≠ sv.ownBlock := fun e => by have := hown0 _ e.symm; have := hI.box; omega
    have hnx := sieved_step pre x
    have hks1 : (takeK (sieved pre).1 x.row).length = 8 := (takeK_len _ _).trans hks
    have HI := Lib.hid hI
    have HCQ := Lib.hid hCq
    have HOQ := Lib.hid hOq
    have HLQ := Lib.hid hlq
    clear hI hCq hOq
    cases htb : takeB (sieved pre).1 x.row
    · gi_wp2_with (gi_at_call 47; go_must ((with_reducible refine (CallsIn.inRound l (callsIn_wide.2 (take_calls W w.heap.size _ sv hks hsv x.1.2.1 x.1.2.2 x.row HCQ.out hcq HOQ.out HLQ.out))).mono ?_); rw [htb]; rintro e w1 ⟨rfl, h1, ht⟩))
      have hKO : KeepsOthers W w1 := touch_others (hsv) ht
      have hB1 : Below w.heap.size w w1 := ht.below hB (fun k hk => by rw [hk]; exact Nat.le_refl _)
      have hRn : (sieved (pre ++ [x])).2 = (sieved pre).2 := by rw [hnx]; simp [sieveF, htb]
      have hKn : (sieved (pre ++ [x])).1 = takeK (sieved pre).1 x.row := by rw [hnx]; rfl
      refine ⟨hKO.from _, ⟨fun v hv => ?_, fun p v hp hv => ?_⟩, ⟨⟨sv, by rw [hKn]; exact h1, by rw [hRn]; exact Kd.R_step hR (fun k hk hlt => ht.block k hlt (fun e => by (try dsimp only at e); have := HI.out.box; omega))⟩, ?_, Nat.le_trans HI.out.size ht.size, HI.out.box⟩, hB1⟩
      · rw [← hv]; exact World.cell?_of_block (a := ⟨w.heap.size + 2, 0, none⟩) (ht.block _ hlt30 (fun e => by (try dsimp only at e); omega))
      · rw [← hv]; exact World.cell?_of_block (a := p) (ht.block _ (by have := HI.out.size; have := HI.out.box; omega) (fun e => by (try dsimp only at e); omega))
      · exact (ht.block _ hlt20 (fun e => by (try dsimp only at e); omega)).trans HI.out.ptr
    · gi_wp2_with (gi_at_call 47; go_must ((with_reducible refine (CallsIn.inRound l (callsIn_wide.2 (take_calls W w.heap.size _ sv hks hsv x.1.2.1 x.1.2.2 x.row HCQ.out hcq HOQ.out HLQ.out))).mono ?_); rw [htb]; rintro e w1 ⟨rfl, h1, ht⟩; clear c1))
      have hKO : KeepsOthers W w1 := touch_others (hsv) ht
      have hB1 : Below w.heap.size w w1 := ht.below hB (fun k hk => by rw [hk]; exact Nat.le_refl _)
      have hCW : Kd.C (Kd.int .u8) w1.drew x.1.2.1 x.row.length x.row := Kd.C_drew (Kd.C_below x.2.2.2 hB1)
      have hptr := (ht.block _ hlt20 (fun e => by (try dsimp only at e); omega)).trans HI.out.ptr
      have c1 : w1.drew.cell? ⟨w.heap.size + 1, 0, none⟩ = some (Value.pointer (some { block := w.heap.size, off := 0 })) := (blk_cell hptr 0).trans rfl
      have c2 : w1.drew.cell? ⟨w.heap.size, 8, none⟩ = some sv := (blk_cell h1 8).trans (sieveC_row _ _ hks1)
      have hlt : w.heap.size < w1.heap.size := Nat.lt_of_lt_of_le hlt0 ht.size
      have hlt2 : w.heap.size + 1 < w1.heap.size := Nat.lt_of_lt_of_le hlt20 ht.size
      have hR1 : Kd.R (Kd.slice 5 (Kd.int .u8)) 22 w1 W0.heap.size (fun k => W0.heap.size ≤ k) sv (sieved pre).2 := Kd.R_step hR (fun k hk hlt => ht.block k hlt (fun e => by (try dsimp only at e); have := HI.out.box; omega))
      have hRd := Kd.R_drew hR1
      have hZW : W0.heap.size ≤ w1.drew.heap.size := Nat.le_trans HI.out.size ht.size
      have hrl : (sieved pre).2.length ≤ 1000000000000 := by omega
      have hfr : ∀ k, w1.drew.heap.size ≤ k → W0.heap.size ≤ k ∧ some k ≠ sv.ownBlock := fun k hk => ⟨Nat.le_trans hZW hk, fun e => by
        obtain ⟨_, inner, ho, _⟩ := hR1
        have := own_lt ho k e.symm
        exact absurd this (Nat.not_lt.2 hk)⟩
      refine wpIn_cut (fun _ w' => ∃ (v3 : Value) (w3 : World), w' = w3.setCell ⟨w.heap.size, 8, none⟩ v3 ∧ Kd.R (Kd.slice 5 (Kd.int .u8)) 22 w3 W0.heap.size (fun k => W0.heap.size ≤ k) v3 ((sieved pre).2 ++ [x.row]) ∧ BodyOut w w1 sv w3) ?_ ?_
      · refine wpIn_region_any hmix ?_
        (try (change wpAnyIn _ _ _ _ _ _ _ _ _ (World.drew _)))
        refine any_round (by kernel_rfl) _ _ _ _ ?_
        clear hsv hR hnx
        refine wpAnyIn_take (i := 5) (v := Value.slice x.1.2.1 x.row.length x.1.2.2) rfl rfl (by kernel_rfl) (by kernel_rfl) (by kernel_rfl) (fun _ _ _ h => h) ⟨Or.inl ⟨by rfl, ?_⟩, fun _ => rfl⟩ ?_
        · intro w_; go_simp; (try with_reducible rfl)
        (try simp only [Act.put, List.setIfInBounds_toArray, List.set_cons_zero, List.set_cons_succ])
        refine wpAnyIn_ready (rs := [0, 1, 6]) (by kernel_rfl) (by simp) ?_
        refine AllReadyIn.cons rfl (fun K hK => ?_) (AllReadyIn.cons rfl (fun K hK => ?_) (AllReadyIn.cons rfl (fun K hK => ?_) AllReadyIn.nil))
        · go_simp
          refine hK _ _ ?_
          clear hK K
          (try simp only [Act.put, List.setIfInBounds_toArray, List.set_cons_zero, List.set_cons_succ])
          refine wpAnyIn_ready (rs := [1, 6]) (by kernel_rfl) (by simp) ?_
          refine AllReadyIn.cons rfl (fun K hK => ?_) (AllReadyIn.cons rfl (fun K hK => ?_) AllReadyIn.nil)
          · go_simp
            refine hK _ _ ?_
            clear hK K
            (try simp only [Act.put, List.setIfInBounds_toArray, List.set_cons_zero, List.set_cons_succ])
            refine wpAnyIn_take (i := 2) (v := Value.pointer (some { block := w.heap.size, off := 0 })) rfl rfl (by kernel_rfl) (by kernel_rfl) (by kernel_rfl) (fun _ _ _ h => h) ⟨Or.inl ⟨by rfl, ?_⟩, fun _ => rfl⟩ ?_
            · intro w_; go_simp; (try with_reducible rfl)
            (try simp only [Act.put, List.setIfInBounds_toArray, List.set_cons_zero, List.set_cons_succ])
            refine wpAnyIn_take (i := 3) (v := Value.pointer (some { block := w.heap.size, off := 8 })) rfl rfl (by kernel_rfl) (by kernel_rfl) (by kernel_rfl) (fun _ _ _ h => h) ⟨Or.inl ⟨by rfl, ?_⟩, fun _ => rfl⟩ ?_
            · intro w_; go_simp; (try with_reducible rfl)
            (try simp only [Act.put, List.setIfInBounds_toArray, List.set_cons_zero, List.set_cons_succ])
            refine wpAnyIn_ready (rs := [4, 6]) (by kernel_rfl) (by simp) ?_
            refine AllReadyIn.cons rfl (fun K hK => ?_) (AllReadyIn.cons rfl (fun K hK => ?_) AllReadyIn.nil)
            · go_simp
              refine hK _ _ ?_
              clear hK K
              (try simp only [Act.put, List.setIfInBounds_toArray, List.set_cons_zero, List.set_cons_succ])
              refine wpAnyIn_ready (rs := [6]) (by kernel_rfl) (by simp) ?_
              refine AllReadyIn.cons rfl (fun K hK => ?_) AllReadyIn.nil
              go_simp
              refine ⟨trivial, ?_⟩
              refine (callsIn_wide.2 (cloneB_calls x.1.2.1 x.1.2.2 x.row _ hCW hcq (Nat.le_trans HLQ.out (by decide)))).mono ?_
              rintro e w2 ⟨v2, rfl, hR2, hb2⟩
              obtain ⟨A2, cap2, rfl⟩ := Kd.R_slice hR2
              dsimp only
              have c1 : w2.cell? ⟨w.heap.size + 1, 0, none⟩ = some (Value.pointer (some { block := w.heap.size, off := 0 })) := (hb2.cell (p := ⟨w.heap.size + 1, 0, none⟩) hlt2).trans c1
              have c2 : w2.cell? ⟨w.heap.size, 8, none⟩ = some sv := (hb2.cell (p := ⟨w.heap.size, 8, none⟩) hlt).trans c2
              have d1 : (w2.alloc (.cells #[.slice A2 x.row.length cap2] 22)).cell? ⟨w.heap.size + 1, 0, none⟩ = some (Value.pointer (some { block := w.heap.size, off := 0 })) := ((below_alloc (Below.refl _ w2) (.cells #[.slice A2 x.row.length cap2] 22)).cell (p := ⟨w.heap.size + 1, 0, none⟩) (Nat.lt_of_lt_of_le hlt2 hb2.size)).trans c1
              have d2 : (w2.alloc (.cells #[.slice A2 x.row.length cap2] 22)).cell? ⟨w.heap.size, 8, none⟩ = some sv := ((below_alloc (Below.refl _ w2) (.cells #[.slice A2 x.row.length cap2] 22)).cell (p := ⟨w.heap.size, 8, none⟩) (Nat.lt_of_lt_of_le hlt hb2.size)).trans c2
              refine hK _ _ ?_
              clear hK K
              (try simp only [Act.put, List.setIfInBounds_toArray, List.set_cons_zero, List.set_cons_succ])
              refine wpAnyIn_ready (rs := [7]) (by kernel_rfl) (by simp) ?_
              refine AllReadyIn.cons rfl (fun K hK => ?_) AllReadyIn.nil
              go_simp
              refine hK _ _ ?_
              clear hK K
              (try simp only [Act.put, List.setIfInBounds_toArray, List.set_cons_zero, List.set_cons_succ])
              refine wpAnyIn_ready (rs := [8]) (by kernel_rfl) (by simp) ?_
              refine AllReadyIn.cons rfl (fun K hK => ?_) AllReadyIn.nil
              obtain ⟨v3, w3, hrun, hR3, hg3⟩ := rows_push (Kd.R_below hRd hb2) (Kd.R_lower (Kd.R_mono (Kd.R_bound hR2) (fun k hk => hfr k hk.2.1)) hZW) (Nat.le_trans hZW hb2.size) hrl
              obtain ⟨A3, n3, cap3, rfl⟩ : ∃ A3 n3 cap3, v3 = .slice A3 n3 cap3 := by obtain ⟨A3, cap3, h_⟩ := Kd.R_slice hR3; exact ⟨A3, _, cap3, h_⟩
              have hbo := body_out hB1 hb2 hg3 hown0 (by omega)
              have g4 : w3.heap[w.heap.size]? = some (.cells (sieveC (takeK (sieved pre).1 x.row) sv) 71 (0, 0)) := (hbo.same _ hlt hne).trans h1
              have c4 : w3.cell? ⟨w.heap.size, 8, none⟩ = some sv := (blk_cell g4 8).trans (sieveC_row _ _ hks1)
              have f4 := blk_frozen g4 8
              have e1 : w3.cell? ⟨w.heap.size + 1, 0, none⟩ = some (Value.pointer (some { block := w.heap.size, off := 0 })) := (blk_cell ((hbo.same _ hlt2 hne2).trans hptr) 0).trans rfl
              have HBO := Lib.hid hbo
              have HR3 := Lib.hid hR3
              clear hbo hR3 g4 hg3 c1 c2 d1 d2 hR2
              rw [if_pos (by rfl)]
              refine stepIn_append (.tmp 19) (.tmp 22) rfl sv (.slice (some ⟨w2.heap.size, 0, none⟩) 1 1) _ rfl rfl hrun ?_
              clear hrun
              refine hK _ _ ?_
              clear hK K
              (try simp only [Act.put, List.setIfInBounds_toArray, List.set_cons_zero, List.set_cons_succ])
              refine wpAnyIn_ready (rs := [9]) (by kernel_rfl) (by simp) ?_
              refine AllReadyIn.cons rfl (fun K hK => ?_) AllReadyIn.nil
              go_simp
              refine hK _ _ ?_
              clear hK K
              (try simp only [Act.put, List.setIfInBounds_toArray, List.set_cons_zero, List.set_cons_succ])
              refine wpAnyIn_ready (rs := [10]) (by kernel_rfl) (by simp) ?_
              refine AllReadyIn.cons rfl (fun K hK => ?_) AllReadyIn.nil
              go_simp
              refine hK _ _ ?_
              clear hK K
              (try simp only [Act.put, List.setIfInBounds_toArray, List.set_cons_zero, List.set_cons_succ])
              refine wpAnyIn_ready (rs := [11]) (by kernel_rfl) (by simp) ?_
              refine AllReadyIn.cons rfl (fun K hK => ?_) AllReadyIn.nil
              go_simp
              refine hK _ _ ?_
              clear hK K
              (try simp only [Act.put, List.setIfInBounds_toArray, List.set_cons_zero, List.set_cons_succ])
              refine wpAnyIn_done (by kernel_rfl) ?_ _
              exact ⟨_, w3, rfl, HR3.out, HBO.out⟩
            · go_simp
              refine ⟨trivial, ?_⟩
              refine (callsIn_wide.2 (cloneB_calls x.1.2.1 x.1.2.2 x.row _ hCW hcq (Nat.le_trans HLQ.out (by decide)))).mono ?_
              rintro e w2 ⟨v2, rfl, hR2, hb2⟩
              obtain ⟨A2, cap2, rfl⟩ := Kd.R_slice hR2
              dsimp only
              have c1 : w2.cell? ⟨w.heap.size + 1, 0, none⟩ = some (Value.pointer (some { block := w.heap.size, off := 0 })) := (hb2.cell (p := ⟨w.heap.size + 1, 0, none⟩) hlt2).trans c1
              have c2 : w2.cell? ⟨w.heap.size, 8, none⟩ = some sv := (hb2.cell (p := ⟨w.heap.size, 8, none⟩) hlt).trans c2
              have d1 : (w2.alloc (.cells #[.slice A2 x.row.length cap2] 22)).cell? ⟨w.heap.size + 1, 0, none⟩ = some (Value.pointer (some { block := w.heap.size, off := 0 })) := ((below_alloc (Below.refl _ w2) (.cells #[.slice A2 x.row.length cap2] 22)).cell (p := ⟨w.heap.size + 1, 0, none⟩) (Nat.lt_of_lt_of_le hlt2 hb2.size)).trans c1
              have d2 : (w2.alloc (.cells #[.slice A2 x.row.length cap2] 22)).cell? ⟨w.heap.size, 8, none⟩ = some sv := ((below_alloc (Below.refl _ w2) (.cells #[.slice A2 x.row.length cap2] 22)).cell (p := ⟨w.heap.size, 8, none⟩) (Nat.lt_of_lt_of_le hlt hb2.size)).trans c2
              refine hK _ _ ?_
              clear hK K
              (try simp only [Act.put, List.setIfInBounds_toArray, List.set_cons_zero, List.set_cons_succ])
              refine wpAnyIn_ready (rs := [4, 7]) (by kernel_rfl) (by simp) ?_
              refine AllReadyIn.cons rfl (fun K hK => ?_) (AllReadyIn.cons rfl (fun K hK => ?_) AllReadyIn.nil)
              · go_simp
                refine hK _ _ ?_
                clear hK K
                (try simp only [Act.put, List.setIfInBounds_toArray, List.set_cons_zero, List.set_cons_succ])
                refine wpAnyIn_ready (rs := [7]) (by kernel_rfl) (by simp) ?_
                refine AllReadyIn.cons rfl (fun K hK => ?_) AllReadyIn.nil
                go_simp
                refine hK _ _ ?_
                clear hK K
                (try simp only [Act.put, List.setIfInBounds_toArray, List.set_cons_zero, List.set_cons_succ])
                refine wpAnyIn_ready (rs := [8]) (by kernel_rfl) (by simp) ?_
                refine AllReadyIn.cons rfl (fun K hK => ?_) AllReadyIn.nil
                obtain ⟨v3, w3, hrun, hR3, hg3⟩ := rows_push (Kd.R_below hRd hb2) (Kd.R_lower (Kd.R_mono (Kd.R_bound hR2) (fun k hk => hfr k hk.2.1)) hZW) (Nat.le_trans hZW hb2.size) hrl
                obtain ⟨A3, n3, cap3, rfl⟩ : ∃ A3 n3 cap3, v3 = .slice A3 n3 cap3 := by obtain ⟨A3, cap3, h_⟩ := Kd.R_slice hR3; exact ⟨A3, _, cap3, h_⟩
                have hbo := body_out hB1 hb2 hg3 hown0 (by omega)
                have g4 : w3.heap[w.heap.size]? = some (.cells (sieveC (takeK (sieved pre).1 x.row) sv) 71 (0, 0)) := (hbo.same _ hlt hne).trans h1
                have c4 : w3.cell? ⟨w.heap.size, 8, none⟩ = some sv := (blk_cell g4 8).trans (sieveC_row _ _ hks1)
                have f4 := blk_frozen g4 8
                have e1 : w3.cell? ⟨w.heap.size + 1, 0, none⟩ = some (Value.pointer (some { block := w.heap.size, off := 0 })) := (blk_cell ((hbo.same _ hlt2 hne2).trans hptr) 0).trans rfl
                have HBO := Lib.hid hbo
                have HR3 := Lib.hid hR3
                clear hbo hR3 g4 hg3 c1 c2 d1 d2 hR2
                rw [if_pos (by rfl)]
                refine stepIn_append (.tmp 19) (.tmp 22) rfl sv (.slice (some ⟨w2.heap.size, 0, none⟩) 1 1) _ rfl rfl hrun ?_
                clear hrun
                refine hK _ _ ?_
                clear hK K
                (try simp only [Act.put, List.setIfInBounds_toArray, List.set_cons_zero, List.set_cons_succ])
                refine wpAnyIn_ready (rs := [9]) (by kernel_rfl) (by simp) ?_
                refine AllReadyIn.cons rfl (fun K hK => ?_) AllReadyIn.nil
                go_simp
                refine hK _ _ ?_
                clear hK K
                (try simp only [Act.put, List.setIfInBounds_toArray, List.set_cons_zero, List.set_cons_succ])
                refine wpAnyIn_ready (rs := [10]) (by kernel_rfl) (by simp) ?_
                refine AllReadyIn.cons rfl (fun K hK => ?_) AllReadyIn.nil
                go_simp
                refine hK _ _ ?_
                clear hK K
                (try simp only [Act.put, List.setIfInBounds_toArray, List.set_cons_zero, List.set_cons_succ])
                refine wpAnyIn_ready (rs := [11]) (by kernel_rfl) (by simp) ?_
                refine AllReadyIn.cons rfl (fun K hK => ?_) AllReadyIn.nil
                go_simp
                refine hK _ _ ?_
                clear hK K
                (try simp only [Act.put, List.setIfInBounds_toArray, List.set_cons_zero, List.set_cons_succ])
                refine wpAnyIn_done (by kernel_rfl) ?_ _
                exact ⟨_, w3, rfl, HR3.out, HBO.out⟩
              · go_simp
                refine hK _ _ ?_
                clear hK K
                (try simp only [Act.put, List.setIfInBounds_toArray, List.set_cons_zero, List.set_cons_succ])
                refine wpAnyIn_ready (rs := [4]) (by kernel_rfl) (by simp) ?_
                refine AllReadyIn.cons rfl (fun K hK => ?_) AllReadyIn.nil
                go_simp
                refine hK _ _ ?_
                clear hK K
                (try simp only [Act.put, List.setIfInBounds_toArray, List.set_cons_zero, List.set_cons_succ])
                refine wpAnyIn_ready (rs := [8]) (by kernel_rfl) (by simp) ?_
                refine AllReadyIn.cons rfl (fun K hK => ?_) AllReadyIn.nil
                obtain ⟨v3, w3, hrun, hR3, hg3⟩ := rows_push (Kd.R_below hRd hb2) (Kd.R_lower (Kd.R_mono (Kd.R_bound hR2) (fun k hk => hfr k hk.2.1)) hZW) (Nat.le_trans hZW hb2.size) hrl
                obtain ⟨A3, n3, cap3, rfl⟩ : ∃ A3 n3 cap3, v3 = .slice A3 n3 cap3 := by obtain ⟨A3, cap3, h_⟩ := Kd.R_slice hR3; exact ⟨A3, _, cap3, h_⟩
                have hbo := body_out hB1 hb2 hg3 hown0 (by omega)
                have g4 : w3.heap[w.heap.size]? = some (.cells (sieveC (takeK (sieved pre).1 x.row) sv) 71 (0, 0)) := (hbo.same _ hlt hne).trans h1
                have c4 : w3.cell? ⟨w.heap.size, 8, none⟩ = some sv := (blk_cell g4 8).trans (sieveC_row _ _ hks1)
                have f4 := blk_frozen g4 8
                have e1 : w3.cell? ⟨w.heap.size + 1, 0, none⟩ = some (Value.pointer (some { block := w.heap.size, off := 0 })) := (blk_cell ((hbo.same _ hlt2 hne2).trans hptr) 0).trans rfl
                have HBO := Lib.hid hbo
                have HR3 := Lib.hid hR3
                clear hbo hR3 g4 hg3 c1 c2 d1 d2 hR2
                rw [if_pos (by rfl)]
                refine stepIn_append (.tmp 19) (.tmp 22) rfl sv (.slice (some ⟨w2.heap.size, 0, none⟩) 1 1) _ rfl rfl hrun ?_
                clear hrun
                refine hK _ _ ?_
                clear hK K
                (try simp only [Act.put, List.setIfInBounds_toArray, List.set_cons_zero, List.set_cons_succ])
                refine wpAnyIn_ready (rs := [9]) (by kernel_rfl) (by simp) ?_
                refine AllReadyIn.cons rfl (fun K hK => ?_) AllReadyIn.nil
                go_simp
                refine hK _ _ ?_
                clear hK K
                (try simp only [Act.put, List.setIfInBounds_toArray, List.set_cons_zero, List.set_cons_succ])
                refine wpAnyIn_ready (rs := [10]) (by kernel_rfl) (by simp) ?_
                refine AllReadyIn.cons rfl (fun K hK => ?_) AllReadyIn.nil
                go_simp
                refine hK _ _ ?_
                clear hK K
                (try simp only [Act.put, List.setIfInBounds_toArray, List.set_cons_zero, List.set_cons_succ])
                refine wpAnyIn_ready (rs := [11]) (by kernel_rfl) (by simp) ?_
                refine AllReadyIn.cons rfl (fun K hK => ?_) AllReadyIn.nil
                go_simp
                refine hK _ _ ?_
                clear hK K
                (try simp only [Act.put, List.setIfInBounds_toArray, List.set_cons_zero, List.set_cons_succ])
                refine wpAnyIn_done (by kernel_rfl) ?_ _
                exact ⟨_, w3, rfl, HR3.out, HBO.out⟩
          · go_simp
            refine ⟨trivial, ?_⟩
            refine (callsIn_wide.2 (cloneB_calls x.1.2.1 x.1.2.2 x.row _ hCW hcq (Nat.le_trans HLQ.out (by decide)))).mono ?_
            rintro e w2 ⟨v2, rfl, hR2, hb2⟩
            obtain ⟨A2, cap2, rfl⟩ := Kd.R_slice hR2
            dsimp only
            have c1 : w2.cell? ⟨w.heap.size + 1, 0, none⟩ = some (Value.pointer (some { block := w.heap.size, off := 0 })) := (hb2.cell (p := ⟨w.heap.size + 1, 0, none⟩) hlt2).trans c1
            have c2 : w2.cell? ⟨w.heap.size, 8, none⟩ = some sv := (hb2.cell (p := ⟨w.heap.size, 8, none⟩) hlt).trans c2
            have d1 : (w2.alloc (.cells #[.slice A2 x.row.length cap2] 22)).cell? ⟨w.heap.size + 1, 0, none⟩ = some (Value.pointer (some { block := w.heap.size, off := 0 })) := ((below_alloc (Below.refl _ w2) (.cells #[.slice A2 x.row.length cap2] 22)).cell (p := ⟨w.heap.size + 1, 0, none⟩) (Nat.lt_of_lt_of_le hlt2 hb2.size)).trans c1
            have d2 : (w2.alloc (.cells #[.slice A2 x.row.length cap2] 22)).cell? ⟨w.heap.size, 8, none⟩ = some sv := ((below_alloc (Below.refl _ w2) (.cells #[.slice A2 x.row.length cap2] 22)).cell (p := ⟨w.heap.size, 8, none⟩) (Nat.lt_of_lt_of_le hlt hb2.size)).trans c2
            refine hK _ _ ?_
            clear hK K
            (try simp only [Act.put, List.setIfInBounds_toArray, List.set_cons_zero, List.set_cons_succ])
            refine wpAnyIn_ready (rs := [1, 7]) (by kernel_rfl) (by simp) ?_
            refine AllReadyIn.cons rfl (fun K hK => ?_) (AllReadyIn.cons rfl (fun K hK => ?_) AllReadyIn.nil)
            · go_simp
              refine hK _ _ ?_
              clear hK K
              (try simp only [Act.put, List.setIfInBounds_toArray, List.set_cons_zero, List.set_cons_succ])
              refine wpAnyIn_take (i := 2) (v := Value.pointer (some { block := w.heap.size, off := 0 })) rfl rfl (by kernel_rfl) (by kernel_rfl) (by kernel_rfl) (fun _ _ _ h => h) ⟨Or.inl ⟨by rfl, ?_⟩, fun _ => rfl⟩ ?_
              · intro w_; go_simp; (try with_reducible rfl)
              (try simp only [Act.put, List.setIfInBounds_toArray, List.set_cons_zero, List.set_cons_succ])
              refine wpAnyIn_take (i := 3) (v := Value.pointer (some { block := w.heap.size, off := 8 })) rfl rfl (by kernel_rfl) (by kernel_rfl) (by kernel_rfl) (fun _ _ _ h => h) ⟨Or.inl ⟨by rfl, ?_⟩, fun _ => rfl⟩ ?_
              · intro w_; go_simp; (try with_reducible rfl)
              (try simp only [Act.put, List.setIfInBounds_toArray, List.set_cons_zero, List.set_cons_succ])
              refine wpAnyIn_ready (rs := [4, 7]) (by kernel_rfl) (by simp) ?_
              refine AllReadyIn.cons rfl (fun K hK => ?_) (AllReadyIn.cons rfl (fun K hK => ?_) AllReadyIn.nil)
              · go_simp
                refine hK _ _ ?_
                clear hK K
                (try simp only [Act.put, List.setIfInBounds_toArray, List.set_cons_zero, List.set_cons_succ])
                refine wpAnyIn_ready (rs := [7]) (by kernel_rfl) (by simp) ?_
                refine AllReadyIn.cons rfl (fun K hK => ?_) AllReadyIn.nil
                go_simp
                refine hK _ _ ?_
                clear hK K
                (try simp only [Act.put, List.setIfInBounds_toArray, List.set_cons_zero, List.set_cons_succ])
                refine wpAnyIn_ready (rs := [8]) (by kernel_rfl) (by simp) ?_
                refine AllReadyIn.cons rfl (fun K hK => ?_) AllReadyIn.nil
                obtain ⟨v3, w3, hrun, hR3, hg3⟩ := rows_push (Kd.R_below hRd hb2) (Kd.R_lower (Kd.R_mono (Kd.R_bound hR2) (fun k hk => hfr k hk.2.1)) hZW) (Nat.le_trans hZW hb2.size) hrl
                obtain ⟨A3, n3, cap3, rfl⟩ : ∃ A3 n3 cap3, v3 = .slice A3 n3 cap3 := by obtain ⟨A3, cap3, h_⟩ := Kd.R_slice hR3; exact ⟨A3, _, cap3, h_⟩
                have hbo := body_out hB1 hb2 hg3 hown0 (by omega)
                have g4 : w3.heap[w.heap.size]? = some (.cells (sieveC (takeK (sieved pre).1 x.row) sv) 71 (0, 0)) := (hbo.same _ hlt hne).trans h1
                have c4 : w3.cell? ⟨w.heap.size, 8, none⟩ = some sv := (blk_cell g4 8).trans (sieveC_row _ _ hks1)
                have f4 := blk_frozen g4 8
                have e1 : w3.cell? ⟨w.heap.size + 1, 0, none⟩ = some (Value.pointer (some { block := w.heap.size, off := 0 })) := (blk_cell ((hbo.same _ hlt2 hne2).trans hptr) 0).trans rfl
                have HBO := Lib.hid hbo
                have HR3 := Lib.hid hR3
                clear hbo hR3 g4 hg3 c1 c2 d1 d2 hR2
                rw [if_pos (by rfl)]
                refine stepIn_append (.tmp 19) (.tmp 22) rfl sv (.slice (some ⟨w2.heap.size, 0, none⟩) 1 1) _ rfl rfl hrun ?_
                clear hrun
                refine hK _ _ ?_
                clear hK K
                (try simp only [Act.put, List.setIfInBounds_toArray, List.set_cons_zero, List.set_cons_succ])
                refine wpAnyIn_ready (rs := [9]) (by kernel_rfl) (by simp) ?_
                refine AllReadyIn.cons rfl (fun K hK => ?_) AllReadyIn.nil
                go_simp
                refine hK _ _ ?_
                clear hK K
                (try simp only [Act.put, List.setIfInBounds_toArray, List.set_cons_zero, List.set_cons_succ])
                refine wpAnyIn_ready (rs := [10]) (by kernel_rfl) (by simp) ?_
                refine AllReadyIn.cons rfl (fun K hK => ?_) AllReadyIn.nil
                go_simp
                refine hK _ _ ?_
                clear hK K
                (try simp only [Act.put, List.setIfInBounds_toArray, List.set_cons_zero, List.set_cons_succ])
                refine wpAnyIn_ready (rs := [11]) (by kernel_rfl) (by simp) ?_
                refine AllReadyIn.cons rfl (fun K hK => ?_) AllReadyIn.nil
                go_simp
                refine hK _ _ ?_
                clear hK K
                (try simp only [Act.put, List.setIfInBounds_toArray, List.set_cons_zero, List.set_cons_succ])
                refine wpAnyIn_done (by kernel_rfl) ?_ _
                exact ⟨_, w3, rfl, HR3.out, HBO.out⟩
              · go_simp
                refine hK _ _ ?_
                clear hK K
                (try simp only [Act.put, List.setIfInBounds_toArray, List.set_cons_zero, List.set_cons_succ])
                refine wpAnyIn_ready (rs := [4]) (by kernel_rfl) (by simp) ?_
                refine AllReadyIn.cons rfl (fun K hK => ?_) AllReadyIn.nil
                go_simp
                refine hK _ _ ?_
                clear hK K
                (try simp only [Act.put, List.setIfInBounds_toArray, List.set_cons_zero, List.set_cons_succ])
                refine wpAnyIn_ready (rs := [8]) (by kernel_rfl) (by simp) ?_
                refine AllReadyIn.cons rfl (fun K hK => ?_) AllReadyIn.nil
                obtain ⟨v3, w3, hrun, hR3, hg3⟩ := rows_push (Kd.R_below hRd hb2) (Kd.R_lower (Kd.R_mono (Kd.R_bound hR2) (fun k hk => hfr k hk.2.1)) hZW) (Nat.le_trans hZW hb2.size) hrl
                obtain ⟨A3, n3, cap3, rfl⟩ : ∃ A3 n3 cap3, v3 = .slice A3 n3 cap3 := by obtain ⟨A3, cap3, h_⟩ := Kd.R_slice hR3; exact ⟨A3, _, cap3, h_⟩
                have hbo := body_out hB1 hb2 hg3 hown0 (by omega)
                have g4 : w3.heap[w.heap.size]? = some (.cells (sieveC (takeK (sieved pre).1 x.row) sv) 71 (0, 0)) := (hbo.same _ hlt hne).trans h1
                have c4 : w3.cell? ⟨w.heap.size, 8, none⟩ = some sv := (blk_cell g4 8).trans (sieveC_row _ _ hks1)
                have f4 := blk_frozen g4 8
                have e1 : w3.cell? ⟨w.heap.size + 1, 0, none⟩ = some (Value.pointer (some { block := w.heap.size, off := 0 })) := (blk_cell ((hbo.same _ hlt2 hne2).trans hptr) 0).trans rfl
                have HBO := Lib.hid hbo
                have HR3 := Lib.hid hR3
                clear hbo hR3 g4 hg3 c1 c2 d1 d2 hR2
                rw [if_pos (by rfl)]
                refine stepIn_append (.tmp 19) (.tmp 22) rfl sv (.slice (some ⟨w2.heap.size, 0, none⟩) 1 1) _ rfl rfl hrun ?_
                clear hrun
                refine hK _ _ ?_
                clear hK K
                (try simp only [Act.put, List.setIfInBounds_toArray, List.set_cons_zero, List.set_cons_succ])
                refine wpAnyIn_ready (rs := [9]) (by kernel_rfl) (by simp) ?_
                refine AllReadyIn.cons rfl (fun K hK => ?_) AllReadyIn.nil
                go_simp
                refine hK _ _ ?_
                clear hK K
                (try simp only [Act.put, List.setIfInBounds_toArray, List.set_cons_zero, List.set_cons_succ])
                refine wpAnyIn_ready (rs := [10]) (by kernel_rfl) (by simp) ?_
                refine AllReadyIn.cons rfl (fun K hK => ?_) AllReadyIn.nil
                go_simp
                refine hK _ _ ?_
                clear hK K
                (try simp only [Act.put, List.setIfInBounds_toArray, List.set_cons_zero, List.set_cons_succ])
                refine wpAnyIn_ready (rs := [11]) (by kernel_rfl) (by simp) ?_
                refine AllReadyIn.cons rfl (fun K hK => ?_) AllReadyIn.nil
                go_simp
                refine hK _ _ ?_
                clear hK K
                (try simp only [Act.put, List.setIfInBounds_toArray, List.set_cons_zero, List.set_cons_succ])
                refine wpAnyIn_done (by kernel_rfl) ?_ _
                exact ⟨_, w3, rfl, HR3.out, HBO.out⟩
            · go_simp
              refine hK _ _ ?_
              clear hK K
              (try simp only [Act.put, List.setIfInBounds_toArray, List.set_cons_zero, List.set_cons_succ])
              refine wpAnyIn_ready (rs := [1]) (by kernel_rfl) (by simp) ?_
              refine AllReadyIn.cons rfl (fun K hK => ?_) AllReadyIn.nil
              go_simp
              refine hK _ _ ?_
              clear hK K
              (try simp only [Act.put, List.setIfInBounds_toArray, List.set_cons_zero, List.set_cons_succ])
              refine wpAnyIn_take (i := 2) (v := Value.pointer (some { block := w.heap.size, off := 0 })) rfl rfl (by kernel_rfl) (by kernel_rfl) (by kernel_rfl) (fun _ _ _ h => h) ⟨Or.inl ⟨by rfl, ?_⟩, fun _ => rfl⟩ ?_
              · intro w_; go_simp; (try with_reducible rfl)
              (try simp only [Act.put, List.setIfInBounds_toArray, List.set_cons_zero, List.set_cons_succ])
              refine wpAnyIn_take (i := 3) (v := Value.pointer (some { block := w.heap.size, off := 8 })) rfl rfl (by kernel_rfl) (by kernel_rfl) (by kernel_rfl) (fun _ _ _ h => h) ⟨Or.inl ⟨by rfl, ?_⟩, fun _ => rfl⟩ ?_
              · intro w_; go_simp; (try with_reducible rfl)
              (try simp only [Act.put, List.setIfInBounds_toArray, List.set_cons_zero, List.set_cons_succ])
              refine wpAnyIn_ready (rs := [4]) (by kernel_rfl) (by simp) ?_
              refine AllReadyIn.cons rfl (fun K hK => ?_) AllReadyIn.nil
              go_simp
              refine hK _ _ ?_
              clear hK K
              (try simp only [Act.put, List.setIfInBounds_toArray, List.set_cons_zero, List.set_cons_succ])
              refine wpAnyIn_ready (rs := [8]) (by kernel_rfl) (by simp) ?_
              refine AllReadyIn.cons rfl (fun K hK => ?_) AllReadyIn.nil
              obtain ⟨v3, w3, hrun, hR3, hg3⟩ := rows_push (Kd.R_below hRd hb2) (Kd.R_lower (Kd.R_mono (Kd.R_bound hR2) (fun k hk => hfr k hk.2.1)) hZW) (Nat.le_trans hZW hb2.size) hrl
              obtain ⟨A3, n3, cap3, rfl⟩ : ∃ A3 n3 cap3, v3 = .slice A3 n3 cap3 := by obtain ⟨A3, cap3, h_⟩ := Kd.R_slice hR3; exact ⟨A3, _, cap3, h_⟩
              have hbo := body_out hB1 hb2 hg3 hown0 (by omega)
              have g4 : w3.heap[w.heap.size]? = some (.cells (sieveC (takeK (sieved pre).1 x.row) sv) 71 (0, 0)) := (hbo.same _ hlt hne).trans h1
              have c4 : w3.cell? ⟨w.heap.size, 8, none⟩ = some sv := (blk_cell g4 8).trans (sieveC_row _ _ hks1)
              have f4 := blk_frozen g4 8
              have e1 : w3.cell? ⟨w.heap.size + 1, 0, none⟩ = some (Value.pointer (some { block := w.heap.size, off := 0 })) := (blk_cell ((hbo.same _ hlt2 hne2).trans hptr) 0).trans rfl
              have HBO := Lib.hid hbo
              have HR3 := Lib.hid hR3
              clear hbo hR3 g4 hg3 c1 c2 d1 d2 hR2
              rw [if_pos (by rfl)]
              refine stepIn_append (.tmp 19) (.tmp 22) rfl sv (.slice (some ⟨w2.heap.size, 0, none⟩) 1 1) _ rfl rfl hrun ?_
              clear hrun
              refine hK _ _ ?_
              clear hK K
              (try simp only [Act.put, List.setIfInBounds_toArray, List.set_cons_zero, List.set_cons_succ])
              refine wpAnyIn_ready (rs := [9]) (by kernel_rfl) (by simp) ?_
              refine AllReadyIn.cons rfl (fun K hK => ?_) AllReadyIn.nil
              go_simp
              refine hK _ _ ?_
              clear hK K
              (try simp only [Act.put, List.setIfInBounds_toArray, List.set_cons_zero, List.set_cons_succ])
              refine wpAnyIn_ready (rs := [10]) (by kernel_rfl) (by simp) ?_
              refine AllReadyIn.cons rfl (fun K hK => ?_) AllReadyIn.nil
              go_simp
              refine hK _ _ ?_
              clear hK K
              (try simp only [Act.put, List.setIfInBounds_toArray, List.set_cons_zero, List.set_cons_succ])
              refine wpAnyIn_ready (rs := [11]) (by kernel_rfl) (by simp) ?_
              refine AllReadyIn.cons rfl (fun K hK => ?_) AllReadyIn.nil
              go_simp
              refine hK _ _ ?_
              clear hK K
              (try simp only [Act.put, List.setIfInBounds_toArray, List.set_cons_zero, List.set_cons_succ])
              refine wpAnyIn_done (by kernel_rfl) ?_ _
              exact ⟨_, w3, rfl, HR3.out, HBO.out⟩
        · go_simp
          refine hK _ _ ?_
          clear hK K
          (try simp only [Act.put, List.setIfInBounds_toArray, List.set_cons_zero, List.set_cons_succ])
          refine wpAnyIn_take (i := 2) (v := Value.pointer (some { block := w.heap.size, off := 0 })) rfl rfl (by kernel_rfl) (by kernel_rfl) (by kernel_rfl) (fun _ _ _ h => h) ⟨Or.inl ⟨by rfl, ?_⟩, fun _ => rfl⟩ ?_
          · intro w_; go_simp; (try with_reducible rfl)
          (try simp only [Act.put, List.setIfInBounds_toArray, List.set_cons_zero, List.set_cons_succ])
          refine wpAnyIn_take (i := 3) (v := Value.pointer (some { block := w.heap.size, off := 8 })) rfl rfl (by kernel_rfl) (by kernel_rfl) (by kernel_rfl) (fun _ _ _ h => h) ⟨Or.inl ⟨by rfl, ?_⟩, fun _ => rfl⟩ ?_
          · intro w_; go_simp; (try with_reducible rfl)
          (try simp only [Act.put, List.setIfInBounds_toArray, List.set_cons_zero, List.set_cons_succ])
          refine wpAnyIn_ready (rs := [0, 4, 6]) (by kernel_rfl) (by simp) ?_
          refine AllReadyIn.cons rfl (fun K hK => ?_) (AllReadyIn.cons rfl (fun K hK => ?_) (AllReadyIn.cons rfl (fun K hK => ?_) AllReadyIn.nil))
          · go_simp
            refine hK _ _ ?_
            clear hK K
            (try simp only [Act.put, List.setIfInBounds_toArray, List.set_cons_zero, List.set_cons_succ])
            refine wpAnyIn_ready (rs := [4, 6]) (by kernel_rfl) (by simp) ?_
            refine AllReadyIn.cons rfl (fun K hK => ?_) (AllReadyIn.cons rfl (fun K hK => ?_) AllReadyIn.nil)
            · go_simp
              refine hK _ _ ?_
              clear hK K
              (try simp only [Act.put, List.setIfInBounds_toArray, List.set_cons_zero, List.set_cons_succ])
              refine wpAnyIn_ready (rs := [6]) (by kernel_rfl) (by simp) ?_
              refine AllReadyIn.cons rfl (fun K hK => ?_) AllReadyIn.nil
              go_simp
              refine ⟨trivial, ?_⟩
              refine (callsIn_wide.2 (cloneB_calls x.1.2.1 x.1.2.2 x.row _ hCW hcq (Nat.le_trans HLQ.out (by decide)))).mono ?_
              rintro e w2 ⟨v2, rfl, hR2, hb2⟩
              obtain ⟨A2, cap2, rfl⟩ := Kd.R_slice hR2
              dsimp only
              have c1 : w2.cell? ⟨w.heap.size + 1, 0, none⟩ = some (Value.pointer (some { block := w.heap.size, off := 0 })) := (hb2.cell (p := ⟨w.heap.size + 1, 0, none⟩) hlt2).trans c1
              have c2 : w2.cell? ⟨w.heap.size, 8, none⟩ = some sv := (hb2.cell (p := ⟨w.heap.size, 8, none⟩) hlt).trans c2
              have d1 : (w2.alloc (.cells #[.slice A2 x.row.length cap2] 22)).cell? ⟨w.heap.size + 1, 0, none⟩ = some (Value.pointer (some { block := w.heap.size, off := 0 })) := ((below_alloc (Below.refl _ w2) (.cells #[.slice A2 x.row.length cap2] 22)).cell (p := ⟨w.heap.size + 1, 0, none⟩) (Nat.lt_of_lt_of_le hlt2 hb2.size)).trans c1
              have d2 : (w2.alloc (.cells #[.slice A2 x.row.length cap2] 22)).cell? ⟨w.heap.size, 8, none⟩ = some sv := ((below_alloc (Below.refl _ w2) (.cells #[.slice A2 x.row.length cap2] 22)).cell (p := ⟨w.heap.size, 8, none⟩) (Nat.lt_of_lt_of_le hlt hb2.size)).trans c2
              refine hK _ _ ?_
              clear hK K
              (try simp only [Act.put, List.setIfInBounds_toArray, List.set_cons_zero, List.set_cons_succ])
              refine wpAnyIn_ready (rs := [7]) (by kernel_rfl) (by simp) ?_
              refine AllReadyIn.cons rfl (fun K hK => ?_) AllReadyIn.nil
              go_simp
              refine hK _ _ ?_
              clear hK K
              (try simp only [Act.put, List.setIfInBounds_toArray, List.set_cons_zero, List.set_cons_succ])
              refine wpAnyIn_ready (rs := [8]) (by kernel_rfl) (by simp) ?_
              refine AllReadyIn.cons rfl (fun K hK => ?_) AllReadyIn.nil
              obtain ⟨v3, w3, hrun, hR3, hg3⟩ := rows_push (Kd.R_below hRd hb2) (Kd.R_lower (Kd.R_mono (Kd.R_bound hR2) (fun k hk => hfr k hk.2.1)) hZW) (Nat.le_trans hZW hb2.size) hrl
              obtain ⟨A3, n3, cap3, rfl⟩ : ∃ A3 n3 cap3, v3 = .slice A3 n3 cap3 := by obtain ⟨A3, cap3, h_⟩ := Kd.R_slice hR3; exact ⟨A3, _, cap3, h_⟩
              have hbo := body_out hB1 hb2 hg3 hown0 (by omega)
              have g4 : w3.heap[w.heap.size]? = some (.cells (sieveC (takeK (sieved pre).1 x.row) sv) 71 (0, 0)) := (hbo.same _ hlt hne).trans h1
              have c4 : w3.cell? ⟨w.heap.size, 8, none⟩ = some sv := (blk_cell g4 8).trans (sieveC_row _ _ hks1)
              have f4 := blk_frozen g4 8
              have e1 : w3.cell? ⟨w.heap.size + 1, 0, none⟩ = some (Value.pointer (some { block := w.heap.size, off := 0 })) := (blk_cell ((hbo.same _ hlt2 hne2).trans hptr) 0).trans rfl
              have HBO := Lib.hid hbo
              have HR3 := Lib.hid hR3
              clear hbo hR3 g4 hg3 c1 c2 d1 d2 hR2
              rw [if_pos (by rfl)]
              refine stepIn_append (.tmp 19) (.tmp 22) rfl sv (.slice (some ⟨w2.heap.size, 0, none⟩) 1 1) _ rfl rfl hrun ?_
              clear hrun
              refine hK _ _ ?_
              clear hK K
              (try simp only [Act.put, List.setIfInBounds_toArray, List.set_cons_zero, List.set_cons_succ])
              refine wpAnyIn_ready (rs := [9]) (by kernel_rfl) (by simp) ?_
              refine AllReadyIn.cons rfl (fun K hK => ?_) AllReadyIn.nil
              go_simp
              refine hK _ _ ?_
              clear hK K
              (try simp only [Act.put, List.setIfInBounds_toArray, List.set_cons_zero, List.set_cons_succ])
              refine wpAnyIn_ready (rs := [10]) (by kernel_rfl) (by simp) ?_
              refine AllReadyIn.cons rfl (fun K hK => ?_) AllReadyIn.nil
              go_simp
              refine hK _ _ ?_
              clear hK K
              (try simp only [Act.put, List.setIfInBounds_toArray, List.set_cons_zero, List.set_cons_succ])
              refine wpAnyIn_ready (rs := [11]) (by kernel_rfl) (by simp) ?_
              refine AllReadyIn.cons rfl (fun K hK => ?_) AllReadyIn.nil
              go_simp
              refine hK _ _ ?_
              clear hK K
              (try simp only [Act.put, List.setIfInBounds_toArray, List.set_cons_zero, List.set_cons_succ])
              refine wpAnyIn_done (by kernel_rfl) ?_ _
              exact ⟨_, w3, rfl, HR3.out, HBO.out⟩
            · go_simp
              refine ⟨trivial, ?_⟩
              refine (callsIn_wide.2 (cloneB_calls x.1.2.1 x.1.2.2 x.row _ hCW hcq (Nat.le_trans HLQ.out (by decide)))).mono ?_
              rintro e w2 ⟨v2, rfl, hR2, hb2⟩
              obtain ⟨A2, cap2, rfl⟩ := Kd.R_slice hR2
              dsimp only
              have c1 : w2.cell? ⟨w.heap.size + 1, 0, none⟩ = some (Value.pointer (some { block := w.heap.size, off := 0 })) := (hb2.cell (p := ⟨w.heap.size + 1, 0, none⟩) hlt2).trans c1
              have c2 : w2.cell? ⟨w.heap.size, 8, none⟩ = some sv := (hb2.cell (p := ⟨w.heap.size, 8, none⟩) hlt).trans c2
              have d1 : (w2.alloc (.cells #[.slice A2 x.row.length cap2] 22)).cell? ⟨w.heap.size + 1, 0, none⟩ = some (Value.pointer (some { block := w.heap.size, off := 0 })) := ((below_alloc (Below.refl _ w2) (.cells #[.slice A2 x.row.length cap2] 22)).cell (p := ⟨w.heap.size + 1, 0, none⟩) (Nat.lt_of_lt_of_le hlt2 hb2.size)).trans c1
              have d2 : (w2.alloc (.cells #[.slice A2 x.row.length cap2] 22)).cell? ⟨w.heap.size, 8, none⟩ = some sv := ((below_alloc (Below.refl _ w2) (.cells #[.slice A2 x.row.length cap2] 22)).cell (p := ⟨w.heap.size, 8, none⟩) (Nat.lt_of_lt_of_le hlt hb2.size)).trans c2
              refine hK _ _ ?_
              clear hK K
              (try simp only [Act.put, List.setIfInBounds_toArray, List.set_cons_zero, List.set_cons_succ])
              refine wpAnyIn_ready (rs := [4, 7]) (by kernel_rfl) (by simp) ?_
              refine AllReadyIn.cons rfl (fun K hK => ?_) (AllReadyIn.cons rfl (fun K hK => ?_) AllReadyIn.nil)
              · go_simp
                refine hK _ _ ?_
                clear hK K
                (try simp only [Act.put, List.setIfInBounds_toArray, List.set_cons_zero, List.set_cons_succ])
                refine wpAnyIn_ready (rs := [7]) (by kernel_rfl) (by simp) ?_
                refine AllReadyIn.cons rfl (fun K hK => ?_) AllReadyIn.nil
                go_simp
                refine hK _ _ ?_
                clear hK K
                (try simp only [Act.put, List.setIfInBounds_toArray, List.set_cons_zero, List.set_cons_succ])
                refine wpAnyIn_ready (rs := [8]) (by kernel_rfl) (by simp) ?_
                refine AllReadyIn.cons rfl (fun K hK => ?_) AllReadyIn.nil
                obtain ⟨v3, w3, hrun, hR3, hg3⟩ := rows_push (Kd.R_below hRd hb2) (Kd.R_lower (Kd.R_mono (Kd.R_bound hR2) (fun k hk => hfr k hk.2.1)) hZW) (Nat.le_trans hZW hb2.size) hrl
                obtain ⟨A3, n3, cap3, rfl⟩ : ∃ A3 n3 cap3, v3 = .slice A3 n3 cap3 := by obtain ⟨A3, cap3, h_⟩ := Kd.R_slice hR3; exact ⟨A3, _, cap3, h_⟩
                have hbo := body_out hB1 hb2 hg3 hown0 (by omega)
                have g4 : w3.heap[w.heap.size]? = some (.cells (sieveC (takeK (sieved pre).1 x.row) sv) 71 (0, 0)) := (hbo.same _ hlt hne).trans h1
                have c4 : w3.cell? ⟨w.heap.size, 8, none⟩ = some sv := (blk_cell g4 8).trans (sieveC_row _ _ hks1)
                have f4 := blk_frozen g4 8
                have e1 : w3.cell? ⟨w.heap.size + 1, 0, none⟩ = some (Value.pointer (some { block := w.heap.size, off := 0 })) := (blk_cell ((hbo.same _ hlt2 hne2).trans hptr) 0).trans rfl
                have HBO := Lib.hid hbo
                have HR3 := Lib.hid hR3
                clear hbo hR3 g4 hg3 c1 c2 d1 d2 hR2
                rw [if_pos (by rfl)]
                refine stepIn_append (.tmp 19) (.tmp 22) rfl sv (.slice (some ⟨w2.heap.size, 0, none⟩) 1 1) _ rfl rfl hrun ?_
                clear hrun
                refine hK _ _ ?_
                clear hK K
                (try simp only [Act.put, List.setIfInBounds_toArray, List.set_cons_zero, List.set_cons_succ])
                refine wpAnyIn_ready (rs := [9]) (by kernel_rfl) (by simp) ?_
                refine AllReadyIn.cons rfl (fun K hK => ?_) AllReadyIn.nil
                go_simp
                refine hK _ _ ?_
                clear hK K
                (try simp only [Act.put, List.setIfInBounds_toArray, List.set_cons_zero, List.set_cons_succ])
                refine wpAnyIn_ready (rs := [10]) (by kernel_rfl) (by simp) ?_
                refine AllReadyIn.cons rfl (fun K hK => ?_) AllReadyIn.nil
                go_simp
                refine hK _ _ ?_
                clear hK K
                (try simp only [Act.put, List.setIfInBounds_toArray, List.set_cons_zero, List.set_cons_succ])
                refine wpAnyIn_ready (rs := [11]) (by kernel_rfl) (by simp) ?_
                refine AllReadyIn.cons rfl (fun K hK => ?_) AllReadyIn.nil
                go_simp
                refine hK _ _ ?_
                clear hK K
                (try simp only [Act.put, List.setIfInBounds_toArray, List.set_cons_zero, List.set_cons_succ])
                refine wpAnyIn_done (by kernel_rfl) ?_ _
                exact ⟨_, w3, rfl, HR3.out, HBO.out⟩
              · go_simp
                refine hK _ _ ?_
                clear hK K
                (try simp only [Act.put, List.setIfInBounds_toArray, List.set_cons_zero, List.set_cons_succ])
                refine wpAnyIn_ready (rs := [4]) (by kernel_rfl) (by simp) ?_
                refine AllReadyIn.cons rfl (fun K hK => ?_) AllReadyIn.nil
                go_simp
                refine hK _ _ ?_
                clear hK K
                (try simp only [Act.put, List.setIfInBounds_toArray, List.set_cons_zero, List.set_cons_succ])
                refine wpAnyIn_ready (rs := [8]) (by kernel_rfl) (by simp) ?_
                refine AllReadyIn.cons rfl (fun K hK => ?_) AllReadyIn.nil
                obtain ⟨v3, w3, hrun, hR3, hg3⟩ := rows_push (Kd.R_below hRd hb2) (Kd.R_lower (Kd.R_mono (Kd.R_bound hR2) (fun k hk => hfr k hk.2.1)) hZW) (Nat.le_trans hZW hb2.size) hrl
                obtain ⟨A3, n3, cap3, rfl⟩ : ∃ A3 n3 cap3, v3 = .slice A3 n3 cap3 := by obtain ⟨A3, cap3, h_⟩ := Kd.R_slice hR3; exact ⟨A3, _, cap3, h_⟩
                have hbo := body_out hB1 hb2 hg3 hown0 (by omega)
                have g4 : w3.heap[w.heap.size]? = some (.cells (sieveC (takeK (sieved pre).1 x.row) sv) 71 (0, 0)) := (hbo.same _ hlt hne).trans h1
                have c4 : w3.cell? ⟨w.heap.size, 8, none⟩ = some sv := (blk_cell g4 8).trans (sieveC_row _ _ hks1)
                have f4 := blk_frozen g4 8
                have e1 : w3.cell? ⟨w.heap.size + 1, 0, none⟩ = some (Value.pointer (some { block := w.heap.size, off := 0 })) := (blk_cell ((hbo.same _ hlt2 hne2).trans hptr) 0).trans rfl
                have HBO := Lib.hid hbo
                have HR3 := Lib.hid hR3
                clear hbo hR3 g4 hg3 c1 c2 d1 d2 hR2
                rw [if_pos (by rfl)]
                refine stepIn_append (.tmp 19) (.tmp 22) rfl sv (.slice (some ⟨w2.heap.size, 0, none⟩) 1 1) _ rfl rfl hrun ?_
                clear hrun
                refine hK _ _ ?_
                clear hK K
                (try simp only [Act.put, List.setIfInBounds_toArray, List.set_cons_zero, List.set_cons_succ])
                refine wpAnyIn_ready (rs := [9]) (by kernel_rfl) (by simp) ?_
                refine AllReadyIn.cons rfl (fun K hK => ?_) AllReadyIn.nil
                go_simp
                refine hK _ _ ?_
                clear hK K
                (try simp only [Act.put, List.setIfInBounds_toArray, List.set_cons_zero, List.set_cons_succ])
                refine wpAnyIn_ready (rs := [10]) (by kernel_rfl) (by simp) ?_
                refine AllReadyIn.cons rfl (fun K hK => ?_) AllReadyIn.nil
                go_simp
                refine hK _ _ ?_
                clear hK K
                (try simp only [Act.put, List.setIfInBounds_toArray, List.set_cons_zero, List.set_cons_succ])
                refine wpAnyIn_ready (rs := [11]) (by kernel_rfl) (by simp) ?_
                refine AllReadyIn.cons rfl (fun K hK => ?_) AllReadyIn.nil
                go_simp
                refine hK _ _ ?_
                clear hK K
                (try simp only [Act.put, List.setIfInBounds_toArray, List.set_cons_zero, List.set_cons_succ])
                refine wpAnyIn_done (by kernel_rfl) ?_ _
                exact ⟨_, w3, rfl, HR3.out, HBO.out⟩
          · go_simp
            refine hK _ _ ?_
            clear hK K
            (try simp only [Act.put, List.setIfInBounds_toArray, List.set_cons_zero, List.set_cons_succ])
            refine wpAnyIn_ready (rs := [0, 6]) (by kernel_rfl) (by simp) ?_
            refine AllReadyIn.cons rfl (fun K hK => ?_) (AllReadyIn.cons rfl (fun K hK => ?_) AllReadyIn.nil)
            · go_simp
              refine hK _ _ ?_
              clear hK K
              (try simp only [Act.put, List.setIfInBounds_toArray, List.set_cons_zero, List.set_cons_succ])
              refine wpAnyIn_ready (rs := [6]) (by kernel_rfl) (by simp) ?_
              refine AllReadyIn.cons rfl (fun K hK => ?_) AllReadyIn.nil
              go_simp
              refine ⟨trivial, ?_⟩
              refine (callsIn_wide.2 (cloneB_calls x.1.2.1 x.1.2.2 x.row _ hCW hcq (Nat.le_trans HLQ.out (by decide)))).mono ?_
              rintro e w2 ⟨v2, rfl, hR2, hb2⟩
              obtain ⟨A2, cap2, rfl⟩ := Kd.R_slice hR2
              dsimp only
              have c1 : w2.cell? ⟨w.heap.size + 1, 0, none⟩ = some (Value.pointer (some { block := w.heap.size, off := 0 })) := (hb2.cell (p := ⟨w.heap.size + 1, 0, none⟩) hlt2).trans c1
              have c2 : w2.cell? ⟨w.heap.size, 8, none⟩ = some sv := (hb2.cell (p := ⟨w.heap.size, 8, none⟩) hlt).trans c2
              have d1 : (w2.alloc (.cells #[.slice A2 x.row.length cap2] 22)).cell? ⟨w.heap.size + 1, 0, none⟩ = some (Value.pointer (some { block := w.heap.size, off := 0 })) := ((below_alloc (Below.refl _ w2) (.cells #[.slice A2 x.row.length cap2] 22)).cell (p := ⟨w.heap.size + 1, 0, none⟩) (Nat.lt_of_lt_of_le hlt2 hb2.size)).trans c1
              have d2 : (w2.alloc (.cells #[.slice A2 x.row.length cap2] 22)).cell? ⟨w.heap.size, 8, none⟩ = some sv := ((below_alloc (Below.refl _ w2) (.cells #[.slice A2 x.row.length cap2] 22)).cell (p := ⟨w.heap.size, 8, none⟩) (Nat.lt_of_lt_of_le hlt hb2.size)).trans c2
              refine hK _ _ ?_
              clear hK K
              (try simp only [Act.put, List.setIfInBounds_toArray, List.set_cons_zero, List.set_cons_succ])
              refine wpAnyIn_ready (rs := [7]) (by kernel_rfl) (by simp) ?_
              refine AllReadyIn.cons rfl (fun K hK => ?_) AllReadyIn.nil
              go_simp
              refine hK _ _ ?_
              clear hK K
              (try simp only [Act.put, List.setIfInBounds_toArray, List.set_cons_zero, List.set_cons_succ])
              refine wpAnyIn_ready (rs := [8]) (by kernel_rfl) (by simp) ?_
              refine AllReadyIn.cons rfl (fun K hK => ?_) AllReadyIn.nil
              obtain ⟨v3, w3, hrun, hR3, hg3⟩ := rows_push (Kd.R_below hRd hb2) (Kd.R_lower (Kd.R_mono (Kd.R_bound hR2) (fun k hk => hfr k hk.2.1)) hZW) (Nat.le_trans hZW hb2.size) hrl
              obtain ⟨A3, n3, cap3, rfl⟩ : ∃ A3 n3 cap3, v3 = .slice A3 n3 cap3 := by obtain ⟨A3, cap3, h_⟩ := Kd.R_slice hR3; exact ⟨A3, _, cap3, h_⟩
              have hbo := body_out hB1 hb2 hg3 hown0 (by omega)
              have g4 : w3.heap[w.heap.size]? = some (.cells (sieveC (takeK (sieved pre).1 x.row) sv) 71 (0, 0)) := (hbo.same _ hlt hne).trans h1
              have c4 : w3.cell? ⟨w.heap.size, 8, none⟩ = some sv := (blk_cell g4 8).trans (sieveC_row _ _ hks1)
              have f4 := blk_frozen g4 8
              have e1 : w3.cell? ⟨w.heap.size + 1, 0, none⟩ = some (Value.pointer (some { block := w.heap.size, off := 0 })) := (blk_cell ((hbo.same _ hlt2 hne2).trans hptr) 0).trans rfl
              have HBO := Lib.hid hbo
              have HR3 := Lib.hid hR3
              clear hbo hR3 g4 hg3 c1 c2 d1 d2 hR2
              rw [if_pos (by rfl)]
              refine stepIn_append (.tmp 19) (.tmp 22) rfl sv (.slice (some ⟨w2.heap.size, 0, none⟩) 1 1) _ rfl rfl hrun ?_
              clear hrun
              refine hK _ _ ?_
              clear hK K
              (try simp only [Act.put, List.setIfInBounds_toArray, List.set_cons_zero, List.set_cons_succ])
              refine wpAnyIn_ready (rs := [9]) (by kernel_rfl) (by simp) ?_
              refine AllReadyIn.cons rfl (fun K hK => ?_) AllReadyIn.nil
              go_simp
              refine hK _ _ ?_
              clear hK K
              (try simp only [Act.put, List.setIfInBounds_toArray, List.set_cons_zero, List.set_cons_succ])
              refine wpAnyIn_ready (rs := [10]) (by kernel_rfl) (by simp) ?_
              refine AllReadyIn.cons rfl (fun K hK => ?_) AllReadyIn.nil
              go_simp
              refine hK _ _ ?_
              clear hK K
              (try simp only [Act.put, List.setIfInBounds_toArray, List.set_cons_zero, List.set_cons_succ])
              refine wpAnyIn_ready (rs := [11]) (by kernel_rfl) (by simp) ?_
              refine AllReadyIn.cons rfl (fun K hK => ?_) AllReadyIn.nil
              go_simp
              refine hK _ _ ?_
              clear hK K
              (try simp only [Act.put, List.setIfInBounds_toArray, List.set_cons_zero, List.set_cons_succ])
              refine wpAnyIn_done (by kernel_rfl) ?_ _
              exact ⟨_, w3, rfl, HR3.out, HBO.out⟩
            · go_simp
              refine ⟨trivial, ?_⟩
              refine (callsIn_wide.2 (cloneB_calls x.1.2.1 x.1.2.2 x.row _ hCW hcq (Nat.le_trans HLQ.out (by decide)))).mono ?_
              rintro e w2 ⟨v2, rfl, hR2, hb2⟩
              obtain ⟨A2, cap2, rfl⟩ := Kd.R_slice hR2
              dsimp only
              have c1 : w2.cell? ⟨w.heap.size + 1, 0, none⟩ = some (Value.pointer (some { block := w.heap.size, off := 0 })) := (hb2.cell (p := ⟨w.heap.size + 1, 0, none⟩) hlt2).trans c1
              have c2 : w2.cell? ⟨w.heap.size, 8, none⟩ = some sv := (hb2.cell (p := ⟨w.heap.size, 8, none⟩) hlt).trans c2
              have d1 : (w2.alloc (.cells #[.slice A2 x.row.length cap2] 22)).cell? ⟨w.heap.size + 1, 0, none⟩ = some (Value.pointer (some { block := w.heap.size, off := 0 })) := ((below_alloc (Below.refl _ w2) (.cells #[.slice A2 x.row.length cap2] 22)).cell (p := ⟨w.heap.size + 1, 0, none⟩) (Nat.lt_of_lt_of_le hlt2 hb2.size)).trans c1
              have d2 : (w2.alloc (.cells #[.slice A2 x.row.length cap2] 22)).cell? ⟨w.heap.size, 8, none⟩ = some sv := ((below_alloc (Below.refl _ w2) (.cells #[.slice A2 x.row.length cap2] 22)).cell (p := ⟨w.heap.size, 8, none⟩) (Nat.lt_of_lt_of_le hlt hb2.size)).trans c2
              refine hK _ _ ?_
              clear hK K
              (try simp only [Act.put, List.setIfInBounds_toArray, List.set_cons_zero, List.set_cons_succ])
              refine wpAnyIn_ready (rs := [0, 7]) (by kernel_rfl) (by simp) ?_
              refine AllReadyIn.cons rfl (fun K hK => ?_) (AllReadyIn.cons rfl (fun K hK => ?_) AllReadyIn.nil)
              · go_simp
                refine hK _ _ ?_
                clear hK K
                (try simp only [Act.put, List.setIfInBounds_toArray, List.set_cons_zero, List.set_cons_succ])
                refine wpAnyIn_ready (rs := [7]) (by kernel_rfl) (by simp) ?_
                refine AllReadyIn.cons rfl (fun K hK => ?_) AllReadyIn.nil
                go_simp
                refine hK _ _ ?_
                clear hK K
                (try simp only [Act.put, List.setIfInBounds_toArray, List.set_cons_zero, List.set_cons_succ])
                refine wpAnyIn_ready (rs := [8]) (by kernel_rfl) (by simp) ?_
                refine AllReadyIn.cons rfl (fun K hK => ?_) AllReadyIn.nil
                obtain ⟨v3, w3, hrun, hR3, hg3⟩ := rows_push (Kd.R_below hRd hb2) (Kd.R_lower (Kd.R_mono (Kd.R_bound hR2) (fun k hk => hfr k hk.2.1)) hZW) (Nat.le_trans hZW hb2.size) hrl
                obtain ⟨A3, n3, cap3, rfl⟩ : ∃ A3 n3 cap3, v3 = .slice A3 n3 cap3 := by obtain ⟨A3, cap3, h_⟩ := Kd.R_slice hR3; exact ⟨A3, _, cap3, h_⟩
                have hbo := body_out hB1 hb2 hg3 hown0 (by omega)
                have g4 : w3.heap[w.heap.size]? = some (.cells (sieveC (takeK (sieved pre).1 x.row) sv) 71 (0, 0)) := (hbo.same _ hlt hne).trans h1
                have c4 : w3.cell? ⟨w.heap.size, 8, none⟩ = some sv := (blk_cell g4 8).trans (sieveC_row _ _ hks1)
                have f4 := blk_frozen g4 8
                have e1 : w3.cell? ⟨w.heap.size + 1, 0, none⟩ = some (Value.pointer (some { block := w.heap.size, off := 0 })) := (blk_cell ((hbo.same _ hlt2 hne2).trans hptr) 0).trans rfl
                have HBO := Lib.hid hbo
                have HR3 := Lib.hid hR3
                clear hbo hR3 g4 hg3 c1 c2 d1 d2 hR2
                rw [if_pos (by rfl)]
                refine stepIn_append (.tmp 19) (.tmp 22) rfl sv (.slice (some ⟨w2.heap.size, 0, none⟩) 1 1) _ rfl rfl hrun ?_
                clear hrun
                refine hK _ _ ?_
                clear hK K
                (try simp only [Act.put, List.setIfInBounds_toArray, List.set_cons_zero, List.set_cons_succ])
                refine wpAnyIn_ready (rs := [9]) (by kernel_rfl) (by simp) ?_
                refine AllReadyIn.cons rfl (fun K hK => ?_) AllReadyIn.nil
                go_simp
                refine hK _ _ ?_
                clear hK K
                (try simp only [Act.put, List.setIfInBounds_toArray, List.set_cons_zero, List.set_cons_succ])
                refine wpAnyIn_ready (rs := [10]) (by kernel_rfl) (by simp) ?_
                refine AllReadyIn.cons rfl (fun K hK => ?_) AllReadyIn.nil
                go_simp
                refine hK _ _ ?_
                clear hK K
                (try simp only [Act.put, List.setIfInBounds_toArray, List.set_cons_zero, List.set_cons_succ])
                refine wpAnyIn_ready (rs := [11]) (by kernel_rfl) (by simp) ?_
                refine AllReadyIn.cons rfl (fun K hK => ?_) AllReadyIn.nil
                go_simp
                refine hK _ _ ?_
                clear hK K
                (try simp only [Act.put, List.setIfInBounds_toArray, List.set_cons_zero, List.set_cons_succ])
                refine wpAnyIn_done (by kernel_rfl) ?_ _
                exact ⟨_, w3, rfl, HR3.out, HBO.out⟩
              · go_simp
                refine hK _ _ ?_
                clear hK K
                (try simp only [Act.put, List.setIfInBounds_toArray, List.set_cons_zero, List.set_cons_succ])
                refine wpAnyIn_ready (rs := [0, 8]) (by kernel_rfl) (by simp) ?_
                refine AllReadyIn.cons rfl (fun K hK => ?_) (AllReadyIn.cons rfl (fun K hK => ?_) AllReadyIn.nil)
                · go_simp
                  refine hK _ _ ?_
                  clear hK K
                  (try simp only [Act.put, List.setIfInBounds_toArray, List.set_cons_zero, List.set_cons_succ])
                  refine wpAnyIn_ready (rs := [8]) (by kernel_rfl) (by simp) ?_
                  refine AllReadyIn.cons rfl (fun K hK => ?_) AllReadyIn.nil
                  obtain ⟨v3, w3, hrun, hR3, hg3⟩ := rows_push (Kd.R_below hRd hb2) (Kd.R_lower (Kd.R_mono (Kd.R_bound hR2) (fun k hk => hfr k hk.2.1)) hZW) (Nat.le_trans hZW hb2.size) hrl
                  obtain ⟨A3, n3, cap3, rfl⟩ : ∃ A3 n3 cap3, v3 = .slice A3 n3 cap3 := by obtain ⟨A3, cap3, h_⟩ := Kd.R_slice hR3; exact ⟨A3, _, cap3, h_⟩
                  have hbo := body_out hB1 hb2 hg3 hown0 (by omega)
                  have g4 : w3.heap[w.heap.size]? = some (.cells (sieveC (takeK (sieved pre).1 x.row) sv) 71 (0, 0)) := (hbo.same _ hlt hne).trans h1
                  have c4 : w3.cell? ⟨w.heap.size, 8, none⟩ = some sv := (blk_cell g4 8).trans (sieveC_row _ _ hks1)
                  have f4 := blk_frozen g4 8
                  have e1 : w3.cell? ⟨w.heap.size + 1, 0, none⟩ = some (Value.pointer (some { block := w.heap.size, off := 0 })) := (blk_cell ((hbo.same _ hlt2 hne2).trans hptr) 0).trans rfl
                  have HBO := Lib.hid hbo
                  have HR3 := Lib.hid hR3
                  clear hbo hR3 g4 hg3 c1 c2 d1 d2 hR2
                  rw [if_pos (by rfl)]
                  refine stepIn_append (.tmp 19) (.tmp 22) rfl sv (.slice (some ⟨w2.heap.size, 0, none⟩) 1 1) _ rfl rfl hrun ?_
                  clear hrun
                  refine hK _ _ ?_
                  clear hK K
                  (try simp only [Act.put, List.setIfInBounds_toArray, List.set_cons_zero, List.set_cons_succ])
                  refine wpAnyIn_ready (rs := [9]) (by kernel_rfl) (by simp) ?_
                  refine AllReadyIn.cons rfl (fun K hK => ?_) AllReadyIn.nil
                  go_simp
                  refine hK _ _ ?_
                  clear hK K
                  (try simp only [Act.put, List.setIfInBounds_toArray, List.set_cons_zero, List.set_cons_succ])
                  refine wpAnyIn_ready (rs := [10]) (by kernel_rfl) (by simp) ?_
                  refine AllReadyIn.cons rfl (fun K hK => ?_) AllReadyIn.nil
                  go_simp
                  refine hK _ _ ?_
                  clear hK K
                  (try simp only [Act.put, List.setIfInBounds_toArray, List.set_cons_zero, List.set_cons_succ])
                  refine wpAnyIn_ready (rs := [11]) (by kernel_rfl) (by simp) ?_
                  refine AllReadyIn.cons rfl (fun K hK => ?_) AllReadyIn.nil
                  go_simp
                  refine hK _ _ ?_
                  clear hK K
                  (try simp only [Act.put, List.setIfInBounds_toArray, List.set_cons_zero, List.set_cons_succ])
                  refine wpAnyIn_done (by kernel_rfl) ?_ _
                  exact ⟨_, w3, rfl, HR3.out, HBO.out⟩
                · obtain ⟨v3, w3, hrun, hR3, hg3⟩ := rows_push (Kd.R_below hRd hb2) (Kd.R_lower (Kd.R_mono (Kd.R_bound hR2) (fun k hk => hfr k hk.2.1)) hZW) (Nat.le_trans hZW hb2.size) hrl
                  obtain ⟨A3, n3, cap3, rfl⟩ : ∃ A3 n3 cap3, v3 = .slice A3 n3 cap3 := by obtain ⟨A3, cap3, h_⟩ := Kd.R_slice hR3; exact ⟨A3, _, cap3, h_⟩
                  have hbo := body_out hB1 hb2 hg3 hown0 (by omega)
                  have g4 : w3.heap[w.heap.size]? = some (.cells (sieveC (takeK (sieved pre).1 x.row) sv) 71 (0, 0)) := (hbo.same _ hlt hne).trans h1
                  have c4 : w3.cell? ⟨w.heap.size, 8, none⟩ = some sv := (blk_cell g4 8).trans (sieveC_row _ _ hks1)
                  have f4 := blk_frozen g4 8
                  have e1 : w3.cell? ⟨w.heap.size + 1, 0, none⟩ = some (Value.pointer (some { block := w.heap.size, off := 0 })) := (blk_cell ((hbo.same _ hlt2 hne2).trans hptr) 0).trans rfl
                  have HBO := Lib.hid hbo
                  have HR3 := Lib.hid hR3
                  clear hbo hR3 g4 hg3 c1 c2 d1 d2 hR2
                  rw [if_pos (by rfl)]
                  refine stepIn_append (.tmp 19) (.tmp 22) rfl sv (.slice (some ⟨w2.heap.size, 0, none⟩) 1 1) _ rfl rfl hrun ?_
                  clear hrun
                  refine hK _ _ ?_
                  clear hK K
                  (try simp only [Act.put, List.setIfInBounds_toArray, List.set_cons_zero, List.set_cons_succ])
                  refine wpAnyIn_ready (rs := [0]) (by kernel_rfl) (by simp) ?_
                  refine AllReadyIn.cons rfl (fun K hK => ?_) AllReadyIn.nil
                  go_simp
                  refine hK _ _ ?_
                  clear hK K
                  (try simp only [Act.put, List.setIfInBounds_toArray, List.set_cons_zero, List.set_cons_succ])
                  refine wpAnyIn_ready (rs := [9]) (by kernel_rfl) (by simp) ?_
                  refine AllReadyIn.cons rfl (fun K hK => ?_) AllReadyIn.nil
                  go_simp
                  refine hK _ _ ?_
                  clear hK K
                  (try simp only [Act.put, List.setIfInBounds_toArray, List.set_cons_zero, List.set_cons_succ])
                  refine wpAnyIn_ready (rs := [10]) (by kernel_rfl) (by simp) ?_
                  refine AllReadyIn.cons rfl (fun K hK => ?_) AllReadyIn.nil
                  go_simp
                  refine hK _ _ ?_
                  clear hK K
                  (try simp only [Act.put, List.setIfInBounds_toArray, List.set_cons_zero, List.set_cons_succ])
                  refine wpAnyIn_ready (rs := [11]) (by kernel_rfl) (by simp) ?_
                  refine AllReadyIn.cons rfl (fun K hK => ?_) AllReadyIn.nil
                  go_simp
                  refine hK _ _ ?_
                  clear hK K
                  (try simp only [Act.put, List.setIfInBounds_toArray, List.set_cons_zero, List.set_cons_succ])
                  refine wpAnyIn_done (by kernel_rfl) ?_ _
                  exact ⟨_, w3, rfl, HR3.out, HBO.out⟩
          · go_simp
            refine ⟨trivial, ?_⟩
            refine (callsIn_wide.2 (cloneB_calls x.1.2.1 x.1.2.2 x.row _ hCW hcq (Nat.le_trans HLQ.out (by decide)))).mono ?_
            rintro e w2 ⟨v2, rfl, hR2, hb2⟩
            obtain ⟨A2, cap2, rfl⟩ := Kd.R_slice hR2
            dsimp only
            have c1 : w2.cell? ⟨w.heap.size + 1, 0, none⟩ = some (Value.pointer (some { block := w.heap.size, off := 0 })) := (hb2.cell (p := ⟨w.heap.size + 1, 0, none⟩) hlt2).trans c1
            have c2 : w2.cell? ⟨w.heap.size, 8, none⟩ = some sv := (hb2.cell (p := ⟨w.heap.size, 8, none⟩) hlt).trans c2
            have d1 : (w2.alloc (.cells #[.slice A2 x.row.length cap2] 22)).cell? ⟨w.heap.size + 1, 0, none⟩ = some (Value.pointer (some { block := w.heap.size, off := 0 })) := ((below_alloc (Below.refl _ w2) (.cells #[.slice A2 x.row.length cap2] 22)).cell (p := ⟨w.heap.size + 1, 0, none⟩) (Nat.lt_of_lt_of_le hlt2 hb2.size)).trans c1
            have d2 : (w2.alloc (.cells #[.slice A2 x.row.length cap2] 22)).cell? ⟨w.heap.size, 8, none⟩ = some sv := ((below_alloc (Below.refl _ w2) (.cells #[.slice A2 x.row.length cap2] 22)).cell (p := ⟨w.heap.size, 8, none⟩) (Nat.lt_of_lt_of_le hlt hb2.size)).trans c2
            refine hK _ _ ?_
            clear hK K
            (try simp only [Act.put, List.setIfInBounds_toArray, List.set_cons_zero, List.set_cons_succ])
            refine wpAnyIn_ready (rs := [0, 4, 7]) (by kernel_rfl) (by simp) ?_
            refine AllReadyIn.cons rfl (fun K hK => ?_) (AllReadyIn.cons rfl (fun K hK => ?_) (AllReadyIn.cons rfl (fun K hK => ?_) AllReadyIn.nil))
            · go_simp
              refine hK _ _ ?_
              clear hK K
              (try simp only [Act.put, List.setIfInBounds_toArray, List.set_cons_zero, List.set_cons_succ])
              refine wpAnyIn_ready (rs := [4, 7]) (by kernel_rfl) (by simp) ?_
              refine AllReadyIn.cons rfl (fun K hK => ?_) (AllReadyIn.cons rfl (fun K hK => ?_) AllReadyIn.nil)
              · go_simp
                refine hK _ _ ?_
                clear hK K
                (try simp only [Act.put, List.setIfInBounds_toArray, List.set_cons_zero, List.set_cons_succ])
                refine wpAnyIn_ready (rs := [7]) (by kernel_rfl) (by simp) ?_
                refine AllReadyIn.cons rfl (fun K hK => ?_) AllReadyIn.nil
                go_simp
                refine hK _ _ ?_
                clear hK K
                (try simp only [Act.put, List.setIfInBounds_toArray, List.set_cons_zero, List.set_cons_succ])
                refine wpAnyIn_ready (rs := [8]) (by kernel_rfl) (by simp) ?_
                refine AllReadyIn.cons rfl (fun K hK => ?_) AllReadyIn.nil
                obtain ⟨v3, w3, hrun, hR3, hg3⟩ := rows_push (Kd.R_below hRd hb2) (Kd.R_lower (Kd.R_mono (Kd.R_bound hR2) (fun k hk => hfr k hk.2.1)) hZW) (Nat.le_trans hZW hb2.size) hrl
                obtain ⟨A3, n3, cap3, rfl⟩ : ∃ A3 n3 cap3, v3 = .slice A3 n3 cap3 := by obtain ⟨A3, cap3, h_⟩ := Kd.R_slice hR3; exact ⟨A3, _, cap3, h_⟩
                have hbo := body_out hB1 hb2 hg3 hown0 (by omega)
                have g4 : w3.heap[w.heap.size]? = some (.cells (sieveC (takeK (sieved pre).1 x.row) sv) 71 (0, 0)) := (hbo.same _ hlt hne).trans h1
                have c4 : w3.cell? ⟨w.heap.size, 8, none⟩ = some sv := (blk_cell g4 8).trans (sieveC_row _ _ hks1)
                have f4 := blk_frozen g4 8
                have e1 : w3.cell? ⟨w.heap.size + 1, 0, none⟩ = some (Value.pointer (some { block := w.heap.size, off := 0 })) := (blk_cell ((hbo.same _ hlt2 hne2).trans hptr) 0).trans rfl
                have HBO := Lib.hid hbo
                have HR3 := Lib.hid hR3
                clear hbo hR3 g4 hg3 c1 c2 d1 d2 hR2
                rw [if_pos (by rfl)]
                refine stepIn_append (.tmp 19) (.tmp 22) rfl sv (.slice (some ⟨w2.heap.size, 0, none⟩) 1 1) _ rfl rfl hrun ?_
                clear hrun
                refine hK _ _ ?_
                clear hK K
                (try simp only [Act.put, List.setIfInBounds_toArray, List.set_cons_zero, List.set_cons_succ])
                refine wpAnyIn_ready (rs := [9]) (by kernel_rfl) (by simp) ?_
                refine AllReadyIn.cons rfl (fun K hK => ?_) AllReadyIn.nil
                go_simp
                refine hK _ _ ?_
                clear hK K
                (try simp only [Act.put, List.setIfInBounds_toArray, List.set_cons_zero, List.set_cons_succ])
                refine wpAnyIn_ready (rs := [10]) (by kernel_rfl) (by simp) ?_
                refine AllReadyIn.cons rfl (fun K hK => ?_) AllReadyIn.nil
                go_simp
                refine hK _ _ ?_
                clear hK K
                (try simp only [Act.put, List.setIfInBounds_toArray, List.set_cons_zero, List.set_cons_succ])
                refine wpAnyIn_ready (rs := [11]) (by kernel_rfl) (by simp) ?_
                refine AllReadyIn.cons rfl (fun K hK => ?_) AllReadyIn.nil
                go_simp
                refine hK _ _ ?_
                clear hK K
                (try simp only [Act.put, List.setIfInBounds_toArray, List.set_cons_zero, List.set_cons_succ])
                refine wpAnyIn_done (by kernel_rfl) ?_ _
                exact ⟨_, w3, rfl, HR3.out, HBO.out⟩
              · go_simp
                refine hK _ _ ?_
                clear hK K
                (try simp only [Act.put, List.setIfInBounds_toArray, List.set_cons_zero, List.set_cons_succ])
                refine wpAnyIn_ready (rs := [4]) (by kernel_rfl) (by simp) ?_
                refine AllReadyIn.cons rfl (fun K hK => ?_) AllReadyIn.nil
                go_simp
                refine hK _ _ ?_
                clear hK K
                (try simp only [Act.put, List.setIfInBounds_toArray, List.set_cons_zero, List.set_cons_succ])
                refine wpAnyIn_ready (rs := [8]) (by kernel_rfl) (by simp) ?_
                refine AllReadyIn.cons rfl (fun K hK => ?_) AllReadyIn.nil
                obtain ⟨v3, w3, hrun, hR3, hg3⟩ := rows_push (Kd.R_below hRd hb2) (Kd.R_lower (Kd.R_mono (Kd.R_bound hR2) (fun k hk => hfr k hk.2.1)) hZW) (Nat.le_trans hZW hb2.size) hrl
                obtain ⟨A3, n3, cap3, rfl⟩ : ∃ A3 n3 cap3, v3 = .slice A3 n3 cap3 := by obtain ⟨A3, cap3, h_⟩ := Kd.R_slice hR3; exact ⟨A3, _, cap3, h_⟩
                have hbo := body_out hB1 hb2 hg3 hown0 (by omega)
                have g4 : w3.heap[w.heap.size]? = some (.cells (sieveC (takeK (sieved pre).1 x.row) sv) 71 (0, 0)) := (hbo.same _ hlt hne).trans h1
                have c4 : w3.cell? ⟨w.heap.size, 8, none⟩ = some sv := (blk_cell g4 8).trans (sieveC_row _ _ hks1)
                have f4 := blk_frozen g4 8
                have e1 : w3.cell? ⟨w.heap.size + 1, 0, none⟩ = some (Value.pointer (some { block := w.heap.size, off := 0 })) := (blk_cell ((hbo.same _ hlt2 hne2).trans hptr) 0).trans rfl
                have HBO := Lib.hid hbo
                have HR3 := Lib.hid hR3
                clear hbo hR3 g4 hg3 c1 c2 d1 d2 hR2
                rw [if_pos (by rfl)]
                refine stepIn_append (.tmp 19) (.tmp 22) rfl sv (.slice (some ⟨w2.heap.size, 0, none⟩) 1 1) _ rfl rfl hrun ?_
                clear hrun
                refine hK _ _ ?_
                clear hK K
                (try simp only [Act.put, List.setIfInBounds_toArray, List.set_cons_zero, List.set_cons_succ])
                refine wpAnyIn_ready (rs := [9]) (by kernel_rfl) (by simp) ?_
                refine AllReadyIn.cons rfl (fun K hK => ?_) AllReadyIn.nil
                go_simp
                refine hK _ _ ?_
                clear hK K
                (try simp only [Act.put, List.setIfInBounds_toArray, List.set_cons_zero, List.set_cons_succ])
                refine wpAnyIn_ready (rs := [10]) (by kernel_rfl) (by simp) ?_
                refine AllReadyIn.cons rfl (fun K hK => ?_) AllReadyIn.nil
                go_simp
                refine hK _ _ ?_
                clear hK K
                (try simp only [Act.put, List.setIfInBounds_toArray, List.set_cons_zero, List.set_cons_succ])
                refine wpAnyIn_ready (rs := [11]) (by kernel_rfl) (by simp) ?_
                refine AllReadyIn.cons rfl (fun K hK => ?_) AllReadyIn.nil
                go_simp
                refine hK _ _ ?_
                clear hK K
                (try simp only [Act.put, List.setIfInBounds_toArray, List.set_cons_zero, List.set_cons_succ])
                refine wpAnyIn_done (by kernel_rfl) ?_ _
                exact ⟨_, w3, rfl, HR3.out, HBO.out⟩
            · go_simp
              refine hK _ _ ?_
              clear hK K
              (try simp only [Act.put, List.setIfInBounds_toArray, List.set_cons_zero, List.set_cons_succ])
              refine wpAnyIn_ready (rs := [0, 7]) (by kernel_rfl) (by simp) ?_
              refine AllReadyIn.cons rfl (fun K hK => ?_) (AllReadyIn.cons rfl (fun K hK => ?_) AllReadyIn.nil)
              · go_simp
                refine hK _ _ ?_
                clear hK K
                (try simp only [Act.put, List.setIfInBounds_toArray, List.set_cons_zero, List.set_cons_succ])
                refine wpAnyIn_ready (rs := [7]) (by kernel_rfl) (by simp) ?_
                refine AllReadyIn.cons rfl (fun K hK => ?_) AllReadyIn.nil
                go_simp
                refine hK _ _ ?_
                clear hK K
                (try simp only [Act.put, List.setIfInBounds_toArray, List.set_cons_zero, List.set_cons_succ])
                refine wpAnyIn_ready (rs := [8]) (by kernel_rfl) (by simp) ?_
                refine AllReadyIn.cons rfl (fun K hK => ?_) AllReadyIn.nil
                obtain ⟨v3, w3, hrun, hR3, hg3⟩ := rows_push (Kd.R_below hRd hb2) (Kd.R_lower (Kd.R_mono (Kd.R_bound hR2) (fun k hk => hfr k hk.2.1)) hZW) (Nat.le_trans hZW hb2.size) hrl
                obtain ⟨A3, n3, cap3, rfl⟩ : ∃ A3 n3 cap3, v3 = .slice A3 n3 cap3 := by obtain ⟨A3, cap3, h_⟩ := Kd.R_slice hR3; exact ⟨A3, _, cap3, h_⟩
                have hbo := body_out hB1 hb2 hg3 hown0 (by omega)
                have g4 : w3.heap[w.heap.size]? = some (.cells (sieveC (takeK (sieved pre).1 x.row) sv) 71 (0, 0)) := (hbo.same _ hlt hne).trans h1
                have c4 : w3.cell? ⟨w.heap.size, 8, none⟩ = some sv := (blk_cell g4 8).trans (sieveC_row _ _ hks1)
                have f4 := blk_frozen g4 8
                have e1 : w3.cell? ⟨w.heap.size + 1, 0, none⟩ = some (Value.pointer (some { block := w.heap.size, off := 0 })) := (blk_cell ((hbo.same _ hlt2 hne2).trans hptr) 0).trans rfl
                have HBO := Lib.hid hbo
                have HR3 := Lib.hid hR3
                clear hbo hR3 g4 hg3 c1 c2 d1 d2 hR2
                rw [if_pos (by rfl)]
                refine stepIn_append (.tmp 19) (.tmp 22) rfl sv (.slice (some ⟨w2.heap.size, 0, none⟩) 1 1) _ rfl rfl hrun ?_
                clear hrun
                refine hK _ _ ?_
                clear hK K
                (try simp only [Act.put, List.setIfInBounds_toArray, List.set_cons_zero, List.set_cons_succ])
                refine wpAnyIn_ready (rs := [9]) (by kernel_rfl) (by simp) ?_
                refine AllReadyIn.cons rfl (fun K hK => ?_) AllReadyIn.nil
                go_simp
                refine hK _ _ ?_
                clear hK K
                (try simp only [Act.put, List.setIfInBounds_toArray, List.set_cons_zero, List.set_cons_succ])
                refine wpAnyIn_ready (rs := [10]) (by kernel_rfl) (by simp) ?_
                refine AllReadyIn.cons rfl (fun K hK => ?_) AllReadyIn.nil
                go_simp
                refine hK _ _ ?_
                clear hK K
                (try simp only [Act.put, List.setIfInBounds_toArray, List.set_cons_zero, List.set_cons_succ])
                refine wpAnyIn_ready (rs := [11]) (by kernel_rfl) (by simp) ?_
                refine AllReadyIn.cons rfl (fun K hK => ?_) AllReadyIn.nil
                go_simp
                refine hK _ _ ?_
                clear hK K
                (try simp only [Act.put, List.setIfInBounds_toArray, List.set_cons_zero, List.set_cons_succ])
                refine wpAnyIn_done (by kernel_rfl) ?_ _
                exact ⟨_, w3, rfl, HR3.out, HBO.out⟩
              · go_simp
                refine hK _ _ ?_
                clear hK K
                (try simp only [Act.put, List.setIfInBounds_toArray, List.set_cons_zero, List.set_cons_succ])
                refine wpAnyIn_ready (rs := [0, 8]) (by kernel_rfl) (by simp) ?_
                refine AllReadyIn.cons rfl (fun K hK => ?_) (AllReadyIn.cons rfl (fun K hK => ?_) AllReadyIn.nil)
                · go_simp
                  refine hK _ _ ?_
                  clear hK K
                  (try simp only [Act.put, List.setIfInBounds_toArray, List.set_cons_zero, List.set_cons_succ])
                  refine wpAnyIn_ready (rs := [8]) (by kernel_rfl) (by simp) ?_
                  refine AllReadyIn.cons rfl (fun K hK => ?_) AllReadyIn.nil
                  obtain ⟨v3, w3, hrun, hR3, hg3⟩ := rows_push (Kd.R_below hRd hb2) (Kd.R_lower (Kd.R_mono (Kd.R_bound hR2) (fun k hk => hfr k hk.2.1)) hZW) (Nat.le_trans hZW hb2.size) hrl
                  obtain ⟨A3, n3, cap3, rfl⟩ : ∃ A3 n3 cap3, v3 = .slice A3 n3 cap3 := by obtain ⟨A3, cap3, h_⟩ := Kd.R_slice hR3; exact ⟨A3, _, cap3, h_⟩
                  have hbo := body_out hB1 hb2 hg3 hown0 (by omega)
                  have g4 : w3.heap[w.heap.size]? = some (.cells (sieveC (takeK (sieved pre).1 x.row) sv) 71 (0, 0)) := (hbo.same _ hlt hne).trans h1
                  have c4 : w3.cell? ⟨w.heap.size, 8, none⟩ = some sv := (blk_cell g4 8).trans (sieveC_row _ _ hks1)
                  have f4 := blk_frozen g4 8
                  have e1 : w3.cell? ⟨w.heap.size + 1, 0, none⟩ = some (Value.pointer (some { block := w.heap.size, off := 0 })) := (blk_cell ((hbo.same _ hlt2 hne2).trans hptr) 0).trans rfl
                  have HBO := Lib.hid hbo
                  have HR3 := Lib.hid hR3
                  clear hbo hR3 g4 hg3 c1 c2 d1 d2 hR2
                  rw [if_pos (by rfl)]
                  refine stepIn_append (.tmp 19) (.tmp 22) rfl sv (.slice (some ⟨w2.heap.size, 0, none⟩) 1 1) _ rfl rfl hrun ?_
                  clear hrun
                  refine hK _ _ ?_
                  clear hK K
                  (try simp only [Act.put, List.setIfInBounds_toArray, List.set_cons_zero, List.set_cons_succ])
                  refine wpAnyIn_ready (rs := [9]) (by kernel_rfl) (by simp) ?_
                  refine AllReadyIn.cons rfl (fun K hK => ?_) AllReadyIn.nil
                  go_simp
                  refine hK _ _ ?_
                  clear hK K
                  (try simp only [Act.put, List.setIfInBounds_toArray, List.set_cons_zero, List.set_cons_succ])
                  refine wpAnyIn_ready (rs := [10]) (by kernel_rfl) (by simp) ?_
                  refine AllReadyIn.cons rfl (fun K hK => ?_) AllReadyIn.nil
                  go_simp
                  refine hK _ _ ?_
                  clear hK K
                  (try simp only [Act.put, List.setIfInBounds_toArray, List.set_cons_zero, List.set_cons_succ])
                  refine wpAnyIn_ready (rs := [11]) (by kernel_rfl) (by simp) ?_
                  refine AllReadyIn.cons rfl (fun K hK => ?_) AllReadyIn.nil
                  go_simp
                  refine hK _ _ ?_
                  clear hK K
                  (try simp only [Act.put, List.setIfInBounds_toArray, List.set_cons_zero, List.set_cons_succ])
                  refine wpAnyIn_done (by kernel_rfl) ?_ _
                  exact ⟨_, w3, rfl, HR3.out, HBO.out⟩
                · obtain ⟨v3, w3, hrun, hR3, hg3⟩ := rows_push (Kd.R_below hRd hb2) (Kd.R_lower (Kd.R_mono (Kd.R_bound hR2) (fun k hk => hfr k hk.2.1)) hZW) (Nat.le_trans hZW hb2.size) hrl
                  obtain ⟨A3, n3, cap3, rfl⟩ : ∃ A3 n3 cap3, v3 = .slice A3 n3 cap3 := by obtain ⟨A3, cap3, h_⟩ := Kd.R_slice hR3; exact ⟨A3, _, cap3, h_⟩
                  have hbo := body_out hB1 hb2 hg3 hown0 (by omega)
                  have g4 : w3.heap[w.heap.size]? = some (.cells (sieveC (takeK (sieved pre).1 x.row) sv) 71 (0, 0)) := (hbo.same _ hlt hne).trans h1
                  have c4 : w3.cell? ⟨w.heap.size, 8, none⟩ = some sv := (blk_cell g4 8).trans (sieveC_row _ _ hks1)
                  have f4 := blk_frozen g4 8
                  have e1 : w3.cell? ⟨w.heap.size + 1, 0, none⟩ = some (Value.pointer (some { block := w.heap.size, off := 0 })) := (blk_cell ((hbo.same _ hlt2 hne2).trans hptr) 0).trans rfl
                  have HBO := Lib.hid hbo
                  have HR3 := Lib.hid hR3
                  clear hbo hR3 g4 hg3 c1 c2 d1 d2 hR2
                  rw [if_pos (by rfl)]
                  refine stepIn_append (.tmp 19) (.tmp 22) rfl sv (.slice (some ⟨w2.heap.size, 0, none⟩) 1 1) _ rfl rfl hrun ?_
                  clear hrun
                  refine hK _ _ ?_
                  clear hK K
                  (try simp only [Act.put, List.setIfInBounds_toArray, List.set_cons_zero, List.set_cons_succ])
                  refine wpAnyIn_ready (rs := [0]) (by kernel_rfl) (by simp) ?_
                  refine AllReadyIn.cons rfl (fun K hK => ?_) AllReadyIn.nil
                  go_simp
                  refine hK _ _ ?_
                  clear hK K
                  (try simp only [Act.put, List.setIfInBounds_toArray, List.set_cons_zero, List.set_cons_succ])
                  refine wpAnyIn_ready (rs := [9]) (by kernel_rfl) (by simp) ?_
                  refine AllReadyIn.cons rfl (fun K hK => ?_) AllReadyIn.nil
                  go_simp
                  refine hK _ _ ?_
                  clear hK K
                  (try simp only [Act.put, List.setIfInBounds_toArray, List.set_cons_zero, List.set_cons_succ])
                  refine wpAnyIn_ready (rs := [10]) (by kernel_rfl) (by simp) ?_
                  refine AllReadyIn.cons rfl (fun K hK => ?_) AllReadyIn.nil
                  go_simp
                  refine hK _ _ ?_
                  clear hK K
                  (try simp only [Act.put, List.setIfInBounds_toArray, List.set_cons_zero, List.set_cons_succ])
                  refine wpAnyIn_ready (rs := [11]) (by kernel_rfl) (by simp) ?_
                  refine AllReadyIn.cons rfl (fun K hK => ?_) AllReadyIn.nil
                  go_simp
                  refine hK _ _ ?_
                  clear hK K
                  (try simp only [Act.put, List.setIfInBounds_toArray, List.set_cons_zero, List.set_cons_succ])
                  refine wpAnyIn_done (by kernel_rfl) ?_ _
                  exact ⟨_, w3, rfl, HR3.out, HBO.out⟩
            · go_simp
              refine hK _ _ ?_
              clear hK K
              (try simp only [Act.put, List.setIfInBounds_toArray, List.set_cons_zero, List.set_cons_succ])
              refine wpAnyIn_ready (rs := [0, 4]) (by kernel_rfl) (by simp) ?_
              refine AllReadyIn.cons rfl (fun K hK => ?_) (AllReadyIn.cons rfl (fun K hK => ?_) AllReadyIn.nil)
              · go_simp
                refine hK _ _ ?_
                clear hK K
                (try simp only [Act.put, List.setIfInBounds_toArray, List.set_cons_zero, List.set_cons_succ])
                refine wpAnyIn_ready (rs := [4]) (by kernel_rfl) (by simp) ?_
                refine AllReadyIn.cons rfl (fun K hK => ?_) AllReadyIn.nil
                go_simp
                refine hK _ _ ?_
                clear hK K
                (try simp only [Act.put, List.setIfInBounds_toArray, List.set_cons_zero, List.set_cons_succ])
                refine wpAnyIn_ready (rs := [8]) (by kernel_rfl) (by simp) ?_
                refine AllReadyIn.cons rfl (fun K hK => ?_) AllReadyIn.nil
                obtain ⟨v3, w3, hrun, hR3, hg3⟩ := rows_push (Kd.R_below hRd hb2) (Kd.R_lower (Kd.R_mono (Kd.R_bound hR2) (fun k hk => hfr k hk.2.1)) hZW) (Nat.le_trans hZW hb2.size) hrl
                obtain ⟨A3, n3, cap3, rfl⟩ : ∃ A3 n3 cap3, v3 = .slice A3 n3 cap3 := by obtain ⟨A3, cap3, h_⟩ := Kd.R_slice hR3; exact ⟨A3, _, cap3, h_⟩
                have hbo := body_out hB1 hb2 hg3 hown0 (by omega)
                have g4 : w3.heap[w.heap.size]? = some (.cells (sieveC (takeK (sieved pre).1 x.row) sv) 71 (0, 0)) := (hbo.same _ hlt hne).trans h1
                have c4 : w3.cell? ⟨w.heap.size, 8, none⟩ = some sv := (blk_cell g4 8).trans (sieveC_row _ _ hks1)
                have f4 := blk_frozen g4 8
                have e1 : w3.cell? ⟨w.heap.size + 1, 0, none⟩ = some (Value.pointer (some { block := w.heap.size, off := 0 })) := (blk_cell ((hbo.same _ hlt2 hne2).trans hptr) 0).trans rfl
                have HBO := Lib.hid hbo
                have HR3 := Lib.hid hR3
                clear hbo hR3 g4 hg3 c1 c2 d1 d2 hR2
                rw [if_pos (by rfl)]
                refine stepIn_append (.tmp 19) (.tmp 22) rfl sv (.slice (some ⟨w2.heap.size, 0, none⟩) 1 1) _ rfl rfl hrun ?_
                clear hrun
                refine hK _ _ ?_
                clear hK K
                (try simp only [Act.put, List.setIfInBounds_toArray, List.set_cons_zero, List.set_cons_succ])
                refine wpAnyIn_ready (rs := [9]) (by kernel_rfl) (by simp) ?_
                refine AllReadyIn.cons rfl (fun K hK => ?_) AllReadyIn.nil
                go_simp
                refine hK _ _ ?_
                clear hK K
                (try simp only [Act.put, List.setIfInBounds_toArray, List.set_cons_zero, List.set_cons_succ])
                refine wpAnyIn_ready (rs := [10]) (by kernel_rfl) (by simp) ?_
                refine AllReadyIn.cons rfl (fun K hK => ?_) AllReadyIn.nil
                go_simp
                refine hK _ _ ?_
                clear hK K
                (try simp only [Act.put, List.setIfInBounds_toArray, List.set_cons_zero, List.set_cons_succ])
                refine wpAnyIn_ready (rs := [11]) (by kernel_rfl) (by simp) ?_
                refine AllReadyIn.cons rfl (fun K hK => ?_) AllReadyIn.nil
                go_simp
                refine hK _ _ ?_
                clear hK K
                (try simp only [Act.put, List.setIfInBounds_toArray, List.set_cons_zero, List.set_cons_succ])
                refine wpAnyIn_done (by kernel_rfl) ?_ _
                exact ⟨_, w3, rfl, HR3.out, HBO.out⟩
              · go_simp
                refine hK _ _ ?_
                clear hK K
                (try simp only [Act.put, List.setIfInBounds_toArray, List.set_cons_zero, List.set_cons_succ])
                refine wpAnyIn_ready (rs := [0, 8]) (by kernel_rfl) (by simp) ?_
                refine AllReadyIn.cons rfl (fun K hK => ?_) (AllReadyIn.cons rfl (fun K hK => ?_) AllReadyIn.nil)
                · go_simp
                  refine hK _ _ ?_
                  clear hK K
                  (try simp only [Act.put, List.setIfInBounds_toArray, List.set_cons_zero, List.set_cons_succ])
                  refine wpAnyIn_ready (rs := [8]) (by kernel_rfl) (by simp) ?_
                  refine AllReadyIn.cons rfl (fun K hK => ?_) AllReadyIn.nil
                  obtain ⟨v3, w3, hrun, hR3, hg3⟩ := rows_push (Kd.R_below hRd hb2) (Kd.R_lower (Kd.R_mono (Kd.R_bound hR2) (fun k hk => hfr k hk.2.1)) hZW) (Nat.le_trans hZW hb2.size) hrl
                  obtain ⟨A3, n3, cap3, rfl⟩ : ∃ A3 n3 cap3, v3 = .slice A3 n3 cap3 := by obtain ⟨A3, cap3, h_⟩ := Kd.R_slice hR3; exact ⟨A3, _, cap3, h_⟩
                  have hbo := body_out hB1 hb2 hg3 hown0 (by omega)
                  have g4 : w3.heap[w.heap.size]? = some (.cells (sieveC (takeK (sieved pre).1 x.row) sv) 71 (0, 0)) := (hbo.same _ hlt hne).trans h1
                  have c4 : w3.cell? ⟨w.heap.size, 8, none⟩ = some sv := (blk_cell g4 8).trans (sieveC_row _ _ hks1)
                  have f4 := blk_frozen g4 8
                  have e1 : w3.cell? ⟨w.heap.size + 1, 0, none⟩ = some (Value.pointer (some { block := w.heap.size, off := 0 })) := (blk_cell ((hbo.same _ hlt2 hne2).trans hptr) 0).trans rfl
                  have HBO := Lib.hid hbo
                  have HR3 := Lib.hid hR3
                  clear hbo hR3 g4 hg3 c1 c2 d1 d2 hR2
                  rw [if_pos (by rfl)]
                  refine stepIn_append (.tmp 19) (.tmp 22) rfl sv (.slice (some ⟨w2.heap.size, 0, none⟩) 1 1) _ rfl rfl hrun ?_
                  clear hrun
                  refine hK _ _ ?_
                  clear hK K
                  (try simp only [Act.put, List.setIfInBounds_toArray, List.set_cons_zero, List.set_cons_succ])
                  refine wpAnyIn_ready (rs := [9]) (by kernel_rfl) (by simp) ?_
                  refine AllReadyIn.cons rfl (fun K hK => ?_) AllReadyIn.nil
                  go_simp
                  refine hK _ _ ?_
                  clear hK K
                  (try simp only [Act.put, List.setIfInBounds_toArray, List.set_cons_zero, List.set_cons_succ])
                  refine wpAnyIn_ready (rs := [10]) (by kernel_rfl) (by simp) ?_
                  refine AllReadyIn.cons rfl (fun K hK => ?_) AllReadyIn.nil
                  go_simp
                  refine hK _ _ ?_
                  clear hK K
                  (try simp only [Act.put, List.setIfInBounds_toArray, List.set_cons_zero, List.set_cons_succ])
                  refine wpAnyIn_ready (rs := [11]) (by kernel_rfl) (by simp) ?_
                  refine AllReadyIn.cons rfl (fun K hK => ?_) AllReadyIn.nil
                  go_simp
                  refine hK _ _ ?_
                  clear hK K
                  (try simp only [Act.put, List.setIfInBounds_toArray, List.set_cons_zero, List.set_cons_succ])
                  refine wpAnyIn_done (by kernel_rfl) ?_ _
                  exact ⟨_, w3, rfl, HR3.out, HBO.out⟩
                · obtain ⟨v3, w3, hrun, hR3, hg3⟩ := rows_push (Kd.R_below hRd hb2) (Kd.R_lower (Kd.R_mono (Kd.R_bound hR2) (fun k hk => hfr k hk.2.1)) hZW) (Nat.le_trans hZW hb2.size) hrl
                  obtain ⟨A3, n3, cap3, rfl⟩ : ∃ A3 n3 cap3, v3 = .slice A3 n3 cap3 := by obtain ⟨A3, cap3, h_⟩ := Kd.R_slice hR3; exact ⟨A3, _, cap3, h_⟩
                  have hbo := body_out hB1 hb2 hg3 hown0 (by omega)
                  have g4 : w3.heap[w.heap.size]? = some (.cells (sieveC (takeK (sieved pre).1 x.row) sv) 71 (0, 0)) := (hbo.same _ hlt hne).trans h1
                  have c4 : w3.cell? ⟨w.heap.size, 8, none⟩ = some sv := (blk_cell g4 8).trans (sieveC_row _ _ hks1)
                  have f4 := blk_frozen g4 8
                  have e1 : w3.cell? ⟨w.heap.size + 1, 0, none⟩ = some (Value.pointer (some { block := w.heap.size, off := 0 })) := (blk_cell ((hbo.same _ hlt2 hne2).trans hptr) 0).trans rfl
                  have HBO := Lib.hid hbo
                  have HR3 := Lib.hid hR3
                  clear hbo hR3 g4 hg3 c1 c2 d1 d2 hR2
                  rw [if_pos (by rfl)]
                  refine stepIn_append (.tmp 19) (.tmp 22) rfl sv (.slice (some ⟨w2.heap.size, 0, none⟩) 1 1) _ rfl rfl hrun ?_
                  clear hrun
                  refine hK _ _ ?_
                  clear hK K
                  (try simp only [Act.put, List.setIfInBounds_toArray, List.set_cons_zero, List.set_cons_succ])
                  refine wpAnyIn_ready (rs := [0]) (by kernel_rfl) (by simp) ?_
                  refine AllReadyIn.cons rfl (fun K hK => ?_) AllReadyIn.nil
                  go_simp
                  refine hK _ _ ?_
                  clear hK K
                  (try simp only [Act.put, List.setIfInBounds_toArray, List.set_cons_zero, List.set_cons_succ])
                  refine wpAnyIn_ready (rs := [9]) (by kernel_rfl) (by simp) ?_
                  refine AllReadyIn.cons rfl (fun K hK => ?_) AllReadyIn.nil
                  go_simp
                  refine hK _ _ ?_
                  clear hK K
                  (try simp only [Act.put, List.setIfInBounds_toArray, List.set_cons_zero, List.set_cons_succ])
                  refine wpAnyIn_ready (rs := [10]) (by kernel_rfl) (by simp) ?_
                  refine AllReadyIn.cons rfl (fun K hK => ?_) AllReadyIn.nil
                  go_simp
                  refine hK _ _ ?_
                  clear hK K
                  (try simp only [Act.put, List.setIfInBounds_toArray, List.set_cons_zero, List.set_cons_succ])
                  refine wpAnyIn_ready (rs := [11]) (by kernel_rfl) (by simp) ?_
                  refine AllReadyIn.cons rfl (fun K hK => ?_) AllReadyIn.nil
                  go_simp
                  refine hK _ _ ?_
                  clear hK K
                  (try simp only [Act.put, List.setIfInBounds_toArray, List.set_cons_zero, List.set_cons_succ])
                  refine wpAnyIn_done (by kernel_rfl) ?_ _
                  exact ⟨_, w3, rfl, HR3.out, HBO.out⟩
        · go_simp
          refine ⟨trivial, ?_⟩
          refine (callsIn_wide.2 (cloneB_calls x.1.2.1 x.1.2.2 x.row _ hCW hcq (Nat.le_trans HLQ.out (by decide)))).mono ?_
          rintro e w2 ⟨v2, rfl, hR2, hb2⟩
          obtain ⟨A2, cap2, rfl⟩ := Kd.R_slice hR2
          dsimp only
          have c1 : w2.cell? ⟨w.heap.size + 1, 0, none⟩ = some (Value.pointer (some { block := w.heap.size, off := 0 })) := (hb2.cell (p := ⟨w.heap.size + 1, 0, none⟩) hlt2).trans c1
          have c2 : w2.cell? ⟨w.heap.size, 8, none⟩ = some sv := (hb2.cell (p := ⟨w.heap.size, 8, none⟩) hlt).trans c2
          have d1 : (w2.alloc (.cells #[.slice A2 x.row.length cap2] 22)).cell? ⟨w.heap.size + 1, 0, none⟩ = some (Value.pointer (some { block := w.heap.size, off := 0 })) := ((below_alloc (Below.refl _ w2) (.cells #[.slice A2 x.row.length cap2] 22)).cell (p := ⟨w.heap.size + 1, 0, none⟩) (Nat.lt_of_lt_of_le hlt2 hb2.size)).trans c1
          have d2 : (w2.alloc (.cells #[.slice A2 x.row.length cap2] 22)).cell? ⟨w.heap.size, 8, none⟩ = some sv := ((below_alloc (Below.refl _ w2) (.cells #[.slice A2 x.row.length cap2] 22)).cell (p := ⟨w.heap.size, 8, none⟩) (Nat.lt_of_lt_of_le hlt hb2.size)).trans c2
          refine hK _ _ ?_
          clear hK K
          (try simp only [Act.put, List.setIfInBounds_toArray, List.set_cons_zero, List.set_cons_succ])
          refine wpAnyIn_ready (rs := [0, 1, 7]) (by kernel_rfl) (by simp) ?_
          refine AllReadyIn.cons rfl (fun K hK => ?_) (AllReadyIn.cons rfl (fun K hK => ?_) (AllReadyIn.cons rfl (fun K hK => ?_) AllReadyIn.nil))
          · go_simp
            refine hK _ _ ?_
            clear hK K
            (try simp only [Act.put, List.setIfInBounds_toArray, List.set_cons_zero, List.set_cons_succ])
            refine wpAnyIn_ready (rs := [1, 7]) (by kernel_rfl) (by simp) ?_
            refine AllReadyIn.cons rfl (fun K hK => ?_) (AllReadyIn.cons rfl (fun K hK => ?_) AllReadyIn.nil)
            · go_simp
              refine hK _ _ ?_
              clear hK K
              (try simp only [Act.put, List.setIfInBounds_toArray, List.set_cons_zero, List.set_cons_succ])
              refine wpAnyIn_take (i := 2) (v := Value.pointer (some { block := w.heap.size, off := 0 })) rfl rfl (by kernel_rfl) (by kernel_rfl) (by kernel_rfl) (fun _ _ _ h => h) ⟨Or.inl ⟨by rfl, ?_⟩, fun _ => rfl⟩ ?_
              · intro w_; go_simp; (try with_reducible rfl)
              (try simp only [Act.put, List.setIfInBounds_toArray, List.set_cons_zero, List.set_cons_succ])
              refine wpAnyIn_take (i := 3) (v := Value.pointer (some { block := w.heap.size, off := 8 })) rfl rfl (by kernel_rfl) (by kernel_rfl) (by kernel_rfl) (fun _ _ _ h => h) ⟨Or.inl ⟨by rfl, ?_⟩, fun _ => rfl⟩ ?_
              · intro w_; go_simp; (try with_reducible rfl)
              (try simp only [Act.put, List.setIfInBounds_toArray, List.set_cons_zero, List.set_cons_succ])
              refine wpAnyIn_ready (rs := [4, 7]) (by kernel_rfl) (by simp) ?_
              refine AllReadyIn.cons rfl (fun K hK => ?_) (AllReadyIn.cons rfl (fun K hK => ?_) AllReadyIn.nil)
              · go_simp
                refine hK _ _ ?_
                clear hK K
                (try simp only [Act.put, List.setIfInBounds_toArray, List.set_cons_zero, List.set_cons_succ])
                refine wpAnyIn_ready (rs := [7]) (by kernel_rfl) (by simp) ?_
                refine AllReadyIn.cons rfl (fun K hK => ?_) AllReadyIn.nil
                go_simp
                refine hK _ _ ?_
                clear hK K
                (try simp only [Act.put, List.setIfInBounds_toArray, List.set_cons_zero, List.set_cons_succ])
                refine wpAnyIn_ready (rs := [8]) (by kernel_rfl) (by simp) ?_
                refine AllReadyIn.cons rfl (fun K hK => ?_) AllReadyIn.nil
                obtain ⟨v3, w3, hrun, hR3, hg3⟩ := rows_push (Kd.R_below hRd hb2) (Kd.R_lower (Kd.R_mono (Kd.R_bound hR2) (fun k hk => hfr k hk.2.1)) hZW) (Nat.le_trans hZW hb2.size) hrl
                obtain ⟨A3, n3, cap3, rfl⟩ : ∃ A3 n3 cap3, v3 = .slice A3 n3 cap3 := by obtain ⟨A3, cap3, h_⟩ := Kd.R_slice hR3; exact ⟨A3, _, cap3, h_⟩
                have hbo := body_out hB1 hb2 hg3 hown0 (by omega)
                have g4 : w3.heap[w.heap.size]? = some (.cells (sieveC (takeK (sieved pre).1 x.row) sv) 71 (0, 0)) := (hbo.same _ hlt hne).trans h1
                have c4 : w3.cell? ⟨w.heap.size, 8, none⟩ = some sv := (blk_cell g4 8).trans (sieveC_row _ _ hks1)
                have f4 := blk_frozen g4 8
                have e1 : w3.cell? ⟨w.heap.size + 1, 0, none⟩ = some (Value.pointer (some { block := w.heap.size, off := 0 })) := (blk_cell ((hbo.same _ hlt2 hne2).trans hptr) 0).trans rfl
                have HBO := Lib.hid hbo
                have HR3 := Lib.hid hR3
                clear hbo hR3 g4 hg3 c1 c2 d1 d2 hR2
                rw [if_pos (by rfl)]
                refine stepIn_append (.tmp 19) (.tmp 22) rfl sv (.slice (some ⟨w2.heap.size, 0, none⟩) 1 1) _ rfl rfl hrun ?_
                clear hrun
                refine hK _ _ ?_
                clear hK K
                (try simp only [Act.put, List.setIfInBounds_toArray, List.set_cons_zero, List.set_cons_succ])
                refine wpAnyIn_ready (rs := [9]) (by kernel_rfl) (by simp) ?_
                refine AllReadyIn.cons rfl (fun K hK => ?_) AllReadyIn.nil
                go_simp
                refine hK _ _ ?_
                clear hK K
                (try simp only [Act.put, List.setIfInBounds_toArray, List.set_cons_zero, List.set_cons_succ])
                refine wpAnyIn_ready (rs := [10]) (by kernel_rfl) (by simp) ?_
                refine AllReadyIn.cons rfl (fun K hK => ?_) AllReadyIn.nil
                go_simp
                refine hK _ _ ?_
                clear hK K
                (try simp only [Act.put, List.setIfInBounds_toArray, List.set_cons_zero, List.set_cons_succ])
                refine wpAnyIn_ready (rs := [11]) (by kernel_rfl) (by simp) ?_
                refine AllReadyIn.cons rfl (fun K hK => ?_) AllReadyIn.nil
                go_simp
                refine hK _ _ ?_
                clear hK K
                (try simp only [Act.put, List.setIfInBounds_toArray, List.set_cons_zero, List.set_cons_succ])
                refine wpAnyIn_done (by kernel_rfl) ?_ _
                exact ⟨_, w3, rfl, HR3.out, HBO.out⟩
              · go_simp
                refine hK _ _ ?_
                clear hK K
                (try simp only [Act.put, List.setIfInBounds_toArray, List.set_cons_zero, List.set_cons_succ])
                refine wpAnyIn_ready (rs := [4]) (by kernel_rfl) (by simp) ?_
                refine AllReadyIn.cons rfl (fun K hK => ?_) AllReadyIn.nil
                go_simp
                refine hK _ _ ?_
                clear hK K
                (try simp only [Act.put, List.setIfInBounds_toArray, List.set_cons_zero, List.set_cons_succ])
                refine wpAnyIn_ready (rs := [8]) (by kernel_rfl) (by simp) ?_
                refine AllReadyIn.cons rfl (fun K hK => ?_) AllReadyIn.nil
                obtain ⟨v3, w3, hrun, hR3, hg3⟩ := rows_push (Kd.R_below hRd hb2) (Kd.R_lower (Kd.R_mono (Kd.R_bound hR2) (fun k hk => hfr k hk.2.1)) hZW) (Nat.le_trans hZW hb2.size) hrl
                obtain ⟨A3, n3, cap3, rfl⟩ : ∃ A3 n3 cap3, v3 = .slice A3 n3 cap3 := by obtain ⟨A3, cap3, h_⟩ := Kd.R_slice hR3; exact ⟨A3, _, cap3, h_⟩
                have hbo := body_out hB1 hb2 hg3 hown0 (by omega)
                have g4 : w3.heap[w.heap.size]? = some (.cells (sieveC (takeK (sieved pre).1 x.row) sv) 71 (0, 0)) := (hbo.same _ hlt hne).trans h1
                have c4 : w3.cell? ⟨w.heap.size, 8, none⟩ = some sv := (blk_cell g4 8).trans (sieveC_row _ _ hks1)
                have f4 := blk_frozen g4 8
                have e1 : w3.cell? ⟨w.heap.size + 1, 0, none⟩ = some (Value.pointer (some { block := w.heap.size, off := 0 })) := (blk_cell ((hbo.same _ hlt2 hne2).trans hptr) 0).trans rfl
                have HBO := Lib.hid hbo
                have HR3 := Lib.hid hR3
                clear hbo hR3 g4 hg3 c1 c2 d1 d2 hR2
                rw [if_pos (by rfl)]
                refine stepIn_append (.tmp 19) (.tmp 22) rfl sv (.slice (some ⟨w2.heap.size, 0, none⟩) 1 1) _ rfl rfl hrun ?_
                clear hrun
                refine hK _ _ ?_
                clear hK K
                (try simp only [Act.put, List.setIfInBounds_toArray, List.set_cons_zero, List.set_cons_succ])
                refine wpAnyIn_ready (rs := [9]) (by kernel_rfl) (by simp) ?_
                refine AllReadyIn.cons rfl (fun K hK => ?_) AllReadyIn.nil
                go_simp
                refine hK _ _ ?_
                clear hK K
                (try simp only [Act.put, List.setIfInBounds_toArray, List.set_cons_zero, List.set_cons_succ])
                refine wpAnyIn_ready (rs := [10]) (by kernel_rfl) (by simp) ?_
                refine AllReadyIn.cons rfl (fun K hK => ?_) AllReadyIn.nil
                go_simp
                refine hK _ _ ?_
                clear hK K
                (try simp only [Act.put, List.setIfInBounds_toArray, List.set_cons_zero, List.set_cons_succ])
                refine wpAnyIn_ready (rs := [11]) (by kernel_rfl) (by simp) ?_
                refine AllReadyIn.cons rfl (fun K hK => ?_) AllReadyIn.nil
                go_simp
                refine hK _ _ ?_
                clear hK K
                (try simp only [Act.put, List.setIfInBounds_toArray, List.set_cons_zero, List.set_cons_succ])
                refine wpAnyIn_done (by kernel_rfl) ?_ _
                exact ⟨_, w3, rfl, HR3.out, HBO.out⟩
            · go_simp
              refine hK _ _ ?_
              clear hK K
              (try simp only [Act.put, List.setIfInBounds_toArray, List.set_cons_zero, List.set_cons_succ])
              refine wpAnyIn_ready (rs := [1]) (by kernel_rfl) (by simp) ?_
              refine AllReadyIn.cons rfl (fun K hK => ?_) AllReadyIn.nil
              go_simp
              refine hK _ _ ?_
              clear hK K
              (try simp only [Act.put, List.setIfInBounds_toArray, List.set_cons_zero, List.set_cons_succ])
              refine wpAnyIn_take (i := 2) (v := Value.pointer (some { block := w.heap.size, off := 0 })) rfl rfl (by kernel_rfl) (by kernel_rfl) (by kernel_rfl) (fun _ _ _ h => h) ⟨Or.inl ⟨by rfl, ?_⟩, fun _ => rfl⟩ ?_
              · intro w_; go_simp; (try with_reducible rfl)
              (try simp only [Act.put, List.setIfInBounds_toArray, List.set_cons_zero, List.set_cons_succ])
              refine wpAnyIn_take (i := 3) (v := Value.pointer (some { block := w.heap.size, off := 8 })) rfl rfl (by kernel_rfl) (by kernel_rfl) (by kernel_rfl) (fun _ _ _ h => h) ⟨Or.inl ⟨by rfl, ?_⟩, fun _ => rfl⟩ ?_
              · intro w_; go_simp; (try with_reducible rfl)
              (try simp only [Act.put, List.setIfInBounds_toArray, List.set_cons_zero, List.set_cons_succ])
              refine wpAnyIn_ready (rs := [4]) (by kernel_rfl) (by simp) ?_
              refine AllReadyIn.cons rfl (fun K hK => ?_) AllReadyIn.nil
              go_simp
              refine hK _ _ ?_
              clear hK K
              (try simp only [Act.put, List.setIfInBounds_toArray, List.set_cons_zero, List.set_cons_succ])
              refine wpAnyIn_ready (rs := [8]) (by kernel_rfl) (by simp) ?_
              refine AllReadyIn.cons rfl (fun K hK => ?_) AllReadyIn.nil
              obtain ⟨v3, w3, hrun, hR3, hg3⟩ := rows_push (Kd.R_below hRd hb2) (Kd.R_lower (Kd.R_mono (Kd.R_bound hR2) (fun k hk => hfr k hk.2.1)) hZW) (Nat.le_trans hZW hb2.size) hrl
              obtain ⟨A3, n3, cap3, rfl⟩ : ∃ A3 n3 cap3, v3 = .slice A3 n3 cap3 := by obtain ⟨A3, cap3, h_⟩ := Kd.R_slice hR3; exact ⟨A3, _, cap3, h_⟩
              have hbo := body_out hB1 hb2 hg3 hown0 (by omega)
              have g4 : w3.heap[w.heap.size]? = some (.cells (sieveC (takeK (sieved pre).1 x.row) sv) 71 (0, 0)) := (hbo.same _ hlt hne).trans h1
              have c4 : w3.cell? ⟨w.heap.size, 8, none⟩ = some sv := (blk_cell g4 8).trans (sieveC_row _ _ hks1)
              have f4 := blk_frozen g4 8
              have e1 : w3.cell? ⟨w.heap.size + 1, 0, none⟩ = some (Value.pointer (some { block := w.heap.size, off := 0 })) := (blk_cell ((hbo.same _ hlt2 hne2).trans hptr) 0).trans rfl
              have HBO := Lib.hid hbo
              have HR3 := Lib.hid hR3
              clear hbo hR3 g4 hg3 c1 c2 d1 d2 hR2
              rw [if_pos (by rfl)]
              refine stepIn_append (.tmp 19) (.tmp 22) rfl sv (.slice (some ⟨w2.heap.size, 0, none⟩) 1 1) _ rfl rfl hrun ?_
              clear hrun
              refine hK _ _ ?_
              clear hK K
              (try simp only [Act.put, List.setIfInBounds_toArray, List.set_cons_zero, List.set_cons_succ])
              refine wpAnyIn_ready (rs := [9]) (by kernel_rfl) (by simp) ?_
              refine AllReadyIn.cons rfl (fun K hK => ?_) AllReadyIn.nil
              go_simp
              refine hK _ _ ?_
              clear hK K
              (try simp only [Act.put, List.setIfInBounds_toArray, List.set_cons_zero, List.set_cons_succ])
              refine wpAnyIn_ready (rs := [10]) (by kernel_rfl) (by simp) ?_
              refine AllReadyIn.cons rfl (fun K hK => ?_) AllReadyIn.nil
              go_simp
              refine hK _ _ ?_
              clear hK K
              (try simp only [Act.put, List.setIfInBounds_toArray, List.set_cons_zero, List.set_cons_succ])
              refine wpAnyIn_ready (rs := [11]) (by kernel_rfl) (by simp) ?_
              refine AllReadyIn.cons rfl (fun K hK => ?_) AllReadyIn.nil
              go_simp
              refine hK _ _ ?_
              clear hK K
              (try simp only [Act.put, List.setIfInBounds_toArray, List.set_cons_zero, List.set_cons_succ])
              refine wpAnyIn_done (by kernel_rfl) ?_ _
              exact ⟨_, w3, rfl, HR3.out, HBO.out⟩
          · go_simp
            refine hK _ _ ?_
            clear hK K
            (try simp only [Act.put, List.setIfInBounds_toArray, List.set_cons_zero, List.set_cons_succ])
            refine wpAnyIn_take (i := 2) (v := Value.pointer (some { block := w.heap.size, off := 0 })) rfl rfl (by kernel_rfl) (by kernel_rfl) (by kernel_rfl) (fun _ _ _ h => h) ⟨Or.inl ⟨by rfl, ?_⟩, fun _ => rfl⟩ ?_
            · intro w_; go_simp; (try with_reducible rfl)
            (try simp only [Act.put, List.setIfInBounds_toArray, List.set_cons_zero, List.set_cons_succ])
            refine wpAnyIn_take (i := 3) (v := Value.pointer (some { block := w.heap.size, off := 8 })) rfl rfl (by kernel_rfl) (by kernel_rfl) (by kernel_rfl) (fun _ _ _ h => h) ⟨Or.inl ⟨by rfl, ?_⟩, fun _ => rfl⟩ ?_
            · intro w_; go_simp; (try with_reducible rfl)
            (try simp only [Act.put, List.setIfInBounds_toArray, List.set_cons_zero, List.set_cons_succ])
            refine wpAnyIn_ready (rs := [0, 4, 7]) (by kernel_rfl) (by simp) ?_
            refine AllReadyIn.cons rfl (fun K hK => ?_) (AllReadyIn.cons rfl (fun K hK => ?_) (AllReadyIn.cons rfl (fun K hK => ?_) AllReadyIn.nil))
            · go_simp
              refine hK _ _ ?_
              clear hK K
              (try simp only [Act.put, List.setIfInBounds_toArray, List.set_cons_zero, List.set_cons_succ])
              refine wpAnyIn_ready (rs := [4, 7]) (by kernel_rfl) (by simp) ?_
              refine AllReadyIn.cons rfl (fun K hK => ?_) (AllReadyIn.cons rfl (fun K hK => ?_) AllReadyIn.nil)
              · go_simp
                refine hK _ _ ?_
                clear hK K
                (try simp only [Act.put, List.setIfInBounds_toArray, List.set_cons_zero, List.set_cons_succ])
                refine wpAnyIn_ready (rs := [7]) (by kernel_rfl) (by simp) ?_
                refine AllReadyIn.cons rfl (fun K hK => ?_) AllReadyIn.nil
                go_simp
                refine hK _ _ ?_
                clear hK K
                (try simp only [Act.put, List.setIfInBounds_toArray, List.set_cons_zero, List.set_cons_succ])
                refine wpAnyIn_ready (rs := [8]) (by kernel_rfl) (by simp) ?_
                refine AllReadyIn.cons rfl (fun K hK => ?_) AllReadyIn.nil
                obtain ⟨v3, w3, hrun, hR3, hg3⟩ := rows_push (Kd.R_below hRd hb2) (Kd.R_lower (Kd.R_mono (Kd.R_bound hR2) (fun k hk => hfr k hk.2.1)) hZW) (Nat.le_trans hZW hb2.size) hrl
                obtain ⟨A3, n3, cap3, rfl⟩ : ∃ A3 n3 cap3, v3 = .slice A3 n3 cap3 := by obtain ⟨A3, cap3, h_⟩ := Kd.R_slice hR3; exact ⟨A3, _, cap3, h_⟩
                have hbo := body_out hB1 hb2 hg3 hown0 (by omega)
                have g4 : w3.heap[w.heap.size]? = some (.cells (sieveC (takeK (sieved pre).1 x.row) sv) 71 (0, 0)) := (hbo.same _ hlt hne).trans h1
                have c4 : w3.cell? ⟨w.heap.size, 8, none⟩ = some sv := (blk_cell g4 8).trans (sieveC_row _ _ hks1)
                have f4 := blk_frozen g4 8
                have e1 : w3.cell? ⟨w.heap.size + 1, 0, none⟩ = some (Value.pointer (some { block := w.heap.size, off := 0 })) := (blk_cell ((hbo.same _ hlt2 hne2).trans hptr) 0).trans rfl
                have HBO := Lib.hid hbo
                have HR3 := Lib.hid hR3
                clear hbo hR3 g4 hg3 c1 c2 d1 d2 hR2
                rw [if_pos (by rfl)]
                refine stepIn_append (.tmp 19) (.tmp 22) rfl sv (.slice (some ⟨w2.heap.size, 0, none⟩) 1 1) _ rfl rfl hrun ?_
                clear hrun
                refine hK _ _ ?_
                clear hK K
                (try simp only [Act.put, List.setIfInBounds_toArray, List.set_cons_zero, List.set_cons_succ])
                refine wpAnyIn_ready (rs := [9]) (by kernel_rfl) (by simp) ?_
                refine AllReadyIn.cons rfl (fun K hK => ?_) AllReadyIn.nil
                go_simp
                refine hK _ _ ?_
                clear hK K
                (try simp only [Act.put, List.setIfInBounds_toArray, List.set_cons_zero, List.set_cons_succ])
                refine wpAnyIn_ready (rs := [10]) (by kernel_rfl) (by simp) ?_
                refine AllReadyIn.cons rfl (fun K hK => ?_) AllReadyIn.nil
                go_simp
                refine hK _ _ ?_
                clear hK K
                (try simp only [Act.put, List.setIfInBounds_toArray, List.set_cons_zero, List.set_cons_succ])
                refine wpAnyIn_ready (rs := [11]) (by kernel_rfl) (by simp) ?_
                refine AllReadyIn.cons rfl (fun K hK => ?_) AllReadyIn.nil
                go_simp
                refine hK _ _ ?_
                clear hK K
                (try simp only [Act.put, List.setIfInBounds_toArray, List.set_cons_zero, List.set_cons_succ])
                refine wpAnyIn_done (by kernel_rfl) ?_ _
                exact ⟨_, w3, rfl, HR3.out, HBO.out⟩
              · go_simp
                refine hK _ _ ?_
                clear hK K
                (try simp only [Act.put, List.setIfInBounds_toArray, List.set_cons_zero, List.set_cons_succ])
                refine wpAnyIn_ready (rs := [4]) (by kernel_rfl) (by simp) ?_
                refine AllReadyIn.cons rfl (fun K hK => ?_) AllReadyIn.nil
                go_simp
                refine hK _ _ ?_
                clear hK K
                (try simp only [Act.put, List.setIfInBounds_toArray, List.set_cons_zero, List.set_cons_succ])
                refine wpAnyIn_ready (rs := [8]) (by kernel_rfl) (by simp) ?_
                refine AllReadyIn.cons rfl (fun K hK => ?_) AllReadyIn.nil
                obtain ⟨v3, w3, hrun, hR3, hg3⟩ := rows_push (Kd.R_below hRd hb2) (Kd.R_lower (Kd.R_mono (Kd.R_bound hR2) (fun k hk => hfr k hk.2.1)) hZW) (Nat.le_trans hZW hb2.size) hrl
                obtain ⟨A3, n3, cap3, rfl⟩ : ∃ A3 n3 cap3, v3 = .slice A3 n3 cap3 := by obtain ⟨A3, cap3, h_⟩ := Kd.R_slice hR3; exact ⟨A3, _, cap3, h_⟩
                have hbo := body_out hB1 hb2 hg3 hown0 (by omega)
                have g4 : w3.heap[w.heap.size]? = some (.cells (sieveC (takeK (sieved pre).1 x.row) sv) 71 (0, 0)) := (hbo.same _ hlt hne).trans h1
                have c4 : w3.cell? ⟨w.heap.size, 8, none⟩ = some sv := (blk_cell g4 8).trans (sieveC_row _ _ hks1)
                have f4 := blk_frozen g4 8
                have e1 : w3.cell? ⟨w.heap.size + 1, 0, none⟩ = some (Value.pointer (some { block := w.heap.size, off := 0 })) := (blk_cell ((hbo.same _ hlt2 hne2).trans hptr) 0).trans rfl
                have HBO := Lib.hid hbo
                have HR3 := Lib.hid hR3
                clear hbo hR3 g4 hg3 c1 c2 d1 d2 hR2
                rw [if_pos (by rfl)]
                refine stepIn_append (.tmp 19) (.tmp 22) rfl sv (.slice (some ⟨w2.heap.size, 0, none⟩) 1 1) _ rfl rfl hrun ?_
                clear hrun
                refine hK _ _ ?_
                clear hK K
                (try simp only [Act.put, List.setIfInBounds_toArray, List.set_cons_zero, List.set_cons_succ])
                refine wpAnyIn_ready (rs := [9]) (by kernel_rfl) (by simp) ?_
                refine AllReadyIn.cons rfl (fun K hK => ?_) AllReadyIn.nil
                go_simp
                refine hK _ _ ?_
                clear hK K
                (try simp only [Act.put, List.setIfInBounds_toArray, List.set_cons_zero, List.set_cons_succ])
                refine wpAnyIn_ready (rs := [10]) (by kernel_rfl) (by simp) ?_
                refine AllReadyIn.cons rfl (fun K hK => ?_) AllReadyIn.nil
                go_simp
                refine hK _ _ ?_
                clear hK K
                (try simp only [Act.put, List.setIfInBounds_toArray, List.set_cons_zero, List.set_cons_succ])
                refine wpAnyIn_ready (rs := [11]) (by kernel_rfl) (by simp) ?_
                refine AllReadyIn.cons rfl (fun K hK => ?_) AllReadyIn.nil
                go_simp
                refine hK _ _ ?_
                clear hK K
                (try simp only [Act.put, List.setIfInBounds_toArray, List.set_cons_zero, List.set_cons_succ])
                refine wpAnyIn_done (by kernel_rfl) ?_ _
                exact ⟨_, w3, rfl, HR3.out, HBO.out⟩
            · go_simp
              refine hK _ _ ?_
              clear hK K
              (try simp only [Act.put, List.setIfInBounds_toArray, List.set_cons_zero, List.set_cons_succ])
              refine wpAnyIn_ready (rs := [0, 7]) (by kernel_rfl) (by simp) ?_
              refine AllReadyIn.cons rfl (fun K hK => ?_) (AllReadyIn.cons rfl (fun K hK => ?_) AllReadyIn.nil)
              · go_simp
                refine hK _ _ ?_
                clear hK K
                (try simp only [Act.put, List.setIfInBounds_toArray, List.set_cons_zero, List.set_cons_succ])
                refine wpAnyIn_ready (rs := [7]) (by kernel_rfl) (by simp) ?_
                refine AllReadyIn.cons rfl (fun K hK => ?_) AllReadyIn.nil
                go_simp
                refine hK _ _ ?_
                clear hK K
                (try simp only [Act.put, List.setIfInBounds_toArray, List.set_cons_zero, List.set_cons_succ])
                refine wpAnyIn_ready (rs := [8]) (by kernel_rfl) (by simp) ?_
                refine AllReadyIn.cons rfl (fun K hK => ?_) AllReadyIn.nil
                obtain ⟨v3, w3, hrun, hR3, hg3⟩ := rows_push (Kd.R_below hRd hb2) (Kd.R_lower (Kd.R_mono (Kd.R_bound hR2) (fun k hk => hfr k hk.2.1)) hZW) (Nat.le_trans hZW hb2.size) hrl
                obtain ⟨A3, n3, cap3, rfl⟩ : ∃ A3 n3 cap3, v3 = .slice A3 n3 cap3 := by obtain ⟨A3, cap3, h_⟩ := Kd.R_slice hR3; exact ⟨A3, _, cap3, h_⟩
                have hbo := body_out hB1 hb2 hg3 hown0 (by omega)
                have g4 : w3.heap[w.heap.size]? = some (.cells (sieveC (takeK (sieved pre).1 x.row) sv) 71 (0, 0)) := (hbo.same _ hlt hne).trans h1
                have c4 : w3.cell? ⟨w.heap.size, 8, none⟩ = some sv := (blk_cell g4 8).trans (sieveC_row _ _ hks1)
                have f4 := blk_frozen g4 8
                have e1 : w3.cell? ⟨w.heap.size + 1, 0, none⟩ = some (Value.pointer (some { block := w.heap.size, off := 0 })) := (blk_cell ((hbo.same _ hlt2 hne2).trans hptr) 0).trans rfl
                have HBO := Lib.hid hbo
                have HR3 := Lib.hid hR3
                clear hbo hR3 g4 hg3 c1 c2 d1 d2 hR2
                rw [if_pos (by rfl)]
                refine stepIn_append (.tmp 19) (.tmp 22) rfl sv (.slice (some ⟨w2.heap.size, 0, none⟩) 1 1) _ rfl rfl hrun ?_
                clear hrun
                refine hK _ _ ?_
                clear hK K
                (try simp only [Act.put, List.setIfInBounds_toArray, List.set_cons_zero, List.set_cons_succ])
                refine wpAnyIn_ready (rs := [9]) (by kernel_rfl) (by simp) ?_
                refine AllReadyIn.cons rfl (fun K hK => ?_) AllReadyIn.nil
                go_simp
                refine hK _ _ ?_
                clear hK K
                (try simp only [Act.put, List.setIfInBounds_toArray, List.set_cons_zero, List.set_cons_succ])
                refine wpAnyIn_ready (rs := [10]) (by kernel_rfl) (by simp) ?_
                refine AllReadyIn.cons rfl (fun K hK => ?_) AllReadyIn.nil
                go_simp
                refine hK _ _ ?_
                clear hK K
                (try simp only [Act.put, List.setIfInBounds_toArray, List.set_cons_zero, List.set_cons_succ])
                refine wpAnyIn_ready (rs := [11]) (by kernel_rfl) (by simp) ?_
                refine AllReadyIn.cons rfl (fun K hK => ?_) AllReadyIn.nil
                go_simp
                refine hK _ _ ?_
                clear hK K
                (try simp only [Act.put, List.setIfInBounds_toArray, List.set_cons_zero, List.set_cons_succ])
                refine wpAnyIn_done (by kernel_rfl) ?_ _
                exact ⟨_, w3, rfl, HR3.out, HBO.out⟩
              · go_simp
                refine hK _ _ ?_
                clear hK K
                (try simp only [Act.put, List.setIfInBounds_toArray, List.set_cons_zero, List.set_cons_succ])
                refine wpAnyIn_ready (rs := [0, 8]) (by kernel_rfl) (by simp) ?_
                refine AllReadyIn.cons rfl (fun K hK => ?_) (AllReadyIn.cons rfl (fun K hK => ?_) AllReadyIn.nil)
                · go_simp
                  refine hK _ _ ?_
                  clear hK K
                  (try simp only [Act.put, List.setIfInBounds_toArray, List.set_cons_zero, List.set_cons_succ])
                  refine wpAnyIn_ready (rs := [8]) (by kernel_rfl) (by simp) ?_
                  refine AllReadyIn.cons rfl (fun K hK => ?_) AllReadyIn.nil
                  obtain ⟨v3, w3, hrun, hR3, hg3⟩ := rows_push (Kd.R_below hRd hb2) (Kd.R_lower (Kd.R_mono (Kd.R_bound hR2) (fun k hk => hfr k hk.2.1)) hZW) (Nat.le_trans hZW hb2.size) hrl
                  obtain ⟨A3, n3, cap3, rfl⟩ : ∃ A3 n3 cap3, v3 = .slice A3 n3 cap3 := by obtain ⟨A3, cap3, h_⟩ := Kd.R_slice hR3; exact ⟨A3, _, cap3, h_⟩
                  have hbo := body_out hB1 hb2 hg3 hown0 (by omega)
                  have g4 : w3.heap[w.heap.size]? = some (.cells (sieveC (takeK (sieved pre).1 x.row) sv) 71 (0, 0)) := (hbo.same _ hlt hne).trans h1
                  have c4 : w3.cell? ⟨w.heap.size, 8, none⟩ = some sv := (blk_cell g4 8).trans (sieveC_row _ _ hks1)
                  have f4 := blk_frozen g4 8
                  have e1 : w3.cell? ⟨w.heap.size + 1, 0, none⟩ = some (Value.pointer (some { block := w.heap.size, off := 0 })) := (blk_cell ((hbo.same _ hlt2 hne2).trans hptr) 0).trans rfl
                  have HBO := Lib.hid hbo
                  have HR3 := Lib.hid hR3
                  clear hbo hR3 g4 hg3 c1 c2 d1 d2 hR2
                  rw [if_pos (by rfl)]
                  refine stepIn_append (.tmp 19) (.tmp 22) rfl sv (.slice (some ⟨w2.heap.size, 0, none⟩) 1 1) _ rfl rfl hrun ?_
                  clear hrun
                  refine hK _ _ ?_
                  clear hK K
                  (try simp only [Act.put, List.setIfInBounds_toArray, List.set_cons_zero, List.set_cons_succ])
                  refine wpAnyIn_ready (rs := [9]) (by kernel_rfl) (by simp) ?_
                  refine AllReadyIn.cons rfl (fun K hK => ?_) AllReadyIn.nil
                  go_simp
                  refine hK _ _ ?_
                  clear hK K
                  (try simp only [Act.put, List.setIfInBounds_toArray, List.set_cons_zero, List.set_cons_succ])
                  refine wpAnyIn_ready (rs := [10]) (by kernel_rfl) (by simp) ?_
                  refine AllReadyIn.cons rfl (fun K hK => ?_) AllReadyIn.nil
                  go_simp
                  refine hK _ _ ?_
                  clear hK K
                  (try simp only [Act.put, List.setIfInBounds_toArray, List.set_cons_zero, List.set_cons_succ])
                  refine wpAnyIn_ready (rs := [11]) (by kernel_rfl) (by simp) ?_
                  refine AllReadyIn.cons rfl (fun K hK => ?_) AllReadyIn.nil
                  go_simp
                  refine hK _ _ ?_
                  clear hK K
                  (try simp only [Act.put, List.setIfInBounds_toArray, List.set_cons_zero, List.set_cons_succ])
                  refine wpAnyIn_done (by kernel_rfl) ?_ _
                  exact ⟨_, w3, rfl, HR3.out, HBO.out⟩
                · obtain ⟨v3, w3, hrun, hR3, hg3⟩ := rows_push (Kd.R_below hRd hb2) (Kd.R_lower (Kd.R_mono (Kd.R_bound hR2) (fun k hk => hfr k hk.2.1)) hZW) (Nat.le_trans hZW hb2.size) hrl
                  obtain ⟨A3, n3, cap3, rfl⟩ : ∃ A3 n3 cap3, v3 = .slice A3 n3 cap3 := by obtain ⟨A3, cap3, h_⟩ := Kd.R_slice hR3; exact ⟨A3, _, cap3, h_⟩
                  have hbo := body_out hB1 hb2 hg3 hown0 (by omega)
                  have g4 : w3.heap[w.heap.size]? = some (.cells (sieveC (takeK (sieved pre).1 x.row) sv) 71 (0, 0)) := (hbo.same _ hlt hne).trans h1
                  have c4 : w3.cell? ⟨w.heap.size, 8, none⟩ = some sv := (blk_cell g4 8).trans (sieveC_row _ _ hks1)
                  have f4 := blk_frozen g4 8
                  have e1 : w3.cell? ⟨w.heap.size + 1, 0, none⟩ = some (Value.pointer (some { block := w.heap.size, off := 0 })) := (blk_cell ((hbo.same _ hlt2 hne2).trans hptr) 0).trans rfl
                  have HBO := Lib.hid hbo
                  have HR3 := Lib.hid hR3
                  clear hbo hR3 g4 hg3 c1 c2 d1 d2 hR2
                  rw [if_pos (by rfl)]
                  refine stepIn_append (.tmp 19) (.tmp 22) rfl sv (.slice (some ⟨w2.heap.size, 0, none⟩) 1 1) _ rfl rfl hrun ?_
                  clear hrun
                  refine hK _ _ ?_
                  clear hK K
                  (try simp only [Act.put, List.setIfInBounds_toArray, List.set_cons_zero, List.set_cons_succ])
                  refine wpAnyIn_ready (rs := [0]) (by kernel_rfl) (by simp) ?_
                  refine AllReadyIn.cons rfl (fun K hK => ?_) AllReadyIn.nil
                  go_simp
                  refine hK _ _ ?_
                  clear hK K
                  (try simp only [Act.put, List.setIfInBounds_toArray, List.set_cons_zero, List.set_cons_succ])
                  refine wpAnyIn_ready (rs := [9]) (by kernel_rfl) (by simp) ?_
                  refine AllReadyIn.cons rfl (fun K hK => ?_) AllReadyIn.nil
                  go_simp
                  refine hK _ _ ?_
                  clear hK K
                  (try simp only [Act.put, List.setIfInBounds_toArray, List.set_cons_zero, List.set_cons_succ])
                  refine wpAnyIn_ready (rs := [10]) (by kernel_rfl) (by simp) ?_
                  refine AllReadyIn.cons rfl (fun K hK => ?_) AllReadyIn.nil
                  go_simp
                  refine hK _ _ ?_
                  clear hK K
                  (try simp only [Act.put, List.setIfInBounds_toArray, List.set_cons_zero, List.set_cons_succ])
                  refine wpAnyIn_ready (rs := [11]) (by kernel_rfl) (by simp) ?_
                  refine AllReadyIn.cons rfl (fun K hK => ?_) AllReadyIn.nil
                  go_simp
                  refine hK _ _ ?_
                  clear hK K
                  (try simp only [Act.put, List.setIfInBounds_toArray, List.set_cons_zero, List.set_cons_succ])
                  refine wpAnyIn_done (by kernel_rfl) ?_ _
                  exact ⟨_, w3, rfl, HR3.out, HBO.out⟩
            · go_simp
              refine hK _ _ ?_
              clear hK K
              (try simp only [Act.put, List.setIfInBounds_toArray, List.set_cons_zero, List.set_cons_succ])
              refine wpAnyIn_ready (rs := [0, 4]) (by kernel_rfl) (by simp) ?_
              refine AllReadyIn.cons rfl (fun K hK => ?_) (AllReadyIn.cons rfl (fun K hK => ?_) AllReadyIn.nil)
              · go_simp
                refine hK _ _ ?_
                clear hK K
                (try simp only [Act.put, List.setIfInBounds_toArray, List.set_cons_zero, List.set_cons_succ])
                refine wpAnyIn_ready (rs := [4]) (by kernel_rfl) (by simp) ?_
                refine AllReadyIn.cons rfl (fun K hK => ?_) AllReadyIn.nil
                go_simp
                refine hK _ _ ?_
                clear hK K
                (try simp only [Act.put, List.setIfInBounds_toArray, List.set_cons_zero, List.set_cons_succ])
                refine wpAnyIn_ready (rs := [8]) (by kernel_rfl) (by simp) ?_
                refine AllReadyIn.cons rfl (fun K hK => ?_) AllReadyIn.nil
                obtain ⟨v3, w3, hrun, hR3, hg3⟩ := rows_push (Kd.R_below hRd hb2) (Kd.R_lower (Kd.R_mono (Kd.R_bound hR2) (fun k hk => hfr k hk.2.1)) hZW) (Nat.le_trans hZW hb2.size) hrl
                obtain ⟨A3, n3, cap3, rfl⟩ : ∃ A3 n3 cap3, v3 = .slice A3 n3 cap3 := by obtain ⟨A3, cap3, h_⟩ := Kd.R_slice hR3; exact ⟨A3, _, cap3, h_⟩
                have hbo := body_out hB1 hb2 hg3 hown0 (by omega)
                have g4 : w3.heap[w.heap.size]? = some (.cells (sieveC (takeK (sieved pre).1 x.row) sv) 71 (0, 0)) := (hbo.same _ hlt hne).trans h1
                have c4 : w3.cell? ⟨w.heap.size, 8, none⟩ = some sv := (blk_cell g4 8).trans (sieveC_row _ _ hks1)
                have f4 := blk_frozen g4 8
                have e1 : w3.cell? ⟨w.heap.size + 1, 0, none⟩ = some (Value.pointer (some { block := w.heap.size, off := 0 })) := (blk_cell ((hbo.same _ hlt2 hne2).trans hptr) 0).trans rfl
                have HBO := Lib.hid hbo
                have HR3 := Lib.hid hR3
                clear hbo hR3 g4 hg3 c1 c2 d1 d2 hR2
                rw [if_pos (by rfl)]
                refine stepIn_append (.tmp 19) (.tmp 22) rfl sv (.slice (some ⟨w2.heap.size, 0, none⟩) 1 1) _ rfl rfl hrun ?_
                clear hrun
                refine hK _ _ ?_
                clear hK K
                (try simp only [Act.put, List.setIfInBounds_toArray, List.set_cons_zero, List.set_cons_succ])
                refine wpAnyIn_ready (rs := [9]) (by kernel_rfl) (by simp) ?_
                refine AllReadyIn.cons rfl (fun K hK => ?_) AllReadyIn.nil
                go_simp
                refine hK _ _ ?_
                clear hK K
                (try simp only [Act.put, List.setIfInBounds_toArray, List.set_cons_zero, List.set_cons_succ])
                refine wpAnyIn_ready (rs := [10]) (by kernel_rfl) (by simp) ?_
                refine AllReadyIn.cons rfl (fun K hK => ?_) AllReadyIn.nil
                go_simp
                refine hK _ _ ?_
                clear hK K
                (try simp only [Act.put, List.setIfInBounds_toArray, List.set_cons_zero, List.set_cons_succ])
                refine wpAnyIn_ready (rs := [11]) (by kernel_rfl) (by simp) ?_
                refine AllReadyIn.cons rfl (fun K hK => ?_) AllReadyIn.nil
                go_simp
                refine hK _ _ ?_
                clear hK K
                (try simp only [Act.put, List.setIfInBounds_toArray, List.set_cons_zero, List.set_cons_succ])
                refine wpAnyIn_done (by kernel_rfl) ?_ _
                exact ⟨_, w3, rfl, HR3.out, HBO.out⟩
              · go_simp
                refine hK _ _ ?_
                clear hK K
                (try simp only [Act.put, List.setIfInBounds_toArray, List.set_cons_zero, List.set_cons_succ])
                refine wpAnyIn_ready (rs := [0, 8]) (by kernel_rfl) (by simp) ?_
                refine AllReadyIn.cons rfl (fun K hK => ?_) (AllReadyIn.cons rfl (fun K hK => ?_) AllReadyIn.nil)
                · go_simp
                  refine hK _ _ ?_
                  clear hK K
                  (try simp only [Act.put, List.setIfInBounds_toArray, List.set_cons_zero, List.set_cons_succ])
                  refine wpAnyIn_ready (rs := [8]) (by kernel_rfl) (by simp) ?_
                  refine AllReadyIn.cons rfl (fun K hK => ?_) AllReadyIn.nil
                  obtain ⟨v3, w3, hrun, hR3, hg3⟩ := rows_push (Kd.R_below hRd hb2) (Kd.R_lower (Kd.R_mono (Kd.R_bound hR2) (fun k hk => hfr k hk.2.1)) hZW) (Nat.le_trans hZW hb2.size) hrl
                  obtain ⟨A3, n3, cap3, rfl⟩ : ∃ A3 n3 cap3, v3 = .slice A3 n3 cap3 := by obtain ⟨A3, cap3, h_⟩ := Kd.R_slice hR3; exact ⟨A3, _, cap3, h_⟩
                  have hbo := body_out hB1 hb2 hg3 hown0 (by omega)
                  have g4 : w3.heap[w.heap.size]? = some (.cells (sieveC (takeK (sieved pre).1 x.row) sv) 71 (0, 0)) := (hbo.same _ hlt hne).trans h1
                  have c4 : w3.cell? ⟨w.heap.size, 8, none⟩ = some sv := (blk_cell g4 8).trans (sieveC_row _ _ hks1)
                  have f4 := blk_frozen g4 8
                  have e1 : w3.cell? ⟨w.heap.size + 1, 0, none⟩ = some (Value.pointer (some { block := w.heap.size, off := 0 })) := (blk_cell ((hbo.same _ hlt2 hne2).trans hptr) 0).trans rfl
                  have HBO := Lib.hid hbo
                  have HR3 := Lib.hid hR3
                  clear hbo hR3 g4 hg3 c1 c2 d1 d2 hR2
                  rw [if_pos (by rfl)]
                  refine stepIn_append (.tmp 19) (.tmp 22) rfl sv (.slice (some ⟨w2.heap.size, 0, none⟩) 1 1) _ rfl rfl hrun ?_
                  clear hrun
                  refine hK _ _ ?_
                  clear hK K
                  (try simp only [Act.put, List.setIfInBounds_toArray, List.set_cons_zero, List.set_cons_succ])
                  refine wpAnyIn_ready (rs := [9]) (by kernel_rfl) (by simp) ?_
                  refine AllReadyIn.cons rfl (fun K hK => ?_) AllReadyIn.nil
                  go_simp
                  refine hK _ _ ?_
                  clear hK K
                  (try simp only [Act.put, List.setIfInBounds_toArray, List.set_cons_zero, List.set_cons_succ])
                  refine wpAnyIn_ready (rs := [10]) (by kernel_rfl) (by simp) ?_
                  refine AllReadyIn.cons rfl (fun K hK => ?_) AllReadyIn.nil
                  go_simp
                  refine hK _ _ ?_
                  clear hK K
                  (try simp only [Act.put, List.setIfInBounds_toArray, List.set_cons_zero, List.set_cons_succ])
                  refine wpAnyIn_ready (rs := [11]) (by kernel_rfl) (by simp) ?_
                  refine AllReadyIn.cons rfl (fun K hK => ?_) AllReadyIn.nil
                  go_simp
                  refine hK _ _ ?_
                  clear hK K
                  (try simp only [Act.put, List.setIfInBounds_toArray, List.set_cons_zero, List.set_cons_succ])
                  refine wpAnyIn_done (by kernel_rfl) ?_ _
                  exact ⟨_, w3, rfl, HR3.out, HBO.out⟩
                · obtain ⟨v3, w3, hrun, hR3, hg3⟩ := rows_push (Kd.R_below hRd hb2) (Kd.R_lower (Kd.R_mono (Kd.R_bound hR2) (fun k hk => hfr k hk.2.1)) hZW) (Nat.le_trans hZW hb2.size) hrl
                  obtain ⟨A3, n3, cap3, rfl⟩ : ∃ A3 n3 cap3, v3 = .slice A3 n3 cap3 := by obtain ⟨A3, cap3, h_⟩ := Kd.R_slice hR3; exact ⟨A3, _, cap3, h_⟩
                  have hbo := body_out hB1 hb2 hg3 hown0 (by omega)
                  have g4 : w3.heap[w.heap.size]? = some (.cells (sieveC (takeK (sieved pre).1 x.row) sv) 71 (0, 0)) := (hbo.same _ hlt hne).trans h1
                  have c4 : w3.cell? ⟨w.heap.size, 8, none⟩ = some sv := (blk_cell g4 8).trans (sieveC_row _ _ hks1)
                  have f4 := blk_frozen g4 8
                  have e1 : w3.cell? ⟨w.heap.size + 1, 0, none⟩ = some (Value.pointer (some { block := w.heap.size, off := 0 })) := (blk_cell ((hbo.same _ hlt2 hne2).trans hptr) 0).trans rfl
                  have HBO := Lib.hid hbo
                  have HR3 := Lib.hid hR3
                  clear hbo hR3 g4 hg3 c1 c2 d1 d2 hR2
                  rw [if_pos (by rfl)]
                  refine stepIn_append (.tmp 19) (.tmp 22) rfl sv (.slice (some ⟨w2.heap.size, 0, none⟩) 1 1) _ rfl rfl hrun ?_
                  clear hrun
                  refine hK _ _ ?_
                  clear hK K
                  (try simp only [Act.put, List.setIfInBounds_toArray, List.set_cons_zero, List.set_cons_succ])
                  refine wpAnyIn_ready (rs := [0]) (by kernel_rfl) (by simp) ?_
                  refine AllReadyIn.cons rfl (fun K hK => ?_) AllReadyIn.nil
                  go_simp
                  refine hK _ _ ?_
                  clear hK K
                  (try simp only [Act.put, List.setIfInBounds_toArray, List.set_cons_zero, List.set_cons_succ])
                  refine wpAnyIn_ready (rs := [9]) (by kernel_rfl) (by simp) ?_
                  refine AllReadyIn.cons rfl (fun K hK => ?_) AllReadyIn.nil
                  go_simp
                  refine hK _ _ ?_
                  clear hK K
                  (try simp only [Act.put, List.setIfInBounds_toArray, List.set_cons_zero, List.set_cons_succ])
                  refine wpAnyIn_ready (rs := [10]) (by kernel_rfl) (by simp) ?_
                  refine AllReadyIn.cons rfl (fun K hK => ?_) AllReadyIn.nil
                  go_simp
                  refine hK _ _ ?_
                  clear hK K
                  (try simp only [Act.put, List.setIfInBounds_toArray, List.set_cons_zero, List.set_cons_succ])
                  refine wpAnyIn_ready (rs := [11]) (by kernel_rfl) (by simp) ?_
                  refine AllReadyIn.cons rfl (fun K hK => ?_) AllReadyIn.nil
                  go_simp
                  refine hK _ _ ?_
                  clear hK K
                  (try simp only [Act.put, List.setIfInBounds_toArray, List.set_cons_zero, List.set_cons_succ])
                  refine wpAnyIn_done (by kernel_rfl) ?_ _
                  exact ⟨_, w3, rfl, HR3.out, HBO.out⟩
          · go_simp
            refine hK _ _ ?_
            clear hK K
            (try simp only [Act.put, List.setIfInBounds_toArray, List.set_cons_zero, List.set_cons_succ])
            refine wpAnyIn_ready (rs := [0, 1]) (by kernel_rfl) (by simp) ?_
            refine AllReadyIn.cons rfl (fun K hK => ?_) (AllReadyIn.cons rfl (fun K hK => ?_) AllReadyIn.nil)
            · go_simp
              refine hK _ _ ?_
              clear hK K
              (try simp only [Act.put, List.setIfInBounds_toArray, List.set_cons_zero, List.set_cons_succ])
              refine wpAnyIn_ready (rs := [1]) (by kernel_rfl) (by simp) ?_
              refine AllReadyIn.cons rfl (fun K hK => ?_) AllReadyIn.nil
              go_simp
              refine hK _ _ ?_
              clear hK K
              (try simp only [Act.put, List.setIfInBounds_toArray, List.set_cons_zero, List.set_cons_succ])
              refine wpAnyIn_take (i := 2) (v := Value.pointer (some { block := w.heap.size, off := 0 })) rfl rfl (by kernel_rfl) (by kernel_rfl) (by kernel_rfl) (fun _ _ _ h => h) ⟨Or.inl ⟨by rfl, ?_⟩, fun _ => rfl⟩ ?_
              · intro w_; go_simp; (try with_reducible rfl)
              (try simp only [Act.put, List.setIfInBounds_toArray, List.set_cons_zero, List.set_cons_succ])
              refine wpAnyIn_take (i := 3) (v := Value.pointer (some { block := w.heap.size, off := 8 })) rfl rfl (by kernel_rfl) (by kernel_rfl) (by kernel_rfl) (fun _ _ _ h => h) ⟨Or.inl ⟨by rfl, ?_⟩, fun _ => rfl⟩ ?_
              · intro w_; go_simp; (try with_reducible rfl)
              (try simp only [Act.put, List.setIfInBounds_toArray, List.set_cons_zero, List.set_cons_succ])
              refine wpAnyIn_ready (rs := [4]) (by kernel_rfl) (by simp) ?_
              refine AllReadyIn.cons rfl (fun K hK => ?_) AllReadyIn.nil
              go_simp
              refine hK _ _ ?_
              clear hK K
              (try simp only [Act.put, List.setIfInBounds_toArray, List.set_cons_zero, List.set_cons_succ])
              refine wpAnyIn_ready (rs := [8]) (by kernel_rfl) (by simp) ?_
              refine AllReadyIn.cons rfl (fun K hK => ?_) AllReadyIn.nil
              obtain ⟨v3, w3, hrun, hR3, hg3⟩ := rows_push (Kd.R_below hRd hb2) (Kd.R_lower (Kd.R_mono (Kd.R_bound hR2) (fun k hk => hfr k hk.2.1)) hZW) (Nat.le_trans hZW hb2.size) hrl
              obtain ⟨A3, n3, cap3, rfl⟩ : ∃ A3 n3 cap3, v3 = .slice A3 n3 cap3 := by obtain ⟨A3, cap3, h_⟩ := Kd.R_slice hR3; exact ⟨A3, _, cap3, h_⟩
              have hbo := body_out hB1 hb2 hg3 hown0 (by omega)
              have g4 : w3.heap[w.heap.size]? = some (.cells (sieveC (takeK (sieved pre).1 x.row) sv) 71 (0, 0)) := (hbo.same _ hlt hne).trans h1
              have c4 : w3.cell? ⟨w.heap.size, 8, none⟩ = some sv := (blk_cell g4 8).trans (sieveC_row _ _ hks1)
              have f4 := blk_frozen g4 8
              have e1 : w3.cell? ⟨w.heap.size + 1, 0, none⟩ = some (Value.pointer (some { block := w.heap.size, off := 0 })) := (blk_cell ((hbo.same _ hlt2 hne2).trans hptr) 0).trans rfl
              have HBO := Lib.hid hbo
              have HR3 := Lib.hid hR3
              clear hbo hR3 g4 hg3 c1 c2 d1 d2 hR2
              rw [if_pos (by rfl)]
              refine stepIn_append (.tmp 19) (.tmp 22) rfl sv (.slice (some ⟨w2.heap.size, 0, none⟩) 1 1) _ rfl rfl hrun ?_
              clear hrun
              refine hK _ _ ?_
              clear hK K
              (try simp only [Act.put, List.setIfInBounds_toArray, List.set_cons_zero, List.set_cons_succ])
              refine wpAnyIn_ready (rs := [9]) (by kernel_rfl) (by simp) ?_
              refine AllReadyIn.cons rfl (fun K hK => ?_) AllReadyIn.nil
              go_simp
              refine hK _ _ ?_
              clear hK K
              (try simp only [Act.put, List.setIfInBounds_toArray, List.set_cons_zero, List.set_cons_succ])
              refine wpAnyIn_ready (rs := [10]) (by kernel_rfl) (by simp) ?_
              refine AllReadyIn.cons rfl (fun K hK => ?_) AllReadyIn.nil
              go_simp
              refine hK _ _ ?_
              clear hK K
              (try simp only [Act.put, List.setIfInBounds_toArray, List.set_cons_zero, List.set_cons_succ])
              refine wpAnyIn_ready (rs := [11]) (by kernel_rfl) (by simp) ?_
              refine AllReadyIn.cons rfl (fun K hK => ?_) AllReadyIn.nil
              go_simp
              refine hK _ _ ?_
              clear hK K
              (try simp only [Act.put, List.setIfInBounds_toArray, List.set_cons_zero, List.set_cons_succ])
              refine wpAnyIn_done (by kernel_rfl) ?_ _
              exact ⟨_, w3, rfl, HR3.out, HBO.out⟩
            · go_simp
              refine hK _ _ ?_
              clear hK K
              (try simp only [Act.put, List.setIfInBounds_toArray, List.set_cons_zero, List.set_cons_succ])
              refine wpAnyIn_take (i := 2) (v := Value.pointer (some { block := w.heap.size, off := 0 })) rfl rfl (by kernel_rfl) (by kernel_rfl) (by kernel_rfl) (fun _ _ _ h => h) ⟨Or.inl ⟨by rfl, ?_⟩, fun _ => rfl⟩ ?_
              · intro w_; go_simp; (try with_reducible rfl)
              (try simp only [Act.put, List.setIfInBounds_toArray, List.set_cons_zero, List.set_cons_succ])
              refine wpAnyIn_take (i := 3) (v := Value.pointer (some { block := w.heap.size, off := 8 })) rfl rfl (by kernel_rfl) (by kernel_rfl) (by kernel_rfl) (fun _ _ _ h => h) ⟨Or.inl ⟨by rfl, ?_⟩, fun _ => rfl⟩ ?_
              · intro w_; go_simp; (try with_reducible rfl)
              (try simp only [Act.put, List.setIfInBounds_toArray, List.set_cons_zero, List.set_cons_succ])
              refine wpAnyIn_ready (rs := [0, 4]) (by kernel_rfl) (by simp) ?_
              refine AllReadyIn.cons rfl (fun K hK => ?_) (AllReadyIn.cons rfl (fun K hK => ?_) AllReadyIn.nil)
              · go_simp
                refine hK _ _ ?_
                clear hK K
                (try simp only [Act.put, List.setIfInBounds_toArray, List.set_cons_zero, List.set_cons_succ])
                refine wpAnyIn_ready (rs := [4]) (by kernel_rfl) (by simp) ?_
                refine AllReadyIn.cons rfl (fun K hK => ?_) AllReadyIn.nil
                go_simp
                refine hK _ _ ?_
                clear hK K
                (try simp only [Act.put, List.setIfInBounds_toArray, List.set_cons_zero, List.set_cons_succ])
                refine wpAnyIn_ready (rs := [8]) (by kernel_rfl) (by simp) ?_
                refine AllReadyIn.cons rfl (fun K hK => ?_) AllReadyIn.nil
                obtain ⟨v3, w3, hrun, hR3, hg3⟩ := rows_push (Kd.R_below hRd hb2) (Kd.R_lower (Kd.R_mono (Kd.R_bound hR2) (fun k hk => hfr k hk.2.1)) hZW) (Nat.le_trans hZW hb2.size) hrl
                obtain ⟨A3, n3, cap3, rfl⟩ : ∃ A3 n3 cap3, v3 = .slice A3 n3 cap3 := by obtain ⟨A3, cap3, h_⟩ := Kd.R_slice hR3; exact ⟨A3, _, cap3, h_⟩
                have hbo := body_out hB1 hb2 hg3 hown0 (by omega)
                have g4 : w3.heap[w.heap.size]? = some (.cells (sieveC (takeK (sieved pre).1 x.row) sv) 71 (0, 0)) := (hbo.same _ hlt hne).trans h1
                have c4 : w3.cell? ⟨w.heap.size, 8, none⟩ = some sv := (blk_cell g4 8).trans (sieveC_row _ _ hks1)
                have f4 := blk_frozen g4 8
                have e1 : w3.cell? ⟨w.heap.size + 1, 0, none⟩ = some (Value.pointer (some { block := w.heap.size, off := 0 })) := (blk_cell ((hbo.same _ hlt2 hne2).trans hptr) 0).trans rfl
                have HBO := Lib.hid hbo
                have HR3 := Lib.hid hR3
                clear hbo hR3 g4 hg3 c1 c2 d1 d2 hR2
                rw [if_pos (by rfl)]
                refine stepIn_append (.tmp 19) (.tmp 22) rfl sv (.slice (some ⟨w2.heap.size, 0, none⟩) 1 1) _ rfl rfl hrun ?_
                clear hrun
                refine hK _ _ ?_
                clear hK K
                (try simp only [Act.put, List.setIfInBounds_toArray, List.set_cons_zero, List.set_cons_succ])
                refine wpAnyIn_ready (rs := [9]) (by kernel_rfl) (by simp) ?_
                refine AllReadyIn.cons rfl (fun K hK => ?_) AllReadyIn.nil
                go_simp
                refine hK _ _ ?_
                clear hK K
                (try simp only [Act.put, List.setIfInBounds_toArray, List.set_cons_zero, List.set_cons_succ])
                refine wpAnyIn_ready (rs := [10]) (by kernel_rfl) (by simp) ?_
                refine AllReadyIn.cons rfl (fun K hK => ?_) AllReadyIn.nil
                go_simp
                refine hK _ _ ?_
                clear hK K
                (try simp only [Act.put, List.setIfInBounds_toArray, List.set_cons_zero, List.set_cons_succ])
                refine wpAnyIn_ready (rs := [11]) (by kernel_rfl) (by simp) ?_
                refine AllReadyIn.cons rfl (fun K hK => ?_) AllReadyIn.nil
                go_simp
                refine hK _ _ ?_
                clear hK K
                (try simp only [Act.put, List.setIfInBounds_toArray, List.set_cons_zero, List.set_cons_succ])
                refine wpAnyIn_done (by kernel_rfl) ?_ _
                exact ⟨_, w3, rfl, HR3.out, HBO.out⟩
              · go_simp
                refine hK _ _ ?_
                clear hK K
                (try simp only [Act.put, List.setIfInBounds_toArray, List.set_cons_zero, List.set_cons_succ])
                refine wpAnyIn_ready (rs := [0, 8]) (by kernel_rfl) (by simp) ?_
                refine AllReadyIn.cons rfl (fun K hK => ?_) (AllReadyIn.cons rfl (fun K hK => ?_) AllReadyIn.nil)
                · go_simp
                  refine hK _ _ ?_
                  clear hK K
                  (try simp only [Act.put, List.setIfInBounds_toArray, List.set_cons_zero, List.set_cons_succ])
                  refine wpAnyIn_ready (rs := [8]) (by kernel_rfl) (by simp) ?_
                  refine AllReadyIn.cons rfl (fun K hK => ?_) AllReadyIn.nil
                  obtain ⟨v3, w3, hrun, hR3, hg3⟩ := rows_push (Kd.R_below hRd hb2) (Kd.R_lower (Kd.R_mono (Kd.R_bound hR2) (fun k hk => hfr k hk.2.1)) hZW) (Nat.le_trans hZW hb2.size) hrl
                  obtain ⟨A3, n3, cap3, rfl⟩ : ∃ A3 n3 cap3, v3 = .slice A3 n3 cap3 := by obtain ⟨A3, cap3, h_⟩ := Kd.R_slice hR3; exact ⟨A3, _, cap3, h_⟩
                  have hbo := body_out hB1 hb2 hg3 hown0 (by omega)
                  have g4 : w3.heap[w.heap.size]? = some (.cells (sieveC (takeK (sieved pre).1 x.row) sv) 71 (0, 0)) := (hbo.same _ hlt hne).trans h1
                  have c4 : w3.cell? ⟨w.heap.size, 8, none⟩ = some sv := (blk_cell g4 8).trans (sieveC_row _ _ hks1)
                  have f4 := blk_frozen g4 8
                  have e1 : w3.cell? ⟨w.heap.size + 1, 0, none⟩ = some (Value.pointer (some { block := w.heap.size, off := 0 })) := (blk_cell ((hbo.same _ hlt2 hne2).trans hptr) 0).trans rfl
                  have HBO := Lib.hid hbo
                  have HR3 := Lib.hid hR3
                  clear hbo hR3 g4 hg3 c1 c2 d1 d2 hR2
                  rw [if_pos (by rfl)]
                  refine stepIn_append (.tmp 19) (.tmp 22) rfl sv (.slice (some ⟨w2.heap.size, 0, none⟩) 1 1) _ rfl rfl hrun ?_
                  clear hrun
                  refine hK _ _ ?_
                  clear hK K
                  (try simp only [Act.put, List.setIfInBounds_toArray, List.set_cons_zero, List.set_cons_succ])
                  refine wpAnyIn_ready (rs := [9]) (by kernel_rfl) (by simp) ?_
                  refine AllReadyIn.cons rfl (fun K hK => ?_) AllReadyIn.nil
                  go_simp
                  refine hK _ _ ?_
                  clear hK K
                  (try simp only [Act.put, List.setIfInBounds_toArray, List.set_cons_zero, List.set_cons_succ])
                  refine wpAnyIn_ready (rs := [10]) (by kernel_rfl) (by simp) ?_
                  refine AllReadyIn.cons rfl (fun K hK => ?_) AllReadyIn.nil
                  go_simp
                  refine hK _ _ ?_
                  clear hK K
                  (try simp only [Act.put, List.setIfInBounds_toArray, List.set_cons_zero, List.set_cons_succ])
                  refine wpAnyIn_ready (rs := [11]) (by kernel_rfl) (by simp) ?_
                  refine AllReadyIn.cons rfl (fun K hK => ?_) AllReadyIn.nil
                  go_simp
                  refine hK _ _ ?_
                  clear hK K
                  (try simp only [Act.put, List.setIfInBounds_toArray, List.set_cons_zero, List.set_cons_succ])
                  refine wpAnyIn_done (by kernel_rfl) ?_ _
                  exact ⟨_, w3, rfl, HR3.out, HBO.out⟩
                · obtain ⟨v3, w3, hrun, hR3, hg3⟩ := rows_push (Kd.R_below hRd hb2) (Kd.R_lower (Kd.R_mono (Kd.R_bound hR2) (fun k hk => hfr k hk.2.1)) hZW) (Nat.le_trans hZW hb2.size) hrl
                  obtain ⟨A3, n3, cap3, rfl⟩ : ∃ A3 n3 cap3, v3 = .slice A3 n3 cap3 := by obtain ⟨A3, cap3, h_⟩ := Kd.R_slice hR3; exact ⟨A3, _, cap3, h_⟩
                  have hbo := body_out hB1 hb2 hg3 hown0 (by omega)
                  have g4 : w3.heap[w.heap.size]? = some (.cells (sieveC (takeK (sieved pre).1 x.row) sv) 71 (0, 0)) := (hbo.same _ hlt hne).trans h1
                  have c4 : w3.cell? ⟨w.heap.size, 8, none⟩ = some sv := (blk_cell g4 8).trans (sieveC_row _ _ hks1)
                  have f4 := blk_frozen g4 8
                  have e1 : w3.cell? ⟨w.heap.size + 1, 0, none⟩ = some (Value.pointer (some { block := w.heap.size, off := 0 })) := (blk_cell ((hbo.same _ hlt2 hne2).trans hptr) 0).trans rfl
                  have HBO := Lib.hid hbo
                  have HR3 := Lib.hid hR3
                  clear hbo hR3 g4 hg3 c1 c2 d1 d2 hR2
                  rw [if_pos (by rfl)]
                  refine stepIn_append (.tmp 19) (.tmp 22) rfl sv (.slice (some ⟨w2.heap.size, 0, none⟩) 1 1) _ rfl rfl hrun ?_
                  clear hrun
                  refine hK _ _ ?_
                  clear hK K
                  (try simp only [Act.put, List.setIfInBounds_toArray, List.set_cons_zero, List.set_cons_succ])
                  refine wpAnyIn_ready (rs := [0]) (by kernel_rfl) (by simp) ?_
                  refine AllReadyIn.cons rfl (fun K hK => ?_) AllReadyIn.nil
                  go_simp
                  refine hK _ _ ?_
                  clear hK K
                  (try simp only [Act.put, List.setIfInBounds_toArray, List.set_cons_zero, List.set_cons_succ])
                  refine wpAnyIn_ready (rs := [9]) (by kernel_rfl) (by simp) ?_
                  refine AllReadyIn.cons rfl (fun K hK => ?_) AllReadyIn.nil
                  go_simp
                  refine hK _ _ ?_
                  clear hK K
                  (try simp only [Act.put, List.setIfInBounds_toArray, List.set_cons_zero, List.set_cons_succ])
                  refine wpAnyIn_ready (rs := [10]) (by kernel_rfl) (by simp) ?_
                  refine AllReadyIn.cons rfl (fun K hK => ?_) AllReadyIn.nil
                  go_simp
                  refine hK _ _ ?_
                  clear hK K
                  (try simp only [Act.put, List.setIfInBounds_toArray, List.set_cons_zero, List.set_cons_succ])
                  refine wpAnyIn_ready (rs := [11]) (by kernel_rfl) (by simp) ?_
                  refine AllReadyIn.cons rfl (fun K hK => ?_) AllReadyIn.nil
                  go_simp
                  refine hK _ _ ?_
                  clear hK K
                  (try simp only [Act.put, List.setIfInBounds_toArray, List.set_cons_zero, List.set_cons_succ])
                  refine wpAnyIn_done (by kernel_rfl) ?_ _
                  exact ⟨_, w3, rfl, HR3.out, HBO.out⟩
      rintro a' _ ⟨v3, w3, rfl, hR3, hbo⟩
      have hRn : (sieved (pre ++ [x])).2 = (sieved pre).2 ++ [x.row] := by rw [hnx]; simp [sieveF, htb]
      have hKn : (sieved (pre ++ [x])).1 = takeK (sieved pre).1 x.row := by rw [hnx]; rfl
      have hsv2 := own_typed (hR1.2.choose_spec.1)
      have hko : KeepsOthers w1 w3 := ⟨hbo.size, fun k o hk ho => by
        have hkl : k < w1.heap.size := by
          rcases Nat.lt_or_ge k w1.heap.size with h | h
          · exact h
          · rw [Array.getElem?_eq_none h] at hk; cases hk
        rw [hbo.same k hkl (fun e => by obtain ⟨cells, hc⟩ := hsv2 k e.symm; rw [hc] at hk; cases hk; cases ho)]
        exact hk⟩
      have hold : ∀ k, k < w1.heap.size → k ≠ w.heap.size → some k ≠ sv.ownBlock → (w3.setCell ⟨w.heap.size, 8, none⟩ v3).heap[k]? = w1.heap[k]? := fun k h1 h2 h3 => (Below.heap_setCell _ _ _ _ h2).trans (hbo.same k h1 h3)
      refine ⟨((hKO.trans hko).trans (KeepsOthers.setCell _ _ _)).from _, ⟨fun v hv => ?_, fun p v hp hv => ?_⟩, ⟨⟨v3, ?_, ?_⟩, ?_, ?_, HI.out.box⟩, below_set hbo.below (Nat.le_refl _)⟩
      · rw [← hv]; exact World.cell?_of_block (a := ⟨w.heap.size + 2, 0, none⟩) ((hold _ (Nat.lt_of_lt_of_le hlt30 ht.size) (by omega) hne3).trans (ht.block _ hlt30 (fun e => by (try dsimp only at e); omega)))
      · rw [← hv]; exact World.cell?_of_block (a := p) ((hold _ (by omega) (by omega) (fun e => by have := hown0 _ e.symm; have := HI.out.box; omega)).trans (ht.block _ (by omega) (fun e => by (try dsimp only at e); omega)))
      · rw [hKn]; exact blk_put ((hbo.same _ hlt hne).trans h1) 8 v3 (sieveC_set _ _ _ hks1)
      · rw [hRn]; exact Kd.R_far hR3 (fun k hk e => by (try dsimp only at e); have := HI.out.box; omega) _
      · exact (hold _ hlt2 (by omega) hne2).trans hptr
      · have := hbo.size; have := HI.out.size; have := ht.size; simp [World.setCell]; omega
  case done =>
    rintro D ys W hD hys ⟨hI, hB⟩ hK
    obtain ⟨sv, hsv, hR⟩ := hI.out
    have hks := (sieved_len ys).1
    have hfin : sieved ys = xs.reverse.foldl sieveF (List.replicate 8 false, []) := by rw [← hys]; rfl
    have hol : (sieved ys).2.length ≤ xs.length := by
      have := (sieved_len ys).2
      have h2 := congrArg List.length hys
      rw [List.length_map, List.length_reverse] at h2
      omega
    have hmem : ∀ z ∈ (sieved ys).2.reverse, Octets z ∧ z.length ≤ 140737488355328 := fun z hz => by
      rw [List.mem_reverse, hfin] at hz
      rcases (foldl_sieve xs.reverse (List.replicate 8 false, [])).2.2 z hz with h | h
      · simp at h
      · exact hO z (List.mem_reverse.1 h)
    have hkl : firstsL [] ((sieved ys).2.reverse) = keepL xs := by rw [hfin]; rfl
    have c1 : W.cell? ⟨w.heap.size + 1, 0, none⟩ = some (.pointer (some ⟨w.heap.size, 0, none⟩)) := (blk_cell hI.ptr 0).trans rfl
    have c2 : W.cell? ⟨w.heap.size, 8, none⟩ = some sv := (blk_cell hsv 8).trans (sieveC_row _ _ hks)
    have hown0 : ∀ k, sv.ownBlock = some k → W0.heap.size ≤ k := fun k hk => hR.1 k hk
    have hne : some w.heap.size ≠ sv.ownBlock := fun e => by have := hown0 _ e.symm; have := hI.box; omega
    have hne2 : some (w.heap.size + 1) ≠ sv.ownBlock := fun e => by have := hown0 _ e.symm; have := hI.box; omega
    have hneD : some D ≠ sv.ownBlock := fun e => by
      obtain ⟨cells, hc⟩ := own_typed (hR.2.choose_spec.1) D e.symm
      rw [hc] at hK
      cases hK
    have hlt : w.heap.size < W.heap.size := by have := hI.size; have := hI.box; omega
    have hlt2 : w.heap.size + 1 < W.heap.size := by have := hI.size; have := hI.box; omega
    have HI := Lib.hid hI
    have HSV := Lib.hid hsv
    have HR := Lib.hid hR
    have HM := Lib.hid hmem
    have HKL := Lib.hid hkl
    clear hI hsv hR hmem hkl hfin
    gi_wp2_with (first | (gi_at_call 48; go_must ((with_reducible refine (callsIn_wide.2 (reverse_calls sv _ W0.heap.size _ W HR.out)).mono ?_); rintro e w1 ⟨rfl, hR1, hg1⟩; clear c1 c2; have c1 : w1.cell? ⟨w.heap.size + 1, 0, none⟩ = some (.pointer (some ⟨w.heap.size, 0, none⟩)) := (blk_cell ((hg1.block _ hlt2 hne2).trans HI.out.ptr) 0).trans rfl; have c2 : w1.cell? ⟨w.heap.size, 8, none⟩ = some sv := (blk_cell ((hg1.block _ hlt hne).trans HSV.out) 8).trans (sieveC_row _ _ hks); have HR1 := Lib.hid hR1; have HG1 := Lib.hid hg1; clear hR1 hg1)) | (gi_at_call 49; go_must ((with_reducible refine (callsIn_wide.2 (firsts_calls sv _ W0.heap.size w1 (Kd.R_mono HR1.out (fun _ _ => trivial)) (Nat.le_trans HI.out.size HG1.out.size) HM.out (by rw [List.length_reverse]; omega))).mono ?_); rintro e w2 ⟨v2, rfl, hR2, hb2⟩)))
    have hDW : D < W.heap.size := (Array.getElem?_eq_some_iff.1 hK).1
    have hKd : w2.heap[D]? = some (.deferred (some [])) := (hb2.block D (Nat.lt_of_lt_of_le hDW HG1.out.size)).trans ((HG1.out.block D hDW hneD).trans hK)
    refine ⟨by simp, .inl ⟨_, _, rfl, run_takeDeferred hKd, ?_⟩⟩
    have hgp : w2.grownBy (w2.putObj D (.deferred none)) (some D) := grownBy_putObj' _ _ _
    have hRd : Kd.R (Kd.slice 5 (Kd.int .u8)) 22 (w2.putObj D (.deferred none)) W0.heap.size (fun _ => True) v2 (keepL xs) := by
      rw [← HKL.out]
      refine Kd.R_mono (Kd.R_grown (Kd.R_bound hR2) hgp (fun k hk e_ => ?_)) (fun _ hk => hk.1)
      obtain ⟨_, _, _, q, _, cells, hc⟩ := hk
      obtain rfl := Option.some.inj e_
      rw [hc] at hKd
      cases hKd
    have hBW : Below w.heap.size w w2 := below_step (pw_below_grown hB _ hB.size HG1.out (fun k hk => by have := hown0 k hk; omega)) hb2
    refine ⟨_, results_tmp rfl _ _ _, v2, rfl, Kd.R_lower hRd (by omega), ?_⟩
    exact hBW.trans (belowK_b (w := w) (Nat.le_refl _) w2 D _ _ (by omega) hKd rfl rfl)
  case stop =>
    rintro D c' pre W _ _ h _
    exact h.elim

def compact_Keep.f (l0 : List (List Int)) : Option (List (List Int)) := if (∀ x ∈ l0, Octets x ∧ x.length ≤ 140737488355328) ∧ l0.length ≤ 1000000000 then some (keepL l0) else none
theorem compact_Keep.calls (A0 : Option Addr) (c0 : Nat) (l0 : List (List Int)) (r : List (List Int)) (w : World) (hr0 : Kd.C (Kd.slice 5 (Kd.int .u8)) w A0 l0.length l0) (hc0 : l0.length ≤ c0) (h : compact_Keep.f l0 = some r) :
    Calls Try.prog 35 #[.slice A0 l0.length c0] w fun e w' => ∃ v0_ : Value, e = .returned (v0_) ∧ Kd.R (Kd.slice 5 (Kd.int .u8)) 22 w' w.heap.size (fun _ => True) v0_ r ∧ Below w.heap.size w w' := by
  unfold compact_Keep.f at h
  split at h
  · rename_i hc
    obtain rfl := Option.some.inj h
    exact keep_calls A0 c0 l0 w hr0 hc0 hc.1 hc.2
  · cases h
end Go.Proofs.Ytfdpbdaekfdnjaa.X
/- Plain laws of what counts of records: the law's own way and the code's come to one; what is kept again stays; what is kept lies in order. -/
namespace Go.Proofs.Ytfdpbdaekfdnjaa.X
open Go.RowKit Go.Proofs.YtfdpbdaekfdnjaaW.PrintWords Go.Proofs.YtfdpbdaekfdnjaaW.PrintLast Go.Proofs.YtfdpbdaekfdnjaaW.PrintMore
set_option linter.unusedVariables false
set_option linter.unusedSimpArgs false

/-- Records of a kind, the last of each kind but blocks. -/
def lastL : List (List Int) → List (List Int)
  | [] => []
  | b :: l => if kindN b ≠ 0 ∧ (kindN b = 6 ∨ ∀ x ∈ l, kindN x ≠ kindN b) then b :: lastL l else lastL l
/-- What counts, by the page; pre: what was there ahead. -/
def keptR (pre : List (List Int)) : List (List Int) → List (List Int)
  | [] => []
  | b :: l => if kindN b ≠ 0 ∧ (kindN b = 6 ∨ ∀ x ∈ l, kindN x ≠ kindN b) ∧ (kindN b ≠ 6 ∨ b ∉ pre) then b :: keptR (pre ++ [b]) l else keptR (pre ++ [b]) l
theorem kinds_met (l : List (List Int)) : (l.reverse.foldl sieveF (List.replicate 8 false, [])).1.length = 8 ∧ ∀ k, k < 8 → ((l.reverse.foldl sieveF (List.replicate 8 false, [])).1.getD k false = true ↔ k ≠ 0 ∧ ∃ x ∈ l, kindN x = k) := by
  induction l with
  | nil =>
    refine ⟨rfl, fun k hk => ?_⟩
    simp only [List.reverse_nil, List.foldl_nil, List.not_mem_nil, false_and, exists_false, and_false, iff_false]
    rw [List.getD_eq_getElem?_getD, List.getElem?_replicate]
    simp [hk]
  | cons b l ih =>
    obtain ⟨h1, h2⟩ := ih
    rw [List.reverse_cons, List.foldl_append, List.foldl_cons, List.foldl_nil]
    obtain ⟨s, hs⟩ : ∃ s, l.reverse.foldl sieveF (List.replicate 8 false, []) = s := ⟨_, rfl⟩
    rw [hs] at h1 h2 ⊢
    have hb7 := kindN_le b
    refine ⟨(takeK_len _ _).trans h1, fun k hk => ?_⟩
    simp only [sieveF, takeK]
    by_cases ht : takeB s.1 b = true
    · rw [if_pos ht]
      have hb0 : kindN b ≠ 0 := by
        intro e
        rw [takeB, e] at ht
        simp at ht
      rw [List.getD_eq_getElem?_getD, List.getElem?_set]
      by_cases e : kindN b = k
      · rw [if_pos e, if_pos (by omega), Option.getD_some]
        exact ⟨fun _ => ⟨by omega, b, List.mem_cons_self, e⟩, fun _ => rfl⟩
      · rw [if_neg e, ← List.getD_eq_getElem?_getD, h2 k hk]
        constructor
        · rintro ⟨h0, x, hx, hxk⟩
          exact ⟨h0, x, List.mem_cons_of_mem _ hx, hxk⟩
        · rintro ⟨h0, x, hx, hxk⟩
          rcases List.mem_cons.1 hx with rfl | hx
          · exact absurd hxk e
          · exact ⟨h0, x, hx, hxk⟩
    · rw [if_neg ht, h2 k hk]
      constructor
      · rintro ⟨h0, x, hx, hxk⟩
        exact ⟨h0, x, List.mem_cons_of_mem _ hx, hxk⟩
      · rintro ⟨h0, x, hx, hxk⟩
        rcases List.mem_cons.1 hx with rfl | hx
        · have h3 : s.1.getD (kindN x) false = true := by
            rw [takeB] at ht
            have : kindN x ≠ 0 := by omega
            simp [this] at ht
            simpa using ht.2
          rw [hxk] at h3
          exact (h2 k hk).1 h3
        · exact ⟨h0, x, hx, hxk⟩
theorem sieve_last (l : List (List Int)) : (l.reverse.foldl sieveF (List.replicate 8 false, [])).2.reverse = lastL l := by
  induction l with
  | nil => rfl
  | cons b l ih =>
    have hm := kinds_met l
    rw [List.reverse_cons, List.foldl_append, List.foldl_cons, List.foldl_nil]
    obtain ⟨s, hs⟩ : ∃ s, l.reverse.foldl sieveF (List.replicate 8 false, []) = s := ⟨_, rfl⟩
    rw [hs] at hm ih ⊢
    have hb7 := kindN_le b
    have hk := hm.2 (kindN b) (by omega)
    have hiff : takeB s.1 b = true ↔ kindN b ≠ 0 ∧ (kindN b = 6 ∨ ∀ x ∈ l, kindN x ≠ kindN b) := by
      unfold takeB
      by_cases h0 : kindN b = 0
      · simp [h0]
      · have hk2 : (!s.1.getD (kindN b) false) = true ↔ ∀ x ∈ l, kindN x ≠ kindN b := by
          constructor
          · intro h x hx e
            have : s.1.getD (kindN b) false = true := hk.2 ⟨h0, x, hx, e⟩
            rw [this] at h
            cases h
          · intro h
            cases hv : s.1.getD (kindN b) false with
            | false => rfl
            | true =>
              obtain ⟨_, x, hx, e⟩ := hk.1 hv
              exact absurd e (h x hx)
        rw [Bool.and_eq_true, Bool.or_eq_true, hk2, decide_eq_true_iff, decide_eq_true_iff]
    rw [lastL]
    by_cases ht : takeB s.1 b = true
    · rw [if_pos (hiff.1 ht)]
      simp only [sieveF]
      rw [if_pos ht, List.reverse_append, ih]
      rfl
    · rw [if_neg (fun h => ht (hiff.2 h))]
      simp only [sieveF]
      rw [if_neg ht, ih]
theorem keepL_eq (l : List (List Int)) : keepL l = firstsL [] (lastL l) := by rw [keepL, sieve_last]
theorem firsts_kept (l : List (List Int)) : ∀ (out pre : List (List Int)), (∀ x, kindN x = 6 → (x ∈ out ↔ x ∈ pre)) → firstsL out (lastL l) = out ++ keptR pre l := by
  induction l with
  | nil => intro out pre _; simp [lastL, firstsL, keptR]
  | cons b l ih =>
    intro out pre h
    rw [lastL, keptR]
    by_cases h1 : kindN b ≠ 0 ∧ (kindN b = 6 ∨ ∀ x ∈ l, kindN x ≠ kindN b)
    · rw [if_pos h1, firstsL]
      by_cases h2 : kindN b ≠ 6 ∨ b ∉ out
      · have h3 : kindN b ≠ 6 ∨ b ∉ pre := by
          by_cases e : kindN b = 6
          · exact .inr (fun hb => (h2.resolve_left (fun h => h e)) ((h b e).2 hb))
          · exact .inl e
        rw [if_pos h2, if_pos ⟨h1.1, h1.2, h3⟩, ih (out ++ [b]) (pre ++ [b]) (fun x hx => by simp [h x hx]), List.append_assoc]
        rfl
      · have h3 : ¬ (kindN b ≠ 6 ∨ b ∉ pre) := fun h4 => h2 (by
          by_cases e : kindN b = 6
          · exact .inr (fun hb => (h4.resolve_left (fun h => h e)) ((h b e).1 hb))
          · exact .inl e)
        have hbp : b ∈ pre := by
          rcases Classical.em (b ∈ pre) with h5 | h5
          · exact h5
          · exact absurd (.inr h5) h3
        rw [if_neg h2, if_neg (fun h4 => h3 h4.2.2), ih out (pre ++ [b]) (fun x hx => by
          rw [h x hx, List.mem_append, List.mem_singleton]
          exact ⟨.inl, fun h6 => h6.elim id (fun e => e ▸ hbp)⟩)]
    · rw [if_neg h1, if_neg (fun h4 => h1 ⟨h4.1, h4.2.1⟩), ih out (pre ++ [b]) (fun x hx => by
        rw [h x hx, List.mem_append, List.mem_singleton]
        refine ⟨.inl, fun h6 => h6.elim id (fun e => ?_)⟩
        subst e
        exact absurd ⟨by omega, .inl hx⟩ h1)]
theorem keep_kept (l : List (List Int)) : keepL l = keptR [] l := by
  rw [keepL_eq, firsts_kept l [] [] (fun _ _ => Iff.rfl), List.nil_append]
theorem keptR_sub (l : List (List Int)) : ∀ pre, (keptR pre l).Sublist l := by
  induction l with
  | nil => intro pre; exact List.Sublist.refl _
  | cons b l ih =>
    intro pre
    rw [keptR]
    split
    · exact (ih _).cons_cons b
    · exact (ih _).cons b
theorem keep_sub (l : List (List Int)) : (keepL l).Sublist l := by rw [keep_kept]; exact keptR_sub l []
theorem keep_mem {l : List (List Int)} {x : List Int} (h : x ∈ keepL l) : x ∈ l := (keep_sub l).subset h
/-- Each of a kind; of each kind but blocks one; blocks differ. -/
def Good (l : List (List Int)) : Prop := (∀ x ∈ l, kindN x ≠ 0) ∧ l.Pairwise (fun a b => kindN b = kindN a → kindN a = 6 ∧ b ≠ a)
theorem keptR_good (l : List (List Int)) : ∀ pre, Good (keptR pre l) ∧ ∀ x ∈ keptR pre l, x ∈ l ∧ (kindN x = 6 → x ∉ pre) := by
  induction l with
  | nil => intro pre; exact ⟨⟨fun x hx => by simp [keptR] at hx, by simp [keptR]⟩, fun x hx => by simp [keptR] at hx⟩
  | cons b l ih =>
    intro pre
    obtain ⟨⟨g1, g2⟩, g3⟩ := ih (pre ++ [b])
    have g4 : ∀ x ∈ keptR (pre ++ [b]) l, x ∈ b :: l ∧ (kindN x = 6 → x ∉ pre) := fun x hx =>
      ⟨List.mem_cons_of_mem _ (g3 x hx).1, fun h6 hp => (g3 x hx).2 h6 (List.mem_append_left _ hp)⟩
    rw [keptR]
    split
    · rename_i hc
      refine ⟨⟨fun x hx => ?_, ?_⟩, fun x hx => ?_⟩
      · rcases List.mem_cons.1 hx with rfl | hx
        · exact hc.1
        · exact g1 x hx
      · rw [List.pairwise_cons]
        refine ⟨fun x hx hk => ?_, g2⟩
        have hxl := (g3 x hx).1
        rcases hc.2.1 with h6 | hn
        · exact ⟨h6, fun e => (g3 x hx).2 (hk.trans h6) (by rw [e]; simp)⟩
        · exact absurd hk (hn x hxl)
      · rcases List.mem_cons.1 hx with rfl | hx
        · exact ⟨List.mem_cons_self, fun h6 => hc.2.2.resolve_left (fun h => h h6)⟩
        · exact g4 x hx
    · exact ⟨⟨g1, g2⟩, g4⟩
theorem keep_good (l : List (List Int)) : Good (keepL l) := by rw [keep_kept]; exact (keptR_good l []).1
theorem good_kept (l : List (List Int)) : ∀ pre, Good l → (∀ x ∈ l, kindN x = 6 → x ∉ pre) → keptR pre l = l := by
  induction l with
  | nil => intro pre _ _; rfl
  | cons b l ih =>
    intro pre hg hp
    obtain ⟨g1, g2⟩ := hg
    rw [List.pairwise_cons] at g2
    have hc : kindN b ≠ 0 ∧ (kindN b = 6 ∨ ∀ x ∈ l, kindN x ≠ kindN b) ∧ (kindN b ≠ 6 ∨ b ∉ pre) := by
      refine ⟨g1 b List.mem_cons_self, ?_, ?_⟩
      · by_cases h6 : kindN b = 6
        · exact .inl h6
        · exact .inr (fun x hx e => h6 (g2.1 x hx e).1)
      · by_cases h6 : kindN b = 6
        · exact .inr (hp b List.mem_cons_self h6)
        · exact .inl h6
    rw [keptR, if_pos hc, ih (pre ++ [b]) ⟨fun x hx => g1 x (List.mem_cons_of_mem _ hx), g2.2⟩ (fun x hx h6 hx2 => by
      rcases List.mem_append.1 hx2 with h | h
      · exact hp x (List.mem_cons_of_mem _ hx) h6 h
      · rw [List.mem_singleton] at h
        subst h
        exact (g2.1 x hx rfl).2 rfl)]
theorem keep_again (l : List (List Int)) : keepL (keepL l) = keepL l := by
  rw [keep_kept (keepL l), good_kept _ _ (keep_good l) (fun _ _ _ h => by simp at h)]
end Go.Proofs.Ytfdpbdaekfdnjaa.X
