/- Disks: the calls that make or turn one. -/
import Derived.Test.YtfdpbdaekfdnjaaHDisk
import Derived.StillTailTactics
import Derived.Deep.Cut
namespace Go.Proofs.Ytfdpbdaekfdnjaa.X
open Go.RowKit Go.Proofs.YtfdpbdaekfdnjaaW.PrintWords Go.Proofs.YtfdpbdaekfdnjaaW.PrintLast Go.Proofs.YtfdpbdaekfdnjaaW.PrintMore
set_option linter.unusedVariables false
set_option linter.unusedSimpArgs false

theorem Touch.refl (S : Nat → Prop) (W : World) : Touch S W W := ⟨rfl, rfl, rfl, Nat.le_refl _, fun _ _ _ => rfl⟩
theorem Touch.set {S : Nat → Prop} {W W1 : World} {g : Nat} (h : Touch S W W1) (hg : S g) (o : Nat) (x : Value) : Touch S W (W1.setCell ⟨g, o, none⟩ x) :=
  ⟨h.os, h.tape, h.output, by rw [World.size_setCell]; exact h.size, fun k hk hn => (Below.heap_setCell W1 ⟨g, o, none⟩ x k (fun e => hn (by rw [e]; exact hg))).trans (h.block k hk hn)⟩
theorem Touch.drewN {S : Nat → Prop} {W W1 : World} (h : Touch S W W1) (n : Nat) : Touch S W (W1.drewN n) := ⟨h.os, h.tape, h.output, h.size, h.block⟩
theorem Touch.below {S : Nat → Prop} {W W1 w : World} (h : Touch S W W1) (hb : Below w.heap.size w W) (hS : ∀ k, S k → w.heap.size ≤ k) : Below w.heap.size w W1 :=
  ⟨h.os.trans hb.os, h.tape.trans hb.tape, h.output.trans hb.output, Nat.le_trans hb.size h.size, fun k hk => (h.block k (Nat.lt_of_lt_of_le hk hb.size) (fun hs => by have := hS k hs; omega)).trans (hb.block k hk)⟩
set_option maxRecDepth 100000 in
set_option maxHeartbeats 4000000 in
theorem new_calls (w : World) (room r : Int) (hr : mn (mx room 0) 262144 = r) :
    Calls Try.prog 15 #[.int .i64 room] w fun e w' => e = .returned (.pointer (some ⟨w.heap.size, 0, none⟩)) ∧ DiskAt w' w.heap.size w.heap.size (.slice none 0 0) [] 0 r ∧ Below w.heap.size w w' := by
  unfold mn mx at hr
  have HR := Lib.hid hr
  clear hr
  go_enter Try.func15, Try.ntmps15
  go_wp2
  all_goals go_ret
  all_goals (refine ⟨rfl, ⟨?_, DRow.nil _ _, Nat.le_refl _, by simp [Value.ownBlock]⟩, below_alloc (Below.refl _ _) _⟩)
  all_goals (have := HR.out; (first | (rw [← this]; exact blk_new _ _) | (rw [show r = 262144 by (repeat' split at this) <;> omega]; exact blk_new _ _) | (rw [show r = 0 by (repeat' split at this) <;> omega]; exact blk_new _ _) | (rw [show r = room by (repeat' split at this) <;> omega]; exact blk_new _ _)))
set_option maxRecDepth 100000 in
set_option maxHeartbeats 4000000 in
theorem read_calls (W : World) (base g : Nat) (v : Value) (xs : List Int) (sure room : Int) (h : DiskAt W base g v xs sure room) (hl : xs.length ≤ 140737488355328) :
    Calls Try.prog 19 #[.pointer (some ⟨g, 0, none⟩)] W fun e w' => ∃ v1, e = .returned v1 ∧ Kd.R (Kd.int .u8) 5 w' W.heap.size (fun _ => True) v1 xs ∧ Below W.heap.size W w' := by
  obtain ⟨A, c, rfl, hc⟩ := h.row.slice
  have f0 := blk_cell h.blk 0
  go_enter Try.func19, Try.ntmps19
  go_wp2_with (first | (go_at_call 39; (with_reducible refine (is_calls _ _ _ _ _ _ _ h).mono ?_); rintro e w' ⟨rfl, rfl⟩) | (go_at_call 40; go_must ((with_reducible refine (cloneB_calls A c xs _ h.row.row.2 hc hl).mono ?_); rintro e w1 ⟨v1, rfl, ho, hb⟩)))
  go_ret
  exact ⟨_, rfl, ho, hb⟩
set_option maxRecDepth 100000 in
set_option maxHeartbeats 4000000 in
theorem flush_calls (W : World) (base g : Nat) (v : Value) (xs : List Int) (sure : Nat) (room : Int) (h : DiskAt W base g v xs sure room) (hs : sure ≤ xs.length) :
    Calls Try.prog 17 #[.pointer (some ⟨g, 0, none⟩)] W fun e w' => e = .returned (.int .i64 ((xs.length : Int) - sure)) ∧ DiskAt w' base g v xs xs.length room ∧ Touch (· = g) W w' := by
  obtain ⟨A, c, rfl, hc⟩ := h.row.slice
  have h2 : ∀ n, DiskAt (W.drewN n) base g (.slice A xs.length c) xs sure room := fun n => h.move rfl (fun _ _ => rfl)
  have f0 := blk_cell h.blk 0
  have f1 := blk_cell h.blk 1
  have fr1 := blk_frozen h.blk 1
  have H := Lib.hid h
  have H2 := Lib.hid h2
  clear h2 h
  go_enter Try.func17, Try.ntmps17
  go_wp2_with (first | (go_at_call 20; (with_reducible refine (loose_calls _ _ _ _ _ _ _ H.out hs).mono ?_); rintro e w' ⟨rfl, ⟨n, rfl⟩⟩) | (go_at_call 39; (with_reducible refine (is_calls _ _ _ _ _ _ _ (H2.out _)).mono ?_); rintro e w' ⟨rfl, rfl⟩))
  go_ret
  refine ⟨rfl, ⟨?_, (H.out.row.move (W1 := W.drewN n) (fun _ _ => rfl)).move (fun k hk => Below.heap_setCell _ _ _ _ (H.out.ne k hk)), H.out.ge, H.out.ne⟩, ((Touch.refl (fun x => x = g) W).drewN n).set (S := fun x => x = g) rfl _ _⟩
  have hb : (W.drewN n).heap[g]? = some (.cells #[.slice A xs.length c, .int .i64 sure, .int .i64 room, .bool true] 49 (0, 0)) := H.out.blk
  exact blk_put hb 1 _ rfl
theorem own_slice (A : Option Addr) (n c n' c' : Nat) : (Value.slice A n c).ownBlock = (Value.slice A n' c').ownBlock := by cases A <;> rfl
theorem mix : Try.prog.follows .mixedOrders = true := by kernel_rfl
theorem info_5 : ∃ i, Try.prog.info? 5 = some i ∧ i.size = 1 := by
  obtain ⟨i, hi, _, hs, _⟩ := info_parts info5
  exact ⟨i, hi, hs⟩
/-- How many of the loose ones stay. -/
def keepN (keep : Int) (n sure : Nat) : Nat := (mn (mx keep 0) ((n : Int) - sure)).toNat
theorem keepN_le (keep : Int) (n sure : Nat) (h : sure ≤ n) : sure + keepN keep n sure ≤ n := by
  unfold keepN mn mx
  (repeat' split) <;> omega
set_option maxRecDepth 100000 in
set_option maxHeartbeats 4000000 in
theorem crash_calls (W : World) (base g : Nat) (v : Value) (xs : List Int) (sure : Nat) (room keep : Int) (h : DiskAt W base g v xs sure room) (hs : sure ≤ xs.length) :
    Calls Try.prog 18 #[.pointer (some ⟨g, 0, none⟩), .int .i64 keep] W fun e w' => e = .returned (.tuple #[]) ∧ ∃ v1, DiskAt w' base g v1 (xs.take (sure + keepN keep xs.length sure)) (sure + keepN keep xs.length sure : Nat) room ∧ Touch (· = g) W w' ∧ v1.ownBlock = v.ownBlock := by
  obtain ⟨A, c, rfl, hc⟩ := h.row.slice
  have hm := Kd.C_max h.row.row.2
  obtain ⟨m, hmm⟩ : ∃ m, sure + keepN keep xs.length sure = m := ⟨_, rfl⟩
  have hml : m ≤ xs.length := by rw [← hmm]; exact keepN_le _ _ _ hs
  rw [hmm]
  unfold keepN mn mx at hmm
  have f0 := blk_cell h.blk 0
  have f1 := blk_cell h.blk 1
  have fr1 := blk_frozen h.blk 1
  have e1 : IntKind.i64.wrap ((xs.length : Int) - sure) = (xs.length : Int) - sure := by rw [IntKind.wrap_i64]; omega
  have e2 : IntKind.i64.wrap ((sure : Int) + if (xs.length : Int) - sure < if keep < 0 then 0 else keep then (xs.length : Int) - sure else if keep < 0 then 0 else keep) = (m : Int) := by
    rw [IntKind.wrap_i64]
    (repeat' split at hmm) <;> (repeat' split) <;> omega
  obtain ⟨i5, hi5, hs5⟩ := info_5
  have hto := cut_to (P := Try.prog) 22 5 .i64 Try.underlying22 hi5 A xs.length c (m : Int) (by omega) (by omega) hc
  rw [Int.toNat_natCast] at hto
  have H := Lib.hid h
  have HML := Lib.hid hml
  clear h hmm hi5 hs5
  go_enter Try.func18, Try.ntmps18
  go_wp2_with (go_at_call 39; (with_reducible refine (is_calls _ _ _ _ _ _ _ H.out).mono ?_); rintro e w' ⟨rfl, rfl⟩)
  go_still_tail 20, mix
  clear e2
  generalize (if keep < 0 then (0 : Int) else keep) = q1
  generalize (if (xs.length : Int) - sure < q1 then (xs.length : Int) - sure else q1) = q2
  go_wp2
  obtain ⟨W2, hW2⟩ : ∃ W2, (W.setCell ⟨g, 1, none⟩ (.int .i64 m)).drew = W2 := ⟨_, rfl⟩
  have hb1 : (W.setCell ⟨g, 1, none⟩ (.int .i64 m)).heap[g]? = some (.cells #[.slice A xs.length c, .int .i64 m, .int .i64 room, .bool true] 49 (0, 0)) := blk_put H.out.blk 1 _ rfl
  have hb2 : W2.heap[g]? = some (.cells #[.slice A xs.length c, .int .i64 m, .int .i64 room, .bool true] 49 (0, 0)) := by rw [← hW2]; exact hb1
  have hr1 : DRow (W.setCell ⟨g, 1, none⟩ (.int .i64 m)) base (.slice A xs.length c) xs := H.out.row.move (fun k hk => Below.heap_setCell _ _ _ _ (H.out.ne k hk))
  have hr2 : DRow W2 base (.slice A xs.length c) xs := by rw [← hW2]; exact hr1.move (fun k hk => rfl)
  have ht1 : Touch (fun x => x = g) W (W.setCell ⟨g, 1, none⟩ (.int .i64 m)) := (Touch.refl (fun x => x = g) W).set (S := fun x => x = g) rfl _ _
  have ht2 : Touch (fun x => x = g) W W2 := by rw [← hW2]; exact ht1.drewN 1
  rw [hW2]
  clear f0 f1 fr1
  have f0 := blk_cell hb2 0
  have f1 := blk_cell hb2 1
  have fr0 := blk_frozen hb2 0
  have HB2 := Lib.hid hb2
  have HR2 := Lib.hid hr2
  have HT2 := Lib.hid ht2
  clear hW2 hb1 hb2 hr1 hr2 ht1 ht2
  go_still_tail 12, mix
  clear hto
  go_wp2
  go_end0
  refine ⟨rfl, .slice A m c, ⟨?_, ?_, H.out.ge, fun k hk => H.out.ne k ((own_slice A xs.length c m c).trans hk)⟩, ?_, own_slice A m c xs.length c⟩
  · have := blk_put HB2.out 0 (.slice A m c) rfl
    exact this
  · have h1 : DRow (W2.setCell ⟨g, 0, none⟩ (.slice A m c)) base (.slice A xs.length c) xs := HR2.out.move (fun k hk => Below.heap_setCell _ _ _ _ (H.out.ne k hk))
    exact h1.take HML.out
  · exact (HT2.out.set (S := fun x => x = g) rfl 0 (.slice A m c)).drewN 1
set_option maxRecDepth 100000 in
set_option maxHeartbeats 4000000 in
theorem cut_calls (W : World) (base g : Nat) (v : Value) (xs : List Int) (sure : Nat) (room size : Int) (h : DiskAt W base g v xs sure room) :
    Calls Try.prog 28 #[.pointer (some ⟨g, 0, none⟩), .int .i64 size] W fun e w' => (¬ (0 ≤ size ∧ size ≤ xs.length) → e = .returned (.int .i64 4) ∧ W = w') ∧ (0 ≤ size ∧ size ≤ xs.length → e = .returned (.int .i64 0) ∧ ∃ v1, DiskAt w' base g v1 (xs.take size.toNat) size room ∧ Touch (· = g) W w' ∧ v1.ownBlock = v.ownBlock) := by
  obtain ⟨A, c, rfl, hc⟩ := h.row.slice
  have f0 := blk_cell h.blk 0
  have fr0 := blk_frozen h.blk 0
  have f1 := blk_cell h.blk 1
  have fr1 := blk_frozen h.blk 1
  have H := Lib.hid h
  clear h
  by_cases hs : 0 ≤ size ∧ size ≤ xs.length
  · obtain ⟨s0, s1⟩ := hs
    obtain ⟨m, rfl⟩ := Int.eq_ofNat_of_zero_le s0
    have hml : m ≤ xs.length := by omega
    have c1 : decide ((m : Int) < 0) = false := decide_eq_false (by omega)
    have c2 : decide ((m : Int) > (xs.length : Int)) = false := decide_eq_false (by omega)
    have c3 : decide (xs.length < m) = false := decide_eq_false (by omega)
    have hmc : m ≤ c := by omega
    have HML := Lib.hid hml
    clear hml s1
    go_enter Try.func28, Try.ntmps28
    go_wp2_with (go_at_call 39; (with_reducible refine (is_calls _ _ _ _ _ _ _ H.out).mono ?_); rintro e w' ⟨rfl, rfl⟩)
    go_ret
    refine ⟨fun hn => absurd ⟨by omega, by have := HML.out; omega⟩ hn, fun _ => ⟨rfl, .slice A m m, ⟨?_, ?_, H.out.ge, fun k hk => H.out.ne k ((own_slice A xs.length c m m).trans hk)⟩, ?_, own_slice A m m xs.length c⟩⟩
    · exact blk_put (blk_put H.out.blk 0 (.slice A m m) rfl) 1 (.int .i64 (m : Int)) rfl
    · rw [Int.toNat_natCast]
      have h1 : DRow ((W.setCell ⟨g, 0, none⟩ (.slice A m m)).setCell ⟨g, 1, none⟩ (.int .i64 (m : Int))) base (.slice A xs.length c) xs := (H.out.row.move (fun k hk => Below.heap_setCell W ⟨g, 0, none⟩ (.slice A m m) k (H.out.ne k hk))).move (fun k hk => Below.heap_setCell _ _ _ _ (H.out.ne k hk))
      exact h1.cut HML.out
    · exact ((Touch.refl (fun x => x = g) W).set (S := fun x => x = g) rfl 0 (.slice A m m)).set (S := fun x => x = g) rfl 1 (.int .i64 (m : Int))
  · by_cases h1 : size < 0
    · have HS := Lib.hid hs
      have c1 : decide (size < 0) = true := decide_eq_true h1
      clear hs
      go_enter Try.func28, Try.ntmps28
      go_wp2_with (go_at_call 39; (with_reducible refine (is_calls _ _ _ _ _ _ _ H.out).mono ?_); rintro e w' ⟨rfl, rfl⟩)
      go_ret
      exact ⟨fun _ => ⟨rfl, rfl⟩, fun hh => absurd hh HS.out⟩
    · have h2 : (xs.length : Int) < size := by omega
      have HS := Lib.hid hs
      have c1 : decide (size < 0) = false := decide_eq_false h1
      have c2 : decide (size > (xs.length : Int)) = true := decide_eq_true h2
      clear hs
      go_enter Try.func28, Try.ntmps28
      go_wp2_with (go_at_call 39; (with_reducible refine (is_calls _ _ _ _ _ _ _ H.out).mono ?_); rintro e w' ⟨rfl, rfl⟩)
      go_ret
      exact ⟨fun _ => ⟨rfl, rfl⟩, fun hh => absurd hh HS.out⟩
end Go.Proofs.Ytfdpbdaekfdnjaa.X
