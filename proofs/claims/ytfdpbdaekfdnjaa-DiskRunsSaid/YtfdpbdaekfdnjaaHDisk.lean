/- Disks: what lies in memory, and the calls that only read. -/
import Derived.Test.YtfdpbdaekfdnjaaHCloneB
import Derived.Deep.QuietTactic
import Derived.BigQuiet
import Derived.ArgAppend
namespace Go.Proofs.Ytfdpbdaekfdnjaa.X
open Go.RowKit Go.Proofs.YtfdpbdaekfdnjaaW.PrintWords Go.Proofs.YtfdpbdaekfdnjaaW.PrintLast Go.Proofs.YtfdpbdaekfdnjaaW.PrintMore
set_option linter.unusedVariables false
set_option linter.unusedSimpArgs false

/-- Octets of one's own, in a block that may be longer than the slice's capacity. -/
def DRow (W : World) (base : Nat) (v : Value) (xs : List Int) : Prop :=
  (v = .slice none 0 0 ∧ xs = []) ∨ ∃ g cap cur, v = .slice (some ⟨g, 0, none⟩) xs.length cap ∧ base ≤ g ∧ W.heap[g]? = some (.cells cur 5 (0, 0)) ∧ xs.length ≤ cap ∧ cap ≤ cur.size ∧ cap ≤ maxLen ∧ cur.toList.take xs.length = nums .u8 xs
section
variable {W W1 : World} {base : Nat} {v : Value} {xs : List Int}
theorem DRow.nil (W : World) (base : Nat) : DRow W base (.slice none 0 0) [] := .inl ⟨rfl, rfl⟩
theorem DRow.slice (h : DRow W base v xs) : ∃ A c, v = .slice A xs.length c ∧ xs.length ≤ c := by
  rcases h with ⟨rfl, rfl⟩ | ⟨g, cap, cur, rfl, _, _, hc, _⟩
  · exact ⟨none, 0, rfl, Nat.le_refl _⟩
  · exact ⟨_, _, rfl, hc⟩
theorem DRow.move (h : DRow W base v xs) (hm : ∀ k, v.ownBlock = some k → W1.heap[k]? = W.heap[k]?) : DRow W1 base v xs := by
  rcases h with h | ⟨g, cap, cur, rfl, hb, hh, r⟩
  · exact .inl h
  · exact .inr ⟨g, cap, cur, rfl, hb, (hm g rfl).trans hh, r⟩
theorem DRow.lt (h : DRow W base v xs) : ∀ k, v.ownBlock = some k → base ≤ k ∧ k < W.heap.size := by
  intro k hk
  rcases h with ⟨rfl, _⟩ | ⟨g, cap, cur, rfl, hb, hh, _⟩
  · simp [Value.ownBlock] at hk
  · have : g = k := by simpa [Value.ownBlock] using hk
    subst this
    exact ⟨hb, blk_lt hh⟩
theorem DRow.lower (h : DRow W base v xs) {base' : Nat} (hb : base' ≤ base) : DRow W base' v xs := by
  rcases h with h | ⟨g, cap, cur, e, hg, r⟩
  · exact .inl h
  · exact .inr ⟨g, cap, cur, e, Nat.le_trans hb hg, r⟩
theorem DRow.row {A : Option Addr} {n c : Nat} (h : DRow W base (.slice A n c) xs) : xs.length = n ∧ Kd.C (Kd.int .u8) W A n xs := by
  rcases h with ⟨e, rfl⟩ | ⟨g, cap, cur, e, hb, hh, hc, hcs, hm, ht⟩
  · injection e with e1 e2 e3
    subst e1 e2
    exact ⟨rfl, Kd.C_nil _ _⟩
  · injection e with e1 e2 e3
    subst e1 e2
    refine ⟨rfl, Kd.C_of_reads (d := (0 : Int)) (h1 := fun _ => rfl) ⟨rfl, by unfold maxLen at hm; omega, fun _ => ⟨_, rfl, fun j hj => ?_⟩⟩⟩
    rw [show (⟨g, 0, none⟩ : Addr).add j = ⟨g, j, none⟩ by simp only [Addr.add]; split <;> simp_all, blk_cell hh]
    have e4 : (cur.toList.take xs.length)[j]? = (nums .u8 xs)[j]? := by rw [ht]
    rw [List.getElem?_take_of_lt hj] at e4
    rw [← Array.getElem?_toList, e4]
    simp [nums, List.getD_eq_getElem?_getD, hj]
theorem DRow.take {A : Option Addr} {n c m : Nat} (h : DRow W base (.slice A n c) xs) (hm : m ≤ n) : DRow W base (.slice A m c) (xs.take m) := by
  rcases h with ⟨e, rfl⟩ | ⟨g, cap, cur, e, hb, hh, hc, hcs, hml, ht⟩
  · injection e with e1 e2 e3
    subst e1 e2 e3
    obtain rfl : m = 0 := by omega
    exact .inl ⟨rfl, rfl⟩
  · injection e with e1 e2 e3
    subst e1 e2 e3
    have hl : (xs.take m).length = m := by rw [List.length_take]; omega
    refine .inr ⟨g, c, cur, by rw [hl], hb, hh, by omega, hcs, hml, ?_⟩
    rw [hl]
    have : (cur.toList.take xs.length).take m = (nums .u8 xs).take m := by rw [ht]
    rw [List.take_take, Nat.min_eq_left hm] at this
    rw [this]
    simp [nums, List.map_take]
theorem DRow.cut {A : Option Addr} {n c m : Nat} (h : DRow W base (.slice A n c) xs) (hm : m ≤ n) : DRow W base (.slice A m m) (xs.take m) := by
  rcases h.take hm with ⟨e, e2⟩ | ⟨g, cap, cur, e, hb, hh, hc, hcs, hml, ht⟩
  · injection e with e1 e3 e4
    subst e1 e3
    exact .inl ⟨rfl, e2⟩
  · injection e with e1 e3 e4
    subst e1
    exact .inr ⟨g, m, cur, by rw [← e3], hb, hh, by omega, by omega, by omega, ht⟩
theorem DRow.of_R {ok : Nat → Prop} (h : Kd.R (Kd.int .u8) 5 W base ok v xs) : DRow W base v xs := by
  have ho := Kd.own_of_R h
  have hr := (Kd.R_reads h)
  rcases ho.2 with ⟨rfl, h0⟩ | ⟨g, cap, cur, rfl, hg, hh, hc, hm, hs, ht⟩
  · exact .inl ⟨rfl, List.eq_nil_of_length_eq_zero h0⟩
  · exact .inr ⟨g, cap, cur, rfl, hg, hh, hc, by rw [hs]; omega, hm, by simpa [nums, encs] using ht⟩
end
/-- A disk. -/
structure DiskAt (W : World) (base g : Nat) (v : Value) (xs : List Int) (sure room : Int) : Prop where
  blk : W.heap[g]? = some (.cells #[v, .int .i64 sure, .int .i64 room, .bool true] 49 (0, 0))
  row : DRow W base v xs
  ge : base ≤ g
  ne : ∀ k, v.ownBlock = some k → k ≠ g
/-- Only blocks of S are turned. -/
structure Touch (S : Nat → Prop) (W W1 : World) : Prop where
  os : W1.os = W.os
  tape : W1.tape = W.tape
  output : W1.output = W.output
  size : W.heap.size ≤ W1.heap.size
  block : ∀ k, k < W.heap.size → ¬ S k → W1.heap[k]? = W.heap[k]?
theorem DiskAt.move {W W1 : World} {base g : Nat} {v : Value} {xs : List Int} {sure room : Int} (h : DiskAt W base g v xs sure room) (hg : W1.heap[g]? = W.heap[g]?) (hm : ∀ k, v.ownBlock = some k → W1.heap[k]? = W.heap[k]?) : DiskAt W1 base g v xs sure room :=
  ⟨hg.trans h.blk, h.row.move hm, h.ge, h.ne⟩
theorem DiskAt.below {W W1 : World} {base g : Nat} {v : Value} {xs : List Int} {sure room : Int} (h : DiskAt W base g v xs sure room) (hb : Below W.heap.size W W1) : DiskAt W1 base g v xs sure room :=
  h.move (hb.block _ (blk_lt h.blk)) (fun k hk => hb.block _ (h.row.lt k hk).2)

set_option maxRecDepth 100000 in
set_option maxHeartbeats 4000000 in
theorem is_calls (W : World) (base g : Nat) (v : Value) (xs : List Int) (sure room : Int) (h : DiskAt W base g v xs sure room) :
    Calls Try.prog 39 #[.pointer (some ⟨g, 0, none⟩)] W fun e w' => e = .returned (.bool true) ∧ W = w' := by
  have f3 := blk_cell h.blk 3
  go_enter Try.func39, Try.ntmps39
  go_wp2
  go_ret
  exact ⟨rfl, rfl⟩
set_option maxRecDepth 100000 in
set_option maxHeartbeats 4000000 in
theorem size_calls (W : World) (base g : Nat) (v : Value) (xs : List Int) (sure room : Int) (h : DiskAt W base g v xs sure room) :
    Calls Try.prog 29 #[.pointer (some ⟨g, 0, none⟩)] W fun e w' => e = .returned (.int .i64 xs.length) ∧ W = w' := by
  obtain ⟨A, c, rfl, hc⟩ := h.row.slice
  have f0 := blk_cell h.blk 0
  go_enter Try.func29, Try.ntmps29
  go_wp2_with (go_at_call 39; (with_reducible refine (is_calls _ _ _ _ _ _ _ h).mono ?_); rintro e w' ⟨rfl, rfl⟩)
  go_ret
  exact ⟨rfl, rfl⟩
set_option maxRecDepth 100000 in
set_option maxHeartbeats 4000000 in
theorem loose_calls (W : World) (base g : Nat) (v : Value) (xs : List Int) (sure : Nat) (room : Int) (h : DiskAt W base g v xs sure room) (hs : sure ≤ xs.length) :
    Calls Try.prog 20 #[.pointer (some ⟨g, 0, none⟩)] W fun e w' => e = .returned (.int .i64 ((xs.length : Int) - sure)) ∧ Drawn0 W w' := by
  obtain ⟨A, c, rfl, hc⟩ := h.row.slice
  have hm := Kd.C_max h.row.row.2
  have f0 := blk_cell h.blk 0
  have f1 := blk_cell h.blk 1
  have b0 : (0 : Int) ≤ (xs.length : Int) - sure := by omega
  have b1 : ((xs.length : Int) - sure) ≤ 9223372036854775807 := by omega
  have e1 : IntKind.i64.wrap ((xs.length : Int) - sure) = (xs.length : Int) - sure := by rw [IntKind.wrap_i64]; omega
  go_enter Try.func20, Try.ntmps20
  go_wp2_with (go_at_call 39; (with_reducible refine (is_calls _ _ _ _ _ _ _ h).mono ?_); rintro e w' ⟨rfl, rfl⟩)
  go_quiet (fail)
  go_wp2
  go_ret
  exact ⟨rfl, ⟨_, rfl⟩⟩
end Go.Proofs.Ytfdpbdaekfdnjaa.X
