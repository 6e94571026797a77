/- Disks: octets more. -/
import Derived.Test.YtfdpbdaekfdnjaaHDiskW
namespace Go.Proofs.Ytfdpbdaekfdnjaa.X
open Go.RowKit Go.Proofs.YtfdpbdaekfdnjaaW.PrintWords Go.Proofs.YtfdpbdaekfdnjaaW.PrintLast Go.Proofs.YtfdpbdaekfdnjaaW.PrintMore
set_option linter.unusedVariables false
set_option linter.unusedSimpArgs false

/-- Cells in the midst of a block stored. -/
theorem setCells_mid (g : Nat) (t : TypeId) : ∀ (vs : List Value) (i : Nat) (w : World) (pre mid suf : List Value), w.heap[g]? = some (.cells (pre ++ (mid ++ suf)).toArray t (0, 0)) → pre.length = i → vs.length = mid.length →
    (w.setCells g i vs).heap[g]? = some (.cells (pre ++ (vs ++ suf)).toArray t (0, 0)) ∧ w.grownBy (w.setCells g i vs) (some g)
  | [], i, w, pre, mid, suf, h, hp, hl => by
    have : mid = [] := List.length_eq_zero_iff.1 (by simpa using hl.symm)
    subst this
    exact ⟨h, World.grownBy.refl w _⟩
  | v :: vs, i, w, pre, mid, suf, h, hp, hl => by
    match mid, hl with
    | s :: mid, hl =>
    have h1 := blk_put (cs' := ((pre ++ [v]) ++ (mid ++ suf)).toArray) h i v (by
      subst hp
      simp [List.set_append_right])
    obtain ⟨a1, a2⟩ := setCells_mid g t vs (i + 1) (w.setCell ⟨g, i, none⟩ v) (pre ++ [v]) mid suf h1 (by simp [hp]) (by simpa using hl)
    rw [World.setCells]
    refine ⟨by simpa using a1, ⟨a2.os, a2.tape, a2.output, by have := a2.size; rwa [World.size_setCell] at this, fun k hk hn => ?_⟩⟩
    have hkg : k ≠ g := fun e => hn (by rw [e])
    exact (a2.block k (by rw [World.size_setCell]; exact hk) hn).trans (Below.heap_setCell w ⟨g, i, none⟩ v k hkg)
section
variable {ops : Array Oper} {rest : List Oper} {o : Oper} {a : Act} {Q : Exit → Act → World → Prop}
theorem drow_append {W : World} (hgd : o.guard = none) (s x : Operand) (ho : o.op = .call { callee := .builtin .append, args := #[s, x], argTypes := #[22, 22] }) (base : Nat) (v : Value) (xs ys : List Int) (A : Option Addr) (c : Nat) (hs : a.eval s = v) (hx : a.eval x = .slice A ys.length c)
    (hD : DRow W base v xs) (hC : Kd.C (Kd.int .u8) W A ys.length ys) (hl : xs.length + ys.length ≤ 140737488355328) (hb : base ≤ W.heap.size)
    (h : ∀ v1 w1, DRow w1 base v1 (xs ++ ys) → W.grownBy w1 v.ownBlock → (v1.ownBlock = v.ownBlock ∨ ∃ b, v1.ownBlock = some b ∧ W.heap.size ≤ b) → wpList Try.prog ops Q rest (a.put o.dst v1) w1) : wpList Try.prog ops Q (o :: rest) a W := by
  obtain ⟨i5, hi, hz0, hz1, hz2⟩ := info_parts info5
  rcases hD with ⟨rfl, rfl⟩ | ⟨g, cap, cur, rfl, hbg, hh, hnc, hcs, hcm, ht⟩
  · refine Kd.R_append_rows (Kd.int .u8) (w0 := W) W.heap.size hgd s x 22 5 (.int .u8 0) 1 ho Try.underlying22 info5 rfl (by decide) (by decide) (.slice none 0 0) [] ys A ys.length c (fun _ => True) (fun _ => False) hs hx (Kd.R_nil _ _ _ _ _) hC (fun x cs hp => hp) (fun _ hk => hk.elim) (fun _ _ => trivial) (Below.refl _ _) (Nat.le_refl _) (by simpa using hl) ?_
    intro v1 w1 hR hb1 hg hat
    exact h v1 w1 ((DRow.of_R hR).lower hb) hg hat
  · cases A with
    | none =>
      have h0 : ys = [] := by
        rcases Nat.eq_zero_or_pos ys.length with h0 | h0
        · exact List.eq_nil_of_length_eq_zero h0
        · obtain ⟨ad, e, _⟩ := hC.2.2 h0
          cases e
      subst h0
      have hrun : (Builtin.append_ #[22, 22] o.type #[.slice (some ⟨g, 0, none⟩) xs.length cap, .slice none 0 c]).run Try.prog W = .ok (.slice (some ⟨g, 0, none⟩) xs.length cap) W := by
        simp [Builtin.append_, run_underlying Try.underlying22, sizeOf, typeInfo, hi, Builtin.lenOf, Builtin.firstCells, hnc, storeCells]
      refine Kd.event_run hgd (v := .slice (some ⟨g, 0, none⟩) xs.length cap) (w1 := W) ?_ (h _ _ (by rw [List.append_nil]; exact .inr ⟨g, cap, cur, rfl, hbg, hh, hnc, hcs, hcm, ht⟩) (World.grownBy.refl W _) (.inl rfl))
      simp only [List.length_nil] at hx
      simp [execOp, ho, resolve, invoke, builtin, hs, hx, hrun, Result.andThen]
    | some ad =>
      have hrd := Kd.reads_of_C (d := (0 : Int)) (h1 := fun _ => rfl) hC
      have hold : ∀ j u, (nums .u8 xs)[j]? = some u → W.cell? ⟨g, 0 + j, none⟩ = some u := fun j u hj => by
        rw [Nat.zero_add, blk_cell hh, ← Array.getElem?_toList]
        have hj2 : j < xs.length := by
          have := (List.getElem?_eq_some_iff.1 hj).1
          simpa [nums] using this
        rw [← ht, List.getElem?_take_of_lt hj2] at hj
        exact hj
      refine wpList_append_arg W hgd s x 22 ho 5 i5 (.int .u8 0) 1 1 Try.underlying22 hi hz0 hz1 hz2 rfl (by decide) g 0 xs.length cap (nums .u8 xs) hs (by simp [nums]) hold ad ys.length c (nums .u8 ys) hx (by simp [nums]) (fun j u hj => ?_) (fun u hu => ?_) (fun hr j hj => ?_) (by unfold maxLen at *; omega) (by omega) (fun hr => ?_) (fun hg v' w' hown hgr => ?_)
      · have hj2 : j < ys.length := by
          have := (List.getElem?_eq_some_iff.1 hj).1
          simpa [nums] using this
        obtain ⟨ad', e, hc⟩ := hrd.2.2 (by omega)
        cases e
        rw [hc j hj2]
        simpa [nums, hj2, List.getD_eq_getElem?_getD] using hj
      · simp only [nums, List.mem_map] at hu
        obtain ⟨q, _, rfl⟩ := hu
        rfl
      · have hj2 : j < ys.length := by simpa [nums] using hj
        refine ⟨?_, blk_frozen hh _⟩
        rw [blk_cell hh, Array.getElem?_eq_getElem (by omega)]
        rfl
      · have hcl : cur.toList.length = cur.size := by simp
        have hsplit : cur.toList = nums .u8 xs ++ ((cur.toList.drop xs.length).take ys.length ++ (cur.toList.drop xs.length).drop ys.length) := by
          rw [List.take_append_drop, ← ht, List.take_append_drop]
        have hh' : W.heap[g]? = some (.cells (nums .u8 xs ++ ((cur.toList.drop xs.length).take ys.length ++ (cur.toList.drop xs.length).drop ys.length)).toArray 5 (0, 0)) := by
          rw [← hsplit]
          simpa using hh
        obtain ⟨h1, h2⟩ := setCells_mid g 5 (nums .u8 ys) (0 + xs.length * 1) W _ _ _ hh' (by simp [nums]) (by simp [nums]; omega)
        refine h _ _ (.inr ⟨g, cap, _, by rw [List.length_append], hbg, h1, by rw [List.length_append]; exact hr, ?_, hcm, ?_⟩) h2 (.inl rfl)
        · simp [nums]
          omega
        · rw [List.toList_toArray, ← List.append_assoc, List.take_left' (by simp [nums])]
          simp [nums]
      · rcases hown.2 with ⟨_, h0⟩ | ⟨g', cap', cur', rfl, hg', hh', hc', hm', hs', ht'⟩
        · omega
        · refine h _ w' (.inr ⟨g', cap', cur', by rw [List.length_append], Nat.le_trans hb hg', hh', by rw [List.length_append]; exact hc', by rw [hs']; omega, hm', ?_⟩) ⟨hgr.os, hgr.tape, hgr.output, hgr.size, fun k hk hn => hgr.block k hk (by simp)⟩ (.inr ⟨g', rfl, hg'⟩)
          rw [List.length_append]
          simpa [nums] using ht'
end
set_option maxRecDepth 100000 in
set_option maxHeartbeats 4000000 in
theorem append_calls (W : World) (base g : Nat) (v : Value) (xs : List Int) (sure room : Int) (A1 : Option Addr) (c1 : Nat) (ys : List Int) (h : DiskAt W base g v xs sure room) (hC : Kd.C (Kd.int .u8) W A1 ys.length ys) (hr0 : 0 ≤ room) (hr1 : room ≤ 1000000) (hx : xs.length ≤ room) :
    Calls Try.prog 16 #[.pointer (some ⟨g, 0, none⟩), .slice A1 ys.length c1] W fun e w' => (room < (xs.length : Int) + ys.length → e = .returned (.int .i64 17) ∧ Drawn0 W w') ∧ ((xs.length : Int) + ys.length ≤ room → e = .returned (.int .i64 0) ∧ ∃ v1, DiskAt w' base g v1 (xs ++ ys) sure room ∧ Touch (fun k => k = g ∨ v.ownBlock = some k) W w' ∧ (v1.ownBlock = v.ownBlock ∨ ∃ b, v1.ownBlock = some b ∧ W.heap.size ≤ b)) := by
  obtain ⟨A, c, rfl, hc⟩ := h.row.slice
  have hm := Kd.C_max hC
  have f0 := blk_cell h.blk 0
  have f2 := blk_cell h.blk 2
  have H := Lib.hid h
  have HC := Lib.hid hC
  have e1 : IntKind.i64.wrap (room - (xs.length : Int)) = room - xs.length := by rw [IntKind.wrap_i64]; omega
  have e2 : wrap64 (room - (xs.length : Int)) = room - xs.length := by unfold wrap64; omega
  have HX := Lib.hid hx
  clear h hC
  by_cases hf : room < (xs.length : Int) + ys.length
  · have d1 : decide ((ys.length : Int) > room - xs.length) = true := decide_eq_true (by omega)
    have HF := Lib.hid hf
    clear hf hx
    go_enter Try.func16, Try.ntmps16
    go_wp2_with (go_at_call 39; (with_reducible refine (is_calls _ _ _ _ _ _ _ H.out).mono ?_); rintro e w' ⟨rfl, rfl⟩)
    go_quiet (fail)
    go_wp2
    go_ret
    exact ⟨fun _ => ⟨rfl, ⟨_, rfl⟩⟩, fun hh => absurd hh (by have := HF.out; omega)⟩
  · have d1 : decide ((ys.length : Int) > room - xs.length) = false := decide_eq_false (by omega)
    have HF := Lib.hid hf
    clear hf hx
    go_enter Try.func16, Try.ntmps16
    go_wp2_with (go_at_call 39; (with_reducible refine (is_calls _ _ _ _ _ _ _ H.out).mono ?_); rintro e w' ⟨rfl, rfl⟩)
    go_quiet (fail)
    go_wp2_with ((with_reducible refine gate_builtin (b := .append) (xs := #[.tmp 27, .tmp 28]) rfl ?_); at_builtin; refine drow_append rfl (.tmp 27) (.tmp 28) rfl base (.slice A xs.length c) xs ys A1 c1 rfl rfl (H.out.row.move (fun _ _ => rfl)) (Kd.C_drewN HC.out _) (by have := HF.out; omega) (Nat.le_trans H.out.ge (Nat.le_of_lt (blk_lt H.out.blk))) ?_; intro v1 w1 hD hg hat; obtain ⟨A2, c2, rfl, hc2⟩ := hD.slice; have hb1 : w1.heap[g]? = some (.cells #[.slice A xs.length c, .int .i64 sure, .int .i64 room, .bool true] 49 (0, 0)) := (hg.block g (blk_lt H.out.blk) (fun e => H.out.ne g e.symm rfl)).trans H.out.blk; have k0 := blk_cell hb1 0; have kr := blk_frozen hb1 0; have HG := Lib.hid hg; have HD := Lib.hid hD; have HAT := Lib.hid hat; have HB1 := Lib.hid hb1; clear hg hD hat hb1)
    go_ret
    have hD : DRow w1 base (.slice A2 (xs.length + ys.length) c2) (xs ++ ys) := by rw [← List.length_append]; exact HD.out
    have hAT := HAT.out
    rw [List.length_append] at hAT
    have hown : ∀ k, (Value.slice A2 (xs.length + ys.length) c2).ownBlock = some k → k ≠ g := fun k hk => by
      rcases hAT with h1 | ⟨b, h1, h2⟩
      · exact H.out.ne k (h1 ▸ hk)
      · rw [h1] at hk
        obtain rfl := Option.some.inj hk
        have h3 : g < W.heap.size := blk_lt H.out.blk
        have h4 : W.heap.size ≤ b := h2
        omega
    refine ⟨fun hh => absurd hh (by have := HF.out; omega), fun _ => ⟨rfl, .slice A2 (xs.length + ys.length) c2, ⟨blk_put HB1.out 0 (.slice A2 (xs.length + ys.length) c2) rfl, hD.move (fun k hk => Below.heap_setCell _ _ _ _ (hown k hk)), H.out.ge, hown⟩, ?_, hAT⟩⟩
    have ht : Touch (fun k => k = g ∨ (Value.slice A xs.length c).ownBlock = some k) W w1 := ⟨HG.out.os, HG.out.tape, HG.out.output, HG.out.size, fun k hk hn => HG.out.block k hk (fun e => hn (.inr e.symm))⟩
    exact ht.set (S := fun k => k = g ∨ (Value.slice A xs.length c).ownBlock = some k) (.inl rfl) 0 (.slice A2 (xs.length + ys.length) c2)
end Go.Proofs.Ytfdpbdaekfdnjaa.X
