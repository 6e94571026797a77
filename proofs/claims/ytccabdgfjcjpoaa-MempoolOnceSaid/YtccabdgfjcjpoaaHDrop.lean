/- mempool.Drop: without what is done. -/
import Derived.Test.YtccabdgfjcjpoaaHTake
import Derived.BigQuiet
import Derived.Deep.QuietTactic
namespace Go.Proofs.Ytccabdgfjcjpoaa.X
open Go.RowKit Go.Proofs.YtccabdgfjcjpoaaW.PrintWords Go.Proofs.YtccabdgfjcjpoaaW.PrintLast Go.Proofs.YtccabdgfjcjpoaaW.PrintMore
set_option linter.unusedVariables false
set_option linter.unusedSimpArgs false

set_option maxRecDepth 100000 in
set_option maxHeartbeats 4000000 in
theorem index39 (A : Option Addr) (c : Nat) (l : List S27) (cap : Value) (p : S27 → Bool) (w : World) (hr : Kd.C k27 w A l.length l) (hc : l.length ≤ c)
    (hp : ∀ (t : S27), t ∈ l → ∀ W : World, Below w.heap.size w W → Calls Try.prog 39 #[aggT t, cap] W fun e w' => e = .returned (.bool (p t)) ∧ Below W.heap.size W w') :
    Calls Try.prog 36 #[.slice A l.length c, .func (.func 39) #[] #[cap]] w fun e w' => e = .returned (.int .i64 (idxOf p l)) ∧ Below w.heap.size w w' := by
  have HR := Lib.hid hr
  have HC := Lib.hid hc
  have HP := Lib.hid hp
  have HMX := Lib.hid (Kd.C_max hr)
  clear hr hc hp
  go_enter Try.func36, Try.ntmps36
  go_wp2
  go_loopg [8] (l.length + 1) (fun kq v8 w' => ∃ i : Nat, v8 = .int .i64 (i : Int) ∧ Hid (i ≤ l.length ∧ kq + i = l.length + 1) ∧ Hid (Below w.heap.size w w' ∧ ∀ j (h : j < l.length), j < i → p l[j] = false))
  case atStart => exact ⟨0, rfl, Lib.hid ⟨by omega, rfl⟩, Lib.hid ⟨Below.refl _ _, fun j _ h => absurd h (Nat.not_lt_zero _)⟩⟩
  case round =>
    obtain ⟨i, rfl, hi, hI⟩ := hrel
    by_cases ci : i < l.length
    · have c1 : decide ((i : Int) < (l.length : Int)) = true := decide_eq_true (by omega)
      have c2 : decide (i < l.length) = true := decide_eq_true ci
      have p0 : 0 ≤ (i : Int) := by omega
      have p1 : (i : Int) < (l.length : Int) := by omega
      obtain ⟨ad, e0, x0, x1, x2, x3, x4⟩ := at_T27 (Kd.C_below HR.out hI.out.1) (i : Int) p0 p1
      cases e0
      rw [Int.toNat_natCast] at x0 x1 x2 x3 x4
      obtain ⟨y, hy⟩ : ∃ y, rd_T27 l (i : Int) = y := ⟨_, rfl⟩
      rw [hy] at x0 x1 x2 x3 x4
      have hyl : l[i] = y := by rw [← hy]; simp [rd_T27, List.getD_eq_getElem?_getD, ci]
      have hcall := HP.out y (by rw [← hyl]; exact List.getElem_mem ci) wr hI.out.1
      have HCI := Lib.hid ci
      have HY : Hid (∀ h : i < l.length, l[i]'h = y) := Lib.hid (fun _ => hyl)
      replace p0 := eq_true p0
      replace p1 := eq_true p1
      cases hb : p y
      · rw [hb] at hcall
        have HB := Lib.hid hb
        clear hy hyl ci hb
        go_wp2_with (go_at_call 39; go_must ((with_reducible refine Calls.mono hcall ?_); rintro e w2 ⟨rfl, hb2⟩))
        have hB2 := below_step hI.out.1 hb2
        have HN := Lib.hid hB2
        clear hb2 hB2 x0 x1 x2 x3 x4 hcall
        obtain ⟨k1, rfl⟩ : ∃ k1, gk = k1 + 1 := ⟨gk - 1, by have := hi.out; omega⟩
        go_roundg k1
        case measure => omega
        case rel => exact ⟨i + 1, congrArg (Value.int .i64) (by have := hi.out; have := HMX.out; have := HCI.out; unfold wrap64; omega), Lib.hid ⟨HCI.out, by have := hi.out; omega⟩, Lib.hid ⟨HN.out, fun j h hj => by
          rcases Nat.lt_or_ge j i with h' | h'
          · exact hI.out.2 j h h'
          · have : j = i := by omega
            subst this
            rw [HY.out h]; exact HB.out⟩⟩
      · rw [hb] at hcall
        have hix : idxOf p l = i := idxOf_at ci (by rw [hyl]; exact hb) hI.out.2
        have HIX := Lib.hid hix
        clear hy hyl ci hb hix
        go_wp2_with (go_at_call 39; go_must ((with_reducible refine Calls.mono hcall ?_); rintro e w2 ⟨rfl, hb2⟩))
        go_ret
        exact ⟨by rw [HIX.out]; rfl, below_step hI.out.1 hb2⟩
    · have c1 : decide ((i : Int) < (l.length : Int)) = false := decide_eq_false (by omega)
      have c2 : decide (i < l.length) = false := decide_eq_false ci
      have hix : idxOf p l = -1 := idxOf_none (fun j h => hI.out.2 j h (by have := hi.out; omega))
      have HIX := Lib.hid hix
      clear hix ci hi
      go_wp2
      go_ret
      exact ⟨by rw [HIX.out]; rfl, hI.out.1⟩

/-- Is a transaction done, or can it never be? -/
def dropT (ac : List S52) (t : S27) : Bool := decide (t.f0 < 0) || (decide ((ac.length : Int) ≤ t.f0) || decide (t.f3 < (rd_T52 ac t.f0).f1))
set_option maxRecDepth 100000 in
set_option maxHeartbeats 4000000 in
theorem dropT_calls (t : S27) (ac : List S52) (A1 : Option Addr) (c1 : Nat) (g3 : Nat) (w : World) (h3 : w.heap[g3]? = some (.cells #[.slice A1 ac.length c1] 44 (0, 0))) (hr1 : Kd.C k52 w A1 ac.length ac) :
    Calls Try.prog 39 #[aggT t, .pointer (some ⟨g3, 0, none⟩)] w fun e w' => e = .returned (.bool (dropT ac t)) ∧ Below w.heap.size w w' := by
  obtain ⟨w1, hw1⟩ : ∃ w1, w.alloc (.cells #[.int .i64 t.f0, .int .i64 t.f1, .int .i64 t.f2, .int .i64 t.f3, .string t.f4] 27) = w1 := ⟨_, rfl⟩
  have hB : Below w.heap.size w w1 := by rw [← hw1]; exact below_alloc (Below.refl _ _) _
  have b1 : w1.heap[w.heap.size]? = some (.cells #[.int .i64 t.f0, .int .i64 t.f1, .int .i64 t.f2, .int .i64 t.f3, .string t.f4] 27 (0, 0)) := by rw [← hw1]; exact blk_new _ _
  have c3 := blk_cell ((hB.block _ (blk_lt h3)).trans h3) 0
  have f0 := blk_cell b1 0
  have f3 := blk_cell b1 3
  have hC := Kd.C_below hr1 hB
  have HB := Lib.hid hB
  have e : aggT t = .agg #[.int .i64 t.f0, .int .i64 t.f1, .int .i64 t.f2, .int .i64 t.f3, .string t.f4] := rfl
  rw [e]
  by_cases c0 : t.f0 < 0
  · have d0 : decide (t.f0 < 0) = true := decide_eq_true c0
    have hd : dropT ac t = true := by rw [dropT, d0, Bool.true_or]
    rw [hd]
    clear hd h3 hr1 b1 hB hC e c0
    go_enter Try.func39, Try.ntmps39
    go_wp2_with (rw [hw1])
    go_quiet (fail)
    go_wp2
    go_ret
    exact ⟨rfl, pw_below_drewN HB.out _⟩
  · have d0 : decide (t.f0 < 0) = false := decide_eq_false c0
    by_cases c1' : (ac.length : Int) ≤ t.f0
    · have d1 : decide ((ac.length : Int) ≤ t.f0) = true := decide_eq_true c1'
      have hd : dropT ac t = true := by rw [dropT, d1, Bool.true_or, Bool.or_true]
      rw [hd]
      clear hd h3 hr1 b1 hB hC e c0 c1'
      go_enter Try.func39, Try.ntmps39
      go_wp2_with (rw [hw1])
      go_quiet (fail)
      go_wp2
      go_ret
      exact ⟨rfl, pw_below_drewN HB.out _⟩
    · have d1 : decide ((ac.length : Int) ≤ t.f0) = false := decide_eq_false c1'
      have p0 : 0 ≤ t.f0 := by omega
      have p1 : t.f0 < (ac.length : Int) := by omega
      obtain ⟨ad, e0, x0, x1⟩ := at_T52 hC t.f0 p0 p1
      cases e0
      obtain ⟨v, hv⟩ : ∃ v, (rd_T52 ac t.f0).f1 = v := ⟨_, rfl⟩
      rw [hv] at x1
      obtain ⟨b, hb⟩ : ∃ b, decide (t.f3 < v) = b := ⟨_, rfl⟩
      have hd : dropT ac t = b := by rw [dropT, d0, d1, hv, hb, Bool.false_or, Bool.false_or]
      rw [hd]
      replace p0 := eq_true p0
      replace p1 := eq_true p1
      clear hd h3 hr1 b1 hB hC e c0 c1' hv x0
      go_enter Try.func39, Try.ntmps39
      go_wp2_with (rw [hw1])
      go_quiet (fail)
      go_wp2
      go_ret
      exact ⟨rfl, pw_below_drewN HB.out _⟩

/-- Cells stored behind a beginning. -/
theorem setCells_cur (g : Nat) (t : TypeId) : ∀ (vs : List Value) (i : Nat) (w : World) (cur : Array Value), w.heap[g]? = some (.cells cur t (0, 0)) →
    ∃ cur', (w.setCells g i vs).heap[g]? = some (.cells cur' t (0, 0)) ∧ cur'.size = cur.size ∧ (∀ m, m ≤ i → cur'.toList.take m = cur.toList.take m) ∧ (w.setCells g i vs).heap.size = w.heap.size ∧ (∀ k, k ≠ g → (w.setCells g i vs).heap[k]? = w.heap[k]?) ∧ (∀ (v : World) B, Below B v w → B ≤ g → Below B v (w.setCells g i vs))
  | [], i, w, cur, h => ⟨cur, h, rfl, fun _ _ => rfl, rfl, fun _ _ => rfl, fun _ _ hb _ => hb⟩
  | v :: vs, i, w, cur, h => by
    have h1 := blk_set h i v
    obtain ⟨cur', q1, q2, q3, q4, q5, q6⟩ := setCells_cur g t vs (i + 1) (w.setCell ⟨g, i, none⟩ v) _ h1
    rw [World.setCells]
    refine ⟨cur', q1, by rw [q2, Array.size_setIfInBounds], fun m hm => ?_, q4.trans (World.size_setCell _ _ _), fun k hk => (q5 k hk).trans (Below.heap_setCell w ⟨g, i, none⟩ v k hk), fun u B hb hg => q6 u B (by exact hb.setCell hg _) hg⟩
    rw [q3 m (by omega), Array.toList_setIfInBounds, List.take_set_of_le hm]
theorem R_prefix {W : World} {base g n cap i off : Nat} {ys : List S27} {vs : List Value} (HO : Kd.R k27 27 W base (fun _ => True) (.slice (some ⟨g, 0, none⟩) n cap) ys) (hi : i ≤ ys.length) (ho : i * 5 ≤ off) :
    Kd.R k27 27 (W.setCells g off vs) base (fun _ => True) (.slice (some ⟨g, 0, none⟩) i cap) (ys.take i) := by
  obtain ⟨hok, inner, ⟨hlen, hown⟩, hr⟩ := Kd.R_take HO hi
  rcases hown with ⟨hv, _⟩ | ⟨g', cap', cur, hv, hb, hh, hnc, hcm, hcs, ht⟩
  · cases hv
  injection hv with ha _ hc
  injection ha with ha
  injection ha with hg
  subst hg; subst hc
  obtain ⟨cur', q1, q2, q3, q4, q5, q6⟩ := setCells_cur g 27 vs off W cur hh
  have hil : (ys.take i).length = i := by rw [List.length_take]; omega
  refine ⟨hok, inner, ⟨hlen, .inr ⟨g, cap, cur', by rw [hil], hb, q1, hnc, hcm, by rw [q2]; exact hcs, ?_⟩⟩, hr.imp_ (fun x cs hm => k27.M_move (fun k hk => q5 k (fun h => hk.2 (by simp [Value.ownBlock, h]))) hm)⟩
  rw [← ht, q3]
  rw [hil]
  exact ho
section
variable {ops : Array Oper} {rest : List Oper} {o : Oper} {a : Act} {Q : Exit → Act → World → Prop}
theorem clear_ev {w0 W : World} (hgd : o.guard = none) (hd : o.dst = none) (x : Operand) (ho : o.op = .call { callee := .builtin .clear, args := #[x], argTypes := #[22] }) (base g i n cap c' m : Nat) (ys : List S27) (hx : a.eval x = .slice (some ⟨g, i * 5, none⟩) m c') (hm : i + m = n)
    (HO : Kd.R k27 27 W base (fun _ => True) (.slice (some ⟨g, 0, none⟩) n cap) ys) (HB : Below base w0 W)
    (h : ∀ w1, Kd.R k27 27 w1 base (fun _ => True) (.slice (some ⟨g, 0, none⟩) i cap) (ys.take i) → Below base w0 w1 → wpList Try.prog ops Q rest a w1) : wpList Try.prog ops Q (o :: rest) a W := by
  have hny : n = ys.length := (Kd.R_reads' HO).1
  have hbg := Kd.R_base HO g (by simp [Value.ownBlock])
  obtain ⟨vs, hvs⟩ : ∃ vs, (Builtin.zeroCells #[Value.int .i64 0, .int .i64 0, .int .i64 0, .int .i64 0, .string ⟨#[]⟩] m).toList = vs := ⟨_, rfl⟩
  have hvl : vs.length = m * 5 := by rw [← hvs, Array.length_toList, size_zeroCells]; rfl
  have hv1 : ∀ v ∈ vs, v.oneCell' = true := by
    rw [← hvs]
    intro v hv
    simp only [Builtin.zeroCells, Array.toList_map, List.mem_map] at hv
    obtain ⟨j, _, rfl⟩ := hv
    have hj : j % 5 = 0 ∨ j % 5 = 1 ∨ j % 5 = 2 ∨ j % 5 = 3 ∨ j % 5 = 4 := by omega
    show (#[Value.int .i64 0, .int .i64 0, .int .i64 0, .int .i64 0, .string ⟨#[]⟩][j % 5]!).oneCell' = true
    rcases hj with h | h | h | h | h <;> rw [h] <;> rfl
  have HO2 := HO
  obtain ⟨_, inner, ⟨hlen, hown⟩, _⟩ := HO2
  rcases hown with ⟨hv, _⟩ | ⟨g', cap', cur, hv, hb, hh, hnc, hcm, hcs, ht⟩
  · cases hv
  injection hv with ha _ hc
  injection ha with ha
  injection ha with hg
  subst hg; subst hc
  have hsz : n * 5 ≤ cur.size := by
    rw [hcs, hny]
    exact Nat.mul_le_mul_right _ hnc
  obtain ⟨cur', q1, q2, q3, q4, q5, q6⟩ := setCells_cur g 27 vs (i * 5) W cur hh
  have hst := run_storeCells_cells (P := Try.prog) g (i * 5) vs 0 W (fun j hj => by
      rw [Nat.add_zero, blk_cell hh]
      rw [Array.getElem?_eq_getElem (by omega), Option.isSome_some]) (fun j hj => by rw [Nat.add_zero, blk_frozen hh]) hv1
  rw [Nat.add_zero] at hst
  refine wpList_plain hgd fun K hK => ?_
  have hK2 := hK a _ (h _ (R_prefix HO (by omega) (Nat.le_refl _)) (q6 w0 base HB hbg))
  obtain ⟨i27_, hi27, hz27⟩ := Option.map_eq_some_iff.1 (show (Try.prog.info? 27).map (·.zero) = some (some (.agg #[Value.int .i64 0, .int .i64 0, .int .i64 0, .int .i64 0, .string ⟨#[]⟩])) by kernel_rfl)
  have hz : (zeroValue 27).run Try.prog W = .ok (.agg #[Value.int .i64 0, .int .i64 0, .int .i64 0, .int .i64 0, .string ⟨#[]⟩]) W := by simp [zeroValue, typeInfo, hi27, hz27]
  have hu := run_underlying Try.underlying22 W
  have hrun : (Builtin.clear_ #[22] o.type #[.slice (some ⟨g, i * 5, none⟩) m c']).run Try.prog W = .ok (.tuple #[]) (W.setCells g (i * 5) vs) := by
    cases m with
    | zero =>
      have : vs = [] := List.eq_nil_of_length_eq_zero (by omega)
      subst this
      simp [Builtin.clear_, hu, World.setCells]
    | succ m =>
      simp only [Builtin.clear_, Sem.run_bind, hu, Result.andThen_ok]
      simp [hz, hu, Value.cells, hvs, hst]
  unfold Oper.wp
  have hex : (execOp a.eval o).run Try.prog W = .ok (.value (.tuple #[])) (W.setCells g (i * 5) vs) := by
    simp [execOp, ho, resolve, invoke, builtin, hx, hrun]
  rw [hex]
  simpa [Oper.upon, hd, Act.put] using hK2
end
theorem add0 (g n : Nat) : (⟨g, 0, none⟩ : Addr).add n = ⟨g, n, none⟩ := by
  simp only [Addr.add]
  split <;> simp_all
theorem seg_M (y : S27) (cc : List Value) (W : World) (base : Nat) (h : cc.length = k27.sz) : k27.M W base (fun _ => False) y (cc.take 0 ++ [.int .i64 y.f0, .int .i64 y.f1, .int .i64 y.f2, .int .i64 y.f3, .string y.f4] ++ cc.drop (0 + [Value.int .i64 y.f0, .int .i64 y.f1, .int .i64 y.f2, .int .i64 y.f3, .string y.f4].length)) := by
  have h5 : cc.length = 5 := h
  rw [List.drop_of_length_le (by simp; omega), List.take_zero, List.nil_append, List.append_nil]
  exact k27_mkM _ _ _ y
theorem i27b : (Try.prog.info? 27).map (fun i => (i.zero, i.size)) = some (some (.agg #[.int .i64 0, .int .i64 0, .int .i64 0, .int .i64 0, .string ⟨#[]⟩]), 5) := by kernel_rfl
theorem filter_none {p : S27 → Bool} {l : List S27} (h : ∀ j (hj : j < l.length), p l[j] = false) : l.filter (fun t => !p t) = l := by
  rw [List.filter_eq_self]
  intro x hx
  obtain ⟨j, hj, rfl⟩ := List.getElem_of_mem hx
  simp [h j hj]
/-- What deleting in place keeps. -/
structure DelI (w0 : World) (gs cap : Nat) (l : List S27) (p : S27 → Bool) (i j : Nat) (ys : List S27) (W : World) : Prop where
  len : ys.length = l.length
  row : Kd.R k27 27 W w0.heap.size (fun _ => True) (.slice (some ⟨gs, 0, none⟩) l.length cap) ys
  left : ys.take i = (l.take j).filter (fun t => !p t)
  right : ys.drop j = l.drop j
  ij : i < j
  jl : j ≤ l.length
  below : Below w0.heap.size w0 W
theorem DelI.gs {w0 : World} {gs cap : Nat} {l : List S27} {p : S27 → Bool} {i j : Nat} {ys : List S27} {W : World} (h : DelI w0 gs cap l p i j ys W) : gs < W.heap.size := Kd.R_lt h.row gs (by simp [Value.ownBlock])
theorem DelI.at_ {w0 : World} {gs cap : Nat} {l : List S27} {p : S27 → Bool} {i j : Nat} {ys : List S27} {W : World} (h : DelI w0 gs cap l p i j ys W) (hj : j < l.length) : rd_T27 ys (j : Int) = l[j] := by
  have h1 : ys[j]? = l[j]? := by
    have := congrArg (fun x => x[0]?) h.right
    simpa [List.getElem?_drop] using this
  have h2 : j < ys.length := by rw [h.len]; exact hj
  rw [List.getElem?_eq_getElem hj, List.getElem?_eq_getElem h2] at h1
  simp [rd_T27, List.getD_eq_getElem?_getD, h2, Option.some.inj h1]
theorem DelI.skip {w0 : World} {gs cap : Nat} {l : List S27} {p : S27 → Bool} {i j : Nat} {ys : List S27} {W W1 : World} (h : DelI w0 gs cap l p i j ys W) (hj : j < l.length) (hp : p l[j] = true) (hr : Kd.R k27 27 W1 w0.heap.size (fun _ => True) (.slice (some ⟨gs, 0, none⟩) l.length cap) ys) (hb : Below w0.heap.size w0 W1) : DelI w0 gs cap l p i (j + 1) ys W1 := by
  refine ⟨h.len, hr, ?_, ?_, Nat.lt_succ_of_lt h.ij, hj, hb⟩
  · rw [h.left, List.take_succ_eq_append_getElem hj, List.filter_append]
    simp [List.filter_cons, hp]
  · have := congrArg (List.drop 1) h.right
    simpa [List.drop_drop, Nat.add_comm] using this
theorem DelI.put {w0 : World} {gs cap : Nat} {l : List S27} {p : S27 → Bool} {i j : Nat} {ys : List S27} {W W1 : World} (h : DelI w0 gs cap l p i j ys W) (hj : j < l.length) (hp : p l[j] = false) (hr : Kd.R k27 27 W1 w0.heap.size (fun _ => True) (.slice (some ⟨gs, 0, none⟩) l.length cap) (ys.set i l[j])) (hb : Below w0.heap.size w0 W1) : DelI w0 gs cap l p (i + 1) (j + 1) (ys.set i l[j]) W1 := by
  have hi : i < ys.length := by have := h.ij; have := h.len; omega
  refine ⟨by rw [List.length_set]; exact h.len, hr, ?_, ?_, Nat.succ_lt_succ h.ij, hj, hb⟩
  · rw [List.take_succ_eq_append_getElem hj, List.filter_append, ← h.left]
    have hi2 : i < (ys.set i l[j]).length := by rw [List.length_set]; exact hi
    rw [List.take_succ_eq_append_getElem hi2, List.take_set_of_le (Nat.le_refl _)]
    simp [List.filter_cons, hp]
  · have h1 : (ys.set i l[j]).drop (j + 1) = ys.drop (j + 1) := by rw [List.drop_set_of_lt]; have := h.ij; omega
    rw [h1]
    have := congrArg (List.drop 1) h.right
    simpa [List.drop_drop, Nat.add_comm] using this
set_option maxRecDepth 100000 in
set_option maxHeartbeats 4000000 in
theorem delete39 (v : Value) (l : List S27) (cap : Value) (p : S27 → Bool) (w0 w : World) (hr : Kd.R k27 27 w w0.heap.size (fun _ => True) v l) (hb : Below w0.heap.size w0 w)
    (hp : ∀ (t : S27), t ∈ l → ∀ W : World, Below w0.heap.size w0 W → Calls Try.prog 39 #[aggT t, cap] W fun e w' => e = .returned (.bool (p t)) ∧ Below W.heap.size W w') :
    Calls Try.prog 38 #[v, .func (.func 39) #[] #[cap]] w fun e w' => ∃ v', e = .returned v' ∧ Kd.R k27 27 w' w0.heap.size (fun _ => True) v' (l.filter (fun t => !p t)) ∧ Below w0.heap.size w0 w' := by
  obtain ⟨A, c, rfl⟩ := Kd.R_slice hr
  obtain ⟨_, hlc, hC⟩ := Kd.R_reads' hr
  have hz := hb.size
  have HR := Lib.hid hr
  have HB := Lib.hid hb
  have HZ := Lib.hid hz
  have HP := Lib.hid hp
  have HMX := Lib.hid (Kd.C_max hC)
  have hidx := index39 A c l cap p w hC hlc (fun t ht W hW => hp t ht W (Below.trans hb (hW.mono hz)))
  clear hb hz hp
  cases hf : l.findIdx? p with
  | none =>
    have hix : idxOf p l = -1 := by rw [idxOf, hf]
    have hall : l.filter (fun t => !p t) = l := by
      rw [List.filter_eq_self]
      intro x hx
      simpa using List.findIdx?_eq_none_iff.1 hf x hx
    rw [hix] at hidx
    rw [hall]
    clear hf hix hall hC hlc hr
    go_enter Try.func38, Try.ntmps38
    go_wp2_with (go_at_call 36; go_must ((with_reducible refine Calls.mono hidx ?_); rintro e w1 ⟨rfl, hb1⟩))
    go_ret
    exact ⟨_, rfl, Kd.R_below HR.out hb1, Below.trans HB.out (hb1.mono HZ.out)⟩
  | some i0 =>
    obtain ⟨hi0, hpi, hpb⟩ := List.findIdx?_eq_some_iff_getElem.1 hf
    have hix : idxOf p l = i0 := by rw [idxOf, hf]
    obtain ⟨gs, cp, hv, _⟩ := Kd.R_form hr (by omega)
    injection hv with hA _ hc
    subst hA hc
    have hne : ((i0 : Int) == -1) = false := beq_eq_false_iff_ne.mpr (by omega)
    rw [hix] at hidx
    have hstart : ∀ w1, Below w.heap.size w w1 → DelI w0 gs c l p i0 (i0 + 1) l w1 := fun w1 hb1 => by
      refine ⟨rfl, Kd.R_below HR.out hb1, ?_, rfl, Nat.lt_succ_self _, hi0, Below.trans HB.out (hb1.mono HZ.out)⟩
      rw [List.take_succ_eq_append_getElem hi0, List.filter_append]
      have : (l.take i0).filter (fun t => !p t) = l.take i0 := by
        rw [List.filter_eq_self]
        intro x hx
        obtain ⟨j, hj, rfl⟩ := List.getElem_of_mem hx
        rw [List.length_take] at hj
        rw [List.getElem_take]
        simpa using hpb j (by omega)
      rw [this]
      simp [List.filter_cons, hpi]
    have HST := Lib.hid hstart
    have HI0 := Lib.hid hi0
    have hw1 : wrap64 ((i0 : Int) + 1) = ((i0 + 1 : Nat) : Int) := by have := HMX.out; unfold wrap64; omega
    have HW1 := Lib.hid hw1
    clear hf hix hC hlc hr hpb hpi hstart hi0 hw1
    go_enter Try.func38, Try.ntmps38
    go_wp2_with (go_at_call 36; go_must ((with_reducible refine Calls.mono hidx ?_); rintro e w1 ⟨rfl, hb1⟩; have HD := Lib.hid (HST.out w1 hb1); clear hb1))
    go_loopg [5, 6] (l.length - i0) (fun kq v5 v6 w' => ∃ (i j : Nat) (ys : List S27), v5 = .int .i64 (i : Int) ∧ v6 = .int .i64 (j : Int) ∧ Hid (kq + j = l.length + 1) ∧ Hid (DelI w0 gs c l p i j ys w'))
    case atStart => exact ⟨i0, i0 + 1, l, rfl, congrArg (Value.int .i64) (by first | exact HW1.out | rfl), Lib.hid (by have := HI0.out; omega), HD⟩
    case round =>
      clear HD hne hidx HST
      obtain ⟨i, j, ys, rfl, rfl, hk, hD⟩ := hrel
      by_cases cj : j < l.length
      · have c1 : decide ((j : Int) < (l.length : Int)) = true := decide_eq_true (by omega)
        have c2 : decide (j < l.length) = true := decide_eq_true cj
        have p0 : 0 ≤ (j : Int) := by omega
        have p1 : (j : Int) < (l.length : Int) := by omega
        have hCy := (Kd.R_reads' hD.out.row).2.2
        obtain ⟨ad, e0, x0, x1, x2, x3, x4⟩ := at_T27 hCy (j : Int) p0 (by rw [hD.out.len]; exact p1)
        cases e0
        rw [hD.out.at_ cj, Int.toNat_natCast] at x0 x1 x2 x3 x4
        simp only [add0] at x0 x1 x2 x3 x4
        obtain ⟨y, hy⟩ : ∃ y, l[j] = y := ⟨_, rfl⟩
        rw [hy] at x0 x1 x2 x3 x4
        have hym : y ∈ l := by rw [← hy]; exact List.getElem_mem cj
        have hij := hD.out.ij
        have i0' : 0 ≤ (i : Int) := by omega
        have i1 : (i : Int) < (l.length : Int) := by omega
        have HY : Hid (∀ h : j < l.length, l[j]'h = y) := Lib.hid (fun _ => hy)
        have HYM := Lib.hid hym
        have HCJ := Lib.hid cj
        have HGS := Lib.hid hD.out.gs
        have HI0' := Lib.hid i0'
        have HI1 := Lib.hid i1
        replace p0 := eq_true p0
        replace p1 := eq_true p1
        replace i0' := eq_true i0'
        replace i1 := eq_true i1
        clear hy hym cj hij hCy
        cases hpy : p y
        · have HPY := Lib.hid hpy
          clear hpy
          go_wp2_with (first | ((with_reducible refine gate_dst (N := 7) rfl ?_); go_must (refine box_event rfl (N := 7) rfl (run_alloc _ 27 _ 5 i27b _ _ rfl _) ?_; intro g7 hg7 w2 b7 hb; have HB2 := Lib.hid hb; have HG7 := Lib.hid hg7; clear hb hg7 x0 x1 x2 x3 x4)) | ((with_reducible refine gate_store (t := 27) rfl ?_); refine store_ev rfl rfl 27 (.tmp 7) (.tmp 25) rfl g7 _ _ rfl rfl b7 rfl s27 (one27 _ _ _ _ _) ?_; intro w3 hst; have R3 := Kd.R_step hD.out.row (fun k _ hlt => (hst.far k (by have := HG7.out; omega)).trans (HB2.out.block k hlt)); have B3 := hst.below w0 (Below.trans hD.out.below (HB2.out.mono hD.out.below.size)) (by have := hD.out.below.size; have := HG7.out; omega); have d7 := hst.at_; have f0 := blk_cell d7 0; have f1 := blk_cell d7 1; have f2 := blk_cell d7 2; have f3 := blk_cell d7 3; have f4 := blk_cell d7 4; clear hst b7 HB2) | (go_at_call 39; go_must (refine (HP.out y HYM.out _ B3).mono ?_; rw [HPY.out]; rintro e w4 ⟨rfl, hb4⟩; have R4 := Lib.hid (Kd.R_below R3 hb4); have B4 := Lib.hid (Below.trans B3 (hb4.mono B3.size)); have e7 := (hb4.block _ (blk_lt d7)).trans d7; clear f0 f1 f2 f3 f4; have f0 := blk_cell e7 0; have f1 := blk_cell e7 1; have f2 := blk_cell e7 2; have f3 := blk_cell e7 3; have f4 := blk_cell e7 4; obtain ⟨cc, hcl, _, hcc, _⟩ := Kd.R_elem R4.out z27 (i : Int) HI0'.out HI1.out; have HCL := Lib.hid hcl; have HCC := Lib.hid hcc; clear hcl hcc hb4 d7 R3 B3)) | ((with_reducible refine gate_store (t := 27) rfl ?_); go_must (refine Kd.R_store k27 (w0 := w0) w0.heap.size rfl rfl 27 (.tmp 33) (.tmp 32) rfl 27 (i : Int) 0 ys y (aggT y) [.int .i64 y.f0, .int .i64 y.f1, .int .i64 y.f2, .int .i64 y.f3, .string y.f4] cc (fun _ => True) (fun _ => False) rfl ?hoff rfl rfl s27 ?h1 R4.out HI0'.out HI1.out HCL.out HCC.out (Nat.le_refl _) ?hM (fun _ hk => hk.elim) B4.out ?_; (case hoff => rfl); (case h1 => intro q hq; simp at hq; rcases hq with rfl | rfl | rfl | rfl | rfl <;> rfl); (case hM => exact seg_M y cc _ _ HCL.out); intro w5 hR5 hB5 hg5; have HR5 := Lib.hid hR5; have HB5 := Lib.hid hB5; clear hR5 hB5 hg5)))
          have hn : DelI w0 gs c l p (i + 1) (j + 1) (ys.set i y) w5 := by
            have := DelI.put hD.out HCJ.out (by rw [HY.out]; exact HPY.out) (W1 := w5) (by rw [HY.out]; exact HR5.out) HB5.out
            rwa [HY.out] at this
          go_roundg (l.length - j)
          case measure => have := hk.out; have := HCJ.out; omega
          case rel => exact ⟨i + 1, j + 1, ys.set i y, congrArg (Value.int .i64) (by have := HMX.out; have := HI1.out; unfold wrap64; omega), congrArg (Value.int .i64) (by have := HMX.out; have := HCJ.out; unfold wrap64; omega), Lib.hid (by have := hk.out; have := HCJ.out; omega), Lib.hid hn⟩
        · have HPY := Lib.hid hpy
          clear hpy
          go_wp2_with (first | ((with_reducible refine gate_dst (N := 7) rfl ?_); go_must (refine box_event rfl (N := 7) rfl (run_alloc _ 27 _ 5 i27b _ _ rfl _) ?_; intro g7 hg7 w2 b7 hb; have HB2 := Lib.hid hb; have HG7 := Lib.hid hg7; clear hb hg7 x0 x1 x2 x3 x4)) | ((with_reducible refine gate_store (t := 27) rfl ?_); refine store_ev rfl rfl 27 (.tmp 7) (.tmp 25) rfl g7 _ _ rfl rfl b7 rfl s27 (one27 _ _ _ _ _) ?_; intro w3 hst; have R3 := Kd.R_step hD.out.row (fun k _ hlt => (hst.far k (by have := HG7.out; omega)).trans (HB2.out.block k hlt)); have B3 := hst.below w0 (Below.trans hD.out.below (HB2.out.mono hD.out.below.size)) (by have := hD.out.below.size; have := HG7.out; omega); have d7 := hst.at_; have f0 := blk_cell d7 0; have f1 := blk_cell d7 1; have f2 := blk_cell d7 2; have f3 := blk_cell d7 3; have f4 := blk_cell d7 4; clear hst b7 HB2) | (go_at_call 39; go_must (refine (HP.out y HYM.out _ B3).mono ?_; rw [HPY.out]; rintro e w4 ⟨rfl, hb4⟩; have R4 := Lib.hid (Kd.R_below R3 hb4); have B4 := Lib.hid (Below.trans B3 (hb4.mono B3.size)); have e7 := (hb4.block _ (blk_lt d7)).trans d7; clear f0 f1 f2 f3 f4; have f0 := blk_cell e7 0; have f1 := blk_cell e7 1; have f2 := blk_cell e7 2; have f3 := blk_cell e7 3; have f4 := blk_cell e7 4; obtain ⟨cc, hcl, _, hcc, _⟩ := Kd.R_elem R4.out z27 (i : Int) HI0'.out HI1.out; have HCL := Lib.hid hcl; have HCC := Lib.hid hcc; clear hcl hcc hb4 d7 R3 B3)))
          have hn : DelI w0 gs c l p i (j + 1) ys w4 := DelI.skip hD.out HCJ.out (by rw [HY.out]; exact HPY.out) R4.out B4.out
          go_roundg (l.length - j)
          case measure => have := hk.out; have := HCJ.out; omega
          case rel => exact ⟨i, j + 1, ys, rfl, congrArg (Value.int .i64) (by have := HMX.out; have := HCJ.out; unfold wrap64; omega), Lib.hid (by have := hk.out; have := HCJ.out; omega), Lib.hid hn⟩
      · have hjl : j = l.length := by have := hD.out.jl; omega
        have c1 : decide ((j : Int) < (l.length : Int)) = false := decide_eq_false (by omega)
        have c2 : decide (j < l.length) = false := decide_eq_false cj
        have hij := hD.out.ij
        have hlc2 := (Kd.R_reads' hD.out.row).2.1
        have hleft := hD.out.left
        rw [hjl, List.take_length] at hleft
        obtain ⟨i27x, hi27, _, hsz27, _⟩ := info_parts info27
        have hfrom := cut_from (P := Try.prog) 22 27 .i64 Try.underlying22 hi27 5 hsz27 (some ⟨gs, 0, none⟩) l.length c (i : Int) (by omega) (by omega)
        rw [Int.toNat_natCast, if_neg (by omega), Option.map_some, add0] at hfrom
        have hto := cut_to (P := Try.prog) 22 27 .i64 Try.underlying22 hi27 (some ⟨gs, 0, none⟩) l.length c (i : Int) (by omega) (by omega) hlc2
        rw [Int.toNat_natCast] at hto
        obtain ⟨mm, hmm⟩ : ∃ m, l.length - i = m := ⟨_, rfl⟩
        obtain ⟨cm, hcm⟩ : ∃ m, c - i = m := ⟨_, rfl⟩
        rw [hmm, hcm] at hfrom
        have hsum : i + mm = l.length := by omega
        have HSUM := Lib.hid hsum
        have HL := Lib.hid hleft
        have HR9 := Lib.hid hD.out.row
        have HB9 := Lib.hid hD.out.below
        clear hjl cj hij hlc2 hleft hmm hcm hsum hD hk hi27 hsz27
        go_wp2_with (first | ((with_reducible refine gate_builtin (b := .clear) (xs := #[.tmp 38]) rfl ?_); go_must (refine clear_ev (w0 := w0) rfl rfl (.tmp 38) rfl w0.heap.size gs i l.length c cm mm ys rfl HSUM.out HR9.out HB9.out ?_; intro w5 hR5 hB5)))
        go_ret
        exact ⟨_, rfl, by rw [← HL.out]; exact hR5, hB5⟩
def mempool_Drop.f (l0 : List S27) (l1 : List S52) : Option (List S27) := if l0.length * 48 ≤ 140737488355328 then some (l0.filter (fun t => !dropT l1 t)) else none
set_option maxRecDepth 100000 in
set_option maxHeartbeats 4000000 in
theorem mempool_Drop.calls (A0 : Option Addr) (c0 : Nat) (l0 : List S27) (A1 : Option Addr) (c1 : Nat) (l1 : List S52) (r : List S27) (w : World) (hr0 : Kd.C k27 w A0 l0.length l0) (hc0 : l0.length ≤ c0) (hr1 : Kd.C k52 w A1 l1.length l1) (hc1 : l1.length ≤ c1) (h : mempool_Drop.f l0 l1 = some r) :
    Calls Try.prog 22 #[.slice A0 l0.length c0, .slice A1 l1.length c1] w fun e w' => ∃ v : Value, e = .returned v ∧ Kd.R k27 27 w' w.heap.size (fun _ => True) v r ∧ Below w.heap.size w w' := by
  unfold mempool_Drop.f at h
  by_cases hs : l0.length * 48 ≤ 140737488355328
  · rw [if_pos hs] at h
    obtain rfl := Option.some.inj h
    obtain ⟨w1, hw1⟩ : ∃ w1, w.alloc (.cells #[.slice A1 l1.length c1] 44) = w1 := ⟨_, rfl⟩
    have hB : Below w.heap.size w w1 := by rw [← hw1]; exact below_alloc (Below.refl _ _) _
    have b1 : w1.heap[w.heap.size]? = some (.cells #[.slice A1 l1.length c1] 44 (0, 0)) := by rw [← hw1]; exact blk_new _ _
    have HR0 := Lib.hid hr0
    have HC0 := Lib.hid hc0
    have HR1 := Lib.hid hr1
    have HS := Lib.hid hs
    have HB := Lib.hid hB
    have HB1 := Lib.hid b1
    clear hr0 hc0 hr1 hc1 h hs hB b1
    go_enter Try.func22, Try.ntmps22
    go_wp2_with (first | (rw [hw1]) | (go_at_call 33; go_must (refine (cloneT_calls A0 c0 l0 _ (Kd.C_below HR0.out HB.out) HC0.out HS.out).mono ?_; rintro e w2 ⟨v2, rfl, hR, hb⟩; have HR2 := Lib.hid hR; have HB2 := Lib.hid hb; clear hR hb)) | (go_at_call 38; go_must (refine (delete39 v2 l0 _ (dropT l1) w1 _ HR2.out HB2.out (fun t _ W hW => dropT_calls t l1 A1 c1 w.heap.size W ((hW.block _ (blk_lt HB1.out)).trans HB1.out) (Kd.C_below (Kd.C_below HR1.out HB.out) hW))).mono ?_; rintro e w3 ⟨v3, rfl, hR3, hB3⟩)))
    go_ret
    exact ⟨_, rfl, Kd.R_lower hR3 HB.out.size, below_step HB.out hB3⟩
  · rw [if_neg hs] at h; cases h
end Go.Proofs.Ytccabdgfjcjpoaa.X
