/- sha.first, sha.constants, sha.schedule: what lies in arrays. -/
import Derived.Test.YtclmikbbjhdplaaQSha
import Derived.Deep.MidRow
import Derived.Deep.WholeRow
import Derived.WalkKit
import Derived.BigQuiet
import Derived.Deep.QuietTactic
import Derived.Deep.DeepMust
import Derived.Lib.Hide
namespace Go.Proofs.Ytclmikbbjhdplaa.X
open Go.RowKit Go.Proofs.YtclmikbbjhdplaaW.PrintWords Go.Proofs.YtclmikbbjhdplaaW.PrintLast Go.Proofs.YtclmikbbjhdplaaW.PrintMore
set_option linter.unusedVariables false
set_option linter.unusedSimpArgs false

def H0 : List Int := [1779033703, 3144134277, 1013904242, 2773480762, 1359893119, 2600822924, 528734635, 1541459225]
set_option maxRecDepth 100000 in
set_option maxHeartbeats 4000000 in
theorem first_calls (w : World) :
    Calls Try.prog 55 #[] w fun e w' => e = .returned (.agg (nums .u32 H0).toArray) ∧ Below w.heap.size w w' := by
  go_enter Try.func55, Try.ntmps55
  go_wp2
  refine bodyPost_ret (v := .agg (nums .u32 H0).toArray) ?_ rfl ⟨rfl, below_alloc (Below.refl _ _) _⟩
  exact results_cell_row rfl _ _ w.heap.size 66 _ (0, 0) _ rfl (blk_new _ _) Try.underlying66 rfl (by kernel_rfl)

/-- Another array in block g, and no other block turned. -/
structure Stored (g : Nat) (t : TypeId) (cs : Array Value) (w w1 : World) : Prop where
  at_ : w1.heap[g]? = some (.cells cs t (0, 0))
  size : w1.heap.size = w.heap.size
  far : ∀ i, i ≠ g → w1.heap[i]? = w.heap[i]?
  below : ∀ (v : World), Below v.heap.size v w → v.heap.size ≤ g → Below v.heap.size v w1
section
variable {P : Program} {ops : Array Oper} {rest : List Oper} {o : Oper} {a : Act} {Q : Exit → Act → World → Prop}
theorem setCells_stored (g : Nat) (t : TypeId) : ∀ (vs : List Value) (i : Nat) (w : World) (pre suf : List Value), w.heap[g]? = some (.cells (pre ++ suf).toArray t (0, 0)) → pre.length = i → vs.length = suf.length →
    Stored g t (pre ++ vs).toArray w (w.setCells g i vs)
  | [], i, w, pre, suf, h, hp, hl => by
    have : suf = [] := List.length_eq_zero_iff.1 (by simpa using hl.symm)
    subst this
    exact ⟨h, rfl, fun _ _ => rfl, fun v hb _ => hb⟩
  | v :: vs, i, w, pre, suf, h, hp, hl => by
    match suf, hl with
    | s :: suf, hl =>
    have h1 := blk_put (cs' := ((pre ++ [v]) ++ suf).toArray) h i v (by
      subst hp
      simp [List.set_append_right])
    have ih := setCells_stored g t vs (i + 1) (w.setCell ⟨g, i, none⟩ v) (pre ++ [v]) suf h1 (by simp [hp]) (by simpa using hl)
    rw [World.setCells]
    refine ⟨by have := ih.at_; simpa using this, ih.size.trans (World.size_setCell _ _ _), fun j hj => (ih.far j hj).trans ?_, fun u hb hg => ih.below u (by exact hb.setCell hg _) hg⟩
    exact Below.heap_setCell w ⟨g, i, none⟩ v j hj
/-- A whole array stored. -/
theorem store_ev {W : World} (hgd : o.guard = none) (hd : o.dst = none) (ty : TypeId) (x y : Operand) (ho : o.op = .store ty x y) (g : Nat) (cs cells : Array Value) (hx : a.eval x = .pointer (some ⟨g, 0, none⟩)) (hy : a.eval y = .agg cells)
    (hg : W.heap[g]? = some (.cells cs ty (0, 0))) (hs : cs.size = cells.size) (hi : (P.info? ty).map (·.size) = some cells.size) (h1 : cells.all (·.oneCell') = true)
    (h : ∀ w1, Stored g ty cells W w1 → wpList P ops Q rest a w1) : wpList P ops Q (o :: rest) a W := by
  refine wpList_store_mid hgd ty x y ho g 0 cells hx hy (fun j hj => ?_) hi h1 ?_
  · rw [Nat.zero_add, blk_cell hg, blk_frozen hg]
    exact ⟨by rw [Array.getElem?_eq_getElem (by omega)]; rfl, rfl⟩
  · rw [hd]
    have := setCells_stored g ty cells.toList 0 W [] cs.toList (by simpa using hg) rfl (by simpa using hs.symm)
    exact h _ (by simpa using this)
/-- An array of parts that are told. -/
theorem build_ev {W : World} (hgd : o.guard = none) {N : Tmp} (hd : o.dst = some N) (t : TypeId) (parts : Array (Nat × Operand)) (ho : o.op = .build t parts) (cells : Array Value) (hb : P.built t (parts.map fun (i, x) => (i, a.eval x)).toList = some cells)
    (h : wpList P ops Q rest (a.put (some N) (.agg cells)) W) : wpList P ops Q (o :: rest) a W := by
  refine wpList_build hgd t parts ho (by rw [hb]; rfl) ?_
  rw [hb, hd]
  exact h
/-- A whole array read. -/
theorem load_ev {W : World} (hgd : o.guard = none) {N : Tmp} (hd : o.dst = some N) (ty : TypeId) (x : Operand) (ho : o.op = .load ty x) (g : Nat) (cs : Array Value) (d : TypeDesc) (hx : a.eval x = .pointer (some ⟨g, 0, none⟩))
    (hg : W.heap[g]? = some (.cells cs ty (0, 0))) (hu : P.underlying ty = some d) (hd2 : d.isRow = true) (hi : (P.info? ty).map (·.size) = some cs.size)
    (h : wpList P ops Q rest (a.put (some N) (.agg cs)) W) : wpList P ops Q (o :: rest) a W := by
  refine wpList_load_mid hgd ty x ho g 0 hx cs.toList d (fun j v hv => ?_) hu hd2 (by simpa using hi) ?_
  · rw [Nat.zero_add, blk_cell hg]
    simpa using hv
  · rw [hd]
    simpa using h
end
theorem gen_world {P : Program} {c : Code} {Q : Exit → Act → World → Prop} {a : Act} {w0 w : World} (hd : Drawn0 w0 w) (h : ∀ W, Drawn0 w0 W → Code.wp P c Q a W) : Code.wp P c Q a w := h w hd
theorem nums_one (k : IntKind) (xs : List Int) : (nums k xs).toArray.all (·.oneCell') = true := by simp [nums, Value.oneCell']

theorem run_alloc (P : Program) (t : TypeId) (cs : Array Value) (n : Nat) (h : (P.info? t).map (fun i => (i.zero, i.size)) = some (some (.agg cs), n)) (eval : Operand → Value) (o : Oper) (ho : o.op = .alloc t) (W : World) :
    (execOp eval o).run P W = .ok (.value (.pointer (some ⟨W.heap.size, 0, none⟩))) (W.alloc (.cells cs t (0, 0))) := by
  have hz := (zero_of_info h).1
  unfold execOp
  simp [ho, Instr.alloc, hz, newVar, newRow, Value.cells]
theorem i68 : (Try.prog.info? 68).map (fun i => (i.zero, i.size)) = some (some (.agg (nums .u32 (List.replicate 64 0)).toArray), 64) := by kernel_rfl
theorem i66 : (Try.prog.info? 66).map (fun i => (i.zero, i.size)) = some (some (.agg (nums .u32 (List.replicate 8 0)).toArray), 8) := by kernel_rfl
/-- What the loops over the schedule keep. -/
structure SI (w : World) (g g2 : Nat) (ws : List Int) (W : World) : Prop where
  row : W.heap[g]? = some (.cells (nums .u32 (pad64 ws)).toArray 68 (0, 0))
  res : W.heap[g2]? = some (.cells (nums .u32 (List.replicate 64 0)).toArray 68 (0, 0))
  below : Below w.heap.size w W
theorem SI.set {w W : World} {g g2 : Nat} {ws : List Int} (h : SI w g g2 ws W) (hn : ws.length < 64) (hg : g2 ≠ g) (hw : w.heap.size ≤ g) (x : Int) : SI w g g2 (ws ++ [x]) (W.setCell ⟨g, ws.length, none⟩ (.int .u32 x)) := by
  refine ⟨?_, blk_far h.res hg _, below_set h.below hw⟩
  have := blk_set h.row ws.length (.int .u32 x)
  rw [← pad64_set ws x hn]
  rwa [show (nums .u32 (pad64 ws)).toArray.setIfInBounds ws.length (.int .u32 x) = (nums .u32 ((pad64 ws).set ws.length x)).toArray by simp [nums, List.map_set]] at this
theorem SI.drewN {w W : World} {g g2 : Nat} {ws : List Int} (h : SI w g g2 ws W) (n : Nat) : SI w g g2 ws (W.drewN n) := ⟨h.row, h.res, pw_below_drewN h.below n⟩
theorem SI.cell {w W : World} {g g2 : Nat} {ws : List Int} (h : SI w g g2 ws W) (i : Int) (h0 : 0 ≤ i) (hi : i < ws.length) : W.cell? ⟨g, i.toNat, none⟩ = some (.int .u32 (rd ws i)) := by
  rw [blk_cell h.row]
  simp only [nums, List.getElem?_toArray, List.getElem?_map, pad64_get ws i.toNat (by omega)]
  rfl
theorem SI.there {w W : World} {g g2 : Nat} {ws : List Int} (h : SI w g g2 ws W) (hl : ws.length ≤ 64) (i : Nat) (hi : i < 64) : ∃ v, W.cell? ⟨g, i, none⟩ = some (.int .u32 v) := by
  rw [blk_cell h.row]
  simp only [nums, List.getElem?_toArray, List.getElem?_map]
  rw [List.getElem?_eq_getElem (by rw [pad64_len ws hl]; exact hi)]
  exact ⟨_, rfl⟩

set_option maxRecDepth 100000 in
set_option maxHeartbeats 4000000 in
theorem sched_calls (A0 : Option Addr) (c0 : Nat) (l0 : List Int) (w : World) (hr0 : Kd.C (Kd.int .u8) w A0 l0.length l0) (hc0 : l0.length ≤ c0) (hw : ∀ t : Nat, t < 16 → octets_Word.f 6 l0 (4 * (t : Int)) = some (wordA l0 (4 * (t : Int)))) (r : List Int) (hr : wsA l0 64 = r) :
    Calls Try.prog 67 #[.slice A0 l0.length c0] w fun e w' => e = .returned (.agg (nums .u32 r).toArray) ∧ Below w.heap.size w w' := by
  subst hr
  go_enter Try.func67, Try.ntmps67
  go_wp2
  have hI0 : SI w (w.heap.size + 1) w.heap.size (wsA l0 0) ((w.alloc (.cells (nums .u32 (List.replicate 64 0)).toArray 68)).alloc (.cells (nums .u32 (List.replicate 64 0)).toArray 68)) := by
    refine ⟨?_, blk_alloc (blk_new _ _) _, below_alloc (below_alloc (Below.refl _ _) _) _⟩
    have := blk_new (w.alloc (.cells (nums .u32 (List.replicate 64 0)).toArray 68)) (.cells (nums .u32 (List.replicate 64 0)).toArray 68)
    rwa [World.size_alloc] at this
  go_loopg [10] 17 (fun kq v10 w' => ∃ t : Nat, v10 = .int .i64 (t : Int) ∧ Hid (kq + t = 17) ∧ Hid (t ≤ 16) ∧ Hid (SI w (w.heap.size + 1) w.heap.size (wsA l0 t) w'))
  case atStart => exact ⟨0, rfl, Lib.hid rfl, Lib.hid (by omega), Lib.hid hI0⟩
  case round =>
    clear hI0
    obtain ⟨t, rfl, hk, ht, hI⟩ := hrel
    have hsz : w.heap.size ≤ w.heap.size + 1 := by omega
    by_cases c : t < 16
    · have c1 : decide ((t : Int) < 16) = true := decide_eq_true (by omega)
      obtain ⟨v, c2⟩ := hI.out.there (by rw [wsA_len]; omega) t (by omega)
      have f2 := blk_frozen hI.out.row t
      have e1 : wrap64 (4 * (t : Int)) = 4 * (t : Int) := by unfold wrap64; omega
      have e2 : wrap64 ((t : Int) + 1) = ((t + 1 : Nat) : Int) := by unfold wrap64; omega
      have b1 : (0 : Int) ≤ t := by omega
      have b2 : (t : Int) < 64 := by omega
      go_wp2_with (go_at_call 19; go_must (refine (octets_Word.calls 6 A0 c0 l0 _ _ _ (Kd.C_below hr0 hI.out.below) hc0 (hw t c)).mono ?_; rintro e w' ⟨rfl, ⟨n, rfl⟩⟩))
      obtain ⟨k1, rfl⟩ : ∃ k1, gk = k1 + 1 := ⟨gk - 1, by have := hk.out; omega⟩
      have hn := (hI.out.drewN n).set (by rw [wsA_len]; omega) (by omega) hsz (wordA l0 (4 * (t : Int)))
      rw [wsA_len, show wsA l0 t ++ [wordA l0 (4 * (t : Int))] = wsA l0 (t + 1) by rw [wsA, if_pos c]] at hn
      go_roundg k1
      case measure => omega
      case rel => exact ⟨t + 1, congrArg (Value.int .i64) (by omega), Lib.hid (by have := hk.out; omega), Lib.hid (by omega), Lib.hid hn⟩
    · have hS : SI w (w.heap.size + 1) w.heap.size (wsA l0 16) wr := by
        have : t = 16 := by have := ht.out; omega
        rw [← this]; exact hI.out
      have c1 : decide ((t : Int) < 16) = false := decide_eq_false (by omega)
      clear hI hk ht
      go_wp2
      go_loopg [5] 49 (fun kq v5 w' => ∃ t : Nat, v5 = .int .i64 (t : Int) ∧ Hid (kq + t = 65) ∧ Hid (16 ≤ t ∧ t ≤ 64) ∧ Hid (SI w (w.heap.size + 1) w.heap.size (wsA l0 t) w'))
      case atStart => exact ⟨16, rfl, Lib.hid (by omega), Lib.hid (by omega), Lib.hid hS⟩
      case round =>
        clear hS c1 c
        obtain ⟨t, rfl, hk, ht, hI⟩ := hrel
        by_cases c : t < 64
        · have c1 : decide ((t : Int) < 64) = true := decide_eq_true (by omega)
          have hl := wsA_len l0 t
          have h16 := ht.out.1
          obtain ⟨v, c2⟩ := hI.out.there (by rw [wsA_len]; omega) t (by omega)
          have f2 := blk_frozen hI.out.row t
          have e1 : wrap64 ((t : Int) + 1) = ((t : Int) + 1) := by unfold wrap64; omega
          have e1' : IntKind.i64.wrap ((t : Int) + 1) = ((t : Int) + 1) := by rw [IntKind.wrap_i64]; omega
          obtain ⟨j15, hj15⟩ : ∃ j : Int, j = (t : Int) - 15 := ⟨_, rfl⟩
          have e15 : wrap64 ((t : Int) - 15) = j15 := by unfold wrap64; omega
          have g15 : IntKind.i64.wrap ((t : Int) - 15) = j15 := by rw [IntKind.wrap_i64]; omega
          have d15 := hI.out.cell j15 (by omega) (by omega)
          have p15 : (0 ≤ j15) = True := eq_true (by omega)
          have q15 : (j15 < 64) = True := eq_true (by omega)
          have J15 := Lib.hid hj15
          clear hj15
          obtain ⟨j2, hj2⟩ : ∃ j : Int, j = (t : Int) - 2 := ⟨_, rfl⟩
          have e2 : wrap64 ((t : Int) - 2) = j2 := by unfold wrap64; omega
          have g2 : IntKind.i64.wrap ((t : Int) - 2) = j2 := by rw [IntKind.wrap_i64]; omega
          have d2 := hI.out.cell j2 (by omega) (by omega)
          have p2 : (0 ≤ j2) = True := eq_true (by omega)
          have q2 : (j2 < 64) = True := eq_true (by omega)
          have J2 := Lib.hid hj2
          clear hj2
          obtain ⟨j7, hj7⟩ : ∃ j : Int, j = (t : Int) - 7 := ⟨_, rfl⟩
          have e7 : wrap64 ((t : Int) - 7) = j7 := by unfold wrap64; omega
          have g7 : IntKind.i64.wrap ((t : Int) - 7) = j7 := by rw [IntKind.wrap_i64]; omega
          have d7 := hI.out.cell j7 (by omega) (by omega)
          have p7 : (0 ≤ j7) = True := eq_true (by omega)
          have q7 : (j7 < 64) = True := eq_true (by omega)
          have J7 := Lib.hid hj7
          clear hj7
          obtain ⟨j16, hj16⟩ : ∃ j : Int, j = (t : Int) - 16 := ⟨_, rfl⟩
          have e16 : wrap64 ((t : Int) - 16) = j16 := by unfold wrap64; omega
          have g16 : IntKind.i64.wrap ((t : Int) - 16) = j16 := by rw [IntKind.wrap_i64]; omega
          have d16 := hI.out.cell j16 (by omega) (by omega)
          have p16 : (0 ≤ j16) = True := eq_true (by omega)
          have q16 : (j16 < 64) = True := eq_true (by omega)
          have J16 := Lib.hid hj16
          clear hj16
          go_wp2
          go_quiet (fail)
          go_wp2_with (go_at_call 68; go_must ((first | (with_reducible refine (sha_right.calls _ 7 _ _ (right7 _)).mono ?_) | (with_reducible refine (sha_right.calls _ 18 _ _ (right18 _)).mono ?_) | (with_reducible refine (sha_right.calls _ 17 _ _ (right17 _)).mono ?_) | (with_reducible refine (sha_right.calls _ 19 _ _ (right19 _)).mono ?_)); rintro e w' ⟨rfl, ⟨n, rfl⟩⟩))
          refine gen_world (w0 := wr) ⟨⟨_, rfl⟩⟩ (fun W1 hD => ?_)
          obtain ⟨m, rfl⟩ := hD.out
          clear hD
          go_region
          all_goals go_wp2
          obtain ⟨k1, rfl⟩ : ∃ k1, gk = k1 + 1 := ⟨gk - 1, by have := hk.out; omega⟩
          have hn := (hI.out.drewN (m + 1)).set (by rw [wsA_len]; omega) (by omega) hsz (nextW (wsA l0 t) (t : Int))
          rw [wsA_len, show wsA l0 t ++ [nextW (wsA l0 t) (t : Int)] = wsA l0 (t + 1) by rw [wsA, if_neg (by omega)]] at hn
          have hj15 := J15.out
          have hj2 := J2.out
          have hj7 := J7.out
          have hj16 := J16.out
          subst hj15 hj2 hj7 hj16
          go_roundg k1
          case measure => omega
          case rel => exact ⟨t + 1, congrArg (Value.int .i64) (by omega), Lib.hid (by have := hk.out; omega), Lib.hid (by omega), Lib.hid hn⟩
        · have hS : SI w (w.heap.size + 1) w.heap.size (wsA l0 64) wr := by
            have : t = 64 := by have := ht.out.2; omega
            rw [← this]; exact hI.out
          have c1 : decide ((t : Int) < 64) = false := decide_eq_false (by omega)
          clear hI hk ht
          have hrow := hS.row
          rw [pad64_all _ (wsA_len l0 64)] at hrow
          have hs : (nums .u32 (wsA l0 64)).toArray.size = 64 := by simp [nums, wsA_len]
          have HS := Lib.hid hs
          clear hs
          go_wp2_with (first | ((with_reducible refine gate_dst (N := 63) rfl ?_); go_must (refine load_ev rfl rfl 68 (.tmp 3) rfl (w.heap.size + 1) _ _ rfl hrow Try.underlying68 rfl (by rw [HS.out]; kernel_rfl) ?_)) | ((with_reducible refine gate_store (t := 68) rfl ?_); go_must (refine store_ev rfl rfl 68 (.tmp 2) (.tmp 63) rfl w.heap.size _ _ rfl rfl hS.res (by rw [HS.out]; rfl) (by rw [HS.out]; kernel_rfl) (nums_one _ _) ?_; intro w1 hst)))
          refine bodyPost_ret (v := .agg (nums .u32 (wsA l0 64)).toArray) ?_ rfl ⟨rfl, hst.below _ hS.below (Nat.le_refl _)⟩
          exact results_cell_row rfl _ _ w.heap.size 68 _ (0, 0) _ rfl hst.at_ Try.underlying68 rfl (by rw [HS.out]; kernel_rfl)
end Go.Proofs.Ytclmikbbjhdplaa.X
