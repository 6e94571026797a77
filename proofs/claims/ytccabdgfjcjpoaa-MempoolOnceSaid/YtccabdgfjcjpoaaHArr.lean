/- Whole structs and arrays in a block: made, stored, read. -/
import Derived.Test.YtccabdgfjcjpoaaX0
import Derived.Deep.MidRow
import Derived.Deep.WholeRow
import Derived.WalkKit
import Derived.Deep.DeepMust
import Derived.Lib.Hide
namespace Go.Proofs.Ytccabdgfjcjpoaa.X
open Go.RowKit Go.Proofs.YtccabdgfjcjpoaaW.PrintWords Go.Proofs.YtccabdgfjcjpoaaW.PrintLast Go.Proofs.YtccabdgfjcjpoaaW.PrintMore
set_option linter.unusedVariables false
set_option linter.unusedSimpArgs false

/-- Another array in block g, and no other block turned. -/
structure Stored (g : Nat) (t : TypeId) (cs : Array Value) (w w1 : World) : Prop where
  at_ : w1.heap[g]? = some (.cells cs t (0, 0))
  size : w1.heap.size = w.heap.size
  far : ∀ i, i ≠ g → w1.heap[i]? = w.heap[i]?
  below : ∀ (v : World), Below v.heap.size v w → v.heap.size ≤ g → Below v.heap.size v w1
section
variable {P : Program} {ops : Array Oper} {rest : List Oper} {o : Oper} {a : Act} {Q : Exit → Act → World → Prop}
theorem setCells_stored (g : Nat) (t : TypeId) : ∀ (vs : List Value) (i : Nat) (w : World) (pre suf : List Value), w.heap[g]? = some (.cells (pre ++ suf).toArray t (0, 0)) → pre.length = i → vs.length = suf.length →
    Stored g t (pre ++ vs).toArray w (w.setCells g i vs)
  | [], i, w, pre, suf, h, hp, hl => by
    have : suf = [] := List.length_eq_zero_iff.1 (by simpa using hl.symm)
    subst this
    exact ⟨h, rfl, fun _ _ => rfl, fun v hb _ => hb⟩
  | v :: vs, i, w, pre, suf, h, hp, hl => by
    match suf, hl with
    | s :: suf, hl =>
    have h1 := blk_put (cs' := ((pre ++ [v]) ++ suf).toArray) h i v (by
      subst hp
      simp [List.set_append_right])
    have ih := setCells_stored g t vs (i + 1) (w.setCell ⟨g, i, none⟩ v) (pre ++ [v]) suf h1 (by simp [hp]) (by simpa using hl)
    rw [World.setCells]
    refine ⟨by have := ih.at_; simpa using this, ih.size.trans (World.size_setCell _ _ _), fun j hj => (ih.far j hj).trans ?_, fun u hb hg => ih.below u (by exact hb.setCell hg _) hg⟩
    exact Below.heap_setCell w ⟨g, i, none⟩ v j hj
/-- A whole array stored. -/
theorem store_ev {W : World} (hgd : o.guard = none) (hd : o.dst = none) (ty : TypeId) (x y : Operand) (ho : o.op = .store ty x y) (g : Nat) (cs cells : Array Value) (hx : a.eval x = .pointer (some ⟨g, 0, none⟩)) (hy : a.eval y = .agg cells)
    (hg : W.heap[g]? = some (.cells cs ty (0, 0))) (hs : cs.size = cells.size) (hi : (P.info? ty).map (·.size) = some cells.size) (h1 : cells.all (·.oneCell') = true)
    (h : ∀ w1, Stored g ty cells W w1 → wpList P ops Q rest a w1) : wpList P ops Q (o :: rest) a W := by
  refine wpList_store_mid hgd ty x y ho g 0 cells hx hy (fun j hj => ?_) hi h1 ?_
  · rw [Nat.zero_add, blk_cell hg, blk_frozen hg]
    exact ⟨by rw [Array.getElem?_eq_getElem (by omega)]; rfl, rfl⟩
  · rw [hd]
    have := setCells_stored g ty cells.toList 0 W [] cs.toList (by simpa using hg) rfl (by simpa using hs.symm)
    exact h _ (by simpa using this)
/-- An array of parts that are told. -/
theorem build_ev {W : World} (hgd : o.guard = none) {N : Tmp} (hd : o.dst = some N) (t : TypeId) (parts : Array (Nat × Operand)) (ho : o.op = .build t parts) (cells : Array Value) (hb : P.built t (parts.map fun (i, x) => (i, a.eval x)).toList = some cells)
    (h : wpList P ops Q rest (a.put (some N) (.agg cells)) W) : wpList P ops Q (o :: rest) a W := by
  refine wpList_build hgd t parts ho (by rw [hb]; rfl) ?_
  rw [hb, hd]
  exact h
/-- A whole array read. -/
theorem load_ev {W : World} (hgd : o.guard = none) {N : Tmp} (hd : o.dst = some N) (ty : TypeId) (x : Operand) (ho : o.op = .load ty x) (g : Nat) (cs : Array Value) (d : TypeDesc) (hx : a.eval x = .pointer (some ⟨g, 0, none⟩))
    (hg : W.heap[g]? = some (.cells cs ty (0, 0))) (hu : P.underlying ty = some d) (hd2 : d.isRow = true) (hi : (P.info? ty).map (·.size) = some cs.size)
    (h : wpList P ops Q rest (a.put (some N) (.agg cs)) W) : wpList P ops Q (o :: rest) a W := by
  refine wpList_load_mid hgd ty x ho g 0 hx cs.toList d (fun j v hv => ?_) hu hd2 (by simpa using hi) ?_
  · rw [Nat.zero_add, blk_cell hg]
    simpa using hv
  · rw [hd]
    simpa using h
end
theorem gen_world {P : Program} {c : Code} {Q : Exit → Act → World → Prop} {a : Act} {w0 w : World} (hd : Drawn0 w0 w) (h : ∀ W, Drawn0 w0 W → Code.wp P c Q a W) : Code.wp P c Q a w := h w hd
theorem run_alloc (P : Program) (t : TypeId) (cs : Array Value) (n : Nat) (h : (P.info? t).map (fun i => (i.zero, i.size)) = some (some (.agg cs), n)) (eval : Operand → Value) (o : Oper) (ho : o.op = .alloc t) (W : World) :
    (execOp eval o).run P W = .ok (.value (.pointer (some ⟨W.heap.size, 0, none⟩))) (W.alloc (.cells cs t (0, 0))) := by
  have hz := (zero_of_info h).1
  unfold execOp
  simp [ho, Instr.alloc, hz, newVar, newRow, Value.cells]
end Go.Proofs.Ytccabdgfjcjpoaa.X
