/- Octets turned into octets: the block is marked behind its end, and reads as before. -/
import Derived.Test.YtfdpbdaekfdnjaaHDiskA
namespace Go.Proofs.Ytfdpbdaekfdnjaa.X
open Go.RowKit Go.Proofs.YtfdpbdaekfdnjaaW.PrintWords Go.Proofs.YtfdpbdaekfdnjaaW.PrintLast Go.Proofs.YtfdpbdaekfdnjaaW.PrintMore
set_option linter.unusedVariables false
set_option linter.unusedSimpArgs false

/-- A block that is marked: what it reads stays. -/
structure Marked (g : Nat) (w w1 : World) : Prop where
  size : w1.heap.size = w.heap.size
  far : ∀ i, i ≠ g → w1.heap[i]? = w.heap[i]?
  cell : ∀ p, w1.cell? p = w.cell? p
  below : ∀ (v : World), Below v.heap.size v w → v.heap.size ≤ g → Below v.heap.size v w1
theorem freeze_marked (W : World) (g j : Nat) : Marked g W (W.freeze ⟨g, j, none⟩ 1) := by
  have hs : (W.freeze ⟨g, j, none⟩ 1).heap.size = W.heap.size := by simp [World.freeze]
  have hf : ∀ i, i ≠ g → (W.freeze ⟨g, j, none⟩ 1).heap[i]? = W.heap[i]? := fun i hi => by
    simp only [World.freeze, Nat.one_ne_zero, ↓reduceIte, Array.getElem?_modify]
    rw [if_neg (Ne.symm hi)]
  refine ⟨hs, hf, fun p => ?_, fun v hb hg => ⟨hb.os, hb.tape, hb.output, by rw [hs]; exact hb.size, fun i hi => (hf i (by omega)).trans (hb.block i hi)⟩⟩
  by_cases hp : p.block = g
  · simp only [World.cell?, World.freeze, Nat.one_ne_zero, ↓reduceIte, Array.getElem?_modify, hp]
    cases W.heap[g]? with
    | none => rfl
    | some o => cases o <;> rfl
  · simp only [World.cell?, hf _ hp]
theorem Marked.row {g : Nat} {W W1 : World} (h : Marked g W W1) {k : IntKind} {A : Option Addr} {n : Nat} {xs : List Int} (hC : Kd.C (Kd.int k) W A n xs) : Kd.C (Kd.int k) W1 A n xs := by
  have hr := Kd.reads_of_C (d := (0 : Int)) (h1 := fun _ => rfl) hC
  refine Kd.C_of_reads (d := (0 : Int)) (h1 := fun _ => rfl) ⟨hr.1, hr.2.1, fun hn => ?_⟩
  obtain ⟨ad, e, hc⟩ := hr.2.2 hn
  exact ⟨ad, e, fun j hj => (h.cell _).trans (hc j hj)⟩
section
variable {P : Program} {ops : Array Oper} {rest : List Oper} {o : Oper} {a : Act} {Q : Exit → Act → World → Prop}
/-- A conversion of octets to octets. -/
theorem conv_ev {W : World} (hgd : o.guard = none) {N : Tmp} (hd : o.dst = some N) (t e : TypeId) (x : Operand) (ho : o.op = .convert t t x) (ht : P.underlying t = some (.slice e)) (he : P.underlying e = some (.int .u8))
    (g n c : Nat) (hx : a.eval x = .slice (some ⟨g, 0, none⟩) n c) (cs : Array Value) (hg : W.heap[g]? = some (.cells cs e (0, 0)))
    (h : ∀ w1, Marked g W w1 → wpList P ops Q rest (a.put o.dst (.slice (some ⟨g, 0, none⟩) n c)) w1) : wpList P ops Q (o :: rest) a W := by
  refine Kd.event_run hgd (v := .slice (some ⟨g, 0, none⟩) n c) (w1 := W.freeze ⟨g, cs.size, none⟩ 1) ?_ (h _ (freeze_marked _ _ _))
  have hsh : W.shape? g = some (e, cs.size) := by simp [World.shape?, hg]
  have h1 := run_underlying ht W
  have h2 := run_underlying he W
  simp [execOp, ho, hx, convert, h1, h2, markStringish, hsh, Result.andThen]
end
theorem lit_block {k : IntKind} {e base : Nat} {ok : Nat → Prop} {w : World} {v : Value} {xs : List Int} (h : Kd.R (Kd.int k) e w base ok v xs) (hn : 0 < xs.length) :
    ∃ g cap cur, v = .slice (some ⟨g, 0, none⟩) xs.length cap ∧ base ≤ g ∧ w.heap[g]? = some (.cells cur e (0, 0)) ∧ xs.length ≤ cap ∧ Kd.C (Kd.int k) w (some ⟨g, 0, none⟩) xs.length xs := by
  obtain ⟨inner, ho⟩ := Kd.R_own h
  rcases ho.2 with ⟨hz, h0⟩ | ⟨g, cap, cur, rfl, hg, hh, r⟩
  · exact absurd h0 (by omega)
  · have := Kd.R_reads' h
    exact ⟨g, cap, cur, rfl, hg, hh, this.2.1, this.2.2⟩
end Go.Proofs.Ytfdpbdaekfdnjaa.X
