/- held.Tick: the reports that are due, and what is held with as many more told. -/
import Derived.Test.YtccabdgfjcjpoaaHDue
import Derived.Test.YtccabdgfjcjpoaaXF13
import Derived.Test.YtccabdgfjcjpoaaXF15
import Derived.Shelf.RegionOpen
import Derived.Deep.DeepMust
namespace Go.Proofs.Ytccabdgfjcjpoaa.X
open Go.RowKit Go.Shelf Go.Proofs.YtccabdgfjcjpoaaW.PrintWords Go.Proofs.YtccabdgfjcjpoaaW.PrintLast Go.Proofs.YtccabdgfjcjpoaaW.PrintMore
set_option linter.unusedVariables false
set_option linter.unusedSimpArgs false
attribute [local go_sem] Oper.semAt_some

theorem bcell {W w1 : World} (hb : Below W.heap.size W w1) : (∀ b o, b < W.heap.size → w1.cell? ⟨b, o, none⟩ = W.cell? ⟨b, o, none⟩) ∧ (∀ b o, b < W.heap.size → w1.frozen? ⟨b, o, none⟩ = W.frozen? ⟨b, o, none⟩) :=
  ⟨fun b o h => hb.cell (p := ⟨b, o, none⟩) h, fun b o h => hb.frozen (p := ⟨b, o, none⟩) h⟩

theorem blk_own {W W' : World} {g : Nat} {t : TypeId} {cs : Array Value} {row : Option Nat} (h : W.heap[g]? = some (.cells cs t (0, 0))) (hg : W.grownBy W' row) (hr : ∀ r, row = some r → ∃ o : Obj, W.heap[r]? = some o ∧ o.isCells = false) : W'.heap[g]? = some (.cells cs t (0, 0)) :=
  blk_grown h hg (fun e => by obtain ⟨o, ho, hc⟩ := hr g e.symm; rw [h] at ho; cases ho; cases hc)
theorem row_own {W W' : World} {base size n : Nat} {e : TypeId} {sv : Value} {xs : List Value} {row : Option Nat} (h : W.ownsRow base e size sv n xs) (hg : W.grownBy W' row) (hr : ∀ r, row = some r → ∃ o : Obj, W.heap[r]? = some o ∧ o.isCells = false) : W'.ownsRow base e size sv n xs :=
  own_move h (fun k hk => by
    obtain ⟨cells, hc⟩ := own_typed h k hk
    exact (blk_own hc hg hr).trans hc.symm)

/-- What is told last. -/
def lastTold (t : Int) (pre : List (Int × Int)) : Int := (pre.getLast?.map (·.2)).getD t
/-- What the loop over the reports keeps. -/
structure TickInv (w : World) (Bo Z : Nat) (v h s t : Int) (b : ByteArray) (pre : List (Int × Int)) (W : World) : Prop where
  held : W.heap[w.heap.size]? = some (.cells #[.int .i64 v, .int .i64 h, .string b, .int .i64 s, .int .i64 (lastTold t pre)] 32 (0, 0))
  res : W.heap[w.heap.size + 1]? = some (.cells #[.int .i64 0, .int .i64 0, .string ⟨#[]⟩, .int .i64 0, .int .i64 0] 32 (0, 0))
  out : ∃ sv, W.heap[Bo]? = some (.cells #[sv] 33 (0, 0)) ∧ W.ownsRow Z 3 1 sv pre.length (nums .i64 (pre.map (·.1)))
  size : Z ≤ W.heap.size

/-- A way on that neither panics nor jumps. -/
def Calm (K : Act → World → Prop) : Exit → Act → World → Prop
  | .normal, a, w => K a w
  | _, _, _ => False
theorem wpIn_cut {F : Fence} {n : Nat} {P : Program} {c : Code} {Q : Exit → Act → World → Prop} {a : Act} {w : World} (S : Act → World → Prop) (h : c.wpIn F n P (Calm S) a w) (hk : ∀ a w, S a w → Q .normal a w) : c.wpIn F n P Q a w :=
  wpIn_mono h (fun e a w he => by cases e <;> first | exact hk _ _ he | exact he.elim)
theorem wpIn_calm {F : Fence} {n : Nat} {P : Program} {c : Code} {Q : Exit → Act → World → Prop} {a : Act} {w : World} (h : c.wpIn F n P (Calm (Q .normal)) a w) : c.wpIn F n P Q a w :=
  wpIn_mono h (fun e a w he => by cases e <;> first | exact he | exact he.elim)

theorem due_in (F : Fence) (n : Nat) (h34 : F.fn 34) (hro : F.round = none) (v h s t full : Int) (b : ByteArray) (w : World) :
    CallsIn F n Try.prog 34 #[.agg #[.int .i64 v, .int .i64 h, .string b, .int .i64 s, .int .i64 t], .int .i64 full] w fun e w' => e = .returned (.func (.func 48) #[] #[.pointer (some ⟨w.heap.size, 0, none⟩), .pointer (some ⟨w.heap.size + 1, 0, none⟩)]) ∧ w' = (w.alloc (.cells #[.int .i64 v, .int .i64 h, .string b, .int .i64 s, .int .i64 t] 32)).alloc (.cells #[.int .i64 full] 3) := by
  refine callsIn_of_wp Try.func34 rfl h34 ?_ hro
  simp only [Try.ntmps34, List.size_toArray, List.length_cons, List.length_nil, Nat.reduceAdd, Nat.reduceSub, Array.replicate_succ, Array.replicate_zero, List.push_toArray, List.append_toArray, List.nil_append, List.cons_append]
  gi_wp2
  go_ret
  exact ⟨rfl, rfl⟩

/-- What Tick comes to. -/
def tickL (told full : Int) : List (Int × Int) := dueR full (7 - told.toNat)
def held_Tick.f (a0_0 : Int) (a0_1 : Int) (a0_2 : ByteArray) (a0_3 : Int) (a0_4 : Int) (a1 : Int) : Option (Int × Int × ByteArray × Int × Int × List Int) :=
  if a0_2.toList = [] ∨ a0_4 < 0 then some (a0_0, a0_1, a0_2, a0_3, a0_4, [])
  else (held_Full.f a0_0 a0_1 a0_2 a0_3 a0_4 a1).bind fun full =>
    some (a0_0, a0_1, a0_2, a0_3, ((tickL a0_4 full).getLast?.map (·.2)).getD a0_4, (tickL a0_4 full).map (·.1))

theorem put5 {W : World} {g : Nat} {c0 c1 c2 c3 c4 : Value} (hg : W.heap[g]? = some (.cells #[c0, c1, c2, c3, c4] 32 (0, 0))) (x0 x1 x2 x3 x4 : Value) :
    (((((W.setCell ⟨g, 0, none⟩ x0).setCell ⟨g, 1, none⟩ x1).setCell ⟨g, 2, none⟩ x2).setCell ⟨g, 3, none⟩ x3).setCell ⟨g, 4, none⟩ x4).heap[g]? = some (.cells #[x0, x1, x2, x3, x4] 32 (0, 0)) :=
  blk_put (blk_put (blk_put (blk_put (blk_put hg 0 x0 rfl) 1 x1 rfl) 2 x2 rfl) 3 x3 rfl) 4 x4 rfl

theorem tick_end {v h s t now : Int} {b : ByteArray} {w w1 : World} {tmps : Array Value} {o1 : Obj} {c0 c1 c2 c3 c4 : Value}
    (hp : tmps.getD 4 undef = .pointer (some ⟨w.heap.size + 1, 0, none⟩)) (hu : tmps.getD 5 undef = .slice none 0 0)
    (hb : Below ((w.alloc o1).alloc (.cells #[c0, c1, c2, c3, c4] 32)).heap.size ((w.alloc o1).alloc (.cells #[c0, c1, c2, c3, c4] 32)) w1) :
    bodyPost Try.prog Try.f12 (fun e w' => ∃ v5_ : Value, e = .returned (.tuple #[.agg #[.int .i64 v, .int .i64 h, .string b, .int .i64 s, .int .i64 t], v5_]) ∧ Kd.R (Kd.int .i64) 3 w' w.heap.size (fun _ => True) v5_ [] ∧ Below w.heap.size w w') Exit.ret { tmps := tmps, defers := [] }
    (((((w1.setCell ⟨w.heap.size + 1, 0, none⟩ (.int .i64 v)).setCell ⟨w.heap.size + 1, 1, none⟩ (.int .i64 h)).setCell ⟨w.heap.size + 1, 2, none⟩ (.string b)).setCell ⟨w.heap.size + 1, 3, none⟩ (.int .i64 s)).setCell ⟨w.heap.size + 1, 4, none⟩ (.int .i64 t)) := by
  have hg : w1.heap[w.heap.size + 1]? = some (.cells #[c0, c1, c2, c3, c4] 32 (0, 0)) := by
    rw [hb.block _ (by simp)]
    have := blk_new (w.alloc o1) (.cells #[c0, c1, c2, c3, c4] 32)
    rwa [World.size_alloc] at this
  have hB : Below w.heap.size w w1 := below_step (below_alloc (below_alloc (Below.refl _ _) _) _) hb
  refine bodyPost_ret (results_ct rfl _ _ (w.heap.size + 1) 32 _ (0, 0) _ hp (put5 hg _ _ _ _ _) Try.underlying32 rfl (by kernel_rfl)) rfl ?_
  refine ⟨_, by rw [hu], Kd.R_nil _ _ _ _ _, ?_⟩
  exact below_set (below_set (below_set (below_set (below_set hB (by omega)) (by omega)) (by omega)) (by omega)) (by omega)

set_option maxRecDepth 100000 in
set_option maxHeartbeats 4000000 in
theorem tick_none (v h s t now : Int) (b : ByteArray) (w : World) (hb0 : b.toList = [] ∨ t < 0) :
    Calls Try.prog 12 #[.agg #[.int .i64 v, .int .i64 h, .string b, .int .i64 s, .int .i64 t], .int .i64 now] w fun e w' => ∃ v5_ : Value, e = .returned (.tuple #[.agg #[.int .i64 v, .int .i64 h, .string b, .int .i64 s, .int .i64 t], v5_]) ∧ Kd.R (Kd.int .i64) 3 w' w.heap.size (fun _ => True) v5_ [] ∧ Below w.heap.size w w' := by
  by_cases h1 : b.toList = []
  · have hr : held_Running.f v h b s t = some false := by simp [held_Running.f, h1]
    have HR := Lib.hid hr
    clear hr h1 hb0
    go_enter Try.func12, Try.ntmps12
    go_wp2_with (go_at_call 15; (with_reducible refine (held_Running.calls v h b s t _ _ HR.out).mono ?_); rintro e w1 ⟨rfl, hb⟩; obtain ⟨hc, hf⟩ := bcell hb; have hz := hb.size; simp only [World.size_alloc] at hz)
    exact tick_end (now := now) rfl rfl hb
  · have h2 : t < 0 := by rcases hb0 with h | h; exact absurd h h1; exact h
    have hr : held_Running.f v h b s t = some true := by simp [held_Running.f, h1]
    have HR := Lib.hid hr
    have h2b : decide (t < 0) = true := decide_eq_true h2
    clear hr h1 hb0 h2
    go_enter Try.func12, Try.ntmps12
    go_wp2_with (go_at_call 15; (with_reducible refine (held_Running.calls v h b s t _ _ HR.out).mono ?_); rintro e w1 ⟨rfl, hb⟩; obtain ⟨hc, hf⟩ := bcell hb; have hz := hb.size; simp only [World.size_alloc] at hz)
    exact tick_end (now := now) rfl rfl hb

set_option maxRecDepth 100000 in
set_option maxHeartbeats 4000000 in
theorem tick_some (v h s t now full : Int) (b : ByteArray) (w : World) (h1 : ¬ b.toList = []) (h2 : 0 ≤ t) (hfull : held_Full.f v h b s t now = some full) :
    Calls Try.prog 12 #[.agg #[.int .i64 v, .int .i64 h, .string b, .int .i64 s, .int .i64 t], .int .i64 now] w fun e w' => ∃ v5_ : Value, e = .returned (.tuple #[.agg #[.int .i64 v, .int .i64 h, .string b, .int .i64 s, .int .i64 (((tickL t full).getLast?.map (·.2)).getD t)], v5_]) ∧ Kd.R (Kd.int .i64) 3 w' w.heap.size (fun _ => True) v5_ ((tickL t full).map (·.1)) ∧ Below w.heap.size w w' := by
  have hr : held_Running.f v h b s t = some true := by simp [held_Running.f, h1]
  have HR := Lib.hid hr
  have HF := Lib.hid hfull
  have h2b : decide (t < 0) = false := decide_eq_false (by omega)
  clear hr h1 hfull
  refine callsIn_wide (n := 5).1 ?_
  have hro : Fence.wide.round = none := rfl
  have hn1 : 1 ≤ 5 := by omega
  have h15 : Fence.wide.fn 15 := trivial
  have h13 : Fence.wide.fn 13 := trivial
  have h34 : Fence.wide.fn 34 := trivial
  have h48 : Fence.wide.fn 48 := trivial
  refine callsIn_of_wp_marks Try.func12 rfl trivial ?_ hro
  simp only [Try.ntmps12, List.size_toArray, List.length_cons, List.length_nil, Nat.reduceAdd, Nat.reduceSub, Array.replicate_succ, Array.replicate_zero, List.push_toArray, List.append_toArray, List.nil_append, List.cons_append]
  gi_wp2_with (gi_at_call 15; (with_reducible refine (callsIn_wide.2 (held_Running.calls v h b s t _ _ HR.out)).mono ?_); rintro e w1 ⟨rfl, hb⟩; obtain ⟨hc, hf⟩ := bcell hb; have hz := hb.size; simp only [World.size_alloc] at hz)
  obtain ⟨wa, hwa⟩ : ∃ wa, w1.alloc (Obj.cells #[Value.slice none 0 0] 33) = wa := ⟨_, rfl⟩
  obtain ⟨Bo, hBo⟩ : ∃ Bo, w1.heap.size = Bo := ⟨_, rfl⟩
  rw [hwa, hBo]
  have hB1 : Below w.heap.size w w1 := below_step (below_alloc (below_alloc (Below.refl _ _) _) _) hb
  have hBa : Below w.heap.size w wa := by rw [← hwa]; exact below_alloc hB1 _
  have hba : wa.heap.size = Bo + 1 := by rw [← hwa, World.size_alloc, hBo]
  have hh : wa.heap[w.heap.size]? = some (.cells #[.int .i64 v, .int .i64 h, .string b, .int .i64 s, .int .i64 t] 32 (0, 0)) := by
    rw [← hwa]
    refine blk_alloc ?_ _
    rw [hb.block _ (by simp; omega)]
    exact blk_alloc (blk_new w _) _
  have hr : wa.heap[w.heap.size + 1]? = some (.cells #[.int .i64 0, .int .i64 0, .string ⟨#[]⟩, .int .i64 0, .int .i64 0] 32 (0, 0)) := by
    rw [← hwa]
    refine blk_alloc ?_ _
    rw [hb.block _ (by simp)]
    have := blk_new (w.alloc (.cells #[.int .i64 v, .int .i64 h, .string b, .int .i64 s, .int .i64 t] 32)) (.cells #[.int .i64 0, .int .i64 0, .string ⟨#[]⟩, .int .i64 0, .int .i64 0] 32)
    rwa [World.size_alloc] at this
  have ho : wa.heap[Bo]? = some (.cells #[.slice none 0 0] 33 (0, 0)) := by rw [← hwa, ← hBo]; exact blk_new _ _
  have hz2 : w.heap.size + 2 ≤ Bo := by omega
  clear hc hf hz hwa hBo hb hB1
  have q0 : wa.cell? ⟨w.heap.size, 0, none⟩ = some (.int .i64 v) := (blk_cell hh 0).trans rfl
  have q1 : wa.cell? ⟨w.heap.size, 1, none⟩ = some (.int .i64 h) := (blk_cell hh 1).trans rfl
  have q2 : wa.cell? ⟨w.heap.size, 2, none⟩ = some (.string b) := (blk_cell hh 2).trans rfl
  have q3 : wa.cell? ⟨w.heap.size, 3, none⟩ = some (.int .i64 s) := (blk_cell hh 3).trans rfl
  have q4 : wa.cell? ⟨w.heap.size, 4, none⟩ = some (.int .i64 t) := (blk_cell hh 4).trans rfl
  have hmix : Try.prog.follows .mixedOrders = true := by kernel_rfl
  refine wpIn_cut (fun a' w' => ∃ w2 : World, Below wa.heap.size wa w2 ∧ a' = { tmps := #[Value.agg #[Value.int IntKind.i64 v, Value.int IntKind.i64 h, Value.string b, Value.int IntKind.i64 s, Value.int IntKind.i64 t], Value.int IntKind.i64 now, Value.pointer (some { block := w.heap.size, off := 0 }), undef, Value.pointer (some { block := w.heap.size + 1, off := 0 }), Value.slice none 0 0, Value.pointer (some { block := Bo, off := 0 }), undef, undef, Value.agg #[Value.int IntKind.i64 v, Value.int IntKind.i64 h, Value.string b, Value.int IntKind.i64 s, Value.int IntKind.i64 t], Value.bool true, Value.bool false, Value.bool false, Value.pointer (some { block := w.heap.size, off := 4 }), Value.int IntKind.i64 t, Value.bool false, Value.bool false, undef, Value.agg #[Value.int IntKind.i64 v, Value.int IntKind.i64 h, Value.string b, Value.int IntKind.i64 s, Value.int IntKind.i64 t], Value.agg #[Value.int IntKind.i64 v, Value.int IntKind.i64 h, Value.string b, Value.int IntKind.i64 s, Value.int IntKind.i64 t], Value.int IntKind.i64 now, Value.int IntKind.i64 full, Value.func (Fn.func 48) #[] #[Value.pointer (some { block := w2.heap.size, off := 0 }), Value.pointer (some { block := w2.heap.size + 1, off := 0 })], undef, undef, undef, undef, undef, undef, undef, undef, undef, undef], defers := [] } ∧ w' = (w2.alloc (.cells #[.int .i64 v, .int .i64 h, .string b, .int .i64 s, .int .i64 t] 32)).alloc (.cells #[.int .i64 full] 3)) ?_ ?_
  · gi_region_with_o (first | (gi_at_call 13; (with_reducible refine (callsIn_wide.2 (held_Full.calls v h b s t now full _ HF.out)).mono ?_); rintro e w2 ⟨rfl, hb⟩; have hlt : w.heap.size < wa.heap.size := (by omega); have p0 : w2.cell? ⟨w.heap.size, 0, none⟩ = some (.int .i64 v) := (hb.cell (p := ⟨w.heap.size, 0, none⟩) hlt).trans q0; have p1 : w2.cell? ⟨w.heap.size, 1, none⟩ = some (.int .i64 h) := (hb.cell (p := ⟨w.heap.size, 1, none⟩) hlt).trans q1; have p2 : w2.cell? ⟨w.heap.size, 2, none⟩ = some (.string b) := (hb.cell (p := ⟨w.heap.size, 2, none⟩) hlt).trans q2; have p3 : w2.cell? ⟨w.heap.size, 3, none⟩ = some (.int .i64 s) := (hb.cell (p := ⟨w.heap.size, 3, none⟩) hlt).trans q3; have p4 : w2.cell? ⟨w.heap.size, 4, none⟩ = some (.int .i64 t) := (hb.cell (p := ⟨w.heap.size, 4, none⟩) hlt).trans q4; have hb2 : Below wa.heap.size wa w2 := ⟨hb.os, hb.tape, hb.output, hb.size, hb.block⟩; clear hb) | (gi_at_call 34; (with_reducible refine (due_in Fence.wide 4 h34 hro v h s t full b _).mono ?_); rintro e w3 ⟨rfl, rfl⟩))
    all_goals exact ⟨_, by assumption, rfl, rfl⟩
  rintro _ _ ⟨w2, hb2, rfl, rfl⟩
  clear q0 q1 q2 q3 q4
  have hz3 := hb2.size
  rw [hba] at hz3
  obtain ⟨W0, hW0⟩ : ∃ W0, (w2.alloc (.cells #[.int .i64 v, .int .i64 h, .string b, .int .i64 s, .int .i64 t] 32)).alloc (.cells #[.int .i64 full] 3) = W0 := ⟨_, rfl⟩
  rw [hW0]
  have hsz : W0.heap.size = w2.heap.size + 2 := by rw [← hW0]; simp
  have hB0 : Below w.heap.size w W0 := by
    rw [← hW0]
    exact below_alloc (below_alloc (hBa.trans (hb2.mono hBa.size)) _) _
  have hb20 : ∀ g o, wa.heap[g]? = some o → W0.heap[g]? = some o := fun g o hg => by
    rw [← hW0]
    exact blk_alloc (blk_alloc (blk_below hg hb2) _) _
  have e1 : W0.heap[w2.heap.size]? = some (.cells #[.int .i64 v, .int .i64 h, .string b, .int .i64 s, .int .i64 t] 32 (0, 0)) := by rw [← hW0]; exact blk_alloc (blk_new _ _) _
  have e2 : W0.heap[w2.heap.size + 1]? = some (.cells #[.int .i64 full] 3 (0, 0)) := by
    rw [← hW0]
    have := blk_new (w2.alloc (.cells #[.int .i64 v, .int .i64 h, .string b, .int .i64 s, .int .i64 t] 32)) (.cells #[.int .i64 full] 3)
    rwa [World.size_alloc] at this
  have hI0 : TickInv w Bo W0.heap.size v h s t b [] W0 := ⟨hb20 _ _ hh, hb20 _ _ hr, ⟨_, hb20 _ _ ho, World.ownsRow_nil _ _ _ _⟩, Nat.le_refl _⟩
  clear hW0 hh hr ho hb20
  gi_wp2
  refine wpIn_rangeFunc_ownG hro hn1 (gf := 48) (lb := #[.pointer (some ⟨w2.heap.size, 0, none⟩), .pointer (some ⟨w2.heap.size + 1, 0, none⟩)]) rfl h48 (enters_of Try.func48 (by kernel_rfl) rfl)
    (encs := fun x : Int × Int => #[Value.int .i64 x.1, Value.int .i64 x.2]) (Kp := KeepsTwo w2.heap.size (w2.heap.size + 1)) (S := fun ys => ys = tickL t full) (Sp := fun _ => True) (N := 8) (w0 := W0) ?seq ?kt ?kb (Below.refl _ _) (fun _ => rfl)
    (fun pre W => TickInv w Bo W0.heap.size v h s t b pre W ∧ Below w.heap.size w W)
    (fun _ _ _ => False)
    ?own (fun _ _ _ _ _ hs _ _ => hs) ⟨hI0, hB0⟩
    (fun x => { tmps := #[Value.agg #[Value.int IntKind.i64 v, Value.int IntKind.i64 h, Value.string b, Value.int IntKind.i64 s, Value.int IntKind.i64 t], Value.int IntKind.i64 now, Value.pointer (some { block := w.heap.size, off := 0 }), undef, Value.pointer (some { block := w.heap.size + 1, off := 0 }), Value.slice none 0 0, Value.pointer (some { block := Bo, off := 0 }), Value.int .i64 x.1, Value.int .i64 x.2, Value.agg #[Value.int IntKind.i64 v, Value.int IntKind.i64 h, Value.string b, Value.int IntKind.i64 s, Value.int IntKind.i64 t], Value.bool true, Value.bool false, Value.bool false, Value.pointer (some { block := w.heap.size, off := 4 }), Value.int IntKind.i64 t, Value.bool false, Value.bool false, undef, Value.agg #[Value.int IntKind.i64 v, Value.int IntKind.i64 h, Value.string b, Value.int IntKind.i64 s, Value.int IntKind.i64 t], Value.agg #[Value.int IntKind.i64 v, Value.int IntKind.i64 h, Value.string b, Value.int IntKind.i64 s, Value.int IntKind.i64 t], Value.int IntKind.i64 now, Value.int IntKind.i64 full, Value.func (Fn.func 48) #[] #[Value.pointer (some { block := w2.heap.size, off := 0 }), Value.pointer (some { block := w2.heap.size + 1, off := 0 })], Value.int .i64 x.1, Value.int .i64 x.2, undef, undef, undef, undef, undef, undef, undef, undef], defers := [] }) ?assign ?body ?done ?stop
  case seq =>
    intro l J Jx W hW hJ _ hY h0
    have f1 : W.heap[w2.heap.size]? = W0.heap[w2.heap.size]? := hW.block _ (by omega)
    have f2 : W.heap[w2.heap.size + 1]? = W0.heap[w2.heap.size + 1]? := hW.block _ (by omega)
    exact due1_in Fence.wide 4 h48 hro (by omega) l _ _ t full undef undef undef h2 J Jx hY W ((blk_cell (f1.trans e1) 4).trans rfl) ((blk_cell (f2.trans e2) 0).trans rfl) (fun s w w' hs hg => hJ s w w' none hs hg (fun r e => by cases e)) h0
  case kt => exact fun h k => h.trans k
  case kb =>
    intro W l o o' hl ho hc hw
    exact ⟨World.putObj_heap_other (by omega), World.putObj_heap_other (by omega)⟩
  case own =>
    exact OwnFrom.and (Own.from (fun s_ A B row hs hg hr => ⟨blk_own hs.held hg hr, blk_own hs.res hg hr, by obtain ⟨sv, hb, ho⟩ := hs.out; exact ⟨sv, blk_own hb hg hr, row_own ho hg hr⟩, Nat.le_trans hs.size hg.size⟩) _) (ownFrom_below (Nat.le_refl _) (by have := hb2.size; omega))
  case assign =>
    intro l x W K hK
    gi_wp2
    exact hK
  case body =>
    rintro l pre x W ⟨hI, hB⟩ hN
    obtain ⟨sv, hbo, hrow⟩ := hI.out
    have hv : Boxed W Bo 33 sv := hbo
    have c1 := hv.cell
    have c2 := hv.frozen
    have c3 := blk_frozen hI.held 4
    have c4 : W.cell? ⟨w.heap.size, 4, none⟩ = some (.int .i64 (lastTold t pre)) := (blk_cell hI.held 4).trans rfl
    obtain ⟨i0, hi, hz0, hz1, hz2⟩ := info_parts info3
    have hsW := hI.size
    have hrow2 : Hid (W.ownsRow w.heap.size 3 1 sv pre.length (nums .i64 (pre.map (·.1)))) := own_weaken hrow (by omega)
    have kmax : Hid (pre.length + 1 ≤ maxLen) := (by unfold maxLen; omega : pre.length + 1 ≤ maxLen)
    have kmax2 : Hid ((pre.length + 1) * 8 ≤ 140737488355328) := (by omega : (pre.length + 1) * 8 ≤ 140737488355328)
    have ksz : Hid (W0.heap.size ≤ (W.alloc (.cells #[.int .i64 x.1] 3)).heap.size) := (by rw [World.size_alloc]; omega : W0.heap.size ≤ (W.alloc (.cells #[.int .i64 x.1] 3)).heap.size)
    have kty : Hid ((33 : TypeId) ≠ 3) := (by decide : (33 : TypeId) ≠ 3)
    have kBo : Hid (w.heap.size ≤ Bo) := (by omega : w.heap.size ≤ Bo)
    have kbase : Hid (w.heap.size ≤ W0.heap.size) := (by omega : w.heap.size ≤ W0.heap.size)
    have k2 : Hid (∀ b, b = w2.heap.size ∨ b = w2.heap.size + 1 → some b ≠ sv.ownBlock ∧ b < W.heap.size ∧ b ≠ Bo ∧ b ≠ w.heap.size) := fun b hb => ⟨fun e => by have := own_base hrow b e.symm; omega, by omega, by omega, by omega⟩
    have kne : Hid (some w.heap.size ≠ sv.ownBlock) := own_ne hrow hI.held (by decide)
    have kne2 : Hid (some (w.heap.size + 1) ≠ sv.ownBlock) := own_ne hrow hI.res (by decide)
    have kb : Hid (w.heap.size ≠ Bo) := (by omega : w.heap.size ≠ Bo)
    gi_wp2_with (gi_at_builtin; refine wpListIn_append_own _ rfl _ _ 33 rfl W0.heap.size 3 i0 (.int .i64 0) 1 8 Try.underlying33 hi hz0 hz1 hz2 rfl (by decide) _ _ _ rfl (hrow.alloc _) ⟨W.heap.size, 0, none⟩ 1 1 [.int .i64 x.1] rfl rfl (cell_one_new _ _ _) (by simp [Value.oneCell']) kmax.out kmax2.out ksz.out ?_; intro v' w4 hown' hgrow _; obtain ⟨g', cap', rfl⟩ := ownsRow_succ hown'; obtain ⟨hv1, hv2, hr2, hk2, hb2'⟩ := hv.appended kty.out hrow2.out hB.size kBo.out (own_weaken hown' kbase.out) hgrow; have hc1 := hv1.cell; have hf1 := hv1.frozen; have kh := blk_grown (blk_alloc hI.held (.cells #[.int .i64 x.1] 3)) hgrow kne.out; have ks := blk_far (p := ⟨Bo, 0, none⟩) kh kb.out (Value.slice (some ⟨g', 0, none⟩) (pre.length + 1) cap'); have k4 : (w4.setCell ⟨Bo, 0, none⟩ (Value.slice (some ⟨g', 0, none⟩) (pre.length + 1) cap')).cell? ⟨w.heap.size, 4, none⟩ = some (.int .i64 (lastTold t pre)) := (blk_cell ks 4).trans rfl; have f4 := blk_frozen ks 4; have kr := blk_grown (blk_alloc hI.res (.cells #[.int .i64 x.1] 3)) hgrow kne2.out; have KR := Lib.hid kr; have KS := Lib.hid ks; clear kr ks kh)
    refine ⟨((KeepsOthers.trans hk2 (KeepsOthers.setCell _ _ _))).from _, ?_, ⟨?_, ?_, ⟨Value.slice (some ⟨g', 0, none⟩) (pre.length + 1) cap', ?_, ?_⟩, ?_⟩, ?_⟩
    · have kk : ∀ b, b = w2.heap.size ∨ b = w2.heap.size + 1 → ((w4.setCell ⟨Bo, 0, none⟩ (Value.slice (some ⟨g', 0, none⟩) (pre.length + 1) cap')).setCell ⟨w.heap.size, 4, none⟩ (Value.int IntKind.i64 x.2)).heap[b]? = W.heap[b]? := fun b hb => by
        obtain ⟨h1, h2, h3, h4⟩ := k2.out b hb
        rw [Below.heap_setCell _ _ _ _ h4, Below.heap_setCell _ _ _ _ h3, hgrow.block b (by rw [World.size_alloc]; omega) h1, Below.heap_alloc _ _ _ h2]
      exact ⟨kk _ (.inl rfl), kk _ (.inr rfl)⟩
    · have := blk_set KS.out 4 (.int .i64 x.2)
      rw [show lastTold t (pre ++ [x]) = x.2 by simp [lastTold]]
      exact this
    · exact blk_far (blk_far KR.out (by dsimp only; omega) _) (by dsimp only; omega) _
    · exact blk_far hv2 (by dsimp only; omega) _
    · rw [show (pre ++ [x]).length = pre.length + 1 by simp, show nums .i64 ((pre ++ [x]).map (·.1)) = nums .i64 (pre.map (·.1)) ++ [.int .i64 x.1] by simp [nums]]
      refine own_move hown' (fun k hk => ?_)
      have hk2 := own_base hown' k hk
      rw [Below.heap_setCell _ _ _ _ (by dsimp only; omega), Below.heap_setCell _ _ _ _ (by dsimp only; omega)]
    · have := hgrow.size
      rw [World.size_alloc] at this
      simp [World.setCell]
      omega
    · exact below_set (hB.trans hb2') (Nat.le_refl _)
  case done =>
    rintro D ys W hD rfl ⟨hI, hB⟩ hK
    obtain ⟨sv, hbo, hrow⟩ := hI.out
    have c1 : W.cell? ⟨Bo, 0, none⟩ = some sv := (blk_cell hbo 0).trans rfl
    have q0 : W.cell? ⟨w.heap.size, 0, none⟩ = some (.int .i64 v) := (blk_cell hI.held 0).trans rfl
    have q1 : W.cell? ⟨w.heap.size, 1, none⟩ = some (.int .i64 h) := (blk_cell hI.held 1).trans rfl
    have q2 : W.cell? ⟨w.heap.size, 2, none⟩ = some (.string b) := (blk_cell hI.held 2).trans rfl
    have q3 : W.cell? ⟨w.heap.size, 3, none⟩ = some (.int .i64 s) := (blk_cell hI.held 3).trans rfl
    have q4 : W.cell? ⟨w.heap.size, 4, none⟩ = some (.int .i64 (lastTold t (tickL t full))) := (blk_cell hI.held 4).trans rfl
    have r0 : W.cell? ⟨w.heap.size + 1, 0, none⟩ = some (.int .i64 0) := (blk_cell hI.res 0).trans rfl
    have fr0 := blk_frozen hI.res 0
    have r1 : W.cell? ⟨w.heap.size + 1, 1, none⟩ = some (.int .i64 0) := (blk_cell hI.res 1).trans rfl
    have fr1 := blk_frozen hI.res 1
    have r2 : W.cell? ⟨w.heap.size + 1, 2, none⟩ = some (.string ⟨#[]⟩) := (blk_cell hI.res 2).trans rfl
    have fr2 := blk_frozen hI.res 2
    have r3 : W.cell? ⟨w.heap.size + 1, 3, none⟩ = some (.int .i64 0) := (blk_cell hI.res 3).trans rfl
    have fr3 := blk_frozen hI.res 3
    have r4 : W.cell? ⟨w.heap.size + 1, 4, none⟩ = some (.int .i64 0) := (blk_cell hI.res 4).trans rfl
    have fr4 := blk_frozen hI.res 4
    gi_wp2
    refine wpIn_calm ?_
    gi_region
    simp only [Calm]
    obtain ⟨W5, hW5⟩ : ∃ W5, (((((W.setCell { block := w.heap.size + 1, off := 0 } (Value.int IntKind.i64 v)).setCell { block := w.heap.size + 1, off := 1 } (Value.int IntKind.i64 h)).setCell { block := w.heap.size + 1, off := 2 } (Value.string b)).setCell { block := w.heap.size + 1, off := 3 } (Value.int IntKind.i64 s)).setCell { block := w.heap.size + 1, off := 4 } (Value.int IntKind.i64 (lastTold t (tickL t full)))) = W5 := ⟨_, rfl⟩
    rw [hW5]
    have g5 : W5.heap[w.heap.size + 1]? = some (.cells #[.int .i64 v, .int .i64 h, .string b, .int .i64 s, .int .i64 (lastTold t (tickL t full))] 32 (0, 0)) := by rw [← hW5]; exact put5 hI.res _ _ _ _ _
    have far : ∀ k, k ≠ w.heap.size + 1 → W5.heap[k]? = W.heap[k]? := fun k hk => by
      rw [← hW5, Below.heap_setCell _ _ _ _ hk, Below.heap_setCell _ _ _ _ hk, Below.heap_setCell _ _ _ _ hk, Below.heap_setCell _ _ _ _ hk, Below.heap_setCell _ _ _ _ hk]
    have hK5 : W5.drew.heap[D]? = some (.deferred (some [])) := (far D (by omega)).trans hK
    have hB5 : Below w.heap.size w W5 := by
      rw [← hW5]
      exact below_set (below_set (below_set (below_set (below_set hB (by omega)) (by omega)) (by omega)) (by omega)) (by omega)
    have hr5 : W5.ownsRow W0.heap.size 3 1 sv (tickL t full).length (nums .i64 ((tickL t full).map (·.1))) := own_move hrow (fun k hk => far k (by have := own_base hrow k hk; omega))
    have HG := Lib.hid g5
    clear hW5 g5 far
    gi_wp2
    refine ⟨by simp, .inl ⟨_, _, rfl, run_takeDeferred hK5, ?_⟩⟩
    have hgp : W5.drew.grownBy (W5.drew.putObj D (.deferred none)) (some D) := grownBy_putObj' _ _ _
    have hgr : ∀ r, some D = some r → ∃ o : Obj, W5.drew.heap[r]? = some o ∧ o.isCells = false := fun r e => by cases e; exact ⟨_, hK5, rfl⟩
    refine ⟨_, results_ct rfl _ _ (w.heap.size + 1) 32 _ (0, 0) _ rfl (blk_own (W := W5.drew) HG.out hgp hgr) Try.underlying32 rfl (by kernel_rfl), sv, rfl, ?_, ?_⟩
    · have h6 : (W5.drew.putObj D (.deferred none)).ownsRow w.heap.size 3 1 sv ((tickL t full).map (·.1)).length (encs (Value.int .i64) ((tickL t full).map (·.1))) := by
        have := own_weaken (base' := w.heap.size) (row_own (W := W5.drew) hr5 hgp hgr) (by omega)
        simpa [encs, nums] using this
      exact Kd.R_of_own h6 (fun _ _ => trivial)
    · exact (hB5.drew).trans (belowK_b (w := w) (Nat.le_refl _) W5.drew D _ _ (by omega) hK5 rfl rfl)
  case stop =>
    rintro D c pre W _ _ h _
    exact h.elim

theorem held_Tick.calls (a0_0 : Int) (a0_1 : Int) (a0_2 : ByteArray) (a0_3 : Int) (a0_4 : Int) (a1 : Int) (r1 : Int) (r2 : Int) (r3 : ByteArray) (r4 : Int) (r5 : Int) (r6 : List Int) (w : World) (h : held_Tick.f a0_0 a0_1 a0_2 a0_3 a0_4 a1 = some (r1, r2, r3, r4, r5, r6)) :
    Calls Try.prog 12 #[.agg #[.int .i64 a0_0, .int .i64 a0_1, .string a0_2, .int .i64 a0_3, .int .i64 a0_4], .int .i64 a1] w fun e w' => ∃ v5_ : Value, e = .returned (.tuple #[.agg #[.int .i64 r1, .int .i64 r2, .string r3, .int .i64 r4, .int .i64 r5], v5_]) ∧ Kd.R (Kd.int .i64) 3 w' w.heap.size (fun _ => True) v5_ r6 ∧ Below w.heap.size w w' := by
  unfold held_Tick.f at h
  by_cases hc : a0_2.toList = [] ∨ a0_4 < 0
  · rw [if_pos hc] at h
    simp only [Option.some.injEq, Prod.mk.injEq] at h
    obtain ⟨rfl, rfl, rfl, rfl, rfl, rfl⟩ := h
    exact tick_none _ _ _ _ _ _ _ hc
  · rw [if_neg hc] at h
    obtain ⟨full, hf, h⟩ := Option.bind_eq_some_iff.1 h
    simp only [Option.some.injEq, Prod.mk.injEq] at h
    obtain ⟨rfl, rfl, rfl, rfl, rfl, rfl⟩ := h
    exact tick_some _ _ _ _ _ full _ w (fun e => hc (.inl e)) (by omega) hf

end Go.Proofs.Ytccabdgfjcjpoaa.X
