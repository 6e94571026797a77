/- A map from whole numbers to whole numbers, its keys 0, 1, .. in their order: asked and written. -/
import Derived.Test.YtccabdgfjcjpoaaHMap
namespace Go.Proofs.Ytccabdgfjcjpoaa.X
open Go.RowKit Go.Proofs.YtccabdgfjcjpoaaW.PrintWords Go.Proofs.YtccabdgfjcjpoaaW.PrintLast Go.Proofs.YtccabdgfjcjpoaaW.PrintMore
set_option linter.unusedVariables false
set_option linter.unusedSimpArgs false

def entI (b : Nat) (k v : Int) : MapEntry := { key := .int .i64 k, val := .int .i64 v, born := b }
/-- Entries of keys i, i + 1, .. -/
inductive EntsI : List MapEntry → Int → List Int → Prop
  | nil (i : Int) : EntsI [] i []
  | cons (b : Nat) (i v : Int) {es : List MapEntry} {vs : List Int} (h : EntsI es (i + 1) vs) : EntsI (entI b i v :: es) i (v :: vs)
theorem EntsI.snoc {es : List MapEntry} {i : Int} {vs : List Int} (h : EntsI es i vs) (b : Nat) (v : Int) : EntsI (es ++ [entI b (i + vs.length) v]) i (vs ++ [v]) := by
  induction h with
  | nil i => simpa using EntsI.cons b i v (EntsI.nil (i + 1))
  | @cons b' i v' es vs _ ih =>
    have e : (i + ((v' :: vs).length : Nat) : Int) = i + 1 + (vs.length : Int) := by rw [List.length_cons]; omega
    rw [e]
    exact EntsI.cons b' i v' ih
theorem EntsI.len {es : List MapEntry} {i : Int} {vs : List Int} (h : EntsI es i vs) : es.length = vs.length := by
  induction h with
  | nil i => rfl
  | cons b' i v' _ ih => simp [ih]
theorem EntsI.set {es : List MapEntry} {i : Int} {vs : List Int} (h : EntsI es i vs) (v : Int) : ∀ (j : Nat), j < vs.length → ∃ b, es[j]? = some (entI b (i + j) (vs.getD j 0)) ∧ EntsI (es.set j (entI b (i + j) v)) i (vs.set j v) := by
  induction h with
  | nil i => intro j hj; simp at hj
  | cons b' i v' h' ih =>
    intro j hj
    cases j with
    | zero => exact ⟨b', by simp, by simpa using EntsI.cons b' i v h'⟩
    | succ j =>
      obtain ⟨b, h1, h2⟩ := ih j (by simpa using hj)
      refine ⟨b, ?_, ?_⟩
      · rw [List.getElem?_cons_succ, h1]
        simp only [List.getD_eq_getElem?_getD, List.getElem?_cons_succ]
        congr 2
        omega
      · simp only [List.set_cons_succ]
        refine EntsI.cons b' i v' ?_
        rw [show (i + ((j + 1 : Nat) : Int)) = i + 1 + j by omega]
        exact h2
theorem same_int (d : IntKind) (a b : Int) : Instr.sameNow (.int d) (.int .i64 a) (.int .i64 b) = some (a == b) := by simp [Instr.sameNow]
theorem find_int (d : IntKind) (k : Int) {es : List MapEntry} {i : Int} {vs : List Int} (h : EntsI es i vs) : ∀ j : Nat, Instr.findNow (.int d) (.int .i64 k) es j = some (if i ≤ k ∧ k < i + vs.length then some (j + (k - i).toNat, .int .i64 (vs.getD (k - i).toNat 0)) else none) := by
  induction h with
  | nil i =>
    intro j
    rw [Instr.findNow, if_neg (by simp)]
  | @cons b' i v' es vs h' ih =>
    intro j
    rw [Instr.findNow, entI, same_int]
    by_cases c : k = i
    · subst c
      simp
      omega
    · have c' : (k == i) = false := beq_eq_false_iff_ne.mpr c
      rw [c']
      simp only
      rw [ih (j + 1)]
      by_cases c2 : i + 1 ≤ k ∧ k < i + 1 + vs.length
      · rw [if_pos c2, if_pos (by rw [List.length_cons]; omega)]
        have e : (k - i).toNat = (k - (i + 1)).toNat + 1 := by omega
        rw [e]
        simp only [List.getD_eq_getElem?_getD, List.getElem?_cons_succ]
        congr 3
        omega
      · rw [if_neg c2, if_neg (by rw [List.length_cons]; omega)]
/-- A map's block that holds such keys. -/
def MapI (W : World) (g : Nat) (vs : List Int) : Prop := ∃ es clock, W.heap[g]? = some (.map es clock) ∧ EntsI es.toList 0 vs
theorem checkI (k : Int) (em : Bool) (w : World) : (Instr.checkKey em 10000 3 (.int .i64 k)).run Try.prog w = .ok () w := by
  have h2 := run_underlying Try.underlying3 w
  show (Instr.checkKey em (9999 + 1) 3 (.int .i64 k)).run Try.prog w = .ok () w
  rw [Instr.checkKey]
  simp only [Sem.run_bind, h2, Result.andThen_ok]
  rfl
theorem findI_run (k : Int) {es : List MapEntry} {vs : List Int} (h : EntsI es 0 vs) (w : World) : (Instr.findKey 3 (.int .i64 k) es).run Try.prog w = .ok (if 0 ≤ k ∧ k < vs.length then some (k.toNat, .int .i64 (vs.getD k.toNat 0)) else none) w := by
  have hu := run_underlying Try.underlying3 w
  unfold Instr.findKey
  simp only [Sem.run_bind, hu, Result.andThen_ok, find_int _ k h 0]
  simp only [Int.zero_add, Int.sub_zero, Nat.zero_add]
  rfl
theorem getI_run {W : World} {g : Nat} {vs : List Int} (h : MapI W g vs) (k : Int) (hk : 0 ≤ k ∧ k < vs.length) : (Instr.lookup 76 (.map (some g)) (.int .i64 k) false).run Try.prog W = .ok (.int .i64 (vs.getD k.toNat 0)) W := by
  obtain ⟨es, clock, hg, he⟩ := h
  have h1 := run_underlying Try.underlying76 W
  have h2 := MapKept.run_getObj_map (P := Try.prog) hg
  have h3 := findI_run k he W
  have h4 := checkI k es.isEmpty W
  rw [if_pos hk] at h3
  simp [Instr.lookup, h1, h2, h3, h4]
theorem askI_run {W : World} {g : Nat} {vs : List Int} (h : MapI W g vs) (k : Int) : (Instr.lookup 76 (.map (some g)) (.int .i64 k) true).run Try.prog W = .ok (.tuple #[.int .i64 (if 0 ≤ k ∧ k < vs.length then vs.getD k.toNat 0 else 0), .bool (decide (0 ≤ k ∧ k < vs.length))]) W := by
  obtain ⟨es, clock, hg, he⟩ := h
  have h1 := run_underlying Try.underlying76 W
  have h2 := MapKept.run_getObj_map (P := Try.prog) hg
  have h3 := findI_run k he W
  have h4 := checkI k es.isEmpty W
  by_cases c : 0 ≤ k ∧ k < vs.length
  · rw [if_pos c] at h3
    simp [Instr.lookup, h1, h2, h3, h4, c]
  · obtain ⟨i3, hi3, hz3⟩ := Option.map_eq_some_iff.1 (show (Try.prog.info? 3).map (·.zero) = some (some (.int .i64 0)) by kernel_rfl)
    have hz : (zeroValue 3).run Try.prog W = .ok (.int .i64 0) W := by simp [zeroValue, typeInfo, hi3, hz3]
    rw [if_neg c] at h3
    rw [if_neg c, decide_eq_false c]
    simp [Instr.lookup, h1, h2, h3, h4, hz]
theorem mapI_lt {W : World} {g : Nat} {vs : List Int} (h : MapI W g vs) : g < W.heap.size := by
  obtain ⟨es, clock, hg, _⟩ := h
  rcases Nat.lt_or_ge g W.heap.size with h' | h'
  · exact h'
  · simp [Array.getElem?_eq_none h'] at hg
theorem setI_run {W : World} {g : Nat} {vs : List Int} (h : MapI W g vs) (k v : Int) (hk : 0 ≤ k ∧ k ≤ vs.length) : ∃ W1, (Instr.mapUpdate 76 (.map (some g)) (.int .i64 k) (.int .i64 v)).run Try.prog W = .ok () W1 ∧ MapI W1 g (if k < vs.length then vs.set k.toNat v else vs ++ [v]) ∧ W1.heap.size = W.heap.size ∧ (∀ k, k ≠ g → W1.heap[k]? = W.heap[k]?) ∧ W1.os = W.os ∧ W1.tape = W.tape ∧ W1.output = W.output := by
  have hlt := mapI_lt h
  obtain ⟨es, clock, hg, he⟩ := h
  have h1 := run_underlying Try.underlying76 W
  have h2 := MapKept.run_getObj_map (P := Try.prog) hg
  have h3 := findI_run k he W
  have h4 := checkI k false W
  have hput : ∀ o : Obj, (W.putObj g o).heap[g]? = some o := fun o => World.putObj_heap_same hlt
  have hfar : ∀ (o : Obj) k, k ≠ g → (W.putObj g o).heap[k]? = W.heap[k]? := fun o k hk => World.putObj_heap_other hk
  by_cases c : k < vs.length
  · obtain ⟨b, hb, hs⟩ := he.set v k.toNat (by omega)
    rw [Array.getElem?_toList, show (0 + (k.toNat : Int)) = k by omega] at hb
    rw [show (0 + (k.toNat : Int)) = k by omega] at hs
    rw [if_pos (by omega)] at h3
    have hsame : Instr.sameBits 10000 (.int .i64 k) (.int .i64 k) = true := by simp [Instr.sameBits]
    have hmod : (es.modify k.toNat fun e => { e with key := .int .i64 k, val := .int .i64 v }).toList = es.toList.set k.toNat (entI b k v) := by
      apply List.ext_getElem?
      intro i
      rw [Array.getElem?_toList, Array.getElem?_modify, List.getElem?_set]
      split
      · rename_i c'
        subst c'
        have hl : k.toNat < es.size := by
          rcases Nat.lt_or_ge k.toNat es.size with h' | h'
          · exact h'
          · simp [Array.getElem?_eq_none h'] at hb
        rw [if_pos (by simpa using hl), hb]
        rfl
      · simp
    have h5 := MapKept.run_setObj_map (P := Try.prog) (.map (es.modify k.toNat fun e => { e with key := .int .i64 k, val := .int .i64 v }) clock) hg
    refine ⟨W.putObj g (.map (es.modify k.toNat fun e => { e with key := .int .i64 k, val := .int .i64 v }) clock), ?_, ?_, by simp, hfar _, rfl, rfl, rfl⟩
    · simp [Instr.mapUpdate, h1, h2, h3, h4, Instr.keyThatStays, hb, entI, hsame, h5, World.putObj]
    · rw [if_pos c]
      exact ⟨_, _, hput _, by rw [hmod]; exact hs⟩
  · have hk2 : k = vs.length := by omega
    rw [if_neg (by omega)] at h3
    have h5 := MapKept.run_setObj_map (P := Try.prog) (.map (es.push { key := .int .i64 k, val := .int .i64 v, born := clock }) (clock + 1)) hg
    refine ⟨W.putObj g (.map (es.push { key := .int .i64 k, val := .int .i64 v, born := clock }) (clock + 1)), ?_, ?_, by simp, hfar _, rfl, rfl, rfl⟩
    · simp [Instr.mapUpdate, h1, h2, h3, h4, h5, World.putObj]
    · rw [if_neg c]
      refine ⟨_, _, hput _, ?_⟩
      rw [Array.toList_push]
      have := he.snoc clock v
      rwa [show (0 + (vs.length : Int)) = k by omega] at this
theorem MapI.new (W : World) : MapI (W.alloc (.map #[] 0)) W.heap.size [] := ⟨#[], 0, by simp [World.alloc, -World.alloc_eq], .nil 0⟩
theorem MapI.far {W W1 : World} {g : Nat} {vs : List Int} (h : MapI W g vs) (hk : W1.heap[g]? = W.heap[g]?) : MapI W1 g vs := by
  obtain ⟨es, clock, hg, r⟩ := h
  exact ⟨es, clock, hk.trans hg, r⟩
end Go.Proofs.Ytccabdgfjcjpoaa.X
