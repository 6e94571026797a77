/- Maps that a call makes: keyed by two numbers, or by one; asked and written. -/
import Derived.Test.YtccabdgfjcjpoaaX0
import Derived.Test.YtccabdgfjcjpoaaWEqStruct
import Derived.Lib.Hide
import Derived.MapKept
import Derived.RangeFuncRecord
import Derived.Laws.NewFold
namespace Go.Proofs.Ytccabdgfjcjpoaa.X
open Go.RowKit Go.Proofs.YtccabdgfjcjpoaaW.PrintWords Go.Proofs.YtccabdgfjcjpoaaW.PrintLast Go.Proofs.YtccabdgfjcjpoaaW.PrintMore
set_option linter.unusedVariables false
set_option linter.unusedSimpArgs false

def keyP (p : Int × Int) : Value := .agg #[.int .i64 p.1, .int .i64 p.2]
theorem eq_int (d : Nat) (a b : Int) (w : World) : (Op.equalIn (d + 1) 3 (.int .i64 a) (.int .i64 b)).run Try.prog w = .ok (a == b) w := by
  have h := run_underlying Try.underlying3 w
  simp [Op.equalIn, h]
theorem eq_key (p q : Int × Int) (w : World) : (Op.equal 68 (keyP p) (keyP q)).run Try.prog w = .ok ((p.1 == q.1) && (p.2 == q.2)) w := by
  refine eqA_of (d := 9999) Try.underlying68 (by kernel_rfl) ?_
  refine eqf_cons (by rfl) (a := .int .i64 p.1) (b := .int .i64 q.1) (by simp [part, sizeOf, typeInfo]) (by simp [part, sizeOf, typeInfo]) (eq_int 9998 _ _ _) ?_
  exact eqf_last (by rfl) (a := .int .i64 p.2) (b := .int .i64 q.2) (by simp [part, sizeOf, typeInfo]) (by simp [part, sizeOf, typeInfo]) (eq_int 9998 _ _ _)
/-- Where a key lies. -/
def findP (p : Int × Int) : List (Int × Int) → Nat → Option Nat
  | [], _ => none
  | q :: qs, i => if p = q then some i else findP p qs (i + 1)
/-- The entries of keys. -/
def entP (b : Nat) (q : Int × Int) : MapEntry := { key := keyP q, val := .bool true, born := b }
inductive Ents : List MapEntry → List (Int × Int) → Prop
  | nil : Ents [] []
  | cons (b : Nat) (q : Int × Int) {es : List MapEntry} {qs : List (Int × Int)} (h : Ents es qs) : Ents (entP b q :: es) (q :: qs)
theorem Ents.snoc {es : List MapEntry} {qs : List (Int × Int)} (h : Ents es qs) (b : Nat) (q : Int × Int) : Ents (es ++ [entP b q]) (qs ++ [q]) := by
  induction h with
  | nil => exact .cons b q .nil
  | cons b' q' _ ih => exact .cons b' q' ih
theorem Ents.len {es : List MapEntry} {qs : List (Int × Int)} (h : Ents es qs) : es.length = qs.length := by
  induction h with
  | nil => rfl
  | cons b' q' _ ih => simp [ih]
theorem Ents.at_ {es : List MapEntry} {qs : List (Int × Int)} (h : Ents es qs) : ∀ (i : Nat) (q : Int × Int), qs[i]? = some q → ∃ b, es[i]? = some (entP b q) := by
  induction h with
  | nil => intro i q hq; simp at hq
  | cons b' q' _ ih =>
    intro i q hq
    cases i with
    | zero =>
      simp only [List.getElem?_cons_zero, Option.some.injEq] at hq
      subst hq
      exact ⟨b', rfl⟩
    | succ i => exact ih i q (by simpa using hq)
theorem findP_at (p : Int × Int) : ∀ (qs : List (Int × Int)) (i j : Nat), findP p qs i = some j → i ≤ j ∧ qs[j - i]? = some p
  | [], i, j, h => by simp [findP] at h
  | q :: qs, i, j, h => by
    rw [findP] at h
    by_cases c : p = q
    · rw [if_pos c] at h
      obtain rfl := Option.some.inj h
      exact ⟨Nat.le_refl _, by simp [c]⟩
    · rw [if_neg c] at h
      obtain ⟨h1, h2⟩ := findP_at p qs (i + 1) j h
      refine ⟨by omega, ?_⟩
      rw [show j - i = (j - (i + 1)) + 1 by omega]
      simpa using h2
theorem findP_none (p : Int × Int) : ∀ (qs : List (Int × Int)) (i : Nat), findP p qs i = none ↔ p ∉ qs
  | [], i => by simp [findP]
  | q :: qs, i => by
    rw [findP]
    by_cases c : p = q
    · simp [c]
    · simp [c, findP_none p qs (i + 1)]
theorem ask_run (p : Int × Int) {es : List MapEntry} {qs : List (Int × Int)} (h : Ents es qs) : ∀ (i : Nat) (w : World), (Instr.findAsking 68 (keyP p) es i).run Try.prog w = .ok ((findP p qs i).map fun j => (j, .bool true)) w := by
  induction h with
  | nil => intro i w; rfl
  | cons b q _ ih =>
    intro i w
    rw [Instr.findAsking, findP]
    simp only [Sem.run_bind, entP, eq_key, Result.andThen_ok]
    by_cases c : p = q
    · subst c
      simp
    · have : ((p.1 == q.1) && (p.2 == q.2)) = false := by
        cases hq : ((p.1 == q.1) && (p.2 == q.2)) with
        | false => rfl
        | true =>
          simp only [Bool.and_eq_true, beq_iff_eq] at hq
          exact absurd (Prod.ext hq.1 hq.2) c
      rw [this, if_neg c]
      simpa using ih (i + 1) w
theorem find_run (p : Int × Int) {es : List MapEntry} {qs : List (Int × Int)} (h : Ents es qs) (w : World) : (Instr.findKey 68 (keyP p) es).run Try.prog w = .ok ((findP p qs 0).map fun j => (j, .bool true)) w := by
  have hu := run_underlying Try.underlying68 w
  have ha := ask_run p h 0 w
  cases h with
  | nil => simp [Instr.findKey, hu, Instr.findNow, findP]
  | cons b q h =>
    have hn : ∀ fs es, Instr.findNow (.struct fs) (keyP p) (entP b q :: es) 0 = none := fun fs es => rfl
    unfold Instr.findKey
    simp only [Sem.run_bind, hu, Result.andThen_ok, hn]
    exact ha
theorem check_int (em : Bool) (a : Int) (w : World) : (Instr.checkKey em 9999 3 (.int .i64 a)).run Try.prog w = .ok () w := by
  have h2 := run_underlying Try.underlying3 w
  show (Instr.checkKey em (9998 + 1) 3 (.int .i64 a)).run Try.prog w = .ok () w
  rw [Instr.checkKey]
  simp only [Sem.run_bind, h2, Result.andThen_ok]
  rfl
theorem check_run (p : Int × Int) (em : Bool) (w : World) : (Instr.checkKey em 10000 68 (keyP p)).run Try.prog w = .ok () w := by
  have h1 := run_underlying Try.underlying68 w
  show (Instr.checkKey em (9999 + 1) 68 (keyP p)).run Try.prog w = .ok () w
  rw [Instr.checkKey]
  simp only [Sem.run_bind, h1, Result.andThen_ok, keyP]
  simp [part, sizeOf, typeInfo, check_int]
/-- A map's block that holds such keys. -/
def SetAt (W : World) (g : Nat) (ps : List (Int × Int)) : Prop := ∃ es qs clock, W.heap[g]? = some (.map es clock) ∧ Ents es.toList qs ∧ ∀ p, p ∈ qs ↔ p ∈ ps
theorem has_run {W : World} {g : Nat} {ps : List (Int × Int)} (h : SetAt W g ps) (p : Int × Int) : (Instr.lookup 66 (.map (some g)) (keyP p) false).run Try.prog W = .ok (.bool (decide (p ∈ ps))) W := by
  obtain ⟨es, qs, clock, hg, he, hp⟩ := h
  have h1 := run_underlying Try.underlying66 W
  have h2 := MapKept.run_getObj_map (P := Try.prog) hg
  have h3 := find_run p he W
  have h4 := check_run p es.isEmpty W
  cases hf : findP p qs 0 with
  | none =>
    have hn : p ∉ ps := fun hm => (findP_none p qs 0).1 hf ((hp p).2 hm)
    obtain ⟨i4, hi4, hz4⟩ := Option.map_eq_some_iff.1 (show (Try.prog.info? 4).map (·.zero) = some (some (.bool false)) by kernel_rfl)
    have hz : (zeroValue 4).run Try.prog W = .ok (.bool false) W := by simp [zeroValue, typeInfo, hi4, hz4]
    rw [hf] at h3
    simp [Instr.lookup, h1, h2, h3, h4, hz, hn]
  | some j =>
    have hm : p ∈ ps := by
      obtain ⟨_, hj⟩ := findP_at p qs 0 j hf
      exact (hp p).1 (List.mem_of_getElem? hj)
    rw [hf] at h3
    simp [Instr.lookup, h1, h2, h3, h4, hm]
theorem put_run {W : World} {g : Nat} {ps : List (Int × Int)} (h : SetAt W g ps) (p : Int × Int) : ∃ W1, (Instr.mapUpdate 66 (.map (some g)) (keyP p) (.bool true)).run Try.prog W = .ok () W1 ∧ SetAt W1 g (ps ++ [p]) ∧ W1.heap.size = W.heap.size ∧ (∀ k, k ≠ g → W1.heap[k]? = W.heap[k]?) ∧ W1.os = W.os ∧ W1.tape = W.tape ∧ W1.output = W.output := by
  obtain ⟨es, qs, clock, hg, he, hp⟩ := h
  have h1 := run_underlying Try.underlying66 W
  have h2 := MapKept.run_getObj_map (P := Try.prog) hg
  have h3 := find_run p he W
  have h4 := check_run p false W
  have hlt : g < W.heap.size := by
    rcases Nat.lt_or_ge g W.heap.size with h' | h'
    · exact h'
    · simp [Array.getElem?_eq_none h'] at hg
  have hput : ∀ o : Obj, (W.putObj g o).heap[g]? = some o := fun o => World.putObj_heap_same hlt
  have hfar : ∀ (o : Obj) k, k ≠ g → (W.putObj g o).heap[k]? = W.heap[k]? := fun o k hk => World.putObj_heap_other hk
  cases hf : findP p qs 0 with
  | none =>
    have h5 := MapKept.run_setObj_map (P := Try.prog) (.map (es.push { key := keyP p, val := .bool true, born := clock }) (clock + 1)) hg
    rw [hf] at h3
    refine ⟨W.putObj g (.map (es.push { key := keyP p, val := .bool true, born := clock }) (clock + 1)), ?_, ⟨_, qs ++ [p], _, hput _, ?_, fun q => ?_⟩, by simp, hfar _, rfl, rfl, rfl⟩
    · simp [Instr.mapUpdate, h1, h2, h3, h4, h5, World.putObj]
    · rw [Array.toList_push]
      exact he.snoc clock p
    · simp [hp q]
  | some j =>
    obtain ⟨_, hj⟩ := findP_at p qs 0 j hf
    obtain ⟨b, hb⟩ := he.at_ j p hj
    rw [Array.getElem?_toList] at hb
    have hm : p ∈ qs := List.mem_of_getElem? hj
    have hsame : Instr.sameBits 10000 (keyP p) (keyP p) = true := by simp [Instr.sameBits, keyP]
    have hmod : (es.modify j fun e => { e with key := keyP p, val := .bool true }) = es := by
      apply Array.ext_getElem?
      intro i
      rw [Array.getElem?_modify]
      split
      · rename_i c
        subst c
        rw [hb]
        rfl
      · rfl
    have h5 := MapKept.run_setObj_map (P := Try.prog) (.map (es.modify j fun e => { e with key := keyP p, val := .bool true }) clock) hg
    rw [hf] at h3
    refine ⟨W.putObj g (.map es clock), ?_, ⟨es, qs, clock, hput _, he, fun q => ?_⟩, by simp, hfar _, rfl, rfl, rfl⟩
    · rw [hmod] at h5
      simp [Instr.mapUpdate, h1, h2, h3, h4, Instr.keyThatStays, hb, entP, hsame, hmod, h5, World.putObj]
    · rw [List.mem_append, List.mem_singleton, ← hp q]
      constructor
      · exact .inl
      · rintro (h | rfl)
        · exact h
        · exact hm
theorem SetAt.new (W : World) : SetAt (W.alloc (.map #[] 0)) W.heap.size [] := ⟨#[], [], 0, by simp [World.alloc, -World.alloc_eq], .nil, fun p => by simp⟩
theorem SetAt.far {W W1 : World} {g : Nat} {ps : List (Int × Int)} (h : SetAt W g ps) (hk : W1.heap[g]? = W.heap[g]?) : SetAt W1 g ps := by
  obtain ⟨es, qs, clock, hg, r⟩ := h
  exact ⟨es, qs, clock, hk.trans hg, r⟩
theorem SetAt.lt {W : World} {g : Nat} {ps : List (Int × Int)} (h : SetAt W g ps) : g < W.heap.size := by
  obtain ⟨es, qs, clock, hg, _⟩ := h
  rcases Nat.lt_or_ge g W.heap.size with h' | h'
  · exact h'
  · simp [Array.getElem?_eq_none h'] at hg
end Go.Proofs.Ytccabdgfjcjpoaa.X
