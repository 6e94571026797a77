/- Arguments opened: what reads as data of a kind stands in memory as the print's words say it. -/
import Derived.Test.YtccabdgfjcjpoaaRows
import Derived.Test.YtccabdgfjcjpoaaX0
import Derived.Deep.Slices
import Derived.ChangeSame
import Derived.SizedLaws
import Derived.ProofKit
namespace Go.Proofs.Ytccabdgfjcjpoaa.X
open Go.ChangeShapes Go.WideShapes Go.Deep
open Go.RowKit Go.Proofs.YtccabdgfjcjpoaaW.PrintWords Go.Proofs.YtccabdgfjcjpoaaW.PrintLast Go.Proofs.YtccabdgfjcjpoaaW.PrintMore
set_option linter.unusedVariables false
set_option linter.unusedSimpArgs false

section
variable {H : Type} {enc : TypeId × Value → H} {P : Program} {w : World}

/-- What reads as data of type t is of kind d: some x, well formed, whose measure is at most the datum's bulk. -/
def Opens {α : Type} (enc : TypeId × Value → H) (P : Program) (w : World) (t : TypeId) (d : Kd α) (wf : α → Prop) (μ : α → Nat) : Prop :=
  ∀ (n : Nat) (cs : List Value) (y : DataW H × List MemPlace), DataW.trod enc P w 0 (fun _ => true) true n t cs = some y → ∃ x, d.K w x cs ∧ wf x ∧ μ x ≤ Rows.uptoBulk y.1

theorem Opens.int {t : TypeId} {k : IntKind} (hu : P.underlying t = some (.int k)) : Opens enc P w t (Kd.int k) (fun x => (Lit.int k x).wf = true) (fun _ => 1) := fun n cs y h => by
  obtain ⟨x, rfl, rfl, hw⟩ := DataW.trod_int hu h
  exact ⟨x, rfl, hw, by simp [Rows.uptoBulk]⟩
theorem Opens.bool {t : TypeId} (hu : P.underlying t = some .bool) : Opens enc P w t Kd.bool (fun _ => True) (fun _ => 1) := fun n cs y h => by
  obtain ⟨x, rfl, rfl⟩ := DataW.trod_bool hu h
  exact ⟨x, rfl, trivial, by simp [Rows.uptoBulk]⟩
theorem Opens.string {t : TypeId} (hu : P.underlying t = some .string) : Opens enc P w t Kd.string (fun _ => True) (fun s => s.size + 1) := fun n cs y h => by
  obtain ⟨x, rfl, rfl, hw⟩ := DataW.trod_string hu h
  exact ⟨x, rfl, trivial, by simp [Rows.uptoBulk]⟩

def sumM {α : Type} (μ : α → Nat) : List α → Nat
  | [] => 0
  | x :: l => μ x + sumM μ l
theorem sumM_append {α : Type} (μ : α → Nat) (l r : List α) : sumM μ (l ++ r) = sumM μ l + sumM μ r := by
  induction l with
  | nil => simp [sumM]
  | cons x l ih => simp only [List.cons_append, sumM, ih]; omega
theorem sumM_mem {α : Type} (μ : α → Nat) {l : List α} {x : α} (h : x ∈ l) : μ x ≤ sumM μ l := by
  induction l with
  | nil => cases h
  | cons y l ih =>
    simp only [sumM]
    rcases List.mem_cons.1 h with rfl | h
    · omega
    · have := ih h; omega
theorem sumM_len {α : Type} (μ : α → Nat) (hμ : ∀ x, 1 ≤ μ x) (l : List α) : l.length ≤ sumM μ l := by
  induction l with
  | nil => simp [sumM]
  | cons x l ih => have := hμ x; simp only [sumM, List.length_cons]; omega
theorem bulkAll_append (l r : List (DataW H)) : Rows.uptoBulkAll (l ++ r) = Rows.uptoBulkAll l + Rows.uptoBulkAll r := by
  induction l with
  | nil => simp [Rows.uptoBulkAll]
  | cons x l ih => simp only [List.cons_append, Rows.uptoBulkAll, ih]; omega
theorem sumM_range {α : Type} (μ : α → Nat) (X : Nat → α) (D : Nat → DataW H) : ∀ n, (∀ i, i < n → μ (X i) ≤ Rows.uptoBulk (D i)) → sumM μ ((List.range n).map X) ≤ Rows.uptoBulkAll ((List.range n).map D)
  | 0, _ => by simp [sumM]
  | n + 1, h => by
    have ih := sumM_range μ X D n (fun i hi => h i (by omega))
    have := h n (by omega)
    rw [List.range_succ, List.map_append, List.map_append, sumM_append, bulkAll_append]
    simp only [List.map_cons, List.map_nil, sumM, Rows.uptoBulkAll]
    omega

theorem Opens.slice {α : Type} [Inhabited α] {t e : TypeId} {d : Kd α} {wf : α → Prop} {μ : α → Nat} (ht : P.underlying t = some (.slice e)) (hsz : P.cellsOf e = d.sz) (h : Opens enc P w e d wf μ) :
    Opens enc P w t (Kd.slice e d) (fun xs => ∀ x ∈ xs, wf x) (fun xs => sumM μ xs + 1) := fun n cs y hy => by
  rcases open_slice ht hy with ⟨rfl, rfl⟩ | ⟨a, len, cap, m, n', D, Pl, rfl, _, hl, hm, hmm, rfl, hi⟩
  · exact ⟨[], ⟨none, 0, rfl, Nat.le_refl _, Kd.C_nil d w⟩, (fun x hx => by cases hx), by simp [Rows.uptoBulk, sumM]⟩
  · have hm' : m = cap := by simpa using hmm
    subst hm'
    obtain ⟨X, hX⟩ := choose_lt (α := α) (p := fun i x => ∃ cs', w.cells? 0 (a.add (i * P.cellsOf e)) (P.cellsOf e) = some cs' ∧ d.K w x cs' ∧ wf x ∧ μ x ≤ Rows.uptoBulk (D i)) (fun i hlt => by
      obtain ⟨cs', h1, h2⟩ := hi i hlt
      obtain ⟨x, k1, k2, k3⟩ := h n' cs' _ h2
      exact ⟨x, cs', h1, k1, k2, k3⟩)
    have hm63 : m ≤ 9223372036854775807 := by simpa [maxLen] using hm
    refine ⟨(List.range len).map X, ⟨some a, m, by simp, by simpa using hl, by simp, by simp; omega, fun _ => ⟨a, rfl, fun j p hj => ?_⟩⟩, ?_, ?_⟩
    · have hjl : j < len := by have := (List.getElem?_eq_some_iff.1 hj).1; simpa using this
      have hp : p = X j := by simpa [hjl] using hj.symm
      subst hp
      obtain ⟨cs', h1, k1, _, _⟩ := hX j (by omega)
      obtain ⟨_, hlen, hc⟩ := World.cells?_some h1
      rw [hsz] at hlen hc
      refine ⟨cs', hlen, k1, fun i u hu => ?_⟩
      have hil : i < d.sz := by have := (List.getElem?_eq_some_iff.1 hu).1; omega
      rw [← Go.Deep.add_add, hc i hil]
      exact hu
    · intro x hx
      obtain ⟨i, hi', rfl⟩ := List.mem_map.1 hx
      obtain ⟨_, _, _, k2, _⟩ := hX i (by have := List.mem_range.1 hi'; omega)
      exact k2
    · have := sumM_range μ X D len (fun i hi' => by obtain ⟨_, _, _, _, k3⟩ := hX i (by omega); exact k3)
      simp only [Rows.uptoBulk]
      omega

/-- A top argument that is a slice. -/
theorem Opens.arg_slice {α : Type} {t e : TypeId} {d : Kd α} {wf : List α → Prop} {μ : List α → Nat} {a : Option Addr} {len cap : Nat} {D : DataW H} {ps : List MemPlace}
    (h : Opens enc P w t (Kd.slice e d) wf μ) (ht : DataW.Trod enc P w 0 (fun _ => true) true t (.slice a len cap) D ps) : ∃ xs, len = xs.length ∧ len ≤ cap ∧ d.C w a xs.length xs ∧ wf xs ∧ μ xs ≤ Rows.uptoBulk D := by
  obtain ⟨fuel, hf⟩ := ht
  obtain ⟨xs, ⟨A, c, he, hc, hC⟩, h2, h3⟩ := h fuel _ _ hf
  simp [Value.cells] at he
  obtain ⟨rfl, rfl, rfl⟩ := he
  exact ⟨xs, rfl, hc, hC, h2, h3⟩
/-- .. and no longer than its weight allows. -/
theorem sized_any {t e : TypeId} {a : Option Addr} {len cap : Nat} {d : DataW H} {ps : List MemPlace} {ts : List TypeId} {ds : List (DataW H)} {j : Nat}
    (hsz : (DataW.weightsEach P ts ds).all (· ≤ reachBytes) = true) (ht : ts[j]? = some t) (hd : ds[j]? = some d) (hu : P.underlying t = some (.slice e)) {B : Nat} (hB : P.bytesOf e = B)
    (h : DataW.Trod enc P w 0 (fun _ => true) true t (.slice a len cap) d ps) : cap * B ≤ 140737488351232 := by
  obtain ⟨fuel, hf⟩ := h
  rcases open_slice hu hf with ⟨hcs, _⟩ | ⟨a', len', cap', m, n', D, Pl, hcs, _, hl, hm, hmm, hx, _⟩
  · simp [Value.cells] at hcs
    obtain ⟨rfl, rfl, rfl⟩ := hcs
    simp
  · simp [Value.cells] at hcs
    obtain ⟨rfl, rfl, rfl⟩ := hcs
    have hm' : m = cap := by simpa using hmm
    subst hm'
    simp only [Prod.mk.injEq] at hx
    obtain ⟨rfl, _⟩ := hx
    have z := sized_slice hsz ht hd hu
    rw [hB] at z
    have e1 : ((List.range len).map D).length + ((List.range (m - len)).map fun j => D (len + j)).length = m := by simp; omega
    rw [e1] at z
    exact z
end

/-! ### the struct of type 27 -/
def wfT27 (x : S27) : Prop := (Lit.int .i64 x.f0).wf = true ∧ (Lit.int .i64 x.f1).wf = true ∧ (Lit.int .i64 x.f2).wf = true ∧ (Lit.int .i64 x.f3).wf = true ∧ True
def muT27 (x : S27) : Nat := (fun _ => 1) x.f0 + (fun _ => 1) x.f1 + (fun _ => 1) x.f2 + (fun _ => 1) x.f3 + (fun s => s.size + 1) x.f4 + 1
instance : Inhabited S27 := ⟨z27⟩
theorem Opens.T27 {H : Type} {enc : TypeId × Value → H} {w : World} : Opens enc Try.prog w 27 k27 wfT27 muT27 := fun n cs y h => by
  obtain ⟨xs, m, _, hy, hlen, hxl, hg⟩ := DataW.trod_struct Try.underlying27 h
  have hcs : cs.length = 5 := hlen.trans (by kernel_rfl)
  match cs, hcs with
  | [c0, c1, c2, c3, c4], _ =>
  match xs, hxl with
  | [y0, y1, y2, y3, y4], _ =>
    have g0 : DataW.trod enc Try.prog w 0 (fun _ => true) true m 3 (([c0, c1, c2, c3, c4].drop 0).take (Try.prog.cellsOf 3)) = some y0 := hg 0 _ rfl
    rw [show Try.prog.cellsOf 3 = 1 from by kernel_rfl] at g0
    have g1 : DataW.trod enc Try.prog w 0 (fun _ => true) true m 3 (([c0, c1, c2, c3, c4].drop 1).take (Try.prog.cellsOf 3)) = some y1 := hg 1 _ rfl
    rw [show Try.prog.cellsOf 3 = 1 from by kernel_rfl] at g1
    have g2 : DataW.trod enc Try.prog w 0 (fun _ => true) true m 3 (([c0, c1, c2, c3, c4].drop 2).take (Try.prog.cellsOf 3)) = some y2 := hg 2 _ rfl
    rw [show Try.prog.cellsOf 3 = 1 from by kernel_rfl] at g2
    have g3 : DataW.trod enc Try.prog w 0 (fun _ => true) true m 3 (([c0, c1, c2, c3, c4].drop 3).take (Try.prog.cellsOf 3)) = some y3 := hg 3 _ rfl
    rw [show Try.prog.cellsOf 3 = 1 from by kernel_rfl] at g3
    have g4 : DataW.trod enc Try.prog w 0 (fun _ => true) true m 9 (([c0, c1, c2, c3, c4].drop 4).take (Try.prog.cellsOf 9)) = some y4 := hg 4 _ rfl
    rw [show Try.prog.cellsOf 9 = 1 from by kernel_rfl] at g4
    obtain ⟨x0, q0, w0, m0⟩ := (Opens.int Try.underlying3) _ [c0] _ g0
    obtain ⟨x1, q1, w1, m1⟩ := (Opens.int Try.underlying3) _ [c1] _ g1
    obtain ⟨x2, q2, w2, m2⟩ := (Opens.int Try.underlying3) _ [c2] _ g2
    obtain ⟨x3, q3, w3, m3⟩ := (Opens.int Try.underlying3) _ [c3] _ g3
    obtain ⟨x4, q4, w4, m4⟩ := (Opens.string Try.underlying9) _ [c4] _ g4
    have u0 : [c0] = [.int .i64 x0] := q0
    simp only [List.cons.injEq, and_true] at u0
    subst u0
    have u1 : [c1] = [.int .i64 x1] := q1
    simp only [List.cons.injEq, and_true] at u1
    subst u1
    have u2 : [c2] = [.int .i64 x2] := q2
    simp only [List.cons.injEq, and_true] at u2
    subst u2
    have u3 : [c3] = [.int .i64 x3] := q3
    simp only [List.cons.injEq, and_true] at u3
    subst u3
    have u4 : [c4] = [.string x4] := q4
    simp only [List.cons.injEq, and_true] at u4
    subst u4
    refine ⟨⟨x0, x1, x2, x3, x4⟩, k27_mk w ⟨x0, x1, x2, x3, x4⟩ , ⟨w0, w1, w2, w3, w4⟩, ?_⟩
    subst hy
    simp only [List.map_cons, List.map_nil, Rows.uptoBulk, Rows.uptoBulkAll, muT27]
    have z0 : 1 ≤ Rows.uptoBulk y0.1 := m0; have z1 : 1 ≤ Rows.uptoBulk y1.1 := m1; have z2 : 1 ≤ Rows.uptoBulk y2.1 := m2; have z3 : 1 ≤ Rows.uptoBulk y3.1 := m3; have z4 : x4.size + 1 ≤ Rows.uptoBulk y4.1 := m4
    omega

/-! ### the struct of type 30 -/
def wfT30 (x : S30) : Prop := (Lit.int .i64 x.f0).wf = true ∧ (Lit.int .i64 x.f1).wf = true ∧ True
def muT30 (x : S30) : Nat := (fun _ => 1) x.f0 + (fun _ => 1) x.f1 + (fun s => s.size + 1) x.f2 + 1
instance : Inhabited S30 := ⟨z30⟩
theorem Opens.T30 {H : Type} {enc : TypeId × Value → H} {w : World} : Opens enc Try.prog w 30 k30 wfT30 muT30 := fun n cs y h => by
  obtain ⟨xs, m, _, hy, hlen, hxl, hg⟩ := DataW.trod_struct Try.underlying30 h
  have hcs : cs.length = 3 := hlen.trans (by kernel_rfl)
  match cs, hcs with
  | [c0, c1, c2], _ =>
  match xs, hxl with
  | [y0, y1, y2], _ =>
    have g0 : DataW.trod enc Try.prog w 0 (fun _ => true) true m 3 (([c0, c1, c2].drop 0).take (Try.prog.cellsOf 3)) = some y0 := hg 0 _ rfl
    rw [show Try.prog.cellsOf 3 = 1 from by kernel_rfl] at g0
    have g1 : DataW.trod enc Try.prog w 0 (fun _ => true) true m 3 (([c0, c1, c2].drop 1).take (Try.prog.cellsOf 3)) = some y1 := hg 1 _ rfl
    rw [show Try.prog.cellsOf 3 = 1 from by kernel_rfl] at g1
    have g2 : DataW.trod enc Try.prog w 0 (fun _ => true) true m 9 (([c0, c1, c2].drop 2).take (Try.prog.cellsOf 9)) = some y2 := hg 2 _ rfl
    rw [show Try.prog.cellsOf 9 = 1 from by kernel_rfl] at g2
    obtain ⟨x0, q0, w0, m0⟩ := (Opens.int Try.underlying3) _ [c0] _ g0
    obtain ⟨x1, q1, w1, m1⟩ := (Opens.int Try.underlying3) _ [c1] _ g1
    obtain ⟨x2, q2, w2, m2⟩ := (Opens.string Try.underlying9) _ [c2] _ g2
    have u0 : [c0] = [.int .i64 x0] := q0
    simp only [List.cons.injEq, and_true] at u0
    subst u0
    have u1 : [c1] = [.int .i64 x1] := q1
    simp only [List.cons.injEq, and_true] at u1
    subst u1
    have u2 : [c2] = [.string x2] := q2
    simp only [List.cons.injEq, and_true] at u2
    subst u2
    refine ⟨⟨x0, x1, x2⟩, k30_mk w ⟨x0, x1, x2⟩ , ⟨w0, w1, w2⟩, ?_⟩
    subst hy
    simp only [List.map_cons, List.map_nil, Rows.uptoBulk, Rows.uptoBulkAll, muT30]
    have z0 : 1 ≤ Rows.uptoBulk y0.1 := m0; have z1 : 1 ≤ Rows.uptoBulk y1.1 := m1; have z2 : x2.size + 1 ≤ Rows.uptoBulk y2.1 := m2
    omega

/-! ### the struct of type 32 -/
def wfT32 (x : S32) : Prop := wfT30 x.f0 ∧ (Lit.int .i64 x.f1).wf = true ∧ (Lit.int .i64 x.f2).wf = true
def muT32 (x : S32) : Nat := muT30 x.f0 + (fun _ => 1) x.f1 + (fun _ => 1) x.f2 + 1
instance : Inhabited S32 := ⟨z32⟩
theorem Opens.T32 {H : Type} {enc : TypeId × Value → H} {w : World} : Opens enc Try.prog w 32 k32 wfT32 muT32 := fun n cs y h => by
  obtain ⟨xs, m, _, hy, hlen, hxl, hg⟩ := DataW.trod_struct Try.underlying32 h
  have hcs : cs.length = 5 := hlen.trans (by kernel_rfl)
  match cs, hcs with
  | [c0, c1, c2, c3, c4], _ =>
  match xs, hxl with
  | [y0, y1, y2], _ =>
    have g0 : DataW.trod enc Try.prog w 0 (fun _ => true) true m 30 (([c0, c1, c2, c3, c4].drop 0).take (Try.prog.cellsOf 30)) = some y0 := hg 0 _ rfl
    rw [show Try.prog.cellsOf 30 = 3 from by kernel_rfl] at g0
    have g1 : DataW.trod enc Try.prog w 0 (fun _ => true) true m 3 (([c0, c1, c2, c3, c4].drop 3).take (Try.prog.cellsOf 3)) = some y1 := hg 1 _ rfl
    rw [show Try.prog.cellsOf 3 = 1 from by kernel_rfl] at g1
    have g2 : DataW.trod enc Try.prog w 0 (fun _ => true) true m 3 (([c0, c1, c2, c3, c4].drop 4).take (Try.prog.cellsOf 3)) = some y2 := hg 2 _ rfl
    rw [show Try.prog.cellsOf 3 = 1 from by kernel_rfl] at g2
    obtain ⟨x0, q0, w0, m0⟩ := Opens.T30 _ [c0, c1, c2] _ g0
    obtain ⟨x1, q1, w1, m1⟩ := (Opens.int Try.underlying3) _ [c3] _ g1
    obtain ⟨x2, q2, w2, m2⟩ := (Opens.int Try.underlying3) _ [c4] _ g2
    have u0 := k30_open q0
    simp only [List.cons.injEq, and_true] at u0
    obtain ⟨rfl, rfl, rfl⟩ := u0
    have u1 : [c3] = [.int .i64 x1] := q1
    simp only [List.cons.injEq, and_true] at u1
    subst u1
    have u2 : [c4] = [.int .i64 x2] := q2
    simp only [List.cons.injEq, and_true] at u2
    subst u2
    refine ⟨⟨x0, x1, x2⟩, k32_mk w ⟨x0, x1, x2⟩ , ⟨w0, w1, w2⟩, ?_⟩
    subst hy
    simp only [List.map_cons, List.map_nil, Rows.uptoBulk, Rows.uptoBulkAll, muT32]
    have z0 : muT30 x0 ≤ Rows.uptoBulk y0.1 := m0; have z1 : 1 ≤ Rows.uptoBulk y1.1 := m1; have z2 : 1 ≤ Rows.uptoBulk y2.1 := m2
    omega

/-! ### the struct of type 56 -/
def wfT56 (x : S56) : Prop := (Lit.int .i64 x.f0).wf = true ∧ (Lit.int .i64 x.f1).wf = true ∧ (Lit.int .i64 x.f2).wf = true ∧ (∀ z ∈ x.f3, (Lit.int .u8 z).wf = true)
def muT56 (x : S56) : Nat := (fun _ => 1) x.f0 + (fun _ => 1) x.f1 + (fun _ => 1) x.f2 + (fun xs => sumM (fun _ => 1) xs + 1) x.f3 + 1
instance : Inhabited S56 := ⟨z56⟩
theorem Opens.T56 {H : Type} {enc : TypeId × Value → H} {w : World} : Opens enc Try.prog w 56 k56 wfT56 muT56 := fun n cs y h => by
  obtain ⟨xs, m, _, hy, hlen, hxl, hg⟩ := DataW.trod_struct Try.underlying56 h
  have hcs : cs.length = 4 := hlen.trans (by kernel_rfl)
  match cs, hcs with
  | [c0, c1, c2, c3], _ =>
  match xs, hxl with
  | [y0, y1, y2, y3], _ =>
    have g0 : DataW.trod enc Try.prog w 0 (fun _ => true) true m 3 (([c0, c1, c2, c3].drop 0).take (Try.prog.cellsOf 3)) = some y0 := hg 0 _ rfl
    rw [show Try.prog.cellsOf 3 = 1 from by kernel_rfl] at g0
    have g1 : DataW.trod enc Try.prog w 0 (fun _ => true) true m 3 (([c0, c1, c2, c3].drop 1).take (Try.prog.cellsOf 3)) = some y1 := hg 1 _ rfl
    rw [show Try.prog.cellsOf 3 = 1 from by kernel_rfl] at g1
    have g2 : DataW.trod enc Try.prog w 0 (fun _ => true) true m 3 (([c0, c1, c2, c3].drop 2).take (Try.prog.cellsOf 3)) = some y2 := hg 2 _ rfl
    rw [show Try.prog.cellsOf 3 = 1 from by kernel_rfl] at g2
    have g3 : DataW.trod enc Try.prog w 0 (fun _ => true) true m 54 (([c0, c1, c2, c3].drop 3).take (Try.prog.cellsOf 54)) = some y3 := hg 3 _ rfl
    rw [show Try.prog.cellsOf 54 = 1 from by kernel_rfl] at g3
    obtain ⟨x0, q0, w0, m0⟩ := (Opens.int Try.underlying3) _ [c0] _ g0
    obtain ⟨x1, q1, w1, m1⟩ := (Opens.int Try.underlying3) _ [c1] _ g1
    obtain ⟨x2, q2, w2, m2⟩ := (Opens.int Try.underlying3) _ [c2] _ g2
    obtain ⟨x3, q3, w3, m3⟩ := (Opens.slice Try.underlying54 (by kernel_rfl) (Opens.int Try.underlying5)) _ [c3] _ g3
    have u0 : [c0] = [.int .i64 x0] := q0
    simp only [List.cons.injEq, and_true] at u0
    subst u0
    have u1 : [c1] = [.int .i64 x1] := q1
    simp only [List.cons.injEq, and_true] at u1
    subst u1
    have u2 : [c2] = [.int .i64 x2] := q2
    simp only [List.cons.injEq, and_true] at u2
    subst u2
    obtain ⟨A3, p3, u3, lq3, gq3⟩ := q3
    simp only [List.cons.injEq, and_true] at u3
    subst u3
    refine ⟨⟨x0, x1, x2, x3⟩, k56_mk w ⟨x0, x1, x2, x3⟩ lq3 gq3, ⟨w0, w1, w2, w3⟩, ?_⟩
    subst hy
    simp only [List.map_cons, List.map_nil, Rows.uptoBulk, Rows.uptoBulkAll, muT56]
    have z0 : 1 ≤ Rows.uptoBulk y0.1 := m0; have z1 : 1 ≤ Rows.uptoBulk y1.1 := m1; have z2 : 1 ≤ Rows.uptoBulk y2.1 := m2; have z3 : sumM (fun _ => 1) x3 + 1 ≤ Rows.uptoBulk y3.1 := m3
    omega
end Go.Proofs.Ytccabdgfjcjpoaa.X
