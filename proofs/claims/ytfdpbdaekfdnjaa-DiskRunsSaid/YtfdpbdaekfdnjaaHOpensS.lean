/- A list of Ops opened, with the bound that its weights give to each text in it. -/
import Derived.Test.YtfdpbdaekfdnjaaHOpens
import Derived.Test.YtfdpbdaekfdnjaaHS45
namespace Go.Proofs.Ytfdpbdaekfdnjaa.X
open Go.ChangeShapes Go.WideShapes Go.Deep
open Go.RowKit Go.Proofs.YtfdpbdaekfdnjaaW.PrintWords Go.Proofs.YtfdpbdaekfdnjaaW.PrintLast Go.Proofs.YtfdpbdaekfdnjaaW.PrintMore
set_option linter.unusedVariables false
set_option linter.unusedSimpArgs false
section
variable {H : Type} {enc : TypeId × Value → H} {P : Program} {w : World}
/-- What reads as data of type t, no part of which weighs more than an address reaches, is of kind d. -/
def OpensW {α : Type} (enc : TypeId × Value → H) (P : Program) (w : World) (t : TypeId) (d : Kd α) (wf : α → Prop) : Prop :=
  ∀ (n : Nat) (cs : List Value) (y : DataW H × List MemPlace), DataW.trod enc P w 0 (fun _ => true) true n t cs = some y → (∀ m ∈ y.1.weights P t, m ≤ reachBytes) → ∃ x, d.K w x cs ∧ wf x
theorem weightsAll_mem {e : TypeId} {d : DataW H} {m : Nat} : ∀ {l : List (DataW H)}, d ∈ l → m ∈ d.weights P e → m ∈ DataW.weightsAll P e l
  | x :: l, hd, hm => by
    simp only [DataW.weightsAll, List.mem_append]
    rcases List.mem_cons.1 hd with rfl | h
    · exact Or.inl hm
    · exact Or.inr (weightsAll_mem h hm)
theorem OpensW.slice {α : Type} [Inhabited α] {t e : TypeId} {d : Kd α} {wf : α → Prop} (ht : P.underlying t = some (.slice e)) (hsz : P.cellsOf e = d.sz) (h : OpensW enc P w e d wf) :
    OpensW enc P w t (Kd.slice e d) (fun xs => ∀ x ∈ xs, wf x) := fun n cs y hy hw => by
  rcases open_slice ht hy with ⟨rfl, rfl⟩ | ⟨a, len, cap, m, n', D, Pl, rfl, _, hl, hm, hmm, rfl, hi⟩
  · exact ⟨[], ⟨none, 0, rfl, Nat.le_refl _, Kd.C_nil d w⟩, (fun x hx => by cases hx)⟩
  · have hm' : m = cap := by simpa using hmm
    subst hm'
    obtain ⟨X, hX⟩ := choose_lt (α := α) (n := len) (p := fun i x => ∃ cs', w.cells? 0 (a.add (i * P.cellsOf e)) (P.cellsOf e) = some cs' ∧ d.K w x cs' ∧ wf x) (fun i hlt => by
      obtain ⟨cs', h1, h2⟩ := hi i (by omega)
      obtain ⟨x, k1, k2⟩ := h n' cs' _ h2 (fun q hq => hw q (by
        simp only [DataW.weights, ht, List.mem_cons, List.mem_append]
        exact Or.inr (Or.inl (weightsAll_mem (List.mem_map.2 ⟨i, List.mem_range.2 hlt, rfl⟩) hq))))
      exact ⟨x, cs', h1, k1, k2⟩)
    have hm63 : m ≤ 9223372036854775807 := by simpa [maxLen] using hm
    refine ⟨(List.range len).map X, ⟨some a, m, by simp, by simpa using hl, by simp, by simp; omega, fun _ => ⟨a, rfl, fun j p hj => ?_⟩⟩, ?_⟩
    · have hjl : j < len := by have := (List.getElem?_eq_some_iff.1 hj).1; simpa using this
      have hp : p = X j := by simpa [hjl] using hj.symm
      subst hp
      obtain ⟨cs', h1, k1, _⟩ := hX j hjl
      obtain ⟨_, hlen, hc⟩ := World.cells?_some h1
      rw [hsz] at hlen hc
      refine ⟨cs', hlen, k1, fun i u hu => ?_⟩
      have hil : i < d.sz := by have := (List.getElem?_eq_some_iff.1 hu).1; omega
      rw [← Go.Deep.add_add, hc i hil]
      exact hu
    · intro x hx
      obtain ⟨i, hi', rfl⟩ := List.mem_map.1 hx
      obtain ⟨_, _, _, k2⟩ := hX i (List.mem_range.1 hi')
      exact k2
theorem OpensW.arg_slice {α : Type} {t e : TypeId} {d : Kd α} {wf : List α → Prop} {a : Option Addr} {len cap : Nat} {D : DataW H} {ps : List MemPlace} {ts : List TypeId} {ds : List (DataW H)} {j : Nat}
    (h : OpensW enc P w t (Kd.slice e d) wf) (hsz : (DataW.weightsEach P ts ds).all (· ≤ reachBytes) = true) (hj : ts[j]? = some t) (hd : ds[j]? = some D) (ht : DataW.Trod enc P w 0 (fun _ => true) true t (.slice a len cap) D ps) : ∃ xs, len = xs.length ∧ len ≤ cap ∧ d.C w a xs.length xs ∧ wf xs ∧ True := by
  obtain ⟨fuel, hf⟩ := ht
  obtain ⟨xs, ⟨A, c, he, hc, hC⟩, h2⟩ := h fuel _ _ hf (fun m hm => by
    have := List.all_eq_true.1 hsz _ (DataW.weights_mem_each hj hd m hm)
    simpa using this)
  simp [Value.cells] at he
  obtain ⟨rfl, rfl, rfl⟩ := he
  exact ⟨xs, rfl, hc, hC, h2, trivial⟩
end
instance : Inhabited S45 := ⟨z45⟩
theorem OpensW.T45 {H : Type} {enc : TypeId × Value → H} {w : World} : OpensW enc Try.prog w 45 k45 (fun x => x.f2.length ≤ 140737488351232) := fun n cs y h hwt => by
  obtain ⟨xs, m, _, hy, hlen, hxl, hg⟩ := DataW.trod_struct Try.underlying45 h
  have hcs : cs.length = 3 := hlen.trans (by kernel_rfl)
  match cs, hcs with
  | [c0, c1, c2], _ =>
  match xs, hxl with
  | [y0, y1, y2], _ =>
    have g0 : DataW.trod enc Try.prog w 0 (fun _ => true) true m 3 (([c0, c1, c2].drop 0).take (Try.prog.cellsOf 3)) = some y0 := hg 0 _ rfl
    rw [show Try.prog.cellsOf 3 = 1 from by kernel_rfl] at g0
    have g1 : DataW.trod enc Try.prog w 0 (fun _ => true) true m 3 (([c0, c1, c2].drop 1).take (Try.prog.cellsOf 3)) = some y1 := hg 1 _ rfl
    rw [show Try.prog.cellsOf 3 = 1 from by kernel_rfl] at g1
    have g2 : DataW.trod enc Try.prog w 0 (fun _ => true) true m 22 (([c0, c1, c2].drop 2).take (Try.prog.cellsOf 22)) = some y2 := hg 2 _ rfl
    rw [show Try.prog.cellsOf 22 = 1 from by kernel_rfl] at g2
    obtain ⟨x0, q0, w0, m0⟩ := (Opens.int Try.underlying3) _ [c0] _ g0
    obtain ⟨x1, q1, w1, m1⟩ := (Opens.int Try.underlying3) _ [c1] _ g1
    obtain ⟨x2, q2, w2, m2⟩ := (Opens.slice Try.underlying22 (by kernel_rfl) (Opens.int Try.underlying5)) _ [c2] _ g2
    have u0 : [c0] = [.int .i64 x0] := q0
    simp only [List.cons.injEq, and_true] at u0
    subst u0
    have u1 : [c1] = [.int .i64 x1] := q1
    simp only [List.cons.injEq, and_true] at u1
    subst u1
    obtain ⟨A2, p2, u2, lq2, gq2⟩ := q2
    simp only [List.cons.injEq, and_true] at u2
    subst u2
    refine ⟨⟨x0, x1, x2⟩, k45_mk w ⟨x0, x1, x2⟩ lq2 gq2, ?_⟩
    subst hy
    have hall : (DataW.weightsEach Try.prog [3, 3, 22] [y0.1, y1.1, y2.1]).all (· ≤ reachBytes) = true := by
      refine List.all_eq_true.2 fun q hq => ?_
      have := hwt q (by simpa [DataW.weights, Try.underlying45] using hq)
      simpa using this
    have := sized_any (enc := enc) (w := w) (P := Try.prog) (a := A2) (len := x2.length) (cap := p2) (d := y2.1) (ps := y2.2) hall (j := 2) (t := 22) rfl rfl Try.underlying22 (B := 1) (by kernel_rfl) ⟨m, g2⟩
    show x2.length ≤ 140737488351232
    have lq : x2.length ≤ p2 := lq2
    omega
end Go.Proofs.Ytfdpbdaekfdnjaa.X
