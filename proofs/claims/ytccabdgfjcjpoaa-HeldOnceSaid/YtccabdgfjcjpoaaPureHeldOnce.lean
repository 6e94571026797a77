/- The law HeldOnce over numbers: tick by tick, each report is told once, rising, and only when more ticks than it tells have gone by. No condition. -/
import Derived.Test.YtccabdgfjcjpoaaXF5
import Derived.Test.YtccabdgfjcjpoaaQHeld
import Derived.Test.YtccabdgfjcjpoaaHOpens
namespace Go.Proofs.Ytccabdgfjcjpoaa.Pure
open Go.RowKit Go.Proofs.Ytccabdgfjcjpoaa.X Go.Proofs.YtccabdgfjcjpoaaW.PrintWords Go.Proofs.YtccabdgfjcjpoaaW.PrintLast Go.Proofs.YtccabdgfjcjpoaaW.PrintMore
set_option linter.unusedVariables false
set_option linter.unusedSimpArgs false

/-- How many reports are told before tick i, and the last one told. -/
def toldN (i : Nat) : Nat := if i ≤ 2 then 0 else if i ≤ 3 then 1 else if i ≤ 5 then 2 else if i ≤ 9 then 3 else if i ≤ 17 then 4 else if i ≤ 33 then 5 else if i ≤ 65 then 6 else 7
def lastN (i : Nat) : Int := if toldN i = 0 then 0 else 2 ^ (toldN i - 1)
theorem steps : ∀ i : Nat, i < 81 → (tickL (toldN i : Nat) (mx ((i : Int) - 1) 0) = [] ∧ toldN (i + 1) = toldN i) ∨
    (∃ r : Int, tickL (toldN i : Nat) (mx ((i : Int) - 1) 0) = [(r, ((toldN (i + 1) : Nat) : Int))] ∧ lastN (i + 1) = r ∧ lastN i < r ∧ r < (i : Int)) := by
  have h : ∀ i : Fin 81, (tickL (toldN i.val : Nat) (mx ((i.val : Int) - 1) 0) = [] ∧ toldN (i.val + 1) = toldN i.val) ∨
      (tickL (toldN i.val : Nat) (mx ((i.val : Int) - 1) 0) = [(lastN (i.val + 1), ((toldN (i.val + 1) : Nat) : Int))] ∧ lastN i.val < lastN (i.val + 1) ∧ lastN (i.val + 1) < (i.val : Int)) := by decide +kernel
  intro i hi
  rcases h ⟨i, hi⟩ with h | ⟨h1, h2, h3⟩
  · exact .inl h
  · exact .inr ⟨_, h1, rfl, h2, h3⟩
theorem ends : ∀ n : Nat, n < 80 → (n < 2 → lastN (n + 1) = 0) ∧ (2 ≤ n → lastN (n + 1) ≤ (n : Int) - 1 ∧ (2 * lastN (n + 1) > (n : Int) - 1 ∨ lastN (n + 1) = 64)) := by
  have h : ∀ n : Fin 80, (n.val < 2 → lastN (n.val + 1) = 0) ∧ (2 ≤ n.val → lastN (n.val + 1) ≤ (n.val : Int) - 1 ∧ (2 * lastN (n.val + 1) > (n.val : Int) - 1 ∨ lastN (n.val + 1) = 64)) := by decide +kernel
  exact fun n hn => h ⟨n, hn⟩
theorem lastN_bounds (i : Nat) : 0 ≤ lastN i ∧ lastN i ≤ 64 := by
  unfold lastN toldN
  repeat' split
  all_goals first | omega | decide

theorem off_loop (s : Int) (n : Nat) (h0 : 0 ≤ s) (h1 : s < 1000) (hn : n < 80) (m0 m1 : Int) (m2 : ByteArray) (v h : Int) (hb : m2.toList = []) (t : Int) :
    ∀ d i : Nat, i + d = n + 1 → ∃ k, mootlaw19_HeldOnce.l0 k s (n : Int) 0 (i : Int) m0 m1 m2 v h m2 s t = some true
  | 0, i, e => by
    refine ⟨1, ?_⟩
    rw [mootlaw19_HeldOnce.l0, if_neg (by omega), if_pos hb]
    rfl
  | d + 1, i, e => by
    obtain ⟨k, hk⟩ := off_loop s n h0 h1 hn m0 m1 m2 v h hb t d (i + 1) (by omega)
    refine ⟨k + 2, ?_⟩
    rw [mootlaw19_HeldOnce.l0, if_pos (by omega), tick_off _ _ _ _ _ _ hb, Option.bind_some]
    simp only []
    rw [mootlaw19_HeldOnce.l1, if_neg (by simp)]
    rw [show wrap64 ((i : Int) + 1) = ((i + 1 : Nat) : Int) by unfold wrap64; omega]
    exact hk
theorem on_loop (s : Int) (n : Nat) (h0 : 0 ≤ s) (h1 : s < 1000) (hn : n < 80) (m0 m1 : Int) (m2 : ByteArray) (v h : Int) (hb : ¬ m2.toList = []) :
    ∀ d i : Nat, i + d = n + 1 → ∃ k, mootlaw19_HeldOnce.l0 k s (n : Int) (lastN i) (i : Int) m0 m1 m2 v h m2 s ((toldN i : Nat) : Int) = some true
  | 0, i, e => by
    obtain ⟨e1, e2⟩ := ends n hn
    have hl := lastN_bounds i
    obtain rfl : i = n + 1 := by omega
    refine ⟨1, ?_⟩
    rw [mootlaw19_HeldOnce.l0, if_neg (by omega), if_neg hb]
    by_cases c : n < 2
    · rw [if_pos (by omega), e1 c]; rfl
    · have hw : wrap64 ((n : Int) - 1) = (n : Int) - 1 := by unfold wrap64; omega
      have hw2 : wrap64 (2 * lastN (n + 1)) = 2 * lastN (n + 1) := by unfold wrap64; omega
      obtain ⟨f1, f2⟩ := e2 (by omega)
      rw [if_neg (by omega), hw, hw2, if_pos f1]
      by_cases c2 : 2 * lastN (n + 1) > (n : Int) - 1
      · rw [if_pos c2]
      · rw [if_neg c2]
        rcases f2 with f2 | f2
        · exact absurd f2 c2
        · rw [f2]; rfl
  | d + 1, i, e => by
    obtain ⟨k, hk⟩ := on_loop s n h0 h1 hn m0 m1 m2 v h hb d (i + 1) (by omega)
    have hi : wrap64 ((i : Int) + 1) = ((i + 1 : Nat) : Int) := by unfold wrap64; omega
    have hs : wrap64 (s + (i : Int)) = s + i := by unfold wrap64; omega
    have ht : s + (i : Int) - s - 1 = (i : Int) - 1 := by omega
    rcases steps i (by omega) with ⟨p1, p2⟩ | ⟨r, p1, p2, p3, p4⟩
    · refine ⟨k + 2, ?_⟩
      rw [mootlaw19_HeldOnce.l0, if_pos (by omega), hs, tick_on _ _ _ _ _ _ hb (by omega) h0 (by omega) (by omega) (by omega), Option.bind_some]
      simp only [ht, p1]
      have q : lastTold ((toldN i : Nat) : Int) [] = ((toldN i : Nat) : Int) := rfl
      rw [mootlaw19_HeldOnce.l1, if_neg (by simp), q, hi, ← p2]
      have q2 : lastN i = lastN (i + 1) := by unfold lastN; rw [p2]
      rw [q2]
      exact hk
    · refine ⟨k + 3, ?_⟩
      rw [mootlaw19_HeldOnce.l0, if_pos (by omega), hs, tick_on _ _ _ _ _ _ hb (by omega) h0 (by omega) (by omega) (by omega), Option.bind_some]
      simp only [ht, p1]
      have q : lastTold ((toldN i : Nat) : Int) [(r, ((toldN (i + 1) : Nat) : Int))] = ((toldN (i + 1) : Nat) : Int) := rfl
      have q3 : rd (([(r, ((toldN (i + 1) : Nat) : Int))] : List (Int × Int)).map (·.1)) 0 = r := rfl
      rw [mootlaw19_HeldOnce.l1, if_pos (by simp), if_pos (by omega), q3, if_neg (by omega), if_neg (by omega), if_neg hb, q]
      rw [mootlaw19_HeldOnce.l1, if_neg (by simp [wrap64]), hi, ← p2]
      exact hk
theorem HeldOnce (x : S30) (a1 a2 : Int) (w0 : wfT30 x) (w1 : (Lit.int .i64 a1).wf = true) (w2 : (Lit.int .i64 a2).wf = true) : ∃ k, mootlaw19_HeldOnce.f k x.f0 x.f1 x.f2 a1 a2 = some true := by
  have hb1 := bounds_i64 w1
  have hb2 := bounds_i64 w2
  obtain ⟨s, hs⟩ : ∃ s, Int.tmod (wrap64 ((Int.tmod a1 1000) + 1000)) 1000 = s := ⟨_, rfl⟩
  obtain ⟨n, hn⟩ : ∃ n, Int.tmod (wrap64 ((Int.tmod a2 80) + 80)) 80 = n := ⟨_, rfl⟩
  have hr : -1000 < Int.tmod a1 1000 ∧ Int.tmod a1 1000 < 1000 := ⟨by have := Int.lt_tmod_of_pos a1 (b := 1000) (by omega); omega, Int.tmod_lt_of_pos a1 (by omega)⟩
  have hr2 : -80 < Int.tmod a2 80 ∧ Int.tmod a2 80 < 80 := ⟨by have := Int.lt_tmod_of_pos a2 (b := 80) (by omega); omega, Int.tmod_lt_of_pos a2 (by omega)⟩
  have hw : wrap64 ((Int.tmod a1 1000) + 1000) = (Int.tmod a1 1000) + 1000 := by unfold wrap64; omega
  have hw2 : wrap64 ((Int.tmod a2 80) + 80) = (Int.tmod a2 80) + 80 := by unfold wrap64; omega
  have h0 : 0 ≤ s ∧ s < 1000 := by
    rw [← hs, hw]
    exact ⟨Int.tmod_nonneg _ (by omega), Int.tmod_lt_of_pos _ (by omega)⟩
  have h1 : 0 ≤ n ∧ n < 80 := by
    rw [← hn, hw2]
    exact ⟨Int.tmod_nonneg _ (by omega), Int.tmod_lt_of_pos _ (by omega)⟩
  obtain ⟨n, rfl⟩ : ∃ m : Nat, n = m := ⟨n.toNat, by omega⟩
  have key : ∃ k, mootlaw19_HeldOnce.l0 k s (n : Int) 0 0 x.f0 x.f1 x.f2 x.f0 x.f1 x.f2 s 0 = some true := by
    by_cases hb : x.f2.toList = []
    · exact off_loop s n h0.1 h0.2 (by omega) _ _ _ _ _ hb 0 (n + 1) 0 (by omega)
    · exact on_loop s n h0.1 h0.2 (by omega) _ _ _ _ _ hb (n + 1) 0 (by omega)
  obtain ⟨k, hk⟩ := key
  refine ⟨k + 9, ?_⟩
  unfold mootlaw19_HeldOnce.f
  rw [alive19_at (k + 9) (by omega), Option.bind_some, if_pos rfl, hs, hn]
  unfold held_Start.f
  rw [Option.bind_some]
  exact at_rounds (fun k => (mootlaw19_HeldOnce.mono_l k).1 _ _ _ _ _ _ _ _ _ _ _ _) (by omega) hk
end Go.Proofs.Ytccabdgfjcjpoaa.Pure
