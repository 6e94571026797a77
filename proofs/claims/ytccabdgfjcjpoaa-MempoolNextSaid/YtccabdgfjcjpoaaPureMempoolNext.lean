/- The law MempoolNext over numbers and lists: what is taken can be done, one behind the other. No condition. -/
import Derived.Test.YtccabdgfjcjpoaaXF7
import Derived.Test.YtccabdgfjcjpoaaHOpens
namespace Go.Proofs.Ytccabdgfjcjpoaa.Pure
open Go.RowKit Go.Proofs.Ytccabdgfjcjpoaa.X Go.Proofs.YtccabdgfjcjpoaaW.PrintWords Go.Proofs.YtccabdgfjcjpoaaW.PrintLast Go.Proofs.YtccabdgfjcjpoaaW.PrintMore
set_option linter.unusedVariables false
set_option linter.unusedSimpArgs false
namespace Next

theorem alive15 : mootlaw15_alive.f = some true := by decide +kernel
theorem rdT_at (l : List S27) (i : Nat) (h : i < l.length) : rd_T27 l (i : Int) = l[i] := by simp [rd_T27, List.getD_eq_getElem?_getD, h]
theorem wrap_s (i : Nat) (h : i < 9223372036854775807) : wrap64 ((i : Int) + 1) = ((i + 1 : Nat) : Int) := by unfold wrap64; omega
/-- What is taken, without what was taken ahead. -/
def takeR (l : List S27) : Nat → List Int → List S27
  | 0, _ => []
  | n + 1, ns => match l.find? (fitsT ns) with
    | none => []
    | some t => t :: takeR l n (ns.set t.f0.toNat (wrap64 (ns.getD t.f0.toNat 0 + 1)))
theorem takeN_eq (l : List S27) : ∀ (n : Nat) (ns : List Int) (out : List S27), takeN l n ns out = out ++ takeR l n ns
  | 0, ns, out => by simp [takeN, takeR]
  | n + 1, ns, out => by
    rw [takeN, takeR]
    cases l.find? (fitsT ns) with
    | none => simp
    | some t => simp only [takeN_eq l n, List.append_assoc, List.cons_append, List.nil_append]
theorem takeR_len (l : List S27) : ∀ (n : Nat) (ns : List Int), (takeR l n ns).length ≤ n
  | 0, ns => by simp [takeR]
  | n + 1, ns => by
    rw [takeR]
    cases l.find? (fitsT ns) with
    | none => simp
    | some t => simp only [List.length_cons]; have := takeR_len l n (ns.set t.f0.toNat (wrap64 (ns.getD t.f0.toNat 0 + 1))); omega
def TxOK (t : S27) : Prop := mootref06_Tx.f t.f0 t.f1 t.f2 t.f3 t.f4 = some 0
theorem tx_some (t : S27) : ∃ r, mootref06_Tx.f t.f0 t.f1 t.f2 t.f3 t.f4 = some r ∧ (r = 0 → TxOK t) ∧ (r = 0 → 0 ≤ t.f0 ∧ t.f0 ≤ 3 ∧ 0 ≤ t.f1 ∧ t.f1 ≤ 3) := by
  unfold TxOK mootref06_Tx.f
  (repeat' split) <;> refine ⟨_, rfl, ?_, ?_⟩ <;> first | (intro h; exact absurd h (by decide)) | (intro _; rfl) | (intro _; omega)
theorem tx_range (t : S27) (h : TxOK t) : 0 ≤ t.f0 ∧ t.f0 ≤ 3 ∧ 0 ≤ t.f1 ∧ t.f1 ≤ 3 := by
  obtain ⟨r, h1, _, h3⟩ := tx_some t
  have : r = 0 := by
    have := h1.symm.trans h
    exact Option.some.inj this
  exact h3 this
/-- Can they be done, one behind the other, by accounts of which these are the numbers? -/
def GoodN : List Int → List S27 → Prop
  | _, [] => True
  | ns, t :: ts => TxOK t ∧ ns.getD t.f0.toNat 0 = t.f3 ∧ GoodN (ns.set t.f0.toNat (wrap64 (ns.getD t.f0.toNat 0 + 1))) ts
theorem takeR_good (l : List S27) (hl : ∀ t ∈ l, TxOK t) : ∀ (n : Nat) (ns : List Int), GoodN ns (takeR l n ns)
  | 0, ns => trivial
  | n + 1, ns => by
    rw [takeR]
    cases h : l.find? (fitsT ns) with
    | none => trivial
    | some t =>
      have hm := List.mem_of_find?_eq_some h
      have hp := List.find?_some h
      have hf : (0 ≤ t.f0 ∧ t.f0 < ns.length) ∧ ns.getD t.f0.toNat 0 = t.f3 := by simpa [fitsT] using hp
      exact ⟨hl t hm, hf.2, takeR_good l hl n _⟩
theorem rd52_nonce (a : List S52) (i : Int) : (rd_T52 a i).f1 = (a.map (·.f1)).getD i.toNat 0 := by
  simp only [rd_T52, List.getD_eq_getElem?_getD, List.getElem?_map]
  cases a[i.toNat]? with
  | none => rfl
  | some x => rfl
theorem set_same (a : List S52) (i : Int) (b : Int) : ((a.set i.toNat ⟨b, (rd_T52 a i).f1⟩).map (·.f1)) = a.map (·.f1) := by
  rw [List.map_set, rd52_nonce]
  apply List.ext_getElem?
  intro j
  rw [List.getElem?_set]
  split
  · rename_i h
    subst h
    split
    · rename_i h
      rw [List.getD_eq_getElem?_getD, List.getElem?_eq_getElem h]
      rfl
    · rename_i h
      rw [List.getElem?_eq_none (by omega)]
  · rfl
theorem apply_all (k : Nat) (a : List S52) (t : S27) (ha : a.length = 4) : ∃ r : List S52 × Int, mootref14_Apply.f (k + 1) a t.f0 t.f1 t.f2 t.f3 t.f4 = some r ∧ r.1.length = 4 ∧
    (TxOK t → (a.map (·.f1)).getD t.f0.toNat 0 = t.f3 → r.2 ≠ 9 ∧ r.2 ≠ 72 ∧ r.1.map (·.f1) = (a.map (·.f1)).set t.f0.toNat (wrap64 ((a.map (·.f1)).getD t.f0.toNat 0 + 1))) := by
  obtain ⟨e, h1, h2, h3⟩ := tx_some t
  have hbad : (if e = 0 then (if t.f0 ≥ (a.length : Int) then (mootref14_Apply.j0 (k + 1) a ([] ++ a) true t.f0 t.f1 t.f2 t.f3 t.f4) else (mootref14_Apply.j0 (k + 1) a ([] ++ a) (decide (t.f1 ≥ (a.length : Int))) t.f0 t.f1 t.f2 t.f3 t.f4)) else (mootref14_Apply.j0 (k + 1) a ([] ++ a) true t.f0 t.f1 t.f2 t.f3 t.f4)) = mootref14_Apply.f (k + 1) a t.f0 t.f1 t.f2 t.f3 t.f4 := by
    unfold mootref14_Apply.f
    rw [Option.bind_some, if_pos (show ([] : List S52).length + a.length < 8796093022208 by rw [List.length_nil]; omega), Option.bind_some, h1, Option.bind_some]
  rw [← hbad]
  by_cases c : e = 0
  · obtain ⟨r0, r1, r2, r3⟩ := h3 c
    rw [if_pos c, if_neg (by omega), decide_eq_false (by omega), mootref14_Apply.j0, if_neg (by decide), if_pos r0, if_pos (by omega), List.nil_append]
    by_cases c2 : t.f3 = (rd_T52 a t.f0).f1
    · rw [if_pos c2, if_pos (by omega), Option.bind_some]
      have hn : ∀ b : Int, ((a.set t.f0.toNat ⟨b, wrap64 ((rd_T52 a t.f0).f1 + 1)⟩).map (·.f1)) = (a.map (·.f1)).set t.f0.toNat (wrap64 ((a.map (·.f1)).getD t.f0.toNat 0 + 1)) := by
        intro b
        rw [List.map_set, rd52_nonce]
      by_cases c3 : (rd_T52 a t.f0).f0 < t.f2
      · rw [if_pos c3]
        exact ⟨_, rfl, by simp [ha], fun _ _ => ⟨show (73 : Int) ≠ 9 by decide, show (73 : Int) ≠ 72 by decide, hn _⟩⟩
      · rw [if_neg c3, Option.bind_some, if_pos r2, if_pos (by omega)]
        exact ⟨_, rfl, by simp [ha], fun _ _ => ⟨show (0 : Int) ≠ 9 by decide, show (0 : Int) ≠ 72 by decide, by rw [set_same, set_same, hn]⟩⟩
    · rw [if_neg c2]
      exact ⟨_, rfl, ha, fun _ h => absurd (by rw [rd52_nonce]; exact h.symm) c2⟩
  · rw [if_neg c, mootref14_Apply.j0, if_pos rfl, List.nil_append]
    exact ⟨_, rfl, ha, fun h _ => absurd (Option.some.inj (h1.symm.trans h)) c⟩
theorem next_l2 (x9 : List S27) (hx : x9.length ≤ 4) : ∀ (ts : List S27) (k i : Nat) (a : List S52), a.length = 4 → i ≤ x9.length → x9.drop i = ts → GoodN (a.map (·.f1)) ts → ts.length + 1 < k → mootlaw15_MempoolNext.l2 k a x9 (i : Int) = some true
  | [], k, i, a, ha, hi, hd, hg, hk => by
    obtain ⟨k, rfl⟩ : ∃ n, k = n + 1 := ⟨k - 1, by omega⟩
    have : x9.length ≤ i := List.drop_eq_nil_iff.1 hd
    rw [mootlaw15_MempoolNext.l2, if_neg (by omega), decide_eq_true (by omega)]
  | t :: ts, k, i, a, ha, hi, hd, hg, hk => by
    rw [List.length_cons] at hk
    obtain ⟨k, rfl⟩ : ∃ n, k = n + 2 := ⟨k - 2, by omega⟩
    have hlt : i < x9.length := by
      rcases Nat.lt_or_ge i x9.length with h | h
      · exact h
      · rw [List.drop_of_length_le h] at hd; cases hd
    have hc := List.drop_eq_getElem_cons hlt
    rw [hd] at hc
    have h1 : x9[i] = t := (List.cons.inj hc).1.symm
    have h2 : x9.drop (i + 1) = ts := (List.cons.inj hc).2.symm
    obtain ⟨r, e1, e2, e3⟩ := apply_all k a t ha
    obtain ⟨q1, q2, q3⟩ := e3 hg.1 hg.2.1
    rw [mootlaw15_MempoolNext.l2, if_pos (by omega), if_pos (by omega), rdT_at x9 i hlt, h1, e1, Option.bind_some, if_neg q1, if_neg q2, wrap_s i (by omega)]
    exact next_l2 x9 hx ts (k + 1) (i + 1) r.1 e2 (by omega) h2 (by rw [q3]; exact hg.2.2) (by omega)
theorem next_l1 (l : List S27) (hl : l.length * 48 ≤ 140737488351232) (a : List S52) (ha : a.length = 4) : ∀ (d k i : Nat) (acc : List S27), i + d = l.length → acc.length ≤ i → (∀ t ∈ acc, TxOK t) → d + 10 < k → mootlaw15_MempoolNext.l1 k l a acc (i : Int) = some true
  | 0, k, i, acc, hd, hc, hok, hk => by
    obtain ⟨k, rfl⟩ : ∃ n, k = n + 1 := ⟨k - 1, by omega⟩
    rw [mootlaw15_MempoolNext.l1, if_neg (by omega), mempool_Take.f, Option.bind_some, takeN_eq, List.nil_append]
    have hlen := takeR_len acc 4 (a.map (·.f1))
    exact next_l2 _ hlen (takeR acc 4 (a.map (·.f1))) k 0 a ha (Nat.zero_le _) List.drop_zero (takeR_good acc hok 4 _) (by omega)
  | d + 1, k, i, acc, hd, hc, hok, hk => by
    obtain ⟨k, rfl⟩ : ∃ n, k = n + 1 := ⟨k - 1, by omega⟩
    obtain ⟨e, h1, h2, _⟩ := tx_some (rd_T27 l (i : Int))
    rw [mootlaw15_MempoolNext.l1, if_pos (by omega), if_pos (by omega), h1, Option.bind_some, wrap_s i (by omega)]
    by_cases c : e = 0
    · rw [if_pos c, if_pos (by omega)]
      refine next_l1 l hl a ha d k (i + 1) _ (by omega) (by simp; omega) (fun t ht => ?_) (by omega)
      rw [List.mem_append, List.mem_singleton] at ht
      rcases ht with ht | rfl
      · exact hok t ht
      · exact h2 c
    · rw [if_neg c]
      exact next_l1 l hl a ha d k (i + 1) _ (by omega) (by omega) hok (by omega)
theorem next_j1 (l : List S27) (hl : l.length * 48 ≤ 140737488351232) (a : List S52) (ha : a.length = 4) (k : Nat) (hk : l.length + 20 < k) : mootlaw15_MempoolNext.j1 k l a = some true := by
  obtain ⟨k, rfl⟩ : ∃ n, k = n + 1 := ⟨k - 1, by omega⟩
  rw [mootlaw15_MempoolNext.j1]
  exact next_l1 l hl a ha l.length k 0 [] (by omega) (by simp) (by simp) (by omega)
theorem next_l0 (l x1 : List S27) (hl : l.length * 48 ≤ 140737488351232) : ∀ (d k i : Nat) (a : List S52), a.length = 4 → i + d = 8 → d + l.length + 30 < k → mootlaw15_MempoolNext.l0 k l x1 a (i : Int) = some true
  | 0, k, i, a, ha, hd, hk => by
    obtain ⟨k, rfl⟩ : ∃ n, k = n + 1 := ⟨k - 1, by omega⟩
    have hj := next_j1 l hl a ha k (by omega)
    rw [mootlaw15_MempoolNext.l0, if_neg (show ¬ (i : Int) < 8 by omega), hj]
    split <;> rfl
  | d + 1, k, i, a, ha, hd, hk => by
    obtain ⟨k, rfl⟩ : ∃ n, k = n + 2 := ⟨k - 2, by omega⟩
    have hj := next_j1 l hl a ha (k + 1) (by omega)
    rw [mootlaw15_MempoolNext.l0, hj]
    by_cases c : (i : Int) < (x1.length : Int)
    · obtain ⟨r, e1, e2, _⟩ := apply_all k a (rd_T27 x1 (i : Int)) ha
      rw [if_pos c, if_pos (by omega), if_pos (by omega), e1, Option.bind_some, wrap_s i (by omega)]
      exact next_l0 l x1 hl d (k + 1) (i + 1) r.1 e2 (by omega) (by omega)
    · rw [if_neg c]
end Next
theorem MempoolNext (l0 l1 : List S27) (w0 : ∀ z ∈ l0, wfT27 z) (z0 : l0.length * 48 ≤ 140737488351232) (w1 : ∀ z ∈ l1, wfT27 z) (z1 : l1.length * 48 ≤ 140737488351232) : ∃ k, mootlaw15_MempoolNext.f k l0 l1 = some true := by
  refine ⟨l0.length + 100, ?_⟩
  unfold mootlaw15_MempoolNext.f
  rw [Next.alive15, Option.bind_some, if_pos rfl, mootref14_Accounts.f, Option.bind_some]
  exact Next.next_l0 l0 l1 z0 8 _ 0 _ rfl (by omega) (by omega)
end Go.Proofs.Ytccabdgfjcjpoaa.Pure
