/- The law MempoolOnce over numbers and lists: of what is taken none is taken again, once it is done and dropped. No condition. -/
import Derived.Test.YtccabdgfjcjpoaaXF8
import Derived.Test.YtccabdgfjcjpoaaHOpens
namespace Go.Proofs.Ytccabdgfjcjpoaa.Pure
open Go.RowKit Go.Proofs.Ytccabdgfjcjpoaa.X Go.Proofs.YtccabdgfjcjpoaaW.PrintWords Go.Proofs.YtccabdgfjcjpoaaW.PrintLast Go.Proofs.YtccabdgfjcjpoaaW.PrintMore
set_option linter.unusedVariables false
set_option linter.unusedSimpArgs false
namespace Once

theorem alive15 : mootlaw15_alive.f = some true := by decide +kernel
theorem rdT_at (l : List S27) (i : Nat) (h : i < l.length) : rd_T27 l (i : Int) = l[i] := by simp [rd_T27, List.getD_eq_getElem?_getD, h]
theorem wrap_s (i : Nat) (h : i < 9223372036854775807) : wrap64 ((i : Int) + 1) = ((i + 1 : Nat) : Int) := by unfold wrap64; omega
theorem rd52_nonce (a : List S52) (i : Int) : (rd_T52 a i).f1 = (a.map (·.f1)).getD i.toNat 0 := by
  simp only [rd_T52, List.getD_eq_getElem?_getD, List.getElem?_map]
  cases a[i.toNat]? with
  | none => rfl
  | some x => rfl
/-- Do transactions fit, one behind the other? -/
def GoodF : List Int → List S27 → Prop
  | _, [] => True
  | ns, t :: ts => (0 ≤ t.f0 ∧ t.f0 < ns.length) ∧ ns.getD t.f0.toNat 0 = t.f3 ∧ GoodF (ns.set t.f0.toNat (wrap64 (t.f3 + 1))) ts
def endN : List Int → List S27 → List Int
  | ns, [] => ns
  | ns, t :: ts => endN (ns.set t.f0.toNat (wrap64 (t.f3 + 1))) ts
theorem takeN_good (l : List S27) : ∀ (n : Nat) (ns : List Int) (out : List S27), ∃ ts, takeN l n ns out = out ++ ts ∧ ts.length ≤ n ∧ GoodF ns ts
  | 0, ns, out => ⟨[], by simp [takeN], by simp, trivial⟩
  | n + 1, ns, out => by
    rw [takeN]
    cases h : l.find? (fitsT ns) with
    | none => exact ⟨[], by simp, by simp, trivial⟩
    | some t =>
      have hp := List.find?_some h
      have hf : (0 ≤ t.f0 ∧ t.f0 < ns.length) ∧ ns.getD t.f0.toNat 0 = t.f3 := by simpa [fitsT] using hp
      obtain ⟨ts, h1, h2, h3⟩ := takeN_good l n (ns.set t.f0.toNat (wrap64 (ns.getD t.f0.toNat 0 + 1))) (out ++ [t])
      refine ⟨t :: ts, ?_, ?_, hf.1, hf.2, ?_⟩
      · simp only [h1, List.append_assoc, List.cons_append, List.nil_append]
      · rw [List.length_cons]; omega
      · rw [← hf.2]; exact h3
theorem getD_set (ns : List Int) (i j : Nat) (x : Int) (hi : i < ns.length) : (ns.set i x).getD j 0 = if i = j then x else ns.getD j 0 := by
  simp only [List.getD_eq_getElem?_getD, List.getElem?_set]
  split
  · first | rfl | (rw [if_pos hi]; rfl)
  · rfl
theorem end_all : ∀ (ts : List S27) (ns : List Int) (b : Nat), GoodF ns ts → (∀ k, 0 ≤ ns.getD k 0 ∧ ns.getD k 0 ≤ (b : Int)) → b + ts.length ≤ 1000 →
    (∀ k, ns.getD k 0 ≤ (endN ns ts).getD k 0) ∧ (∀ t ∈ ts, t.f3 < (endN ns ts).getD t.f0.toNat 0) ∧ (endN ns ts).length = ns.length
  | [], ns, b, hg, hb, hl => ⟨fun k => Int.le_refl _, fun t ht => by simp at ht, rfl⟩
  | t :: ts, ns, b, hg, hb, hl => by
    obtain ⟨h0, h1, h2⟩ := hg
    rw [List.length_cons] at hl
    have hlt : t.f0.toNat < ns.length := by omega
    have hb0 := hb t.f0.toNat
    rw [h1] at hb0
    have hw : wrap64 (t.f3 + 1) = t.f3 + 1 := by unfold wrap64; omega
    have hle : ∀ k, ns.getD k 0 ≤ (ns.set t.f0.toNat (wrap64 (t.f3 + 1))).getD k 0 := by
      intro k
      rw [getD_set _ _ _ _ hlt, hw]
      split
      · rename_i h; subst h; rw [h1]; omega
      · exact Int.le_refl _
    obtain ⟨q1, q2, q3⟩ := end_all ts (ns.set t.f0.toNat (wrap64 (t.f3 + 1))) (b + 1) h2 (fun k => by
      have hk := hb k
      rw [getD_set _ _ _ _ hlt, hw]
      split <;> omega) (by omega)
    refine ⟨fun k => Int.le_trans (hle k) (q1 k), fun x hx => ?_, by rw [endN, q3, List.length_set]⟩
    rcases List.mem_cons.1 hx with rfl | hx
    · have := q1 x.f0.toNat
      rw [getD_set _ _ _ _ hlt, if_pos rfl, hw] at this
      rw [endN, hw] at *
      omega
    · exact q2 x hx
/-- The loops over all pairs. -/
theorem once_pairs (out left : List S27) (ho : out.length ≤ 4) (hl : left.length < 4611686018427387904) (hn : ∀ (i k : Nat) (hi : i < out.length) (hk : k < left.length), ¬ (left[k].f0 = out[i].f0 ∧ left[k].f3 ≤ out[i].f3)) :
    ∀ (d i : Nat), i + d = out.length → ∀ k, d * (left.length + 3) + 1 < k → mootlaw15_MempoolOnce.l1 k out left (i : Int) = some true := by
  intro d
  induction d with
  | zero =>
    intro i hi k hk
    obtain ⟨k, rfl⟩ : ∃ n, k = n + 1 := ⟨k - 1, by omega⟩
    rw [mootlaw15_MempoolOnce.l1, if_neg (by omega)]
  | succ d ih =>
    intro i hi k hk
    rw [Nat.succ_mul] at hk
    obtain ⟨L, hL⟩ : ∃ L, d * (left.length + 3) = L := ⟨_, rfl⟩
    rw [hL] at hk ih
    obtain ⟨k, rfl⟩ : ∃ n, k = n + 1 := ⟨k - 1, by omega⟩
    rw [mootlaw15_MempoolOnce.l1, if_pos (by omega)]
    have inner : ∀ (e j k : Nat), j + e = left.length → L + e + 2 < k → mootlaw15_MempoolOnce.l2 k out left (i : Int) (j : Int) = some true := by
      intro e
      induction e with
      | zero =>
        intro j k hj hk
        obtain ⟨k, rfl⟩ : ∃ n, k = n + 1 := ⟨k - 1, by omega⟩
        rw [mootlaw15_MempoolOnce.l2, if_neg (by omega), wrap_s i (by omega)]
        exact ih (i + 1) (by omega) k (by omega)
      | succ e ih2 =>
        intro j k hj hk
        obtain ⟨k, rfl⟩ : ∃ n, k = n + 1 := ⟨k - 1, by omega⟩
        have hii : i < out.length := by omega
        have hjj : j < left.length := by omega
        have := hn i j hii hjj
        rw [mootlaw15_MempoolOnce.l2, if_pos (by omega), if_pos (by omega), if_pos (by omega), if_pos (by omega), rdT_at left j hjj, rdT_at out i hii, wrap_s j (by omega), ih2 (j + 1) k (by omega) (by omega)]
        by_cases c : left[j].f0 = out[i].f0
        · rw [if_pos c, if_neg (fun h => this ⟨c, h⟩)]
        · rw [if_neg c]
    exact inner left.length 0 k (by omega) (by omega)
theorem once_set (l out : List S27) (hl : l.length * 48 ≤ 140737488351232) (ho : out.length ≤ 4) (ns0 : List Int) (h0 : ∀ t ∈ out, t.f3 < (endN ns0 out).getD t.f0.toNat 0) :
    ∀ (ts : List S27) (k i : Nat) (a : List S52), a.length = 4 → i ≤ out.length → out.drop i = ts → GoodF (a.map (·.f1)) ts → endN (a.map (·.f1)) ts = endN ns0 out → ts.length + 4 * (l.length + 3) + 10 < k → mootlaw15_MempoolOnce.l0 k l a out (i : Int) = some true
  | [], k, i, a, ha, hi, hd, hg, he, hk => by
    obtain ⟨k, rfl⟩ : ∃ n, k = n + 1 := ⟨k - 1, by omega⟩
    have hle : out.length ≤ i := List.drop_eq_nil_iff.1 hd
    rw [mootlaw15_MempoolOnce.l0, if_neg (by omega), mempool_Drop.f, if_pos (by omega), Option.bind_some]
    obtain ⟨left, hleft⟩ : ∃ left, l.filter (fun t => !dropT a t) = left := ⟨_, rfl⟩
    rw [hleft]
    have hll : left.length ≤ l.length := by rw [← hleft]; exact List.length_filter_le _ _
    have hm : out.length * (left.length + 3) ≤ 4 * (l.length + 3) := Nat.mul_le_mul ho (by omega)
    refine once_pairs out left ho (by omega) (fun i k hi hk h => ?_) out.length 0 (by omega) k (by simp only [List.length_nil] at *; omega)
    have hin : left[k] ∈ l.filter (fun t => !dropT a t) := by rw [hleft]; exact List.getElem_mem hk
    have hnd := (List.mem_filter.1 hin).2
    have h3 := h0 out[i] (List.getElem_mem hi)
    rw [← he, endN] at h3
    have hd2 : (0 ≤ left[k].f0 ∧ left[k].f0 < (a.length : Int)) ∧ (rd_T52 a left[k].f0).f1 ≤ left[k].f3 := by
      simp only [dropT, Bool.not_eq_true', Bool.or_eq_false_iff, decide_eq_false_iff_not] at hnd
      omega
    rw [rd52_nonce, h.1] at hd2
    have := h.2
    omega
  | t :: ts, k, i, a, ha, hi, hd, hg, he, hk => by
    rw [List.length_cons] at hk
    obtain ⟨k, rfl⟩ : ∃ n, k = n + 1 := ⟨k - 1, by omega⟩
    have hlt : i < out.length := by
      rcases Nat.lt_or_ge i out.length with h | h
      · exact h
      · rw [List.drop_of_length_le h] at hd; cases hd
    have hc := List.drop_eq_getElem_cons hlt
    rw [hd] at hc
    have h1 : out[i] = t := (List.cons.inj hc).1.symm
    have h2 : out.drop (i + 1) = ts := (List.cons.inj hc).2.symm
    obtain ⟨g1, g2, g3⟩ := hg
    rw [List.length_map, ha] at g1
    have hmap : ∀ b : Int, (a.set t.f0.toNat ⟨b, wrap64 (t.f3 + 1)⟩).map (·.f1) = (a.map (·.f1)).set t.f0.toNat (wrap64 (t.f3 + 1)) := fun b => by rw [List.map_set]
    rw [mootlaw15_MempoolOnce.l0, if_pos (by omega), if_pos (by omega), rdT_at out i hlt, h1, if_pos (by omega), if_pos (by omega), if_pos (by omega), if_pos (by omega), wrap_s i (by omega)]
    refine once_set l out hl ho ns0 h0 ts k (i + 1) _ (by rw [List.length_set]; exact ha) (by omega) h2 (by rw [hmap]; exact g3) (by rw [hmap]; exact he) (by omega)
end Once
theorem MempoolOnce (l0 : List S27) (w0 : ∀ z ∈ l0, wfT27 z) (z0 : l0.length * 48 ≤ 140737488351232) : ∃ k, mootlaw15_MempoolOnce.f k l0 = some true := by
  refine ⟨4 * (l0.length + 3) + 100, ?_⟩
  unfold mootlaw15_MempoolOnce.f
  rw [Once.alive15, Option.bind_some, if_pos rfl, mootref14_Accounts.f, Option.bind_some, mempool_Take.f, Option.bind_some]
  obtain ⟨ts, h1, h2, h3⟩ := Once.takeN_good l0 4 (([⟨250, 0⟩, ⟨250, 0⟩, ⟨250, 0⟩, ⟨250, 0⟩] : List S52).map (·.f1)) []
  rw [h1, List.nil_append]
  have he := Once.end_all ts _ 0 h3 (fun k => by
    rcases k with _ | _ | _ | _ | k <;> simp [List.getD_eq_getElem?_getD]) (by omega)
  exact Once.once_set l0 ts z0 h2 _ he.2.1 ts _ 0 _ rfl (Nat.zero_le _) List.drop_zero h3 rfl (by omega)
end Go.Proofs.Ytccabdgfjcjpoaa.Pure
