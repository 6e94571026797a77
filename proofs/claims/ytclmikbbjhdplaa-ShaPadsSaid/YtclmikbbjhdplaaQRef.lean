/- The reference's Put, Join and Pad: what they come to. -/
import Derived.Test.YtclmikbbjhdplaaQJoin
import Derived.Test.YtclmikbbjhdplaaXF25
import Derived.Test.YtclmikbbjhdplaaXF28
import Derived.Test.YtclmikbbjhdplaaXF35
namespace Go.Proofs.Ytclmikbbjhdplaa.X
open Go.RowKit Go.Proofs.YtclmikbbjhdplaaW.PrintWords Go.Proofs.YtclmikbbjhdplaaW.PrintLast Go.Proofs.YtclmikbbjhdplaaW.PrintMore
set_option linter.unusedVariables false
set_option linter.unusedSimpArgs false

theorem shr_byte (u : Int) (e : Nat) (he : e < 8) : shr .u64 u (8 * (e : Int)) = u / 256 ^ e := by
  unfold shr
  have h1 : (8 * (e : Int)).toNat = 8 * e := by omega
  have h2 : min (8 * e) IntKind.u64.bits = 8 * e := Nat.min_eq_left (by have : IntKind.u64.bits = 64 := rfl; omega)
  rw [h1, h2, Int.pow_mul]
  rfl
theorem refput_l0 (n : Int) (s : Nat) (hs : s ≤ 8) : ∀ (d k i : Nat) (acc : List Int), i + d = s → d < k → acc.length + d ≤ 1000 →
    mootref01_Put.l0 k n (s : Int) acc (i : Int) = some (acc ++ putL (IntKind.u64.wrap n) d)
  | 0, k, i, acc, hd, hk, ha => by
    obtain ⟨k, rfl⟩ : ∃ m, k = m + 1 := ⟨k - 1, by omega⟩
    rw [mootref01_Put.l0, if_neg (by omega)]
    simp [putL]
  | d + 1, k, i, acc, hd, hk, ha => by
    obtain ⟨k, rfl⟩ : ∃ m, k = m + 1 := ⟨k - 1, by omega⟩
    have hw : wrap64 ((i : Int) + 1) = ((i + 1 : Nat) : Int) := by rw [wrap64_id _ (by omega) (by omega)]; rfl
    have h1 : IntKind.u64.wrap (wrap64 (8 * (wrap64 ((wrap64 ((s : Int) - 1)) - (i : Int))))) = 8 * (d : Int) := by
      rw [wrap64_id ((s : Int) - 1) (by omega) (by omega), wrap64_id ((s : Int) - 1 - i) (by omega) (by omega), wrap64_id _ (by omega) (by omega), IntKind.wrap_u64]
      omega
    rw [mootref01_Put.l0, if_pos (by omega), h1, if_pos (by omega), if_pos (by omega), hw, shr_byte _ d (by omega)]
    rw [refput_l0 n s hs d k (i + 1) _ (by omega) (by omega) (by simp only [List.length_append, List.length_cons, List.length_nil]; omega), List.append_assoc]
    rfl
theorem mn_mx8 (a : Int) : ∃ s : Nat, mn (mx a 0) 8 = (s : Int) ∧ s ≤ 8 ∧ (mn (mx a 0) 8).toNat = s := by
  refine ⟨(mn (mx a 0) 8).toNat, ?_, ?_, rfl⟩ <;> (unfold mn mx; split <;> split <;> omega)
theorem refput_f (n a : Int) (k : Nat) (hk : 9 ≤ k) : mootref01_Put.f k n a = octets_Put.f n a := by
  obtain ⟨s, e, hs, e2⟩ := mn_mx8 a
  unfold mootref01_Put.f octets_Put.f
  rw [e2, e]
  have := refput_l0 n s hs s k 0 [] (by omega) (by omega) (by simp; omega)
  simpa using this
theorem refput8 (n : Int) (k : Nat) (hk : 9 ≤ k) : mootref01_Put.f k n 8 = some (putL (IntKind.u64.wrap n) 8) := by
  rw [refput_f n 8 k hk]
  rfl
theorem refjoin_l0 (l : List (List Int)) (hl : l.length < 9223372036854775807) : ∀ (d k i : Nat) (acc : List Int), i + d = l.length → d < k → acc.length + tot (l.drop i) < 140737488355328 →
    mootref01_Join.l0 k l acc (i : Int) = some (acc ++ (l.drop i).flatten)
  | 0, k, i, acc, hd, hk, ha => by
    obtain ⟨k, rfl⟩ : ∃ m, k = m + 1 := ⟨k - 1, by omega⟩
    rw [mootref01_Join.l0, if_neg (by omega), List.drop_of_length_le (by omega)]
    simp
  | d + 1, k, i, acc, hd, hk, ha => by
    obtain ⟨k, rfl⟩ : ∃ m, k = m + 1 := ⟨k - 1, by omega⟩
    have hi : i < l.length := by omega
    have hs : wrap64 ((i : Int) + 1) = ((i + 1 : Nat) : Int) := by rw [wrap64_id _ (by omega) (by omega)]; rfl
    rw [List.drop_eq_getElem_cons hi, tot_cons] at ha
    rw [mootref01_Join.l0, if_pos (by omega), if_pos (by omega), rdL2_at l i hi, if_pos (by omega), hs]
    rw [refjoin_l0 l hl d k (i + 1) _ (by omega) (by omega) (by rw [List.length_append]; omega), List.append_assoc, List.drop_eq_getElem_cons hi]
    rfl
theorem refjoin_f (l : List (List Int)) (hl : l.length < 9223372036854775807) (ht : tot l < 140737488355328) (k : Nat) (hk : l.length < k) : mootref01_Join.f k l = some l.flatten := by
  unfold mootref01_Join.f
  have := refjoin_l0 l hl l.length k 0 [] (by omega) hk (by simpa using ht)
  simpa using this
theorem refpad_l0 (l : List Int) (hl : l.length ≤ 140737488351232) : ∀ (z k : Nat) (acc : List Int), z = (119 - (acc.length + 63) % 64) % 64 → z + 9 < k → acc.length + z + 8 < 140737488355328 →
    mootref01_Pad.l0 k l acc = some (acc ++ (List.replicate z 0 ++ putL (IntKind.u64.wrap (8 * (l.length : Int))) 8))
  | 0, k, acc, hz, hk, ha => by
    obtain ⟨k, rfl⟩ : ∃ m, k = m + 1 := ⟨k - 1, by omega⟩
    have hw : wrap64 (8 * (l.length : Int)) = 8 * (l.length : Int) := wrap64_id _ (by omega) (by omega)
    rw [mootref01_Pad.l0, if_pos (by omega), hw, refput8 _ k (by omega), Option.bind_some, if_pos (by rw [putL_len]; omega)]
    simp
  | z + 1, k, acc, hz, hk, ha => by
    obtain ⟨k, rfl⟩ : ∃ m, k = m + 1 := ⟨k - 1, by omega⟩
    rw [mootref01_Pad.l0, if_neg (by omega), if_pos (by omega)]
    rw [refpad_l0 l hl z k (acc ++ [0]) (by simp only [List.length_append, List.length_cons, List.length_nil]; omega) (by omega) (by simp only [List.length_append, List.length_cons, List.length_nil]; omega)]
    simp [List.replicate_succ]
theorem refpad_f (l : List Int) (hl : l.length ≤ 140737488351232) (k : Nat) (hk : 80 ≤ k) : mootref01_Pad.f k l = some (padL l) := by
  unfold mootref01_Pad.f
  rw [if_pos (by simp; omega), Option.bind_some, if_pos (by simp; omega)]
  rw [refpad_l0 l hl _ k ([] ++ l ++ [128]) rfl (by omega) (by simp only [List.nil_append, List.length_append, List.length_cons, List.length_nil]; omega)]
  have : (119 - ((([] ++ l ++ [128] : List Int).length) + 63) % 64) % 64 = (119 - l.length % 64) % 64 := by simp only [List.nil_append, List.length_append, List.length_cons, List.length_nil]; omega
  rw [this]
  simp [padL]
end Go.Proofs.Ytclmikbbjhdplaa.X
