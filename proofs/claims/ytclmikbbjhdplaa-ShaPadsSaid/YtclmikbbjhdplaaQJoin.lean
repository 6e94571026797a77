/- Lists of octets put together, padded, and summed: what the printed functions come to. -/
import Derived.Test.YtclmikbbjhdplaaHSum
import Derived.Test.YtclmikbbjhdplaaQWords
import Derived.Test.YtclmikbbjhdplaaXF20
import Derived.Test.YtclmikbbjhdplaaXF34
namespace Go.Proofs.Ytclmikbbjhdplaa.X
open Go.RowKit Go.Proofs.YtclmikbbjhdplaaW.PrintWords Go.Proofs.YtclmikbbjhdplaaW.PrintLast Go.Proofs.YtclmikbbjhdplaaW.PrintMore
set_option linter.unusedVariables false
set_option linter.unusedSimpArgs false

/-- How many octets there are in all. -/
def tot (l : List (List Int)) : Nat := (l.map List.length).sum
theorem tot_cons (x : List Int) (l : List (List Int)) : tot (x :: l) = x.length + tot l := by simp [tot]
theorem tot_flatten (l : List (List Int)) : l.flatten.length = tot l := by simp [tot, List.length_flatten]
theorem rdL2_at (l : List (List Int)) (i : Nat) (h : i < l.length) : rd_L2 l (i : Int) = l[i] := by simp [rd_L2, List.getD_eq_getElem?_getD, h]
theorem concat_l1 (l : List (List Int)) (hl : l.length < 9223372036854775807) : ∀ (d k i : Nat) (acc : List Int), i + d = l.length → d < k → acc.length + tot (l.drop i) < 140737488355328 →
    slices_Concat_byte_byte.l1 k acc l (l.length : Int) (i : Int) = some (acc ++ (l.drop i).flatten)
  | 0, k, i, acc, hd, hk, ha => by
    obtain ⟨k, rfl⟩ : ∃ m, k = m + 1 := ⟨k - 1, by omega⟩
    rw [slices_Concat_byte_byte.l1, if_neg (by omega), List.drop_of_length_le (by omega)]
    simp
  | d + 1, k, i, acc, hd, hk, ha => by
    obtain ⟨k, rfl⟩ : ∃ m, k = m + 1 := ⟨k - 1, by omega⟩
    have hi : i < l.length := by omega
    have hs : wrap64 ((i : Int) + 1) = ((i + 1 : Nat) : Int) := by rw [wrap64_id _ (by omega) (by omega)]; rfl
    rw [List.drop_eq_getElem_cons hi, tot_cons] at ha
    rw [slices_Concat_byte_byte.l1, if_pos (by omega), if_pos (by omega), if_pos (by omega), rdL2_at l i hi, if_pos (by omega), hs]
    rw [concat_l1 l hl d k (i + 1) _ (by omega) (by omega) (by rw [List.length_append]; omega), List.append_assoc, List.drop_eq_getElem_cons hi]
    rfl
theorem concat_l0 (l : List (List Int)) (hl : l.length < 9223372036854775807) (ht : tot l < 140737488355328) : ∀ (d k i : Nat) (s : Int), i + d = l.length → d + l.length + 1 < k → 0 ≤ s → s + tot (l.drop i) = tot l →
    slices_Concat_byte_byte.l0 k l s l (l.length : Int) (i : Int) = some l.flatten
  | 0, k, i, s, hd, hk, h0, hs => by
    obtain ⟨k, rfl⟩ : ∃ m, k = m + 1 := ⟨k - 1, by omega⟩
    rw [List.drop_of_length_le (by omega)] at hs
    have : tot [] = 0 := rfl
    rw [slices_Concat_byte_byte.l0, if_neg (by omega), if_pos h0, if_pos (by omega)]
    have := concat_l1 l hl l.length k 0 [] (by omega) (by omega) (by simpa using ht)
    simpa using this
  | d + 1, k, i, s, hd, hk, h0, hs => by
    obtain ⟨k, rfl⟩ : ∃ m, k = m + 1 := ⟨k - 1, by omega⟩
    have hi : i < l.length := by omega
    have hw : wrap64 ((i : Int) + 1) = ((i + 1 : Nat) : Int) := by rw [wrap64_id _ (by omega) (by omega)]; rfl
    rw [List.drop_eq_getElem_cons hi, tot_cons] at hs
    have hw2 : wrap64 (s + (l[i].length : Int)) = s + (l[i].length : Int) := wrap64_id _ (by omega) (by omega)
    rw [slices_Concat_byte_byte.l0, if_pos (by omega), if_pos (by omega), if_pos (by omega), rdL2_at l i hi, hw2, if_neg (by omega), hw]
    exact concat_l0 l hl ht d k (i + 1) _ (by omega) (by omega) (by omega) (by omega)
theorem join_f (l : List (List Int)) (hl : l.length < 4611686018427387904) (ht : tot l < 140737488355328) (k : Nat) (hk : 2 * l.length + 2 ≤ k) : octets_Join.f k l = some l.flatten := by
  unfold octets_Join.f slices_Concat_byte_byte.f
  rw [show (0 : Int) = ((0 : Nat) : Int) from rfl]
  rw [concat_l0 l (by omega) ht l.length k 0 _ (by omega) (by omega) (by omega) (by simp), Option.bind_some]

/-- A text with its padding. -/
def padL (l : List Int) : List Int := l ++ ([128] ++ (List.replicate ((119 - l.length % 64) % 64) 0 ++ putL (IntKind.u64.wrap (8 * (l.length : Int))) 8))
theorem padL_len (l : List Int) : (padL l).length = l.length + 9 + (119 - l.length % 64) % 64 := by
  simp only [padL, List.length_append, List.length_cons, List.length_nil, List.length_replicate, putL_len]
  omega
theorem padL_mod (l : List Int) : (padL l).length % 64 = 0 := by rw [padL_len]; omega
theorem pad_f (l : List Int) (hl : l.length ≤ 140737488351232) (k : Nat) (hk : 10 ≤ k) : sha_Pad.f k l = some (padL l) := by
  have hm : (((119 - ((l.length : Int) % 64)) % 64 : Int)).toNat = (119 - l.length % 64) % 64 := by omega
  have hw : wrap64 (8 * (l.length : Int)) = 8 * (l.length : Int) := wrap64_id _ (by omega) (by omega)
  have h8 : (mn (mx 8 0) 8).toNat = 8 := by decide +kernel
  unfold sha_Pad.f octets_Put.f
  rw [if_pos (by omega), hm, if_pos (by omega), hw, h8, Option.bind_some]
  rw [join_f _ (by simp) (by simp only [tot_cons, List.length_cons, List.length_nil, List.length_replicate, putL_len, show tot [] = 0 from rfl]; omega) k (by simpa using hk)]
  simp [padL]

/-- A text's sum. -/
def stateL (l : List Int) : List Int := statesA (padL l) ((padL l).length / 64)
def sumL (l : List Int) : List Int := octs (stateL l)
theorem sumL_len (l : List Int) : (sumL l).length = 32 := by rw [sumL, octs_len, stateL, statesA_len]
theorem sumL_octets (l : List Int) : Octets (sumL l) := octs_octets _
theorem sum_f (l : List Int) (hl : l.length ≤ 140737488351232) : sha_Sum.f l = some (sumL l) := by
  unfold sha_Sum.f
  rw [pad_f l hl 20 (by omega), Option.bind_some, if_pos ⟨padL_mod l, by rw [padL_len]; omega⟩]
  exact words_f _ (by rw [statesA_len]; omega) 20 (by rw [statesA_len]; omega)
end Go.Proofs.Ytclmikbbjhdplaa.X
