/- Words as octets: what octets.Words comes to, and that each word comes back. -/
import Derived.Test.YtclmikbbjhdplaaXF18
import Derived.Test.YtclmikbbjhdplaaQWord
import Derived.Test.YtclmikbbjhdplaaQGet
namespace Go.Proofs.Ytclmikbbjhdplaa.X
open Go.RowKit Go.Proofs.YtclmikbbjhdplaaW.PrintWords Go.Proofs.YtclmikbbjhdplaaW.PrintLast Go.Proofs.YtclmikbbjhdplaaW.PrintMore
set_option linter.unusedVariables false
set_option linter.unusedSimpArgs false

def oct4 (w : Int) : List Int := [w / 16777216 % 256, w / 65536 % 256, w / 256 % 256, w % 256]
def octs (l : List Int) : List Int := l.flatMap oct4
theorem oct4_len (w : Int) : (oct4 w).length = 4 := rfl
theorem octs_len : ∀ l, (octs l).length = 4 * l.length
  | [] => rfl
  | w :: l => by
    rw [octs, List.flatMap_cons, List.length_append, oct4_len, ← octs, octs_len l, List.length_cons]
    omega
theorem octs_octets : ∀ l, Octets (octs l)
  | [] => by intro x hx; simp [octs] at hx
  | w :: l => by
    intro x hx
    rw [octs, List.flatMap_cons, List.mem_append] at hx
    rcases hx with hx | hx
    · simp only [oct4, List.mem_cons, List.not_mem_nil, or_false] at hx
      rcases hx with rfl | rfl | rfl | rfl <;> omega
    · exact octs_octets l x hx
theorem words_l0 (l : List Int) (hl : l.length * 4 ≤ 140737488351232) : ∀ (d k i : Nat) (acc : List Int), i + d = l.length → d < k → acc.length + 4 * d ≤ 140737488351232 →
    octets_Words.l0 k acc l (l.length : Int) (i : Int) = some (acc ++ octs (l.drop i))
  | 0, k, i, acc, hd, hk, ha => by
    obtain ⟨k, rfl⟩ : ∃ m, k = m + 1 := ⟨k - 1, by omega⟩
    rw [octets_Words.l0, if_neg (by omega), List.drop_of_length_le (by omega)]
    simp [octs]
  | d + 1, k, i, acc, hd, hk, ha => by
    obtain ⟨k, rfl⟩ : ∃ m, k = m + 1 := ⟨k - 1, by omega⟩
    have hi : i < l.length := by omega
    have hs : wrap64 ((i : Int) + 1) = ((i + 1 : Nat) : Int) := by rw [wrap64_id _ (by omega) (by omega)]; rfl
    rw [octets_Words.l0, if_pos (by omega), if_pos (by omega), if_pos (by omega), Option.bind_some, hs, rd_at l i hi]
    rw [if_pos (by simp only [List.length_cons, List.length_nil]; omega)]
    rw [words_l0 l hl d k (i + 1) _ (by omega) (by omega) (by simp only [List.length_append, List.length_cons, List.length_nil]; omega), List.append_assoc, List.drop_eq_getElem_cons hi]
    rfl
theorem words_f (l : List Int) (hl : l.length * 4 ≤ 140737488351232) (k : Nat) (hk : l.length < k) : octets_Words.f k l = some (octs l) := by
  have hw : wrap64 (4 * (l.length : Int)) = 4 * (l.length : Int) := wrap64_id _ (by omega) (by omega)
  unfold octets_Words.f
  rw [hw, if_pos (by omega), if_pos (by omega)]
  have := words_l0 l hl l.length k 0 [] (by omega) hk (by simp only [List.length_nil]; omega)
  simpa using this
theorem or8 (x c : Int) (h0 : 0 ≤ x) (h1 : x < 16777216) (hc : 0 ≤ c ∧ c < 256) : Go.bits .or .u32 ((x * 256) % 4294967296) (c % 4294967296) = x * 256 + c := by
  rw [Int.emod_eq_of_lt (by omega) (by omega), Int.emod_eq_of_lt (by omega) (by omega), bits_join .u32 32 (by decide) wraps_u32 8] <;> omega
theorem word4_join (l : List Int) (a b0 b1 b2 b3 : Int) (h0 : rd l (a + (0 : Nat)) = b0) (h1 : rd l (a + (1 : Nat)) = b1) (h2 : rd l (a + (2 : Nat)) = b2) (h3 : rd l (a + (3 : Nat)) = b3)
    (c0 : 0 ≤ b0 ∧ b0 < 256) (c1 : 0 ≤ b1 ∧ b1 < 256) (c2 : 0 ≤ b2 ∧ b2 < 256) (c3 : 0 ≤ b3 ∧ b3 < 256) : word4 l a = ((b0 * 256 + b1) * 256 + b2) * 256 + b3 := by
  unfold word4
  rw [h0, h1, h2, h3, or8 0 b0 (by omega) (by omega) c0, or8 (0 * 256 + b0) b1 (by omega) (by omega) c1, or8 _ b2 (by omega) (by omega) c2, or8 _ b3 (by omega) (by omega) c3]
  omega
theorem octs_at : ∀ (l : List Int) (i : Nat) (j : Nat), i < l.length → j < 4 → (octs l).getD (4 * i + j) 0 = (oct4 (l.getD i 0)).getD j 0
  | [], i, j, h, _ => by simp at h
  | w :: l, 0, j, h, hj => by
    rw [octs, List.flatMap_cons, List.getD_eq_getElem?_getD, List.getElem?_append_left (by rw [oct4_len]; omega)]
    simp [List.getD_eq_getElem?_getD]
  | w :: l, i + 1, j, h, hj => by
    have ih := octs_at l i j (by simpa using h) hj
    rw [octs, List.flatMap_cons, List.getD_eq_getElem?_getD, List.getElem?_append_right (by rw [oct4_len]; omega), oct4_len, show 4 * (i + 1) + j - 4 = 4 * i + j by omega, ← List.getD_eq_getElem?_getD, ← octs, ih]
    simp
theorem octs_rd (l : List Int) (i j : Nat) (hi : i < l.length) (hj : j < 4) : rd (octs l) (4 * (i : Int) + (j : Nat)) = (oct4 (rd l (i : Int))).getD j 0 := by
  have e : (4 * (i : Int) + (j : Nat)).toNat = 4 * i + j := by omega
  rw [rd, e]
  exact octs_at l i j hi hj
theorem word4_octs (l : List Int) (i : Nat) (hi : i < l.length) (hw : 0 ≤ rd l (i : Int) ∧ rd l (i : Int) < 4294967296) : word4 (octs l) (4 * (i : Int)) = rd l (i : Int) := by
  rw [word4_join (octs l) _ _ _ _ _ (octs_rd l i 0 hi (by omega)) (octs_rd l i 1 hi (by omega)) (octs_rd l i 2 hi (by omega)) (octs_rd l i 3 hi (by omega))]
  all_goals simp only [oct4, List.getD_cons_zero, List.getD_cons_succ]
  all_goals omega
end Go.Proofs.Ytclmikbbjhdplaa.X
