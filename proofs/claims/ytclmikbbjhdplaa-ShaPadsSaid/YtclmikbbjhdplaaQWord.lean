/- A word out of octets: what the loop over four octets comes to where they are there. -/
import Derived.Test.YtclmikbbjhdplaaQSha
namespace Go.Proofs.Ytclmikbbjhdplaa.X
open Go.RowKit Go.Proofs.YtclmikbbjhdplaaW.PrintWords Go.Proofs.YtclmikbbjhdplaaW.PrintLast Go.Proofs.YtclmikbbjhdplaaW.PrintMore
set_option linter.unusedVariables false
set_option linter.unusedSimpArgs false

theorem wrap64_id (x : Int) (h0 : -9223372036854775808 ≤ x) (h1 : x < 9223372036854775808) : wrap64 x = x := by unfold wrap64; omega
theorem word_round (k : Nat) (l : List Int) (a x : Int) (i : Nat) (hl : l.length < 4611686018427387904) (h0 : 0 ≤ a) (hi : i < 4) (ha : a + i < l.length) :
    octets_Word.l0 (k + 1) l a x (i : Int) = octets_Word.l0 k l a (Go.bits .or .u32 ((x * 256) % 4294967296) ((rd l (a + i)) % 4294967296)) ((i + 1 : Nat) : Int) := by
  have e1 : wrap64 ((l.length : Int) - (i : Int)) = (l.length : Int) - i := wrap64_id _ (by omega) (by omega)
  have e2 : wrap64 (a + (i : Int)) = a + i := wrap64_id _ (by omega) (by omega)
  have e3 : wrap64 ((i : Int) + 1) = ((i + 1 : Nat) : Int) := by rw [wrap64_id _ (by omega) (by omega)]; rfl
  rw [octets_Word.l0, if_pos (by omega), if_pos (by omega), e1, if_pos (by omega), e2, if_pos (by omega), if_pos (by omega), e3]
/-- Four octets as a word. -/
def word4 (l : List Int) (a : Int) : Int :=
  Go.bits .or .u32 ((Go.bits .or .u32 ((Go.bits .or .u32 ((Go.bits .or .u32 ((0 * 256) % 4294967296) ((rd l (a + (0 : Nat))) % 4294967296) * 256) % 4294967296) ((rd l (a + (1 : Nat))) % 4294967296) * 256) % 4294967296) ((rd l (a + (2 : Nat))) % 4294967296) * 256) % 4294967296) ((rd l (a + (3 : Nat))) % 4294967296)
theorem word_at (l : List Int) (a : Int) (hl : l.length < 4611686018427387904) (h0 : 0 ≤ a) (ha : a + 3 < l.length) : octets_Word.f 6 l a = some (word4 l a) := by
  have h := word_round 5 l a 0 0 hl h0 (by omega) (by omega)
  unfold octets_Word.f
  rw [show (0 : Int) = ((0 : Nat) : Int) from rfl] at h ⊢
  rw [h, word_round 4 l a _ 1 hl h0 (by omega) (by omega), word_round 3 l a _ 2 hl h0 (by omega) (by omega), word_round 2 l a _ 3 hl h0 (by omega) (by omega), octets_Word.l0, if_neg (by omega)]
  rfl
theorem word_ok (l : List Int) (hl : l.length = 64) (t : Nat) (ht : t < 16) : octets_Word.f 6 l (4 * (t : Int)) = some (wordA l (4 * (t : Int))) := by
  have h := word_at l (4 * (t : Int)) (by omega) (by omega) (by omega)
  rw [wordA, h]
  rfl
theorem wordA_at (l : List Int) (a : Int) (hl : l.length < 4611686018427387904) (h0 : 0 ≤ a) (ha : a + 3 < l.length) : wordA l a = word4 l a := by
  rw [wordA, word_at l a hl h0 ha]
  rfl
end Go.Proofs.Ytclmikbbjhdplaa.X
