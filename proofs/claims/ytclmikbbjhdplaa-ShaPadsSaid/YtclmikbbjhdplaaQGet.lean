/- Plain laws on octets as numbers: what Get comes to, and that it leads back from Put. -/
import Derived.Test.YtclmikbbjhdplaaXF17
import Derived.Test.YtclmikbbjhdplaaXF15
import Derived.OpenShut
namespace Go.Proofs.Ytclmikbbjhdplaa.X
open Go.RowKit Go.Proofs.YtclmikbbjhdplaaW.PrintWords Go.Proofs.YtclmikbbjhdplaaW.PrintLast Go.Proofs.YtclmikbbjhdplaaW.PrintMore
set_option linter.unusedVariables false
set_option linter.unusedSimpArgs false

theorem wraps_u64 (n : Int) (h0 : 0 ≤ n) (h1 : n < 2 ^ 64) : IntKind.u64.wrap n = n := by rw [IntKind.wrap_u64]; omega
theorem wraps_u32 (n : Int) (h0 : 0 ≤ n) (h1 : n < 2 ^ 32) : IntKind.u32.wrap n = n := by rw [IntKind.wrap_u32]; omega
/-- Octets as a number, so many of its bits as a word has. -/
def getF (acc : Int) (l : List Int) : Int := l.foldl (fun u c => (u * 256 + c) % 18446744073709551616) acc
theorem getF_range (l : List Int) : ∀ acc : Int, 0 ≤ acc → acc < 18446744073709551616 → 0 ≤ getF acc l ∧ getF acc l < 18446744073709551616 := by
  induction l with
  | nil => intro acc a b; exact ⟨a, b⟩
  | cons c l ih => intro acc a b; exact ih _ (by dsimp only; omega) (by dsimp only; omega)
def Octets (l : List Int) : Prop := ∀ x ∈ l, 0 ≤ x ∧ x < 256
theorem rd_at (l : List Int) (i : Nat) (h : i < l.length) : rd l (i : Int) = l[i] := by simp [rd, List.getD_eq_getElem?_getD, h]
theorem or_byte (acc c : Int) (ha : 0 ≤ acc) (hc : 0 ≤ c ∧ c < 256) : Go.bits .or .u64 (IntKind.u64.wrap (acc * 256)) (IntKind.u64.wrap c) = (acc * 256 + c) % 18446744073709551616 := by
  rw [IntKind.wrap_u64, IntKind.wrap_u64, bits_join .u64 64 (by decide) wraps_u64 8] <;> omega
theorem get_l0 (l : List Int) (hl : Octets l) (hm : l.length ≤ 9223372036854775807) (d : Nat) : ∀ (k : Nat) (i : Nat) (acc : Int), 0 ≤ acc → acc < 18446744073709551616 → i + d = l.length → d < k →
    octets_Get.l0 k acc l (l.length : Int) (i : Int) = some (getF acc (l.drop i) % 4611686018427387904) := by
  induction d with
  | zero =>
    intro k i acc h0 h1 hd hk
    obtain ⟨k, rfl⟩ : ∃ m, k = m + 1 := ⟨k - 1, by omega⟩
    simp only [octets_Get.l0]
    rw [if_neg (by omega), List.drop_of_length_le (by omega)]
    have e := bits_mask .u64 64 (by decide) wraps_u64 62 (by decide) acc h0 h1
    rw [show ((2 : Int) ^ 62 - 1) = 4611686018427387903 by decide, show ((2 : Int) ^ 62) = 4611686018427387904 by decide] at e
    rw [e]
    simp only [getF, List.foldl_nil, Option.some.injEq]
    unfold wrap64
    omega
  | succ d ih =>
    intro k i acc h0 h1 hd hk
    obtain ⟨k, rfl⟩ : ∃ m, k = m + 1 := ⟨k - 1, by omega⟩
    have hi : i < l.length := by omega
    have hr := hl _ (List.getElem_mem hi)
    simp only [octets_Get.l0]
    rw [if_pos (by omega), if_pos (by omega), if_pos (by omega), rd_at l i hi, or_byte acc _ h0 hr, show wrap64 ((i : Int) + 1) = ((i + 1 : Nat) : Int) by unfold wrap64; omega]
    rw [ih k (i + 1) _ (by omega) (by omega) (by omega) (by omega), List.drop_eq_getElem_cons hi]
    rfl
theorem get_f (l : List Int) (hl : Octets l) (hm : l.length ≤ 9223372036854775807) (k : Nat) (hk : l.length < k) : octets_Get.f k l = some (getF 0 l % 4611686018427387904) := by
  have := get_l0 l hl hm l.length k 0 0 (by omega) (by omega) (by omega) hk
  simpa [octets_Get.f] using this
theorem putL_octets (u : Int) : ∀ s, Octets (putL u s)
  | 0 => by intro x hx; simp [putL] at hx
  | s + 1 => by
    intro x hx
    rcases List.mem_cons.1 hx with rfl | hx
    · constructor <;> omega
    · exact putL_octets u s x hx
theorem mod_pow_step (n s : Nat) : (n : Int) % 256 ^ (s + 1) = (n : Int) % 256 ^ s + 256 ^ s * ((n : Int) / 256 ^ s % 256) := by
  have h := @Nat.mod_mul (256 ^ s) 256 n
  rw [← Nat.pow_succ] at h
  have h3 : ((n % 256 ^ (s + 1) : Nat) : Int) = ((n % 256 ^ s + 256 ^ s * (n / 256 ^ s % 256) : Nat) : Int) := by rw [h]
  simpa only [Int.natCast_emod, Int.natCast_pow, Int.natCast_add, Int.natCast_mul, Int.natCast_ediv, Int.cast_ofNat_Int] using h3
theorem getF_put (u : Int) (hu : 0 ≤ u) : ∀ (s : Nat) (acc : Int), getF acc (putL u s) % 18446744073709551616 = (acc * 256 ^ s + u % 256 ^ s) % 18446744073709551616
  | 0, acc => by simp [putL, getF, Int.emod_one]
  | s + 1, acc => by
    have ih := getF_put u hu s ((acc * 256 + u / 256 ^ s % 256) % 18446744073709551616)
    have e : getF acc (putL u (s + 1)) = getF ((acc * 256 + u / 256 ^ s % 256) % 18446744073709551616) (putL u s) := rfl
    rw [e, ih]
    have h2 : u % 256 ^ (s + 1) = u % 256 ^ s + 256 ^ s * (u / 256 ^ s % 256) := by
      obtain ⟨n, rfl⟩ := Int.eq_ofNat_of_zero_le hu
      exact mod_pow_step n s
    rw [h2, Int.add_emod, Int.mul_emod, Int.emod_emod, ← Int.mul_emod, ← Int.add_emod]
    congr 1
    rw [Int.pow_succ, Int.add_mul, Int.mul_assoc, Int.mul_comm 256 ((256 : Int) ^ s), Int.mul_comm (u / 256 ^ s % 256)]
    omega
theorem getF_putL (u : Int) (hu : 0 ≤ u) (s : Nat) : getF 0 (putL u s) = (u % 256 ^ s) % 18446744073709551616 := by
  have h := getF_put u hu s 0
  have hr := getF_range (putL u s) 0 (by omega) (by omega)
  rw [Int.emod_eq_of_lt hr.1 hr.2] at h
  simpa using h
theorem alive01 : mootlaw01_alive.f = some true := by decide +kernel
end Go.Proofs.Ytclmikbbjhdplaa.X
