/- The law OctetsBack over numbers and lists: a number from 0 to below 2^62 comes back from its octets, as many of its bits as there are. No condition. -/
import Derived.Test.YtclmikbbjhdplaaXF3
import Derived.Test.YtclmikbbjhdplaaQGet
namespace Go.Proofs.Ytclmikbbjhdplaa.Pure
open Go.RowKit Go.Proofs.Ytclmikbbjhdplaa.X Go.Proofs.YtclmikbbjhdplaaW.PrintWords Go.Proofs.YtclmikbbjhdplaaW.PrintLast Go.Proofs.YtclmikbbjhdplaaW.PrintMore
set_option linter.unusedVariables false
set_option linter.unusedSimpArgs false

theorem emod_le_self (n m : Int) (h0 : 0 ≤ n) (hm : 0 < m) : n % m ≤ n := by
  have h1 := Int.mul_ediv_add_emod n m
  have h2 : 0 ≤ m * (n / m) := Int.mul_nonneg (by omega) (Int.ediv_nonneg h0 (by omega))
  omega
theorem big8 (n : Int) (h0 : 0 ≤ n) (h1 : n < 4611686018427387904) : n % 256 ^ 8 % 18446744073709551616 % 4611686018427387904 = n := by
  rw [show ((256 : Int) ^ 8) = 18446744073709551616 by decide +kernel]
  omega
theorem small_mod (n m : Int) (h0 : 0 ≤ n % m) (h1 : n % m < 4611686018427387904) : n % m % 18446744073709551616 % 4611686018427387904 = n % m := by omega

theorem back_pow (s : Nat) (hs : s ≤ 7) (n : Int) (h0 : 0 ≤ n) : ¬ (wrap64 (2 ^ (8 * (s : Int)).toNat) = 0) ∧ Int.tmod n (wrap64 (2 ^ (8 * (s : Int)).toNat)) = n % 256 ^ s ∧ (n < 4611686018427387904 → n % 256 ^ s < 4611686018427387904) ∧ 0 ≤ n % 256 ^ s := by
  have e : wrap64 (2 ^ (8 * (s : Int)).toNat) = 256 ^ s := by
    have : s = 0 ∨ s = 1 ∨ s = 2 ∨ s = 3 ∨ s = 4 ∨ s = 5 ∨ s = 6 ∨ s = 7 := by omega
    rcases this with rfl | rfl | rfl | rfl | rfl | rfl | rfl | rfl <;> decide +kernel
  have hp : (0 : Int) < 256 ^ s := Int.pow_pos (by omega)
  refine ⟨by rw [e]; omega, by rw [e, Int.tmod_eq_emod_of_nonneg h0], fun hn => ?_, Int.emod_nonneg _ (by omega)⟩
  have := Int.emod_lt_of_pos n hp
  have h2 : n % 256 ^ s ≤ n := emod_le_self n _ h0 hp
  omega

theorem back_j1 (k : Nat) (n size : Int) (h0 : 0 ≤ n) (h1 : n < 4611686018427387904) (hk : 10 ≤ k) : mootlaw01_OctetsBack.j1 k n size = some true := by
  obtain ⟨k, rfl⟩ : ∃ m, k = m + 1 := ⟨k - 1, by omega⟩
  obtain ⟨s, hs⟩ : ∃ s : Nat, mn (mx size 0) 8 = (s : Int) := ⟨(mn (mx size 0) 8).toNat, by unfold mn mx; split <;> split <;> omega⟩
  have hs8 : (s : Int) ≤ 8 := by rw [← hs]; unfold mn; split <;> omega
  simp only [mootlaw01_OctetsBack.j1, octets_Put.f, Option.bind_some]
  rw [hs, Int.toNat_natCast, if_pos (by rw [putL_len])]
  have hw : IntKind.u64.wrap n = n := wraps_u64 n h0 (by omega)
  rw [hw, get_f _ (putL_octets n s) (by rw [putL_len]; omega) k (by rw [putL_len]; omega), getF_putL n h0]
  by_cases h8 : (s : Int) ≥ 8
  · obtain rfl : s = 8 := by omega
    rw [if_pos (by omega)]
    rw [Option.bind_some, big8 n h0 h1, beq_self_eq_true]
  · rw [if_neg h8]
    obtain ⟨a, b, c, d⟩ := back_pow s (by omega) n h0
    rw [Option.bind_some, if_neg a, b]
    rw [small_mod n _ d (c h1), beq_self_eq_true]

/-- A number from 0 to below 2^62 comes back from its octets. -/
theorem OctetsBack : mootlaw01_OctetsBack.Pure := by
  intro a0 a1 w0 w1
  refine ⟨12, ?_⟩
  unfold mootlaw01_OctetsBack.f
  rw [alive01]
  simp only [Option.bind_some, if_true]
  have hj0 : ∀ b : Bool, (b = false → 0 ≤ a0 ∧ a0 < 4611686018427387904) → mootlaw01_OctetsBack.j0 12 a0 a1 b = some true := by
    intro b hb
    simp only [mootlaw01_OctetsBack.j0]
    cases b with
    | true => rw [if_pos rfl]; exact back_j1 11 0 a1 (by omega) (by omega) (by omega)
    | false => rw [if_neg (by simp)]; exact back_j1 11 a0 a1 (hb rfl).1 (hb rfl).2 (by omega)
  split
  · exact hj0 true (by simp)
  · exact hj0 _ (fun h => by simp at h; omega)

end Go.Proofs.Ytclmikbbjhdplaa.Pure
