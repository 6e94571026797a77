/- The law OctetsWords over numbers and lists: words come back from their octets, one by one. No condition. -/
import Derived.Test.YtclmikbbjhdplaaXF4
import Derived.Test.YtclmikbbjhdplaaQWords
namespace Go.Proofs.Ytclmikbbjhdplaa.Pure
open Go.RowKit Go.Proofs.Ytclmikbbjhdplaa.X Go.Proofs.YtclmikbbjhdplaaW.PrintWords Go.Proofs.YtclmikbbjhdplaaW.PrintLast Go.Proofs.YtclmikbbjhdplaaW.PrintMore
set_option linter.unusedVariables false
set_option linter.unusedSimpArgs false

theorem words_back (l : List Int) (hl : l.length * 4 ≤ 140737488351232) (hw : ∀ x ∈ l, 0 ≤ x ∧ x < 4294967296) : ∀ (d k i : Nat), i + d = l.length → d + 6 < k →
    mootlaw01_OctetsWords.l0 k l (octs l) (i : Int) = some true
  | 0, k, i, hd, hk => by
    obtain ⟨k, rfl⟩ : ∃ m, k = m + 1 := ⟨k - 1, by omega⟩
    rw [mootlaw01_OctetsWords.l0, if_neg (by omega), octs_len, wrap64_id _ (by omega) (by omega)]
    simp
  | d + 1, k, i, hd, hk => by
    obtain ⟨k, rfl⟩ : ∃ m, k = m + 1 := ⟨k - 1, by omega⟩
    have hi : i < l.length := by omega
    have hr := hw _ (List.getElem_mem hi)
    rw [← rd_at l i hi] at hr
    have hs : wrap64 ((i : Int) + 1) = ((i + 1 : Nat) : Int) := by rw [wrap64_id _ (by omega) (by omega)]; rfl
    have h4 : wrap64 (4 * (i : Int)) = 4 * (i : Int) := wrap64_id _ (by omega) (by omega)
    have hword : octets_Word.f k (octs l) (4 * (i : Int)) = some (rd l (i : Int)) := by
      have := word_at (octs l) (4 * (i : Int)) (by rw [octs_len]; omega) (by omega) (by rw [octs_len]; omega)
      rw [word4_octs l i hi hr] at this
      exact at_rounds (fun k => (octets_Word.mono_l k) _ _ _ _) (by omega) this
    rw [mootlaw01_OctetsWords.l0, if_pos (by omega), h4, hword, Option.bind_some, if_pos (by omega), if_pos rfl, hs]
    exact words_back l hl hw d k (i + 1) (by omega) (by omega)

/-- Words come back from their octets. -/
theorem OctetsWords : mootlaw01_OctetsWords.Pure := by
  intro l0 h1 h2 hw
  have hw' : ∀ x ∈ l0, 0 ≤ x ∧ x < 4294967296 := fun x hx => by
    have := bounds_u32 (hw x hx)
    omega
  refine ⟨l0.length + 8, ?_⟩
  unfold mootlaw01_OctetsWords.f
  rw [alive01, Option.bind_some, if_pos rfl, words_f l0 h2 _ (by omega), Option.bind_some]
  exact words_back l0 h2 hw' l0.length _ 0 (by omega) (by omega)
end Go.Proofs.Ytclmikbbjhdplaa.Pure
