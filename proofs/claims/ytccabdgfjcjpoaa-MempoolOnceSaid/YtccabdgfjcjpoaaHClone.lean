/- slices.Clone of transactions, of mails and of octets. -/
import Derived.Test.YtccabdgfjcjpoaaHArr
import Derived.Test.YtccabdgfjcjpoaaWInvWords
import Derived.WalkSpells
import Derived.Lib.SliceRun
namespace Go.Proofs.Ytccabdgfjcjpoaa.X
open Go.RowKit Go.Proofs.YtccabdgfjcjpoaaW.PrintWords Go.Proofs.YtccabdgfjcjpoaaW.PrintLast Go.Proofs.YtccabdgfjcjpoaaW.PrintMore
set_option linter.unusedVariables false
set_option linter.unusedSimpArgs false

theorem KM27 {W : World} {base : Nat} {ok : Nat → Prop} (x : S27) (cs : List Value) (h : k27.K W x cs) : k27.M W base ok x cs := by
  obtain rfl := k27_open h
  exact k27_mkM _ _ _ x
set_option maxRecDepth 100000 in
set_option maxHeartbeats 4000000 in
theorem cloneT_calls (A0 : Option Addr) (c0 : Nat) (l0 : List S27) (w : World) (hr0 : Kd.C k27 w A0 l0.length l0) (hc0 : l0.length ≤ c0) (hl : l0.length * 48 ≤ 140737488355328) :
    Calls Try.prog 33 #[.slice A0 l0.length c0] w fun e w' => ∃ v : Value, e = .returned v ∧ Kd.R k27 27 w' w.heap.size (fun _ => True) v l0 ∧ Below w.heap.size w w' := by
  have HR0 := Lib.hid hr0
  have HL := Lib.hid hl
  cases A0 with
  | none =>
    have h0 : l0 = [] := by
      rcases Nat.eq_zero_or_pos l0.length with h0 | h0
      · exact List.eq_nil_of_length_eq_zero h0
      · obtain ⟨ad, e, _⟩ := hr0.2.2 h0
        cases e
    subst h0
    clear hr0 hl
    have hq : ∀ W : World, (binOp .eql 22 (.slice none ([] : List S27).length c0) (.slice none 0 0)).run Try.prog W = .ok (.bool true) W := fun W => Lib.run_eql_slice_nil W 22 27 none _ _ _ _ Try.underlying22
    simp only [List.length_nil] at hq
    go_enter Try.func33, Try.ntmps33
    go_wp2
    go_ret
    exact ⟨_, rfl, Kd.R_nil _ _ _ _ _, Below.refl _ _⟩
  | some ad =>
    clear hr0 hl
    have hq : ∀ W : World, (binOp .eql 22 (.slice (some ad) l0.length c0) (.slice none 0 0)).run Try.prog W = .ok (.bool false) W := fun W => Lib.run_eql_slice_nil W 22 27 (some ad) _ _ _ _ Try.underlying22
    go_enter Try.func33, Try.ntmps33
    go_wp2_with (first | ((with_reducible refine gate_dst (N := 5) rfl ?_); refine Kd.R_lit k27 _ 27 ?hg (N := 5) ?hd (xs := ([] : List S27)) (inner := []) (ok := fun _ => True) (okp := fun _ => True) ?hr ?hp (fun _ hk => hk) trivial (Below.refl _ _) (Nat.le_refl _) (by simp) ?_; (case hd => rfl); (case hg => rfl); (case hr => first | (go_simp; done) | (go_simp; rfl)); (case hp => exact Reps.none _ _); intro v5 w1 ho hb hg_ hnew_; clear hg_ hnew_) | ((with_reducible refine gate_builtin (b := .append) (xs := #[.tmp 5, .tmp 6]) rfl ?_); at_builtin; refine Kd.R_append_rows k27 (w0 := w) w.heap.size rfl (.tmp 5) (.tmp 6) 22 27 _ 48 rfl Try.underlying22 info27 rfl (by decide) (by decide) v5 [] l0 (some ad) l0.length c0 (fun _ => True) (fun _ => False) rfl rfl ho (Kd.C_below HR0.out hb) KM27 (fun _ hk => hk.elim) (fun _ _ => trivial) hb hb.size (by have := HL.out; simpa using this) ?_; intro v1 w2 hR2 hb2 hg2 hat2))
    go_ret
    exact ⟨_, rfl, by simpa using hR2, hb2⟩
end Go.Proofs.Ytccabdgfjcjpoaa.X
