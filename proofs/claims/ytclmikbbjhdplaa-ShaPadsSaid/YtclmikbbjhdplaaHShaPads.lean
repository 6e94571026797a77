/- The law ShaPads, walked. -/
import Derived.Test.YtclmikbbjhdplaaHAlive2
import Derived.Test.YtclmikbbjhdplaaQRef
import Derived.Deep.RegionWith
import Derived.Deep.Cut
namespace Go.Proofs.Ytclmikbbjhdplaa.X
open Go.RowKit Go.Proofs.YtclmikbbjhdplaaW.PrintWords Go.Proofs.YtclmikbbjhdplaaW.PrintLast Go.Proofs.YtclmikbbjhdplaaW.PrintMore
set_option linter.unusedVariables false
set_option linter.unusedSimpArgs false

def mootlaw02_ShaPads.f (l0 : List Int) : Option Bool := if l0.length ≤ 140737488351232 then some true else none
set_option maxRecDepth 100000 in
set_option maxHeartbeats 4000000 in
theorem mootlaw02_ShaPads.calls (A0 : Option Addr) (c0 : Nat) (l0 : List Int) (r : Bool) (w : World) (hr0 : Kd.C (Kd.int .u8) w A0 l0.length l0) (hc0 : l0.length ≤ c0) (h : mootlaw02_ShaPads.f l0 = some r) :
    Calls Try.prog 9 #[.slice A0 l0.length c0] w fun e w' => e = .returned (.bool r) ∧ Below w.heap.size w w' := by
  unfold mootlaw02_ShaPads.f at h
  by_cases hs : l0.length ≤ 140737488351232
  · rw [if_pos hs] at h
    obtain rfl := Option.some.inj h
    have h1 := pad_f l0 hs 20 (by omega)
    have h2 := refpad_f l0 hs 90 (by omega)
    have h3 := padL_mod l0
    obtain ⟨p, hp⟩ : ∃ p, padL l0 = p := ⟨_, rfl⟩
    rw [hp] at h1 h2 h3
    have H1 := Lib.hid h1
    have H2 := Lib.hid h2
    have HR0 := Lib.hid hr0
    have HC0 := Lib.hid hc0
    have b0 : (((p.length : Int) % 64) == 0) = true := beq_iff_eq.mpr (by omega)
    have b1 : (((p.length : Int).tmod 64) == 0) = true := beq_iff_eq.mpr (by rw [Int.tmod_eq_emod_of_nonneg (by omega)]; omega)
    clear h h1 h2 h3 hp hs hr0 hc0
    go_enter Try.func9, Try.ntmps9
    go_wp2_with (go_at_call 34; go_must ((with_reducible refine (sha_Pad.calls 20 (fun k_ => k_ < w.heap.size) A0 c0 l0 p _ (Kd.V_mk HC0.out (Kd.C_F (Kd.heap_int .u8) HR0.out)) H1.out).mono ?_); rintro e w7 ⟨v0, rfl, hR, hb⟩; obtain ⟨Ap, cp, rfl⟩ := Kd.R_slice hR; have hC := Lib.hid ((Kd.R_reads' hR).2.2); have hv := Kd.C_string (P := Try.prog) Try.underlying23 Try.underlying5 Try.underlying9 (c := cp) (Kd.C_drew hC.out); have HB := Lib.hid hb; clear hb hR))
    go_region_with (first | (go_at_call 35; (with_reducible refine (mootref01_Pad.calls 90 A0 c0 l0 p _ (Kd.C_below HR0.out (below_drew HB.out)) HC0.out H2.out).mono ?_); rintro e w10 ⟨v337, rfl, ho0, hb⟩; clear hv; have hv := Kd.C_string (P := Try.prog) Try.underlying23 Try.underlying5 Try.underlying9 (c := cp) (Kd.C_below (Kd.C_drew hC.out) hb); obtain ⟨Aq, cq, rfl⟩ := Kd.R_slice ho0; have hq := Kd.C_string (P := Try.prog) Try.underlying23 Try.underlying5 Try.underlying9 (c := cq) ((Kd.R_reads' ho0).2.2); have HB2 := Lib.hid (below_step (below_drew HB.out) hb); clear hb ho0) | (go_at_call 29; (with_reducible refine (alive2_calls _).mono ?_); rintro e w11 ⟨rfl, hb⟩; have HB3 := Lib.hid (below_step HB2.out hb); clear hb))
    all_goals go_wp2
    all_goals go_ret
    all_goals exact ⟨rfl, HB3.out⟩
  · rw [if_neg hs] at h
    cases h
end Go.Proofs.Ytclmikbbjhdplaa.X
