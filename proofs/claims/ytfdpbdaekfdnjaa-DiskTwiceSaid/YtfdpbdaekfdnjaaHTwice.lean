/- The law DiskTwice, walked: a crash behind a crash changes nothing more. -/
import Derived.Test.YtfdpbdaekfdnjaaHDS
namespace Go.Proofs.Ytfdpbdaekfdnjaa.X
open Go.RowKit Go.Proofs.YtfdpbdaekfdnjaaW.PrintWords Go.Proofs.YtfdpbdaekfdnjaaW.PrintLast Go.Proofs.YtfdpbdaekfdnjaaW.PrintMore
set_option linter.unusedVariables false
set_option linter.unusedSimpArgs false
def mootlaw12_DiskTwice.f (l0 : List Int) (a1 a2 : Int) : Option Bool := if l0.length ≤ 140737488351232 then some true else none
set_option maxRecDepth 100000 in
set_option maxHeartbeats 4000000 in
theorem mootlaw12_DiskTwice.calls (A0 : Option Addr) (c0 : Nat) (l0 : List Int) (a1 a2 : Int) (r : Bool) (w : World) (hr0 : Kd.C (Kd.int .u8) w A0 l0.length l0) (hc0 : l0.length ≤ c0) (h : mootlaw12_DiskTwice.f l0 a1 a2 = some r) :
    Calls Try.prog 4 #[.slice A0 l0.length c0, .int .i64 a1, .int .i64 a2] w fun e w' => e = .returned (.bool r) ∧ Below w.heap.size w w' := by
  unfold mootlaw12_DiskTwice.f at h
  by_cases hs : l0.length ≤ 140737488351232
  · rw [if_pos hs] at h
    obtain rfl := Option.some.inj h
    clear h
    obtain ⟨t0, hn, hy⟩ : ∃ t0 : List Int, ((65536 : Int) < ((([] : List Int).length : Nat) : Int) + l0.length → t0 = []) ∧ ((([] : List Int).length : Int) + l0.length ≤ 65536 → t0 = [] ++ l0) := by
      by_cases c : (65536 : Int) < l0.length
      · exact ⟨[], fun _ => rfl, fun h => absurd h (by simp only [List.length_nil]; omega)⟩
      · exact ⟨[] ++ l0, fun h => absurd h (by simp only [List.length_nil]; omega), fun _ => rfl⟩
    obtain ⟨e0, hn0, hy0⟩ : ∃ e0 : Int, ((65536 : Int) < ((([] : List Int).length : Nat) : Int) + l0.length → e0 = 17) ∧ ((([] : List Int).length : Int) + l0.length ≤ 65536 → e0 = 0) := by
      by_cases c : (65536 : Int) < l0.length
      · exact ⟨17, fun _ => rfl, fun h => absurd h (by simp only [List.length_nil]; omega)⟩
      · exact ⟨0, fun h => absurd h (by simp only [List.length_nil]; omega), fun _ => rfl⟩
    obtain ⟨m, hm⟩ : ∃ m, 0 + keepN a1 t0.length 0 = m := ⟨_, rfl⟩
    have hk := keepN_le a1 t0.length 0 (Nat.zero_le _)
    rw [hm] at hk
    obtain ⟨t, ht⟩ : ∃ t, t0.take m = t := ⟨_, rfl⟩
    have htl : t.length = m := by rw [← ht, List.length_take]; omega
    have hm2 : m + keepN a2 t.length m = m := by
      have := keepN_le a2 t.length m (by omega)
      omega
    have ht2 : t.take m = t := by rw [← htl, List.take_length]
    have hf : ((t.length : Int) - (m : Nat)) = 0 := by omega
    have HN := Lib.hid (And.intro hn hn0)
    have HY := Lib.hid (And.intro hy hy0)
    have HM := Lib.hid hm
    have HT := Lib.hid ht
    have HM2 := Lib.hid hm2
    have HT2 := Lib.hid ht2
    have HF := Lib.hid hf
    have HR0 := Lib.hid hr0
    clear hn hn0 hy hy0 hm hk ht htl hm2 ht2 hf hr0
    go_enter Try.func4, Try.ntmps4
    go_wp2_with (first | (go_at_call 14; go_must ((with_reducible refine (alive12_calls _).mono ?_); rintro e w1 ⟨rfl, hb⟩)) | (go_at_call 15; (with_reducible refine (DS.new hb 65536 65536 (by decide)).mono ?_); rintro e w2 ⟨rfl, h2⟩; clear hb) | (go_at_call 16; (with_reducible refine (DS.append h2 A0 c0 l0 (Kd.C_below HR0.out h2.below) e0 t0 (fun h => ⟨HN.out.2 h, HN.out.1 h⟩) (fun h => ⟨HY.out.2 h, HY.out.1 h⟩)).mono ?_); rintro e w3 ⟨rfl, h3⟩; clear h2) | (go_at_call 18; (with_reducible refine (h3.crash a1 m HM.out).mono ?_); rintro e w4 ⟨rfl, h4⟩; rw [HT.out] at h4; clear h3) | (go_at_call 19; (with_reducible refine h4.read.mono ?_); rintro e w5 ⟨Ar, cr, rfl, hcr, hCr, h5, _⟩; have s1 := Kd.C_string (P := Try.prog) Try.underlying22 Try.underlying5 Try.underlying9 (c := cr) hCr; clear h4 hCr hcr) | (go_at_call 18; (with_reducible refine (h5.crash a2 m HM2.out).mono ?_); rintro e w6 ⟨rfl, h6⟩; rw [HT2.out] at h6; clear h5 s1) | (go_at_call 19; (with_reducible refine h6.read.mono ?_); rintro e w7 ⟨Ar2, cr2, rfl, hcr, hCr, h7, _⟩; have s2 := Kd.C_string (P := Try.prog) Try.underlying22 Try.underlying5 Try.underlying9 (c := cr2) hCr; clear h6) | (go_at_call 17; have hfl := h7.flush; rw [HF.out] at hfl; (with_reducible refine hfl.mono ?_); rintro e w8 ⟨rfl, h8⟩; clear hfl h7))
    all_goals go_ret
    all_goals exact ⟨rfl, h8.below⟩
  · rw [if_neg hs] at h
    cases h
end Go.Proofs.Ytfdpbdaekfdnjaa.X
