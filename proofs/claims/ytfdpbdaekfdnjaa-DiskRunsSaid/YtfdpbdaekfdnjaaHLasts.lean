/- The law DiskLasts, walked: what was flushed is there behind a crash. -/
import Derived.Test.YtfdpbdaekfdnjaaHDS
namespace Go.Proofs.Ytfdpbdaekfdnjaa.X
open Go.RowKit Go.Proofs.YtfdpbdaekfdnjaaW.PrintWords Go.Proofs.YtfdpbdaekfdnjaaW.PrintLast Go.Proofs.YtfdpbdaekfdnjaaW.PrintMore
set_option linter.unusedVariables false
set_option linter.unusedSimpArgs false
theorem str_append (a b : List Int) : strOfNums a ++ strOfNums b = strOfNums (a ++ b) := by
  apply ByteArray.ext
  rw [ByteArray.data_append]
  unfold strOfNums
  simp
theorem str_take (xs : List Int) (k : Nat) : ((strOfNums xs).extract 0 k) = strOfNums (xs.take k) := by
  apply ByteArray.ext
  rw [ByteArray.data_extract]
  unfold strOfNums
  simp [List.map_take]
def mootlaw12_DiskLasts.f (l0 l1 : List Int) (a2 : Int) : Option Bool := if l0.length ≤ 140737488351232 ∧ l1.length ≤ 140737488351232 then some true else none
set_option maxRecDepth 100000 in
set_option maxHeartbeats 4000000 in
theorem mootlaw12_DiskLasts.calls (A0 : Option Addr) (c0 : Nat) (l0 : List Int) (A1 : Option Addr) (c1 : Nat) (l1 : List Int) (a2 : Int) (r : Bool) (w : World) (hr0 : Kd.C (Kd.int .u8) w A0 l0.length l0) (hc0 : l0.length ≤ c0) (hr1 : Kd.C (Kd.int .u8) w A1 l1.length l1) (hc1 : l1.length ≤ c1) (h : mootlaw12_DiskLasts.f l0 l1 a2 = some r) :
    Calls Try.prog 3 #[.slice A0 l0.length c0, .slice A1 l1.length c1, .int .i64 a2] w fun e w' => e = .returned (.bool r) ∧ Below w.heap.size w w' := by
  unfold mootlaw12_DiskLasts.f at h
  by_cases hs : l0.length ≤ 140737488351232 ∧ l1.length ≤ 140737488351232
  · rw [if_pos hs] at h
    obtain rfl := Option.some.inj h
    obtain ⟨hs0, hs1⟩ := hs
    clear h
    have e0 : wrap64 ((l0.length : Int) + l1.length) = (l0.length : Int) + l1.length := by unfold wrap64; omega
    go_enter Try.func3, Try.ntmps3
    by_cases hc : 1000 < l0.length + l1.length
    · have b0 : decide ((1000 : Int) < (l0.length : Int) + l1.length) = true := decide_eq_true (by omega)
      go_wp2_with (first | (go_at_call 14; go_must ((with_reducible refine (alive12_calls _).mono ?_); rintro e w1 ⟨rfl, hb⟩)))
      go_ret
      exact ⟨rfl, hb⟩
    · have b0 : decide ((1000 : Int) < (l0.length : Int) + l1.length) = false := decide_eq_false (by omega)
      obtain ⟨m, hm⟩ : ∃ m, l0.length + keepN a2 (l0 ++ l1).length l0.length = m := ⟨_, rfl⟩
      have hk := keepN_le a2 (l0 ++ l1).length l0.length (by simp)
      obtain ⟨t, ht⟩ : ∃ t, (l0 ++ l1).take m = t := ⟨_, rfl⟩
      have HT := Lib.hid ht
      have HM := Lib.hid hm
      have HC := Lib.hid hc
      have HK := Lib.hid hk
      have hlen : l0.length ≤ t.length ∧ t.length ≤ l0.length + l1.length ∧ t.length = m := by
        have := HT.out
        have := HM.out
        have := HK.out
        rw [← HT.out, List.length_take]
        simp only [List.length_append] at *
        omega
      have hx : ((strOfNums l0 ++ strOfNums l1).extract 0 (strOfNums t).size).toList = (strOfNums t).toList := by
        rw [str_append, str_take, strOfNums_size, hlen.2.2, HT.out]
      have hlz : (((t.length : Int) - m) == 0) = true := beq_iff_eq.mpr (by omega)
      have HX := Lib.hid hx
      have HLEN := Lib.hid hlen
      have HLZ := Lib.hid hlz
      clear hx hlen hlz
      have HR0 := Lib.hid hr0
      have HR1 := Lib.hid hr1
      have hlim : (9223372036854775807 < (strOfNums l0).size + (strOfNums l1).size) = False := eq_false (by rw [strOfNums_size, strOfNums_size]; omega)
      clear ht hm hc hk hr0 hr1
      go_wp2_with (first | (go_at_call 14; go_must ((with_reducible refine (alive12_calls _).mono ?_); rintro e w1 ⟨rfl, hb⟩)) | (go_at_call 15; (with_reducible refine (DS.new hb 1000 1000 (by decide)).mono ?_); rintro e w2 ⟨rfl, h2⟩; clear hb) | (go_at_call 16; (with_reducible refine (DS.append h2 A0 c0 l0 (Kd.C_below HR0.out h2.below) 0 l0 (fun h => absurd h (by have := HC.out; simp only [List.length_nil]; omega)) (fun h => ⟨rfl, by simp⟩)).mono ?_); rintro e w3 ⟨rfl, h3⟩; clear h2) | (go_at_call 17; (with_reducible refine h3.flush.mono ?_); rintro e w4 ⟨rfl, h4⟩; clear h3) | (go_at_call 16; (with_reducible refine (DS.append h4 A1 c1 l1 (Kd.C_below HR1.out h4.below) 0 (l0 ++ l1) (fun h => absurd h (by have := HC.out; omega)) (fun h => ⟨rfl, rfl⟩)).mono ?_); rintro e w5 ⟨rfl, h5⟩; clear h4) | (go_at_call 18; (with_reducible refine (h5.crash a2 m HM.out).mono ?_); rintro e w6 ⟨rfl, h6⟩; rw [HT.out] at h6; clear h5; have s0 := Kd.C_string (P := Try.prog) Try.underlying22 Try.underlying5 Try.underlying9 (c := c0) (Kd.C_below HR0.out h6.below); have s1 := Kd.C_string (P := Try.prog) Try.underlying22 Try.underlying5 Try.underlying9 (c := c1) (Kd.C_below HR1.out h6.below)) | (go_at_call 19; (with_reducible refine h6.read.mono ?_); rintro e w7 ⟨Ar, cr, rfl, hcr, hCr, h7, _⟩; have s2 := Kd.C_string (P := Try.prog) Try.underlying22 Try.underlying5 Try.underlying9 (c := cr) hCr; clear h6) | (go_at_call 20; (with_reducible refine h7.loose.mono ?_); rintro e w8 ⟨rfl, h8, _⟩))
      all_goals go_ret
      all_goals first | exact ⟨rfl, h8.below⟩ | exact ⟨congrArg (fun b => Ending.returned (.bool b)) HLZ.out, h8.below⟩ | (exfalso; have := HLEN.out; first | (exact absurd HX.out ‹_›) | (simp only [strOfNums_size] at *; omega))
  · rw [if_neg hs] at h
    cases h
end Go.Proofs.Ytfdpbdaekfdnjaa.X
