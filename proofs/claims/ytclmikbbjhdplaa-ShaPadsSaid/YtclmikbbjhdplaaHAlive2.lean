/- mootlaw02.alive: the page's example, walked. -/
import Derived.Test.YtclmikbbjhdplaaHConv
import Derived.Test.YtclmikbbjhdplaaQJoin
import Derived.Test.YtclmikbbjhdplaaWArr
namespace Go.Proofs.Ytclmikbbjhdplaa.X
open Go.RowKit Go.Proofs.YtclmikbbjhdplaaW.PrintWords Go.Proofs.YtclmikbbjhdplaaW.PrintLast Go.Proofs.YtclmikbbjhdplaaW.PrintMore
set_option linter.unusedVariables false
set_option linter.unusedSimpArgs false

def blk1 : List Int := [97, 98, 99, 128] ++ List.replicate 59 0 ++ [24]
section
set_option maxRecDepth 100000
theorem block1 : blockA H0 K0 blk1 = [3128432319, 2399260650, 1094795486, 1571693091, 2953011619, 2518121116, 3021012833, 4060091821] := by decide +kernel
theorem pad1 : padL [97, 98, 99] = blk1 := by decide +kernel
theorem sum1 : sumL [97, 98, 99] = octs [3128432319, 2399260650, 1094795486, 1571693091, 2953011619, 2518121116, 3021012833, 4060091821] := by
  have e : stateL [97, 98, 99] = blockA H0 K0 ((blk1.drop 0).take 64) := by
    unfold stateL
    rw [pad1]
    rfl
  rw [sumL, e, show (blk1.drop 0).take 64 = blk1 by decide +kernel, block1]
theorem sum1_at : rd (sumL [97, 98, 99]) 0 = 186 ∧ rd (sumL [97, 98, 99]) 1 = 120 ∧ rd (sumL [97, 98, 99]) 2 = 22 ∧ rd (sumL [97, 98, 99]) 3 = 191 := by
  rw [sum1]
  decide +kernel
end
def mootlaw02_alive.f : Option Bool := some true
theorem alive02 : mootlaw02_alive.f = some true := rfl

set_option maxHeartbeats 4000000 in
set_option maxRecDepth 100000 in
theorem alive2_calls (w : World) : Calls Try.prog 29 #[] w fun e w' => e = .returned (.bool true) ∧ Below w.heap.size w w' := by
  obtain ⟨y, hy⟩ : ∃ y : List Int, y = [97, 98, 99] := ⟨_, rfl⟩
  obtain ⟨t, ht⟩ : ∃ t, sumL y = t := ⟨_, rfl⟩
  have hs : sha_Sum.f y = some t := by rw [← ht]; exact sum_f y (by rw [hy]; decide)
  have hlen : t.length = 32 := by rw [← ht]; exact sumL_len y
  have hat := sum1_at
  rw [← hy, ht] at hat
  have hyl : 0 < y.length := by rw [hy]; decide
  have b0 : ((t.length : Int) == 32) = true := by rw [hlen]; rfl
  have b1 : ((rd t 0) == 186) = true := by rw [hat.1]; rfl
  have b2 : ((rd t 1) == 120) = true := by rw [hat.2.1]; rfl
  have b3 : ((rd t 2) == 22) = true := by rw [hat.2.2.1]; rfl
  have b4 : ((rd t 3) == 191) = true := by rw [hat.2.2.2]; rfl
  have HS := Lib.hid hs
  have HY := Lib.hid hy
  have HYL := Lib.hid hyl
  have HL := Lib.hid hlen
  clear hs hy ht hlen hat hyl
  have HB := Aside0.mk (Below.refl w.heap.size w)
  go_enter Try.func29, Try.ntmps29
  go_wp2_with (first | ((with_reducible refine gate_dst (N := 2) rfl ?_); refine Kd.R_lit (Kd.int .u8) _ 5 ?hg (N := 2) ?hd (xs := ([97, 98, 99] : List Int)) (inner := [.int .u8 97, .int .u8 98, .int .u8 99]) (ok := fun _ => True) (okp := fun _ => True) ?hr ?hp (fun _ hk => hk) trivial (Below.refl _ _) (Nat.le_refl _) (by simp) ?_; (case hd => rfl); (case hg => rfl); (case hr => first | (go_simp; done) | (go_simp; rfl)); (case hp => exact (Reps.one (show Kd.M (Kd.int .u8) _ _ _ 97 [.int .u8 97] from rfl) (Reps.one (show Kd.M (Kd.int .u8) _ _ _ 98 [.int .u8 98] from rfl) (Reps.one (show Kd.M (Kd.int .u8) _ _ _ 99 [.int .u8 99] from rfl) (Reps.none _ _))))); intro v199 w10 ho11 hb hg_ hnew_; clear hg_ hnew_; rw [← HY.out] at ho11; have P1 := below_step HB.out hb; obtain ⟨g, cap, cur, rfl, hgb, hgh, hcap, hC⟩ := lit_block ho11 HYL.out; have hgb2 := Nat.le_trans (below_size HB.out) hgb; clear ho11 hb hgb) | ((with_reducible refine gate_dst (N := 3) rfl ?_); go_must (refine conv_ev rfl (N := 3) rfl 23 5 (.tmp 2) rfl Try.underlying23 Try.underlying5 g _ _ rfl cur hgh ?_; intro w11 hM; have P2 := hM.below _ P1 hgb2; have HC := Lib.hid (hM.row hC); have HCAP := Lib.hid hcap; have PP := Lib.hid P2; clear P1 P2 hM hC hcap hgh hgb2)) | (go_at_call 31; go_must ((with_reducible refine (sha_Sum.calls _ _ y t _ HC.out HCAP.out HS.out).mono ?_); rintro e w13 ⟨v, rfl, ho, hb⟩; have P3 := Lib.hid (below_step PP.out hb); clear hb; obtain ⟨A, c, rfl⟩ := Kd.R_slice ho; have hR := (Kd.R_reads' ho).2.2; clear ho; have hl : 3 < (t.length : Int) := (by have := HL.out; omega); obtain ⟨ad, e, x0⟩ := Kd.at_int hR 0 (by omega) (by omega); cases e; obtain ⟨ad1, e, x1⟩ := Kd.at_int hR 1 (by omega) (by omega); obtain rfl : ad = ad1 := (by injection e); clear e; obtain ⟨ad2, e, x2⟩ := Kd.at_int hR 2 (by omega) (by omega); obtain rfl : ad = ad2 := (by injection e); clear e; obtain ⟨ad3, e, x3⟩ := Kd.at_int hR 3 (by omega) (by omega); obtain rfl : ad = ad3 := (by injection e); clear e hR; simp only [show (0 : Int).toNat = 0 from rfl, show (1 : Int).toNat = 1 from rfl, show (2 : Int).toNat = 2 from rfl, show (3 : Int).toNat = 3 from rfl, Go.Addr.add, Nat.reduceEqDiff, ↓reduceIte] at x0 x1 x2 x3; have q0 : (0 < t.length) = True := eq_true (by omega); have q1 : (1 < t.length) = True := eq_true (by omega); have q2 : (2 < t.length) = True := eq_true (by omega); have q3 : (3 < t.length) = True := eq_true (by omega); have r1 : ((1 : Int) < (t.length : Int)) = True := eq_true (by omega); have r2 : ((2 : Int) < (t.length : Int)) = True := eq_true (by omega); have r3 : ((3 : Int) < (t.length : Int)) = True := eq_true (by omega); clear hl)))
  go_ret
  exact ⟨rfl, P3.out⟩
theorem mootlaw02_alive.calls (r : Bool) (w : World) (h : mootlaw02_alive.f = some r) : Calls Try.prog 29 #[] w fun e w' => e = .returned (.bool r) ∧ Below w.heap.size w w' := by
  cases h
  exact alive2_calls w
end Go.Proofs.Ytclmikbbjhdplaa.X
