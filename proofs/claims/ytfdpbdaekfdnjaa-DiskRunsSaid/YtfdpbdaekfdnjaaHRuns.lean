/- The law DiskRuns, walked: whatever is called, a disk has what a text has of which a beginning lasts. -/
import Derived.Test.YtfdpbdaekfdnjaaHS45
import Derived.BigQuiet
namespace Go.Proofs.Ytfdpbdaekfdnjaa.X
open Go.RowKit Go.Proofs.YtfdpbdaekfdnjaaW.PrintWords Go.Proofs.YtfdpbdaekfdnjaaW.PrintLast Go.Proofs.YtfdpbdaekfdnjaaW.PrintMore
set_option linter.unusedVariables false
set_option linter.unusedSimpArgs false
def mootlaw12_DiskRuns.f (a0 : Int) (l1 : List S45) : Option Bool := if ∀ o ∈ l1, o.f2.length ≤ 140737488351232 then some true else none
set_option maxRecDepth 100000 in
set_option maxHeartbeats 4000000 in
theorem mootlaw12_DiskRuns.calls (a0 : Int) (A1 : Option Addr) (c1 : Nat) (l1 : List S45) (r : Bool) (w : World) (hr1 : Kd.C k45 w A1 l1.length l1) (hc1 : l1.length ≤ c1) (h : mootlaw12_DiskRuns.f a0 l1 = some r) :
    Calls Try.prog 6 #[.int .i64 a0, .slice A1 l1.length c1] w fun e w' => e = .returned (.bool r) ∧ Below w.heap.size w w' := by
  unfold mootlaw12_DiskRuns.f at h
  have hbig : ∀ o ∈ l1, o.f2.length ≤ 140737488351232 := by
    by_cases c : ∀ o ∈ l1, o.f2.length ≤ 140737488351232
    · exact c
    · rw [if_neg c] at h; cases h
  rw [if_pos hbig] at h
  obtain rfl := Option.some.inj h
  clear h
  have HBIG := Lib.hid hbig
  clear hbig
  have hmx := Kd.C_max hr1
  have HR1 := Lib.hid hr1
  have HMX := Lib.hid hmx
  clear hr1 hmx
  go_enter Try.func6, Try.ntmps6
  go_wp2_with (first | (go_at_call 14; (with_reducible refine (alive12_calls _).mono ?_); rintro e w1 ⟨rfl, hb⟩))
  obtain ⟨room, hrm⟩ : ∃ room, wrap64 ((wrap64 (a0.tmod 40 + 40)).tmod 40 - 1) = room := ⟨_, rfl⟩
  have hroom : -1 ≤ room ∧ room ≤ 38 := by
    have := Int.tmod_lt_of_pos a0 (show (0 : Int) < 40 by decide)
    have h2 := Int.lt_tmod_of_pos a0 (show (0 : Int) < 40 by decide)
    have e1 : wrap64 (a0.tmod 40 + 40) = a0.tmod 40 + 40 := by unfold wrap64; omega
    have h3 := Int.tmod_lt_of_pos (a0.tmod 40 + 40) (show (0 : Int) < 40 by decide)
    have h4 := Int.tmod_nonneg (a := a0.tmod 40 + 40) 40 (by omega)
    rw [e1] at hrm
    have e2 : wrap64 ((a0.tmod 40 + 40).tmod 40 - 1) = (a0.tmod 40 + 40).tmod 40 - 1 := by unfold wrap64; omega
    rw [e2] at hrm
    omega
  obtain ⟨rr, hrr⟩ : ∃ rr, mn (mx room 0) 262144 = rr := ⟨_, rfl⟩
  have hrr2 : mx room 0 = rr ∧ 0 ≤ rr ∧ rr ≤ 38 := by
    have e : mx room 0 ≤ 38 ∧ 0 ≤ mx room 0 := by unfold mx; split <;> omega
    rw [← hrr]
    refine ⟨?_, ?_, ?_⟩ <;> (unfold mn; split <;> omega)
  have HRR := Lib.hid hrr
  have HRR2 := Lib.hid hrr2
  have HROOM := Lib.hid hroom
  rw [hrm]
  clear hrr hrr2 hroom hrm
  go_wp2_with (go_at_call 15; (with_reducible refine (DS.new hb room rr HRR.out).mono ?_); rintro e w2 ⟨rfl, h2⟩)
  have H2 := Lib.hid h2
  obtain ⟨g, hg⟩ : ∃ g, w1.heap.size = g := ⟨_, rfl⟩
  rw [hg] at H2 ⊢
  clear h2 hb hg
  go_loopg [6, 7, 8] (l1.length + 1) (fun kq v6 v7 v8 w' => ∃ (i : Nat) (xs : List Int) (sure : Nat), v8 = .int .i64 (i : Int) ∧ v7 = .int .i64 (sure : Int) ∧ v6 = .string (strOfNums xs) ∧ Hid (i ≤ l1.length ∧ kq + i = l1.length + 1) ∧ Hid (DS w w' g xs sure rr))
  case atStart => exact ⟨0, [], 0, rfl, rfl, rfl, Lib.hid ⟨by omega, rfl⟩, H2⟩
  case round =>
    clear H2
    obtain ⟨i, xs, sure, rfl, rfl, rfl, hi, hI⟩ := hrel
    by_cases ci : i < l1.length ∧ i < 40
    · obtain ⟨ci, ci2⟩ := ci
      have c1 : decide ((i : Int) < (l1.length : Int)) = true := decide_eq_true (by omega)
      have c2 : decide (i < l1.length) = true := decide_eq_true ci
      have c3 : decide ((i : Int) < 40) = true := decide_eq_true (by omega)
      have p0 : 0 ≤ (i : Int) := by omega
      have p1 : (i : Int) < (l1.length : Int) := by omega
      obtain ⟨ad, A2, c2_, e0, x0, x1, x2, hcd, hCd⟩ := at_T45 (Kd.C_below HR1.out hI.out.below) (i : Int) p0 p1
      cases e0
      rw [Int.toNat_natCast] at x0 x1 x2
      obtain ⟨y, hy⟩ : ∃ y, rd_T45 l1 (i : Int) = y := ⟨_, rfl⟩
      rw [hy] at x0 x1 x2 hcd hCd
      have hyb : y.f2.length ≤ 140737488351232 := by
        rw [← hy]
        unfold rd_T45
        rw [Int.toNat_natCast, List.getD_eq_getElem?_getD, List.getElem?_eq_getElem ci]
        exact HBIG.out _ (List.getElem_mem ci)
      obtain ⟨k, kn, ys⟩ := y
      have hxs := hI.out.hx
      have hsu := hI.out.hs
      have HCI := Lib.hid ci
      have HCD := Lib.hid hCd
      have HXS := Lib.hid hxs
      have HSU := Lib.hid hsu
      replace p0 := eq_true p0
      replace p1 := eq_true p1
      dsimp only at x0 x1 x2 hcd hyb
      clear hy ci ci2 hCd hxs hsu
      have hmr : (if room < 0 then 0 else room) = rr := by have := HRR2.out.1; unfold mx at this; (repeat' split at this) <;> (split <;> omega)
      have hzx := strOfNums_size xs
      obtain ⟨K, hK⟩ : ∃ K, (wrap64 (k.tmod 4 + 4)).tmod 4 = K := ⟨_, rfl⟩
      by_cases k0 : K = 0
      · have q0 : ((wrap64 (k.tmod 4 + 4)).tmod 4 == 0) = true := beq_iff_eq.mpr (by rw [hK]; exact k0)
        clear k0 hK
        have e1 : wrap64 ((xs.length : Int) + ys.length) = (xs.length : Int) + ys.length := by have := HXS.out; have := HRR2.out; unfold wrap64; omega
        have HYB := Lib.hid hyb
        by_cases cf : rr < (xs.length : Int) + ys.length
        · have d1 : decide (rr < (xs.length : Int) + ys.length) = true := decide_eq_true cf
          have e2 : wrap64 ((xs.length : Int) - sure) = (xs.length : Int) - sure := by have := HXS.out; have := HSU.out; have := HRR2.out; unfold wrap64; omega
          have HCF := Lib.hid cf
          clear cf hyb
          go_wp2_with (first | ((with_reducible refine gate_dst (N := 9) rfl ?_); go_must (refine box_event rfl (N := 9) rfl (run_alloc _ 45 _ 3 i45 _ _ rfl _) ?_; intro g8 hg8 w2 b8 hb; have B2 := hb; have L8 := Nat.le_of_eq hg8.symm; have G8 : g < g8 := (by obtain ⟨v_, hv_⟩ := hI.out.d; rw [hg8]; exact blk_lt hv_.blk); clear hb hg8 x0 x1 x2)) | ((with_reducible refine gate_store (t := 45) rfl ?_); go_must (refine store_ev rfl rfl 45 (.tmp 9) (.tmp 34) rfl g8 _ _ rfl rfl b8 rfl s45 (one45 _ _ _ _ _) ?_; intro w3 hst; have I3 := hI.out.step (hst.below _ B2 L8); have d8 := hst.at_; have f0 := blk_cell d8 0; have f1 := blk_cell d8 1; have f2 := blk_cell d8 2; have C3 := Kd.C_below HCD.out (hst.below _ B2 L8); clear hst b8 B2)) | (go_at_call 16; (with_reducible refine (DS.append I3 A2 c2_ ys C3 17 xs (fun _ => ⟨rfl, rfl⟩) (fun h => absurd HCF.out (Int.not_lt.mpr h))).mono ?_); rintro e w4 ⟨rfl, I5⟩; clear I3 C3) | (go_at_call 19; (with_reducible refine I5.read.mono ?_); rintro e w7 ⟨Ar, cr, rfl, hcr, hCr, I7, _⟩; have s2 := Kd.C_string (P := Try.prog) Try.underlying22 Try.underlying5 Try.underlying9 (c := cr) hCr; clear I5) | (go_at_call 20; (with_reducible refine I7.loose.mono ?_); rintro e w8 ⟨rfl, I8, _⟩; clear I7) | (go_at_call 29; (with_reducible refine I8.size.mono ?_); rintro e w9 ⟨rfl, rfl⟩))
          obtain ⟨k1, rfl⟩ : ∃ k1, gk = k1 + 1 := ⟨gk - 1, by have := hi.out; omega⟩
          go_roundg k1
          case measure => omega
          case rel => exact ⟨i + 1, xs, sure, congrArg (Value.int .i64) (by have := hi.out; have := HMX.out; have := HCI.out; unfold wrap64; omega), rfl, rfl, Lib.hid ⟨HCI.out, by have := hi.out; omega⟩, Lib.hid I8⟩
        · have d1 : decide (rr < (xs.length : Int) + ys.length) = false := decide_eq_false cf
          obtain ⟨zs, hzs⟩ : ∃ zs, xs ++ ys = zs := ⟨_, rfl⟩
          have hap : strOfNums xs ++ strOfNums ys = strOfNums zs := by rw [← hzs]; exact str_append xs ys
          have hzl : zs.length = xs.length + ys.length := by rw [← hzs, List.length_append]
          have hza := strOfNums_size zs
          have e2 : wrap64 ((zs.length : Int) - sure) = (zs.length : Int) - sure := by have := HXS.out; have := HSU.out; have := HRR2.out; rw [hzl]; unfold wrap64; omega
          have hlim : (9223372036854775807 < xs.length + ys.length) = False := eq_false (by have := HXS.out; have := HRR2.out; omega)
          have hzy := strOfNums_size ys
          have HCF := Lib.hid cf
          have HZS := Lib.hid hzs
          clear cf hyb hzs hzl
          go_wp2_with (first | ((with_reducible refine gate_dst (N := 9) rfl ?_); go_must (refine box_event rfl (N := 9) rfl (run_alloc _ 45 _ 3 i45 _ _ rfl _) ?_; intro g8 hg8 w2 b8 hb; have B2 := hb; have L8 := Nat.le_of_eq hg8.symm; have G8 : g < g8 := (by obtain ⟨v_, hv_⟩ := hI.out.d; rw [hg8]; exact blk_lt hv_.blk); clear hb hg8 x0 x1 x2)) | ((with_reducible refine gate_store (t := 45) rfl ?_); go_must (refine store_ev rfl rfl 45 (.tmp 9) (.tmp 34) rfl g8 _ _ rfl rfl b8 rfl s45 (one45 _ _ _ _ _) ?_; intro w3 hst; have I3 := hI.out.step (hst.below _ B2 L8); have d8 := hst.at_; have f0 := blk_cell d8 0; have f1 := blk_cell d8 1; have f2 := blk_cell d8 2; have C3 := Kd.C_below HCD.out (hst.below _ B2 L8); have s3 := Kd.C_string (P := Try.prog) Try.underlying22 Try.underlying5 Try.underlying9 (c := c2_) C3; clear hst b8 B2)) | (go_at_call 16; (with_reducible refine (DS.append I3 A2 c2_ ys C3 0 zs (fun h => absurd h HCF.out) (fun _ => ⟨rfl, HZS.out.symm⟩)).mono ?_); rintro e w4 ⟨rfl, I5⟩; clear I3 C3) | (go_at_call 19; (with_reducible refine I5.read.mono ?_); rintro e w7 ⟨Ar, cr, rfl, hcr, hCr, I7, _⟩; have s2 := Kd.C_string (P := Try.prog) Try.underlying22 Try.underlying5 Try.underlying9 (c := cr) hCr; clear I5) | (go_at_call 20; (with_reducible refine I7.loose.mono ?_); rintro e w8 ⟨rfl, I8, _⟩; clear I7) | (go_at_call 29; (with_reducible refine I8.size.mono ?_); rintro e w9 ⟨rfl, rfl⟩))
          obtain ⟨k1, rfl⟩ : ∃ k1, gk = k1 + 1 := ⟨gk - 1, by have := hi.out; omega⟩
          go_roundg k1
          case measure => omega
          case rel => exact ⟨i + 1, zs, sure, congrArg (Value.int .i64) (by have := hi.out; have := HMX.out; have := HCI.out; unfold wrap64; omega), rfl, rfl, Lib.hid ⟨HCI.out, by have := hi.out; omega⟩, Lib.hid I8⟩
      · have q0 : ((wrap64 (k.tmod 4 + 4)).tmod 4 == 0) = false := beq_eq_false_iff_ne.mpr (by rw [hK]; exact k0)
        by_cases k1 : K = 1
        · have q1 : ((wrap64 (k.tmod 4 + 4)).tmod 4 == 1) = true := beq_iff_eq.mpr (by rw [hK]; exact k1)
          have e2 : wrap64 ((xs.length : Int) - sure) = (xs.length : Int) - sure := by have := HXS.out; have := HSU.out; have := HRR2.out; unfold wrap64; omega
          have e3 : wrap64 ((xs.length : Int) - xs.length) = (xs.length : Int) - xs.length := by have := HXS.out; unfold wrap64; omega
          clear k0 k1 hK hyb
          go_wp2_with (first | ((with_reducible refine gate_dst (N := 9) rfl ?_); go_must (refine box_event rfl (N := 9) rfl (run_alloc _ 45 _ 3 i45 _ _ rfl _) ?_; intro g8 hg8 w2 b8 hb; have B2 := hb; have L8 := Nat.le_of_eq hg8.symm; have G8 : g < g8 := (by obtain ⟨v_, hv_⟩ := hI.out.d; rw [hg8]; exact blk_lt hv_.blk); clear hb hg8 x0 x1 x2)) | ((with_reducible refine gate_store (t := 45) rfl ?_); go_must (refine store_ev rfl rfl 45 (.tmp 9) (.tmp 34) rfl g8 _ _ rfl rfl b8 rfl s45 (one45 _ _ _ _ _) ?_; intro w3 hst; have I3 := hI.out.step (hst.below _ B2 L8); have d8 := hst.at_; have f0 := blk_cell d8 0; have f1 := blk_cell d8 1; have f2 := blk_cell d8 2; have C3 := Kd.C_below HCD.out (hst.below _ B2 L8); clear hst b8 B2)) | (go_at_call 17; (with_reducible refine I3.flush.mono ?_); rintro e w4 ⟨rfl, I5⟩; clear I3 C3) | (go_at_call 19; (with_reducible refine I5.read.mono ?_); rintro e w7 ⟨Ar, cr, rfl, hcr, hCr, I7, _⟩; have s2 := Kd.C_string (P := Try.prog) Try.underlying22 Try.underlying5 Try.underlying9 (c := cr) hCr; clear I5) | (go_at_call 20; (with_reducible refine I7.loose.mono ?_); rintro e w8 ⟨rfl, I8, _⟩; clear I7) | (go_at_call 29; (with_reducible refine I8.size.mono ?_); rintro e w9 ⟨rfl, rfl⟩))
          obtain ⟨k1, rfl⟩ : ∃ k1, gk = k1 + 1 := ⟨gk - 1, by have := hi.out; omega⟩
          go_roundg k1
          case measure => omega
          case rel => exact ⟨i + 1, xs, xs.length, congrArg (Value.int .i64) (by have := hi.out; have := HMX.out; have := HCI.out; unfold wrap64; omega), rfl, rfl, Lib.hid ⟨HCI.out, by have := hi.out; omega⟩, Lib.hid I8⟩
        · have q1 : ((wrap64 (k.tmod 4 + 4)).tmod 4 == 1) = false := beq_eq_false_iff_ne.mpr (by rw [hK]; exact k1)
          by_cases k2 : K = 2
          · have q2 : ((wrap64 (k.tmod 4 + 4)).tmod 4 == 2) = true := beq_iff_eq.mpr (by rw [hK]; exact k2)
            have e2 : wrap64 ((xs.length : Int) - sure) = (xs.length : Int) - sure := by have := HXS.out; have := HSU.out; have := HRR2.out; unfold wrap64; omega
            obtain ⟨m, hm⟩ : ∃ m, sure + keepN kn xs.length sure = m := ⟨_, rfl⟩
            have hk := keepN_le kn xs.length sure HSU.out
            rw [hm] at hk
            obtain ⟨u, hu⟩ : ∃ u, (if kn < 0 then 0 else kn) = u := ⟨_, rfl⟩
            obtain ⟨v, hv⟩ : ∃ v, (if (xs.length : Int) - sure < u then (xs.length : Int) - sure else u) = v := ⟨_, rfl⟩
            have hvm : (sure : Int) + v = (m : Int) := by
              have h1 : mn (mx kn 0) ((xs.length : Int) - sure) = v := by rw [← hv, ← hu]; unfold mn mx; (repeat' split) <;> omega
              have h0 : 0 ≤ v := by rw [← hv, ← hu]; have := HSU.out; (repeat' split) <;> omega
              rw [← hm, keepN, h1]
              omega
            have hw : wrap64 ((sure : Int) + v) = (m : Int) := by rw [hvm]; have := HXS.out; have := HRR2.out; unfold wrap64; omega
            obtain ⟨t, ht⟩ : ∃ t, xs.take m = t := ⟨_, rfl⟩
            have htl : t.length = m := by rw [← ht, List.length_take]; omega
            have hex : (strOfNums xs).extract 0 m = strOfNums t := by rw [str_take, ht]
            have hzt := strOfNums_size t
            have e3 : wrap64 ((t.length : Int) - m) = (t.length : Int) - m := by rw [htl]; unfold wrap64; omega
            have p2 : ((m : Int) ≤ (xs.length : Int)) = True := eq_true (by omega)
            have p3 : (m ≤ xs.length) = True := eq_true hk
            have p4 : (0 ≤ (m : Int)) = True := eq_true (by omega)
            have HM := Lib.hid hm
            have HT := Lib.hid ht
            clear k0 k1 k2 hK hyb hm hk hvm ht htl
            go_wp2_with (first | ((with_reducible refine gate_dst (N := 9) rfl ?_); go_must (refine box_event rfl (N := 9) rfl (run_alloc _ 45 _ 3 i45 _ _ rfl _) ?_; intro g8 hg8 w2 b8 hb; have B2 := hb; have L8 := Nat.le_of_eq hg8.symm; have G8 : g < g8 := (by obtain ⟨v_, hv_⟩ := hI.out.d; rw [hg8]; exact blk_lt hv_.blk); clear hb hg8 x0 x1 x2)) | ((with_reducible refine gate_store (t := 45) rfl ?_); go_must (refine store_ev rfl rfl 45 (.tmp 9) (.tmp 34) rfl g8 _ _ rfl rfl b8 rfl s45 (one45 _ _ _ _ _) ?_; intro w3 hst; have I3 := hI.out.step (hst.below _ B2 L8); have d8 := hst.at_; have f0 := blk_cell d8 0; have f1 := blk_cell d8 1; have f2 := blk_cell d8 2; have C3 := Kd.C_below HCD.out (hst.below _ B2 L8); clear hst b8 B2)) | (go_at_call 18; (with_reducible refine (I3.crash2 kn m HM.out).mono ?_); rintro e w4 ⟨rfl, I5, ht⟩; rw [HT.out] at I5; have d9 := (ht.block g8 (blk_lt d8) (Nat.ne_of_gt G8)).trans d8; have f3 := blk_cell d9 1; clear I3 C3 ht) | (go_at_call 19; (with_reducible refine I5.read.mono ?_); rintro e w7 ⟨Ar, cr, rfl, hcr, hCr, I7, _⟩; have s2 := Kd.C_string (P := Try.prog) Try.underlying22 Try.underlying5 Try.underlying9 (c := cr) hCr; clear I5) | (go_at_call 20; (with_reducible refine I7.loose.mono ?_); rintro e w8 ⟨rfl, I8, _⟩; clear I7) | (go_at_call 29; (with_reducible refine I8.size.mono ?_); rintro e w9 ⟨rfl, rfl⟩))
            obtain ⟨k1, rfl⟩ : ∃ k1, gk = k1 + 1 := ⟨gk - 1, by have := hi.out; omega⟩
            go_roundg k1
            case measure => omega
            case rel => exact ⟨i + 1, t, m, congrArg (Value.int .i64) (by have := hi.out; have := HMX.out; have := HCI.out; unfold wrap64; omega), rfl, rfl, Lib.hid ⟨HCI.out, by have := hi.out; omega⟩, Lib.hid I8⟩
          · have q2 : ((wrap64 (k.tmod 4 + 4)).tmod 4 == 2) = false := beq_eq_false_iff_ne.mpr (by rw [hK]; exact k2)
            clear k0 k1 k2 hK hyb
            by_cases cn : 0 ≤ kn ∧ kn ≤ (xs.length : Int)
            · obtain ⟨n0, n1⟩ := cn
              obtain ⟨m, rfl⟩ := Int.eq_ofNat_of_zero_le n0
              have hk : m ≤ xs.length := by omega
              have d1 : decide ((m : Int) < 0) = false := decide_eq_false (by omega)
              have d2 : decide ((xs.length : Int) < (m : Int)) = false := decide_eq_false (by omega)
              have d3 : decide (xs.length < m) = false := decide_eq_false (by omega)
              obtain ⟨t, ht⟩ : ∃ t, xs.take m = t := ⟨_, rfl⟩
              have htl : t.length = m := by rw [← ht, List.length_take]; omega
              have hex : (strOfNums xs).extract 0 m = strOfNums t := by rw [str_take, ht]
              have hzt := strOfNums_size t
              have e3 : wrap64 ((t.length : Int) - m) = (t.length : Int) - m := by rw [htl]; unfold wrap64; omega
              have p2 : ((m : Int) ≤ (xs.length : Int)) = True := eq_true (by omega)
              have p3 : (m ≤ xs.length) = True := eq_true hk
              have p4 : (0 ≤ (m : Int)) = True := eq_true (by omega)
              have HT := Lib.hid ht
              have HK := Lib.hid hk
              clear hk ht htl n0 n1
              go_wp2_with (first | ((with_reducible refine gate_dst (N := 9) rfl ?_); go_must (refine box_event rfl (N := 9) rfl (run_alloc _ 45 _ 3 i45 _ _ rfl _) ?_; intro g8 hg8 w2 b8 hb; have B2 := hb; have L8 := Nat.le_of_eq hg8.symm; have G8 : g < g8 := (by obtain ⟨v_, hv_⟩ := hI.out.d; rw [hg8]; exact blk_lt hv_.blk); clear hb hg8 x0 x1 x2)) | ((with_reducible refine gate_store (t := 45) rfl ?_); go_must (refine store_ev rfl rfl 45 (.tmp 9) (.tmp 34) rfl g8 _ _ rfl rfl b8 rfl s45 (one45 _ _ _ _ _) ?_; intro w3 hst; have I3 := hI.out.step (hst.below _ B2 L8); have d8 := hst.at_; have f0 := blk_cell d8 0; have f1 := blk_cell d8 1; have f2 := blk_cell d8 2; have C3 := Kd.C_below HCD.out (hst.below _ B2 L8); clear hst b8 B2)))
              go_quiet (fail)
              go_wp2_with (first | (go_at_call 28; (with_reducible refine ((I3.step (pw_below_drewN (Below.refl _ _) _)).cut_yes m HK.out).mono ?_); rintro e w4 ⟨rfl, I5⟩; rw [HT.out] at I5; clear I3 C3) | (go_at_call 19; (with_reducible refine I5.read.mono ?_); rintro e w7 ⟨Ar, cr, rfl, hcr, hCr, I7, _⟩; have s2 := Kd.C_string (P := Try.prog) Try.underlying22 Try.underlying5 Try.underlying9 (c := cr) hCr; clear I5) | (go_at_call 20; (with_reducible refine I7.loose.mono ?_); rintro e w8 ⟨rfl, I8, _⟩; clear I7) | (go_at_call 29; (with_reducible refine I8.size.mono ?_); rintro e w9 ⟨rfl, rfl⟩))
              obtain ⟨k1, rfl⟩ : ∃ k1, gk = k1 + 1 := ⟨gk - 1, by have := hi.out; omega⟩
              go_roundg k1
              case measure => omega
              case rel => exact ⟨i + 1, t, m, congrArg (Value.int .i64) (by have := hi.out; have := HMX.out; have := HCI.out; unfold wrap64; omega), rfl, rfl, Lib.hid ⟨HCI.out, by have := hi.out; omega⟩, Lib.hid I8⟩
            · have e2 : wrap64 ((xs.length : Int) - sure) = (xs.length : Int) - sure := by have := HXS.out; have := HSU.out; have := HRR2.out; unfold wrap64; omega
              have HCN := Lib.hid cn
              by_cases cm : kn < 0
              · have d1 : decide (kn < 0) = true := decide_eq_true cm
                clear cn cm
                go_wp2_with (first | ((with_reducible refine gate_dst (N := 9) rfl ?_); go_must (refine box_event rfl (N := 9) rfl (run_alloc _ 45 _ 3 i45 _ _ rfl _) ?_; intro g8 hg8 w2 b8 hb; have B2 := hb; have L8 := Nat.le_of_eq hg8.symm; have G8 : g < g8 := (by obtain ⟨v_, hv_⟩ := hI.out.d; rw [hg8]; exact blk_lt hv_.blk); clear hb hg8 x0 x1 x2)) | ((with_reducible refine gate_store (t := 45) rfl ?_); go_must (refine store_ev rfl rfl 45 (.tmp 9) (.tmp 34) rfl g8 _ _ rfl rfl b8 rfl s45 (one45 _ _ _ _ _) ?_; intro w3 hst; have I3 := hI.out.step (hst.below _ B2 L8); have d8 := hst.at_; have f0 := blk_cell d8 0; have f1 := blk_cell d8 1; have f2 := blk_cell d8 2; have C3 := Kd.C_below HCD.out (hst.below _ B2 L8); clear hst b8 B2)) | (go_at_call 28; (with_reducible refine (I3.cut_no kn HCN.out).mono ?_); rintro e w4 ⟨rfl, I5⟩; clear I3 C3) | (go_at_call 19; (with_reducible refine I5.read.mono ?_); rintro e w7 ⟨Ar, cr, rfl, hcr, hCr, I7, _⟩; have s2 := Kd.C_string (P := Try.prog) Try.underlying22 Try.underlying5 Try.underlying9 (c := cr) hCr; clear I5) | (go_at_call 20; (with_reducible refine I7.loose.mono ?_); rintro e w8 ⟨rfl, I8, _⟩; clear I7) | (go_at_call 29; (with_reducible refine I8.size.mono ?_); rintro e w9 ⟨rfl, rfl⟩))
                obtain ⟨k1, rfl⟩ : ∃ k1, gk = k1 + 1 := ⟨gk - 1, by have := hi.out; omega⟩
                go_roundg k1
                case measure => omega
                case rel => exact ⟨i + 1, xs, sure, congrArg (Value.int .i64) (by have := hi.out; have := HMX.out; have := HCI.out; unfold wrap64; omega), rfl, rfl, Lib.hid ⟨HCI.out, by have := hi.out; omega⟩, Lib.hid I8⟩
              · have d1 : decide (kn < 0) = false := decide_eq_false cm
                have d2 : decide ((xs.length : Int) < kn) = true := decide_eq_true (by omega)
                clear cn cm
                go_wp2_with (first | ((with_reducible refine gate_dst (N := 9) rfl ?_); go_must (refine box_event rfl (N := 9) rfl (run_alloc _ 45 _ 3 i45 _ _ rfl _) ?_; intro g8 hg8 w2 b8 hb; have B2 := hb; have L8 := Nat.le_of_eq hg8.symm; have G8 : g < g8 := (by obtain ⟨v_, hv_⟩ := hI.out.d; rw [hg8]; exact blk_lt hv_.blk); clear hb hg8 x0 x1 x2)) | ((with_reducible refine gate_store (t := 45) rfl ?_); go_must (refine store_ev rfl rfl 45 (.tmp 9) (.tmp 34) rfl g8 _ _ rfl rfl b8 rfl s45 (one45 _ _ _ _ _) ?_; intro w3 hst; have I3 := hI.out.step (hst.below _ B2 L8); have d8 := hst.at_; have f0 := blk_cell d8 0; have f1 := blk_cell d8 1; have f2 := blk_cell d8 2; have C3 := Kd.C_below HCD.out (hst.below _ B2 L8); clear hst b8 B2)) | (go_at_call 28; (with_reducible refine (I3.cut_no kn HCN.out).mono ?_); rintro e w4 ⟨rfl, I5⟩; clear I3 C3) | (go_at_call 19; (with_reducible refine I5.read.mono ?_); rintro e w7 ⟨Ar, cr, rfl, hcr, hCr, I7, _⟩; have s2 := Kd.C_string (P := Try.prog) Try.underlying22 Try.underlying5 Try.underlying9 (c := cr) hCr; clear I5) | (go_at_call 20; (with_reducible refine I7.loose.mono ?_); rintro e w8 ⟨rfl, I8, _⟩; clear I7) | (go_at_call 29; (with_reducible refine I8.size.mono ?_); rintro e w9 ⟨rfl, rfl⟩))
                obtain ⟨k1, rfl⟩ : ∃ k1, gk = k1 + 1 := ⟨gk - 1, by have := hi.out; omega⟩
                go_roundg k1
                case measure => omega
                case rel => exact ⟨i + 1, xs, sure, congrArg (Value.int .i64) (by have := hi.out; have := HMX.out; have := HCI.out; unfold wrap64; omega), rfl, rfl, Lib.hid ⟨HCI.out, by have := hi.out; omega⟩, Lib.hid I8⟩
    · have HB := Lib.hid hI.out.below
      by_cases cl : i < l1.length
      · have c1 : decide ((i : Int) < (l1.length : Int)) = true := decide_eq_true (by omega)
        have c2 : decide (i < l1.length) = true := decide_eq_true cl
        have c3 : decide ((i : Int) < 40) = false := decide_eq_false (by omega)
        have c4 : decide (i < 40) = false := decide_eq_false (by omega)
        clear ci cl hi hI
        go_wp2
        all_goals go_ret
        all_goals exact ⟨rfl, HB.out⟩
      · have c1 : decide ((i : Int) < (l1.length : Int)) = false := decide_eq_false (by omega)
        have c2 : decide (i < l1.length) = false := decide_eq_false cl
        clear ci cl hi hI
        go_wp2
        all_goals go_ret
        all_goals exact ⟨rfl, HB.out⟩
end Go.Proofs.Ytfdpbdaekfdnjaa.X
