/- Texts of this session joined into one: HLLasts, HOpens, QTot, PureJournalLasts. -/
import Derived.Test.YtfdpbdaekfdnjaaZJournalLasts1
import Derived.Test.YtfdpbdaekfdnjaaRows
import Derived.Deep.Slices
import Derived.ChangeSame
import Derived.SizedLaws
import Derived.ProofKit
/- The law JournalLasts, walked. -/
namespace Go.Proofs.Ytfdpbdaekfdnjaa.X
open Go.RowKit Go.Proofs.YtfdpbdaekfdnjaaW.PrintWords Go.Proofs.YtfdpbdaekfdnjaaW.PrintLast Go.Proofs.YtfdpbdaekfdnjaaW.PrintMore
set_option linter.unusedVariables false
set_option linter.unusedSimpArgs false
/-- What a write comes to. -/
theorem write_out (xs : List Int) (l : List (List Int)) (hl : l.length ≤ 4611686018427387904) (hf : (framesL l).length < 140737488355328) :
    ∃ (e0 : Int) (zs : List Int), ((e0 = 0 ∧ zs = xs ++ framesL l ∧ (∀ x ∈ l, x.length ≤ 16384) ∧ (xs.length : Int) + (framesL l).length ≤ 262144) ∨ e0 = 5 ∨ e0 = 17) ∧
      ∀ (W : World) (base g : Nat) (v : Value) (sure : Nat), Dk W base g v xs sure 262144 → ∀ (A : Option Addr) (c : Nat), (∀ W1, Touch (Own g v) W W1 → Kd.C (Kd.slice 5 (Kd.int .u8)) W1 A l.length l) →
        Calls Try.prog 22 #[.pointer (some ⟨g, 0, none⟩), .slice A l.length c] W fun e w' => e = .returned (.int .i64 e0) ∧ ∃ v', Dk w' base g v' zs sure 262144 ∧ Step W w' g v v' := by
  rcases first_long (fun i => (rd_L1 l (i : Int)).length ≤ 16384) (fun i => Nat.lt_or_ge 16384 (rd_L1 l (i : Int)).length |>.symm.imp (fun h => h) (fun h => by omega)) l.length with hall | ⟨m, hm, hlong, hpre⟩
  · by_cases hroom : (262144 : Int) < (xs.length : Int) + (framesL l).length
    · exact ⟨17, xs, .inr (.inr rfl), fun W base g v sure h A c hC => dk_write h A c l hC hl l.length (Nat.le_refl _) hall (fun h => absurd h (Nat.lt_irrefl _)) (Nat.lt_of_le_of_lt (framesL_take_le _ _) hf) 17 xs (fun h => absurd h (Nat.lt_irrefl _)) (fun _ _ => ⟨rfl, rfl⟩) (fun _ h => absurd h (by omega))⟩
    · exact ⟨0, xs ++ framesL l, .inl ⟨rfl, rfl, rd_all hall, by omega⟩, fun W base g v sure h A c hC => dk_write h A c l hC hl l.length (Nat.le_refl _) hall (fun h => absurd h (Nat.lt_irrefl _)) (Nat.lt_of_le_of_lt (framesL_take_le _ _) hf) 0 (xs ++ framesL l) (fun h => absurd h (Nat.lt_irrefl _)) (fun _ h => absurd h (by omega)) (fun _ _ => ⟨rfl, rfl⟩)⟩
  · exact ⟨5, xs, .inr (.inl rfl), fun W base g v sure h A c hC => dk_write h A c l hC hl m (Nat.le_of_lt hm) hpre (fun _ => by omega) (Nat.lt_of_le_of_lt (framesL_take_le _ _) hf) 5 xs (fun _ => ⟨rfl, rfl⟩) (fun h => absurd h (Nat.ne_of_lt hm)) (fun h => absurd h (Nat.ne_of_lt hm))⟩
theorem framesL_take_eq (l : List (List Int)) (j : Nat) : (framesL l).take (framesL (l.take j)).length = framesL (l.take j) := by
  have h := framesL_append (l.take j) (l.drop j)
  rw [List.take_append_drop] at h
  rw [h, List.take_left' rfl]
theorem takeL1 {W : World} {A : Option Addr} {LA L1 : List (List Int)} (hC : Kd.C (Kd.slice 5 (Kd.int .u8)) W A LA.length LA) (hj : L1.length ≤ LA.length) (h : LA.take L1.length = L1) : Kd.C (Kd.slice 5 (Kd.int .u8)) W A L1.length L1 := by
  have := Kd.C_take (m := L1.length) hC hj
  rw [h] at this
  exact this
theorem last_F {Z Z2 g : Nat} {v7 v11 v14 : Value} {W10 W11 W12 W14 : World} {o : Obj} {A : Option Addr} {n : Nat} {L : List (List Int)} (hF : Kd.F (Kd.slice 5 (Kd.int .u8)) W10 (fun k => Z ≤ k ∧ k < Z2) A n L) (hb : Beside Z Z2 g v7) (hz : Z2 ≤ W10.heap.size)
    (s1 : Step (W10.alloc o) W11 g v7 v11) (s2 : Step W11 W12 g v11 v11) (s3 : Step W12 W14 g v11 v14) : Kd.C (Kd.slice 5 (Kd.int .u8)) W14 A n L := by
  have h1 : Z2 ≤ (W10.alloc o).heap.size := by rw [World.size_alloc]; omega
  have f1 := F_beside (Kd.F_alloc hF o) hb s1.t
  have b1 := hb.step s1 h1
  have f2 := F_beside f1 b1 s2.t
  exact Kd.F_now (F_beside f2 b1 s3.t)
theorem N_base {W : World} {base : Nat} {ok : Nat → Prop} {v : Value} {rows : List (List Int)} (h : Kd.N (Kd.slice 5 (Kd.int .u8)) 22 W base ok v rows) : ∀ k, v.ownBlock = some k → base ≤ k := by
  obtain ⟨_, rs, _, hR, _⟩ := h
  obtain ⟨inner, ho⟩ := Kd.R_own hR
  exact fun k hk => own_base ho k hk
def mootlaw13_JournalLasts.f (l0 l1 : List (List Int)) (a2 : Int) (l3 : List Int) : Option Bool :=
  if ((∀ y ∈ l0, ∀ x ∈ y, 0 ≤ x ∧ x < 256) ∧ (∀ y ∈ l1, ∀ x ∈ y, 0 ≤ x ∧ x < 256) ∧ (∀ x ∈ l3, 0 ≤ x ∧ x < 256)) ∧ (l0.length ≤ 1048576 ∧ tot l0 ≤ 1048576) ∧ (l1.length ≤ 1048576 ∧ tot l1 ≤ 1048576) ∧ l3.length ≤ 1048576 then some true else none
theorem lasts_cond {l0 l1 : List (List Int)} {a2 : Int} {l3 : List Int} {r : Bool} (h : mootlaw13_JournalLasts.f l0 l1 a2 l3 = some r) :
    r = true ∧ ((∀ y ∈ l0, Octets y) ∧ (∀ y ∈ l1, Octets y) ∧ Octets l3) ∧ (l0.length ≤ 1048576 ∧ tot l0 ≤ 1048576) ∧ (l1.length ≤ 1048576 ∧ tot l1 ≤ 1048576) ∧ l3.length ≤ 1048576 := by
  unfold mootlaw13_JournalLasts.f at h
  split at h
  · rename_i hc
    exact ⟨(Option.some.inj h).symm, hc⟩
  · cases h
set_option maxRecDepth 100000 in
set_option maxHeartbeats 100000000 in
theorem mootlaw13_JournalLasts.calls (A0 : Option Addr) (c0 : Nat) (l0 : List (List Int)) (A1 : Option Addr) (c1 : Nat) (l1 : List (List Int)) (a2 : Int) (A3 : Option Addr) (c3 : Nat) (l3 : List Int) (r : Bool) (w : World)
    (hr0 : Kd.C (Kd.slice 5 (Kd.int .u8)) w A0 l0.length l0) (hc0 : l0.length ≤ c0) (hr1 : Kd.C (Kd.slice 5 (Kd.int .u8)) w A1 l1.length l1) (hc1 : l1.length ≤ c1) (hr3 : Kd.C (Kd.int .u8) w A3 l3.length l3) (hc3 : l3.length ≤ c3) (h : mootlaw13_JournalLasts.f l0 l1 a2 l3 = some r) :
    Calls Try.prog 13 #[.slice A0 l0.length c0, .slice A1 l1.length c1, .int .i64 a2, .slice A3 l3.length c3] w fun e w' => e = .returned (.bool r) ∧ Below w.heap.size w w' := by
  obtain ⟨rfl, ⟨hO0, hO1, hO3⟩, ⟨hn0, ht0⟩, ⟨hn1, ht1⟩, hn3⟩ := lasts_cond h
  clear h
  have hf0 := framesL_len_eq l0
  have hf1 := framesL_len_eq l1
  have HR0 := Lib.hid hr0
  have HR1 := Lib.hid hr1
  have HR3 := Lib.hid hr3
  have HC3 := Lib.hid hc3
  have HC0 := Lib.hid hc0
  have HC1 := Lib.hid hc1
  clear hr0 hr1 hr3 hc3 hc0 hc1
  obtain ⟨e1, z1, hx1, hw1⟩ := write_out [] l0 (by omega) (by omega)
  have HW1 := Lib.hid hw1
  clear hw1
  rcases hx1 with ⟨rfl, rfl, hall0, hrm0⟩ | hbad
  · obtain ⟨e2, z2, hx2, hw2⟩ := write_out ([] ++ framesL l0) l1 (by omega) (by omega)
    have HW2 := Lib.hid hw2
    clear hw2
    rcases hx2 with ⟨rfl, rfl, hall1, hrm1⟩ | hbad
    · obtain ⟨LA, hLA⟩ : ∃ LA, l0 ++ l1 = LA := ⟨_, rfl⟩
      have hF : [] ++ framesL l0 ++ framesL l1 = framesL LA := by rw [← hLA, framesL_append, List.nil_append]
      have hnil : [] ++ framesL l0 = framesL l0 := rfl
      rw [hF, hnil] at HW2
      rw [hnil] at HW1
      have hallA : ∀ x ∈ LA, x.length ≤ 16384 := by
        intro x hx
        rw [← hLA] at hx
        rcases List.mem_append.1 hx with h | h
        · exact hall0 x h
        · exact hall1 x h
      have hOA : ∀ x ∈ LA, Octets x := by
        intro x hx
        rw [← hLA] at hx
        rcases List.mem_append.1 hx with h | h
        · exact hO0 x h
        · exact hO1 x h
      have hlenA : (framesL LA).length = (framesL l0).length + (framesL l1).length := by rw [← hF, List.length_append, List.nil_append]
      obtain ⟨m, hm⟩ : ∃ m, (framesL l0).length + keepN a2 (framesL LA).length (framesL l0).length = m := ⟨_, rfl⟩
      have hmle : m ≤ (framesL LA).length := by rw [← hm]; exact keepN_le a2 _ _ (by omega)
      have hmge : (framesL l0).length ≤ m := by omega
      obtain ⟨hs1, hs2⟩ := scan_frames LA hallA m hmle
      have hj0 := fits_ge m l0 l1 0 (by omega)
      rw [hLA] at hj0
      have hj1 := fits_le m LA 0
      have hje := fits_end m LA 0 (Nat.zero_le _)
      obtain ⟨j, hj⟩ : ∃ j, fits m 0 LA = j := ⟨_, rfl⟩
      rw [hj] at hs1 hs2 hj0 hj1 hje
      obtain ⟨L1, hL1⟩ : ∃ L1, LA.take j = L1 := ⟨_, rfl⟩
      rw [hL1] at hs1 hs2 hje
      have hL1n : L1.length = j := by rw [← hL1, List.length_take]; omega
      have hcut1 : ((framesL LA).take m).take (framesL L1).length = framesL L1 := by
        rw [List.take_take, Nat.min_eq_left (by omega), ← hL1]
        exact framesL_take_eq LA j
      have hLAn : LA.length = l0.length + l1.length := by rw [← hLA, List.length_append]
      have hall1' : ∀ x ∈ L1, x.length ≤ 16384 := fun x hx => hallA x (List.mem_of_mem_take (hL1 ▸ hx))
      have hOL1 : ∀ x ∈ L1, Octets x := fun x hx => hOA x (List.mem_of_mem_take (hL1 ▸ hx))
      have hE1 : scanEnd ((framesL LA).take m) ≤ ((framesL LA).take m).length := by rw [hs2, List.length_take]; omega
      have hO1' : Octets ((framesL LA).take m) := fun x hx => frames_octets LA hOA x (List.mem_of_mem_take hx)
      have hone : (framesL [l3]).length < 140737488355328 := by rw [show framesL [l3] = frameL l3 by simp [framesL], frameL_len]; omega
      obtain ⟨e3, z3, hx3, hw3⟩ := write_out (framesL L1) [l3] (by simp) hone
      have HW3 := Lib.hid hw3
      have HM := Lib.hid hm
      have HS1 := Lib.hid hs1
      have HS2 := Lib.hid hs2
      have HE1 := Lib.hid hE1
      have HO1 := Lib.hid hO1'
      have HCUT := Lib.hid hcut1
      have HLA := Lib.hid hLA
      have HJ : Hid (L1.length ≤ LA.length ∧ L1.length ≤ 4194304 ∧ LA.length ≤ 4194304 ∧ l0.length + l1.length ≤ 4194304) := Lib.hid (by omega)
      have HL1T : Hid (LA.take L1.length = L1) := Lib.hid (by rw [hL1n]; exact hL1)
      have d1 : decide ((L1.length : Int) < (l0.length : Int)) = false := decide_eq_false (by omega)
      have d2 : decide (L1.length < l0.length) = false := decide_eq_false (by omega)
      have d3 : decide ((L1.length : Int) > (LA.length : Int)) = false := decide_eq_false (by omega)
      have d4 : decide ((LA.length : Int) < (L1.length : Int)) = false := decide_eq_false (by omega)
      have d5 : decide (LA.length < L1.length) = false := decide_eq_false (by omega)
      have HALL1 := Lib.hid hall1'
      have HOL1 := Lib.hid hOL1
      have HO3 := Lib.hid hO3
      clear hw3 hm hs1 hs2 hE1 hO1' hcut1 hLA hall1' hOL1 hL1n hL1 hj hje hj0 hj1 hmle hmge hlenA hOA hallA hF hnil hLAn hall0 hall1 hone hO0 hO1 hO3 hrm0 hrm1 hf0 hf1
      rcases hx3 with ⟨rfl, rfl, hall3, hrm3⟩ | hbad
      · have hF2 : framesL L1 ++ framesL [l3] = framesL (L1 ++ [l3]) := (framesL_append _ _).symm
        obtain ⟨L2, hL2⟩ : ∃ L2, L1 ++ [l3] = L2 := ⟨_, rfl⟩
        rw [hL2] at hF2
        rw [hF2] at HW3
        have hall2 : ∀ x ∈ L2, x.length ≤ 16384 := by
          intro x hx
          rw [← hL2] at hx
          rcases List.mem_append.1 hx with h | h
          · exact HALL1.out x h
          · exact hall3 x h
        have hO2 : ∀ x ∈ L2, Octets x := by
          intro x hx
          rw [← hL2] at hx
          rcases List.mem_append.1 hx with h | h
          · exact HOL1.out x h
          · obtain rfl := List.mem_singleton.1 h
            exact HO3.out
        obtain ⟨hs3, hs4⟩ := scan_all L2 hall2
        have HS3 := Lib.hid hs3
        have HS4 := Lib.hid hs4
        have HE2 : Hid (scanEnd (framesL L2) ≤ (framesL L2).length) := Lib.hid (by rw [hs4]; exact Nat.le_refl _)
        have HO2 := Lib.hid (frames_octets L2 hO2)
        have hL2n : L2.length = L1.length + 1 := by rw [← hL2, List.length_append]; rfl
        have hq : (L2.length : Int) = (L1.length : Int) + 1 := by omega
        have HL2T : Hid (L2.take L1.length = L1) := Lib.hid (by rw [← hL2, List.take_left' rfl])
        have HRD : Hid (rd_L1 L2 (L1.length : Int) = l3) := Lib.hid (by rw [rdL2_at L2 L1.length (by omega)]; subst hL2; simp)
        have HQN := Lib.hid hL2n
        have HQ := Lib.hid hq
        clear hs3 hs4 hall2 hO2 hL2n hq hF2 hL2 hall3 hrm3
        go_enter Try.func13, Try.ntmps13
        go_wp2_with (first | (go_at_call 33; (with_reducible refine (alive13_calls _).mono ?_); rintro e w1 ⟨rfl, hb1⟩) | (go_at_call 15; have hbx := hb1; (with_reducible refine (new_dk _).mono ?_); rintro e w2 ⟨rfl, hd2, hb2⟩; have D2 := Lib.hid hd2; have T2 := D2; have BW2 := Lib.hid (below_step hbx hb2); have HZ := Lib.hid hbx.size; clear hb1 hbx hd2 hb2) | (go_at_call 22; have hx := T2.out; clear T2; (with_reducible refine (HW1.out _ _ _ _ _ hx A0 c0 (par_C HR0.out BW2.out hx HZ.out)).mono ?_); rintro e w3 ⟨rfl, v3, hd3, hs3⟩; have D3 := Lib.hid hd3; have T3 := D3; have BW3 := Lib.hid (hs3.t.below BW2.out (fun k hk => Nat.le_trans HZ.out (hx.own k hk).1)); clear hd3 hs3 hx) | (go_at_call 17; have hx := T3.out; clear T3; (with_reducible refine (dk_flush hx).mono ?_); rintro e w4 ⟨rfl, hd4, hs4⟩; have D4 := Lib.hid hd4; have T4 := D4; have BW4 := Lib.hid (hs4.t.below BW3.out (fun k hk => Nat.le_trans HZ.out (hx.own k hk).1)); clear hd4 hs4 hx) | (go_at_call 22; have hx := T4.out; clear T4; (with_reducible refine (HW2.out _ _ _ _ _ hx A1 c1 (par_C HR1.out BW4.out hx HZ.out)).mono ?_); rintro e w5 ⟨rfl, v5, hd5, hs5⟩; have D5 := Lib.hid hd5; have T5 := D5; have BW5 := Lib.hid (hs5.t.below BW4.out (fun k hk => Nat.le_trans HZ.out (hx.own k hk).1)); clear hd5 hs5 hx) | (go_at_call 18; have hx := T5.out; clear T5; (with_reducible refine (dk_crash hx a2 m HM.out).mono ?_); rintro e w6 ⟨rfl, v6, hd6, hs6⟩; have D6 := Lib.hid hd6; have T6 := D6; have BW6 := Lib.hid (hs6.t.below BW5.out (fun k hk => Nat.le_trans HZ.out (hx.own k hk).1)); clear hd6 hs6 hx) | (go_at_call 26; have hx := T6.out; clear T6; (with_reducible refine (dk_recover hx HO1.out HE1.out).mono ?_); rw [HS1.out, HS2.out, HCUT.out]; rintro e w7 ⟨A7, c7, v7, Z7, rfl, hcl7, hF7, hz7, hd7, hs7⟩; have D7 := Lib.hid hd7; have BW7 := Lib.hid (hs7.t.below BW6.out (fun k hk => Nat.le_trans HZ.out (hx.own k hk).1)); have F7 := Lib.hid (Kd.F_bound hF7); have BS7 : Hid (Beside Z7 w7.heap.size _ v7) := Lib.hid (fun k hk hh => by have := hz7 k hk; omega); clear hd7 hs7 hx hF7 hz7 hcl7) | ((with_reducible refine gate_builtin (b := .append) (xs := #[.tmp 36, .tmp 37]) rfl ?_); at_builtin; refine Kd.N_append_rows (Kd.slice 5 (Kd.int .u8)) (w0 := w7) w7.heap.size rfl (.tmp 36) (.tmp 37) 33 22 (.slice none 0 0) 24 rfl Try.underlying33 info22 rfl (by decide) (by decide) (.slice none 0 0) [] l0 A0 l0.length c0 (fun _ => True) (fun k => k < w.heap.size) rfl rfl (Kd.N_nil _ _ _ _ _) (Kd.F_below (Kd.C_F (Kd.heap_slice 5 (Kd.heap_int .u8)) HR0.out) BW7.out) (fun k hk => ⟨trivial, by simp [Value.ownBlock]⟩) (fun _ _ => trivial) (Below.refl _ _) (Nat.le_refl _) (by have := HJ.out; simp only [List.length_nil]; omega) ?_; intro v8 w8 ho hb hg hat; rw [List.nil_append] at ho; have N8 := Lib.hid ho; have B8 := Lib.hid hb; clear ho hb hg hat) | ((with_reducible refine gate_builtin (b := .append) (xs := #[.tmp 38, .tmp 39]) rfl ?_); at_builtin; refine Kd.N_append_rows (Kd.slice 5 (Kd.int .u8)) (w0 := w7) w7.heap.size rfl (.tmp 38) (.tmp 39) 33 22 (.slice none 0 0) 24 rfl Try.underlying33 info22 rfl (by decide) (by decide) v8 l0 l1 A1 l1.length c1 (fun _ => True) (fun k => k < w.heap.size) rfl rfl N8.out (Kd.F_below (Kd.C_F (Kd.heap_slice 5 (Kd.heap_int .u8)) HR1.out) (below_step BW7.out B8.out)) (fun k hk => ⟨trivial, fun e => by have := N_base N8.out k e.symm; have := BW7.out.size; omega⟩) (fun _ _ => trivial) B8.out B8.out.size (by have := HJ.out; omega) ?_; intro v9 w9 ho hb hg hat; rw [HLA.out] at ho; obtain ⟨A9, c9, rfl⟩ := Kd.N_slice ho; have C9 := Lib.hid (Kd.N_reads' ho).2.2; have K9 := Lib.hid (Kd.N_reads' ho).2.1; have B9 := Lib.hid hb; obtain ⟨i9, hi9, _, hsz9, _⟩ := info_parts info22; have hcut9 := cut_to (P := Try.prog) 33 22 .i64 Try.underlying33 hi9 A9 LA.length c9 (L1.length : Int) (Int.natCast_nonneg _) (Int.ofNat_le.2 HJ.out.1) K9.out; rw [Int.toNat_natCast] at hcut9; have C9T : Hid (Kd.C (Kd.slice 5 (Kd.int .u8)) w9 A9 L1.length L1) := Lib.hid (takeL1 C9.out HJ.out.1 HL1T.out); have F9 := Lib.hid (Kd.F_below F7.out hb); have D9 := Lib.hid (D7.out.below hb); have BW9 := Lib.hid (below_step BW7.out hb); clear ho hb hg hat hi9 hsz9) | (go_at_call 27; (with_reducible refine (lists_same A7 A9 c7 c9 L1 _ (Kd.F_now F9.out) C9T.out (by have := HJ.out; omega)).mono ?_); rintro e w10 ⟨rfl, hq10⟩; have hb := quiet_below hq10; have F10 := Lib.hid (Kd.F_below F9.out hb); have D10 := Lib.hid (D9.out.below hb); have T10 := D10; have BW10 := Lib.hid (below_step BW9.out hb); have Z10 := Lib.hid (Nat.le_trans B9.out.size hb.size); clear hb hq10) | (go_at_call 22; have hx := T10.out; clear T10; refine (HW3.out _ _ _ _ _ (hx.below (below_alloc (Below.refl _ _) _)) (some ⟨w10.heap.size, 0, none⟩) 1 (lit_C HR3.out HC3.out BW10.out hx HZ.out)).mono ?_; rintro e w11 ⟨rfl, v11, hd11, hs11⟩; have D11 := Lib.hid hd11; have T11 := D11; have S11 := Lib.hid hs11; have BW11 := Lib.hid (hs11.t.below (below_alloc BW10.out _) (fun k hk => Nat.le_trans HZ.out (hx.own k hk).1)); clear hd11 hs11 hx) | (go_at_call 17; have hx := T11.out; clear T11; (with_reducible refine (dk_flush hx).mono ?_); rintro e w12 ⟨rfl, hd12, hs12⟩; have D12 := Lib.hid hd12; have T12 := D12; have S12 := Lib.hid hs12; have BW12 := Lib.hid (hs12.t.below BW11.out (fun k hk => Nat.le_trans HZ.out (hx.own k hk).1)); clear hd12 hs12 hx) | (go_at_call 26; have hx := T12.out; clear T12; (with_reducible refine (dk_recover hx HO2.out HE2.out).mono ?_); rw [HS3.out]; rintro e w14 ⟨AM, cM, v14, Z14, rfl, hcl14, hF14, hz14, hd14, hs14⟩; have BW0 := Lib.hid (hs14.t.below BW12.out (fun k hk => Nat.le_trans HZ.out (hx.own k hk).1)); have CM2 := Lib.hid (Kd.F_now hF14); have HCM := Lib.hid hcl14; have CL0 := Lib.hid (last_F F10.out BS7.out Z10.out S11.out S12.out hs14); clear hd14 hs14 hx hF14 hz14 hcl14))
        have hjq := HJ.out
        have e8 : wrap64 ((L1.length : Int) + 1) = (L1.length : Int) + 1 := wrap64_id _ (by omega) (by omega)
        have e9 : IntKind.i64.wrap ((L1.length : Int) + 1) = (L1.length : Int) + 1 := by rw [IntKind.wrap_i64]; omega
        obtain ⟨adM, AX, cX, rfl, hxc, hxl, hxi⟩ := at_L1 CM2.out L1.length (by omega) (by have := HQN.out; omega)
        rw [HRD.out] at hxc hxl hxi
        rw [Int.toNat_natCast] at hxc
        have CELL0 := Lib.hid hxc
        have CX0 := Lib.hid hxi
        obtain ⟨i0, hi0, _, hsz0, _⟩ := info_parts info22
        have hcutm := cut_to (P := Try.prog) 33 22 .i64 Try.underlying33 hi0 (some adM) (L1.length + 1) cM (L1.length : Int) (by omega) (by omega) (by have := HQN.out; have := HCM.out; omega)
        rw [Int.toNat_natCast] at hcutm
        have CM0 : Hid (Kd.C (Kd.slice 5 (Kd.int .u8)) w14 (some adM) L1.length L1) := Lib.hid (by have := Kd.C_take (m := L1.length) CM2.out (by have := HQN.out; omega); rw [HL2T.out] at this; exact this)
        have p0 : (0 ≤ (L1.length : Int)) = True := eq_true (by omega)
        have p1 : ((L1.length : Int) < (L1.length : Int) + 1) = True := eq_true (by omega)
        have p2 : (L1.length < L1.length + 1) = True := eq_true (by omega)
        rw [HQN.out]
        clear hjq hxc hxl hxi hi0 hsz0
        refine wp_region_noPanic ?_
        refine wp_region_held_drew (S := (fun w' => ((w'.cell? (adM.add L1.length) = some (.slice AX l3.length cX)) ∧ ((convert 22 9 (.slice AX l3.length cX)).run Try.prog w' = .ok (.string (strOfNums l3)) w')) ∧ ((convert 22 9 (.slice A3 l3.length c3)).run Try.prog w' = .ok (.string (strOfNums l3)) w'))) (by kernel_rfl) ⟨⟨CELL0.out, Kd.C_string (P := Try.prog) Try.underlying22 Try.underlying5 Try.underlying9 (c := cX) (Kd.C_drew CX0.out)⟩, Kd.C_string (P := Try.prog) Try.underlying22 Try.underlying5 Try.underlying9 (c := c3) (Kd.C_drew (Kd.C_below HR3.out BW0.out))⟩ (fun hHeld => ?_)
        have CX := Lib.hid (Kd.C_drew CX0.out)
        have CM := Lib.hid (Kd.C_drew CM0.out)
        have CL := Lib.hid (Kd.C_drew CL0.out)
        have BW := Lib.hid (below_drew BW0.out)
        have hcell := CELL0.out
        refine wpAnyH_take (i := 0) (oi := ({ dst := some 78, op := Go.Op.move (Go.Operand.tmp 14), type := 26, pos := "law.go:74", after := #[], guard := none } : Oper)) (v := ?_) rfl (by kernel_rfl) (by kernel_rfl) (by kernel_rfl) (fun _ _ _ h => h) (Or.inl ⟨by rfl, ?_⟩) (by assumption) ?_
        rotate_left
        · (intro w' hSw; try dsimp only at hSw)
          obtain ⟨⟨s0, s1⟩, s2⟩ := hSw
          go_simp <;> with_reducible rfl
        try simp only [Act.put, List.setIfInBounds_toArray, List.set_cons_zero, List.set_cons_succ]
        refine wpAnyH_take (i := 1) (oi := ({ dst := some 79, op := Go.Op.binOp Go.BinOp.eql 26 (Go.Operand.tmp 78) (Go.Operand.const (Go.Value.int Go.IntKind.i64 0)) 26, type := 4, pos := "law.go:74", after := #[{ on := 0, ground := Go.Ground.data }], guard := none } : Oper)) (v := ?_) rfl (by kernel_rfl) (by kernel_rfl) (by kernel_rfl) (fun _ _ _ h => h) (Or.inl ⟨by rfl, ?_⟩) (by assumption) ?_
        rotate_left
        · (intro w' hSw; try dsimp only at hSw)
          obtain ⟨⟨s0, s1⟩, s2⟩ := hSw
          go_simp <;> with_reducible rfl
        try simp only [Act.put, List.setIfInBounds_toArray, List.set_cons_zero, List.set_cons_succ]
        refine wpAnyH_take (i := 2) (oi := ({ dst := some 80, op := Go.Op.move (Go.Operand.tmp 79), type := 4, pos := "law.go:74", after := #[{ on := 1, ground := Go.Ground.data }], guard := none } : Oper)) (v := ?_) rfl (by kernel_rfl) (by kernel_rfl) (by kernel_rfl) (fun _ _ _ h => h) (Or.inl ⟨by rfl, ?_⟩) (by assumption) ?_
        rotate_left
        · (intro w' hSw; try dsimp only at hSw)
          obtain ⟨⟨s0, s1⟩, s2⟩ := hSw
          go_simp <;> with_reducible rfl
        try simp only [Act.put, List.setIfInBounds_toArray, List.set_cons_zero, List.set_cons_succ]
        refine wpAnyH_take (i := 3) (oi := ({ dst := some 81, op := Go.Op.move (Go.Operand.tmp 13), type := 33, pos := "law.go:74", after := #[{ on := 2, ground := Go.Ground.guard }], guard := some (2, true) } : Oper)) (v := ?_) rfl (by kernel_rfl) (by kernel_rfl) (by kernel_rfl) (fun _ _ _ h => h) (Or.inl ⟨by rfl, ?_⟩) (by assumption) ?_
        rotate_left
        · (intro w' hSw; try dsimp only at hSw)
          obtain ⟨⟨s0, s1⟩, s2⟩ := hSw
          go_simp <;> with_reducible rfl
        try simp only [Act.put, List.setIfInBounds_toArray, List.set_cons_zero, List.set_cons_succ]
        refine wpAnyH_take (i := 4) (oi := ({ dst := some 82, op := Go.Op.call { callee := Go.Callee.builtin Go.Builtin.len, args := #[Go.Operand.tmp 81], argTypes := #[33] }, type := 3, pos := "law.go:74", after := #[{ on := 3, ground := Go.Ground.data }, { on := 2, ground := Go.Ground.guard }], guard := some (2, true) } : Oper)) (v := ?_) rfl (by kernel_rfl) (by kernel_rfl) (by kernel_rfl) (fun _ _ _ h => h) (Or.inl ⟨by rfl, ?_⟩) (by assumption) ?_
        rotate_left
        · (intro w' hSw; try dsimp only at hSw)
          obtain ⟨⟨s0, s1⟩, s2⟩ := hSw
          go_simp <;> with_reducible rfl
        try simp only [Act.put, List.setIfInBounds_toArray, List.set_cons_zero, List.set_cons_succ]
        refine wpAnyH_take (i := 5) (oi := ({ dst := some 83, op := Go.Op.move (Go.Operand.tmp 10), type := 33, pos := "law.go:74", after := #[{ on := 2, ground := Go.Ground.guard }], guard := some (2, true) } : Oper)) (v := ?_) rfl (by kernel_rfl) (by kernel_rfl) (by kernel_rfl) (fun _ _ _ h => h) (Or.inl ⟨by rfl, ?_⟩) (by assumption) ?_
        rotate_left
        · (intro w' hSw; try dsimp only at hSw)
          obtain ⟨⟨s0, s1⟩, s2⟩ := hSw
          go_simp <;> with_reducible rfl
        try simp only [Act.put, List.setIfInBounds_toArray, List.set_cons_zero, List.set_cons_succ]
        refine wpAnyH_take (i := 6) (oi := ({ dst := some 84, op := Go.Op.call { callee := Go.Callee.builtin Go.Builtin.len, args := #[Go.Operand.tmp 83], argTypes := #[33] }, type := 3, pos := "law.go:74", after := #[{ on := 5, ground := Go.Ground.data }, { on := 2, ground := Go.Ground.guard }], guard := some (2, true) } : Oper)) (v := ?_) rfl (by kernel_rfl) (by kernel_rfl) (by kernel_rfl) (fun _ _ _ h => h) (Or.inl ⟨by rfl, ?_⟩) (by assumption) ?_
        rotate_left
        · (intro w' hSw; try dsimp only at hSw)
          obtain ⟨⟨s0, s1⟩, s2⟩ := hSw
          go_simp <;> with_reducible rfl
        try simp only [Act.put, List.setIfInBounds_toArray, List.set_cons_zero, List.set_cons_succ]
        refine wpAnyH_take (i := 7) (oi := ({ dst := some 85, op := Go.Op.binOp Go.BinOp.add 3 (Go.Operand.tmp 84) (Go.Operand.const (Go.Value.int Go.IntKind.i64 1)) 3, type := 3, pos := "law.go:74", after := #[{ on := 6, ground := Go.Ground.data }, { on := 2, ground := Go.Ground.guard }], guard := some (2, true) } : Oper)) (v := ?_) rfl (by kernel_rfl) (by kernel_rfl) (by kernel_rfl) (fun _ _ _ h => h) (Or.inl ⟨by rfl, ?_⟩) (by assumption) ?_
        rotate_left
        · (intro w' hSw; try dsimp only at hSw)
          obtain ⟨⟨s0, s1⟩, s2⟩ := hSw
          go_simp <;> with_reducible rfl
        try simp only [Act.put, List.setIfInBounds_toArray, List.set_cons_zero, List.set_cons_succ]
        refine wpAnyH_take (i := 8) (oi := ({ dst := some 86, op := Go.Op.binOp Go.BinOp.eql 3 (Go.Operand.tmp 82) (Go.Operand.tmp 85) 3, type := 4, pos := "law.go:74", after := #[{ on := 4, ground := Go.Ground.data }, { on := 7, ground := Go.Ground.data }, { on := 2, ground := Go.Ground.guard }], guard := some (2, true) } : Oper)) (v := ?_) rfl (by kernel_rfl) (by kernel_rfl) (by kernel_rfl) (fun _ _ _ h => h) (Or.inl ⟨by rfl, ?_⟩) (by assumption) ?_
        rotate_left
        · (intro w' hSw; try dsimp only at hSw)
          obtain ⟨⟨s0, s1⟩, s2⟩ := hSw
          go_simp <;> with_reducible rfl
        try simp only [Act.put, List.setIfInBounds_toArray, List.set_cons_zero, List.set_cons_succ]
        refine wpAnyH_take (i := 9) (oi := ({ dst := some 87, op := Go.Op.pick (Go.Operand.tmp 80) (Go.Operand.tmp 86) (Go.Operand.const (Go.Value.bool false)), type := 4, pos := "law.go:74", after := #[{ on := 2, ground := Go.Ground.data }, { on := 8, ground := Go.Ground.data }], guard := none } : Oper)) (v := ?_) rfl (by kernel_rfl) (by kernel_rfl) (by kernel_rfl) (fun _ _ _ h => h) (Or.inl ⟨by rfl, ?_⟩) (by assumption) ?_
        rotate_left
        · (intro w' hSw; try dsimp only at hSw)
          obtain ⟨⟨s0, s1⟩, s2⟩ := hSw
          go_simp <;> with_reducible rfl
        try simp only [Act.put, List.setIfInBounds_toArray, List.set_cons_zero, List.set_cons_succ]
        refine wpAnyH_take (i := 10) (oi := ({ dst := some 88, op := Go.Op.move (Go.Operand.tmp 87), type := 4, pos := "law.go:74", after := #[{ on := 9, ground := Go.Ground.data }, { on := 2, ground := Go.Ground.chain }], guard := none } : Oper)) (v := ?_) rfl (by kernel_rfl) (by kernel_rfl) (by kernel_rfl) (fun _ _ _ h => h) (Or.inl ⟨by rfl, ?_⟩) (by assumption) ?_
        rotate_left
        · (intro w' hSw; try dsimp only at hSw)
          obtain ⟨⟨s0, s1⟩, s2⟩ := hSw
          go_simp <;> with_reducible rfl
        try simp only [Act.put, List.setIfInBounds_toArray, List.set_cons_zero, List.set_cons_succ]
        refine wpAnyH_take (i := 11) (oi := ({ dst := some 89, op := Go.Op.move (Go.Operand.tmp 13), type := 33, pos := "law.go:74", after := #[{ on := 10, ground := Go.Ground.guard }], guard := some (10, true) } : Oper)) (v := ?_) rfl (by kernel_rfl) (by kernel_rfl) (by kernel_rfl) (fun _ _ _ h => h) (Or.inl ⟨by rfl, ?_⟩) (by assumption) ?_
        rotate_left
        · (intro w' hSw; try dsimp only at hSw)
          obtain ⟨⟨s0, s1⟩, s2⟩ := hSw
          go_simp <;> with_reducible rfl
        try simp only [Act.put, List.setIfInBounds_toArray, List.set_cons_zero, List.set_cons_succ]
        refine wpAnyH_take (i := 12) (oi := ({ dst := some 90, op := Go.Op.move (Go.Operand.tmp 10), type := 33, pos := "law.go:74", after := #[{ on := 10, ground := Go.Ground.guard }], guard := some (10, true) } : Oper)) (v := ?_) rfl (by kernel_rfl) (by kernel_rfl) (by kernel_rfl) (fun _ _ _ h => h) (Or.inl ⟨by rfl, ?_⟩) (by assumption) ?_
        rotate_left
        · (intro w' hSw; try dsimp only at hSw)
          obtain ⟨⟨s0, s1⟩, s2⟩ := hSw
          go_simp <;> with_reducible rfl
        try simp only [Act.put, List.setIfInBounds_toArray, List.set_cons_zero, List.set_cons_succ]
        refine wpAnyH_take (i := 13) (oi := ({ dst := some 91, op := Go.Op.call { callee := Go.Callee.builtin Go.Builtin.len, args := #[Go.Operand.tmp 90], argTypes := #[33] }, type := 3, pos := "law.go:74", after := #[{ on := 12, ground := Go.Ground.data }, { on := 10, ground := Go.Ground.guard }], guard := some (10, true) } : Oper)) (v := ?_) rfl (by kernel_rfl) (by kernel_rfl) (by kernel_rfl) (fun _ _ _ h => h) (Or.inl ⟨by rfl, ?_⟩) (by assumption) ?_
        rotate_left
        · (intro w' hSw; try dsimp only at hSw)
          obtain ⟨⟨s0, s1⟩, s2⟩ := hSw
          go_simp <;> with_reducible rfl
        try simp only [Act.put, List.setIfInBounds_toArray, List.set_cons_zero, List.set_cons_succ]
        refine wpAnyH_take (i := 14) (oi := ({ dst := some 92, op := Go.Op.slice 33 (Go.Operand.tmp 89) none (some (Go.Operand.tmp 91)) none, type := 33, pos := "law.go:74", after := #[{ on := 11, ground := Go.Ground.data }, { on := 13, ground := Go.Ground.data }, { on := 10, ground := Go.Ground.guard }], guard := some (10, true) } : Oper)) (v := ?_) rfl (by kernel_rfl) (by kernel_rfl) (by kernel_rfl) (fun _ _ _ h => h) (Or.inl ⟨by rfl, ?_⟩) (by assumption) ?_
        rotate_left
        · (intro w' hSw; try dsimp only at hSw)
          obtain ⟨⟨s0, s1⟩, s2⟩ := hSw
          go_simp <;> with_reducible rfl
        try simp only [Act.put, List.setIfInBounds_toArray, List.set_cons_zero, List.set_cons_succ]
        refine wpAnyH_take (i := 15) (oi := ({ dst := some 93, op := Go.Op.move (Go.Operand.tmp 10), type := 33, pos := "law.go:74", after := #[{ on := 10, ground := Go.Ground.guard }], guard := some (10, true) } : Oper)) (v := ?_) rfl (by kernel_rfl) (by kernel_rfl) (by kernel_rfl) (fun _ _ _ h => h) (Or.inl ⟨by rfl, ?_⟩) (by assumption) ?_
        rotate_left
        · (intro w' hSw; try dsimp only at hSw)
          obtain ⟨⟨s0, s1⟩, s2⟩ := hSw
          go_simp <;> with_reducible rfl
        try simp only [Act.put, List.setIfInBounds_toArray, List.set_cons_zero, List.set_cons_succ]
        refine wpAnyH_ready (rs := [16]) (by kernel_rfl) (by simp) ?_
        refine AllReadyH.cons (o := ({ dst := some 94, op := Go.Op.call { callee := Go.Callee.value (Go.Operand.func 27), args := #[Go.Operand.tmp 92, Go.Operand.tmp 93], argTypes := #[33, 33] }, type := 4, pos := "law.go:74", after := #[{ on := 14, ground := Go.Ground.data }, { on := 15, ground := Go.Ground.data }, { on := 10, ground := Go.Ground.chain }, { on := 10, ground := Go.Ground.guard }], guard := some (10, true) } : Oper)) rfl (fun K hK => ?_) AllReadyH.nil
        go_simp
        go_at_call 27
        (with_reducible refine (lists_same _ _ _ _ L1 _ CM.out CL.out (by have := HJ.out; omega)).mono ?_)
        rintro e wz ⟨rfl, hq⟩
        have hb := quiet_below hq
        clear hq
        have CELL : Hid (wz.cell? (adM.add L1.length) = some (.slice AX l3.length cX)) := Lib.hid ((hb.cell (World.block_lt_of_cell? _ _ hcell)).trans hcell)
        clear hcell
        have CX := Lib.hid (Kd.C_below CX.out hb)
        have BW := Lib.hid (below_step BW.out hb)
        clear hb
        clear hHeld
        go_wp2_with fail
        refine hK.out _ _ ⟨⟨(CELL.out), (Kd.C_string (P := Try.prog) Try.underlying22 Try.underlying5 Try.underlying9 (c := cX) CX.out)⟩, (Kd.C_string (P := Try.prog) Try.underlying22 Try.underlying5 Try.underlying9 (c := c3) (Kd.C_below HR3.out BW.out))⟩ (fun hHeld => ?_)
        clear hK K
        try simp only [Act.put, List.setIfInBounds_toArray, List.set_cons_zero, List.set_cons_succ]
        refine wpAnyH_take (i := 17) (oi := ({ dst := some 95, op := Go.Op.pick (Go.Operand.tmp 88) (Go.Operand.tmp 94) (Go.Operand.const (Go.Value.bool false)), type := 4, pos := "law.go:74", after := #[{ on := 10, ground := Go.Ground.data }, { on := 16, ground := Go.Ground.data }], guard := none } : Oper)) (v := ?_) rfl (by kernel_rfl) (by kernel_rfl) (by kernel_rfl) (fun _ _ _ h => h) (Or.inl ⟨by rfl, ?_⟩) (by assumption) ?_
        rotate_left
        · (intro w' hSw; try dsimp only at hSw)
          obtain ⟨⟨s0, s1⟩, s2⟩ := hSw
          go_simp <;> with_reducible rfl
        try simp only [Act.put, List.setIfInBounds_toArray, List.set_cons_zero, List.set_cons_succ]
        refine wpAnyH_take (i := 18) (oi := ({ dst := some 96, op := Go.Op.move (Go.Operand.tmp 95), type := 4, pos := "law.go:74", after := #[{ on := 17, ground := Go.Ground.data }, { on := 16, ground := Go.Ground.chain }], guard := none } : Oper)) (v := ?_) rfl (by kernel_rfl) (by kernel_rfl) (by kernel_rfl) (fun _ _ _ h => h) (Or.inl ⟨by rfl, ?_⟩) (by assumption) ?_
        rotate_left
        · (intro w' hSw; try dsimp only at hSw)
          obtain ⟨⟨s0, s1⟩, s2⟩ := hSw
          go_simp <;> with_reducible rfl
        try simp only [Act.put, List.setIfInBounds_toArray, List.set_cons_zero, List.set_cons_succ]
        refine wpAnyH_take (i := 19) (oi := ({ dst := some 97, op := Go.Op.move (Go.Operand.tmp 13), type := 33, pos := "law.go:74", after := #[{ on := 18, ground := Go.Ground.guard }], guard := some (18, true) } : Oper)) (v := ?_) rfl (by kernel_rfl) (by kernel_rfl) (by kernel_rfl) (fun _ _ _ h => h) (Or.inl ⟨by rfl, ?_⟩) (by assumption) ?_
        rotate_left
        · (intro w' hSw; try dsimp only at hSw)
          obtain ⟨⟨s0, s1⟩, s2⟩ := hSw
          go_simp <;> with_reducible rfl
        try simp only [Act.put, List.setIfInBounds_toArray, List.set_cons_zero, List.set_cons_succ]
        refine wpAnyH_take (i := 20) (oi := ({ dst := some 98, op := Go.Op.move (Go.Operand.tmp 10), type := 33, pos := "law.go:74", after := #[{ on := 18, ground := Go.Ground.guard }], guard := some (18, true) } : Oper)) (v := ?_) rfl (by kernel_rfl) (by kernel_rfl) (by kernel_rfl) (fun _ _ _ h => h) (Or.inl ⟨by rfl, ?_⟩) (by assumption) ?_
        rotate_left
        · (intro w' hSw; try dsimp only at hSw)
          obtain ⟨⟨s0, s1⟩, s2⟩ := hSw
          go_simp <;> with_reducible rfl
        try simp only [Act.put, List.setIfInBounds_toArray, List.set_cons_zero, List.set_cons_succ]
        refine wpAnyH_take (i := 21) (oi := ({ dst := some 99, op := Go.Op.call { callee := Go.Callee.builtin Go.Builtin.len, args := #[Go.Operand.tmp 98], argTypes := #[33] }, type := 3, pos := "law.go:74", after := #[{ on := 20, ground := Go.Ground.data }, { on := 18, ground := Go.Ground.guard }], guard := some (18, true) } : Oper)) (v := ?_) rfl (by kernel_rfl) (by kernel_rfl) (by kernel_rfl) (fun _ _ _ h => h) (Or.inl ⟨by rfl, ?_⟩) (by assumption) ?_
        rotate_left
        · (intro w' hSw; try dsimp only at hSw)
          obtain ⟨⟨s0, s1⟩, s2⟩ := hSw
          go_simp <;> with_reducible rfl
        try simp only [Act.put, List.setIfInBounds_toArray, List.set_cons_zero, List.set_cons_succ]
        refine wpAnyH_take (i := 22) (oi := ({ dst := some 100, op := Go.Op.indexAddr 33 (Go.Operand.tmp 97) (Go.Operand.tmp 99), type := 0, pos := "law.go:74", after := #[{ on := 19, ground := Go.Ground.data }, { on := 21, ground := Go.Ground.data }, { on := 18, ground := Go.Ground.guard }], guard := some (18, true) } : Oper)) (v := ?_) rfl (by kernel_rfl) (by kernel_rfl) (by kernel_rfl) (fun _ _ _ h => h) (Or.inl ⟨by rfl, ?_⟩) (by assumption) ?_
        rotate_left
        · (intro w' hSw; try dsimp only at hSw)
          obtain ⟨⟨s0, s1⟩, s2⟩ := hSw
          go_simp <;> with_reducible rfl
        try simp only [Act.put, List.setIfInBounds_toArray, List.set_cons_zero, List.set_cons_succ]
        refine wpAnyH_take (i := 23) (oi := ({ dst := some 101, op := Go.Op.load 22 (Go.Operand.tmp 100), type := 22, pos := "law.go:74", after := #[{ on := 22, ground := Go.Ground.data }, { on := 18, ground := Go.Ground.guard }], guard := some (18, true) } : Oper)) (v := ?_) rfl (by kernel_rfl) (by kernel_rfl) (by kernel_rfl) (fun _ _ _ h => h) (Or.inl ⟨by rfl, ?_⟩) (by assumption) ?_
        rotate_left
        · (intro w' hSw; try dsimp only at hSw)
          obtain ⟨⟨s0, s1⟩, s2⟩ := hSw
          go_simp <;> with_reducible rfl
        try simp only [Act.put, List.setIfInBounds_toArray, List.set_cons_zero, List.set_cons_succ]
        refine wpAnyH_take (i := 24) (oi := ({ dst := some 102, op := Go.Op.convert 22 9 (Go.Operand.tmp 101), type := 9, pos := "law.go:74", after := #[{ on := 23, ground := Go.Ground.data }, { on := 18, ground := Go.Ground.guard }], guard := some (18, true) } : Oper)) (v := ?_) rfl (by kernel_rfl) (by kernel_rfl) (by kernel_rfl) (fun _ _ _ h => h) (Or.inl ⟨by rfl, ?_⟩) (by assumption) ?_
        rotate_left
        · (intro w' hSw; try dsimp only at hSw)
          obtain ⟨⟨s0, s1⟩, s2⟩ := hSw
          go_simp <;> with_reducible rfl
        try simp only [Act.put, List.setIfInBounds_toArray, List.set_cons_zero, List.set_cons_succ]
        refine wpAnyH_take (i := 25) (oi := ({ dst := some 103, op := Go.Op.move (Go.Operand.tmp 3), type := 22, pos := "law.go:74", after := #[{ on := 18, ground := Go.Ground.guard }], guard := some (18, true) } : Oper)) (v := ?_) rfl (by kernel_rfl) (by kernel_rfl) (by kernel_rfl) (fun _ _ _ h => h) (Or.inl ⟨by rfl, ?_⟩) (by assumption) ?_
        rotate_left
        · (intro w' hSw; try dsimp only at hSw)
          obtain ⟨⟨s0, s1⟩, s2⟩ := hSw
          go_simp <;> with_reducible rfl
        try simp only [Act.put, List.setIfInBounds_toArray, List.set_cons_zero, List.set_cons_succ]
        refine wpAnyH_take (i := 26) (oi := ({ dst := some 104, op := Go.Op.convert 22 9 (Go.Operand.tmp 103), type := 9, pos := "law.go:74", after := #[{ on := 25, ground := Go.Ground.data }, { on := 18, ground := Go.Ground.guard }], guard := some (18, true) } : Oper)) (v := ?_) rfl (by kernel_rfl) (by kernel_rfl) (by kernel_rfl) (fun _ _ _ h => h) (Or.inl ⟨by rfl, ?_⟩) (by assumption) ?_
        rotate_left
        · (intro w' hSw; try dsimp only at hSw)
          obtain ⟨⟨s0, s1⟩, s2⟩ := hSw
          go_simp <;> with_reducible rfl
        try simp only [Act.put, List.setIfInBounds_toArray, List.set_cons_zero, List.set_cons_succ]
        refine wpAnyH_take (i := 27) (oi := ({ dst := some 105, op := Go.Op.binOp Go.BinOp.eql 9 (Go.Operand.tmp 102) (Go.Operand.tmp 104) 9, type := 4, pos := "law.go:74", after := #[{ on := 24, ground := Go.Ground.data }, { on := 26, ground := Go.Ground.data }, { on := 18, ground := Go.Ground.guard }], guard := some (18, true) } : Oper)) (v := ?_) rfl (by kernel_rfl) (by kernel_rfl) (by kernel_rfl) (fun _ _ _ h => h) (Or.inl ⟨by rfl, ?_⟩) (by assumption) ?_
        rotate_left
        · (intro w' hSw; try dsimp only at hSw)
          obtain ⟨⟨s0, s1⟩, s2⟩ := hSw
          go_simp <;> with_reducible rfl
        try simp only [Act.put, List.setIfInBounds_toArray, List.set_cons_zero, List.set_cons_succ]
        refine wpAnyH_take (i := 28) (oi := ({ dst := some 106, op := Go.Op.pick (Go.Operand.tmp 96) (Go.Operand.tmp 105) (Go.Operand.const (Go.Value.bool false)), type := 4, pos := "law.go:74", after := #[{ on := 18, ground := Go.Ground.data }, { on := 27, ground := Go.Ground.data }], guard := none } : Oper)) (v := ?_) rfl (by kernel_rfl) (by kernel_rfl) (by kernel_rfl) (fun _ _ _ h => h) (Or.inl ⟨by rfl, ?_⟩) (by assumption) ?_
        rotate_left
        · (intro w' hSw; try dsimp only at hSw)
          obtain ⟨⟨s0, s1⟩, s2⟩ := hSw
          go_simp <;> with_reducible rfl
        try simp only [Act.put, List.setIfInBounds_toArray, List.set_cons_zero, List.set_cons_succ]
        refine wpAnyH_take (i := 29) (oi := ({ dst := some 8, op := Go.Op.assign (Go.Operand.tmp 106), type := 4, pos := "law.go:74", after := #[{ on := 28, ground := Go.Ground.data }, { on := 18, ground := Go.Ground.chain }, { on := 0, ground := Go.Ground.phase }, { on := 1, ground := Go.Ground.phase }, { on := 2, ground := Go.Ground.phase }, { on := 3, ground := Go.Ground.phase }, { on := 4, ground := Go.Ground.phase }, { on := 5, ground := Go.Ground.phase }, { on := 6, ground := Go.Ground.phase }, { on := 7, ground := Go.Ground.phase }, { on := 8, ground := Go.Ground.phase }, { on := 9, ground := Go.Ground.phase }, { on := 10, ground := Go.Ground.phase }, { on := 11, ground := Go.Ground.phase }, { on := 12, ground := Go.Ground.phase }, { on := 13, ground := Go.Ground.phase }, { on := 14, ground := Go.Ground.phase }, { on := 15, ground := Go.Ground.phase }, { on := 16, ground := Go.Ground.phase }, { on := 17, ground := Go.Ground.phase }, { on := 18, ground := Go.Ground.phase }, { on := 19, ground := Go.Ground.phase }, { on := 20, ground := Go.Ground.phase }, { on := 21, ground := Go.Ground.phase }, { on := 22, ground := Go.Ground.phase }, { on := 23, ground := Go.Ground.phase }, { on := 24, ground := Go.Ground.phase }, { on := 25, ground := Go.Ground.phase }, { on := 26, ground := Go.Ground.phase }, { on := 27, ground := Go.Ground.phase }, { on := 28, ground := Go.Ground.phase }], guard := none } : Oper)) (v := ?_) rfl (by kernel_rfl) (by kernel_rfl) (by kernel_rfl) (fun _ _ _ h => h) (Or.inl ⟨by rfl, ?_⟩) (by assumption) ?_
        rotate_left
        · (intro w' hSw; try dsimp only at hSw)
          obtain ⟨⟨s0, s1⟩, s2⟩ := hSw
          go_simp <;> with_reducible rfl
        try simp only [Act.put, List.setIfInBounds_toArray, List.set_cons_zero, List.set_cons_succ]
        refine wpAnyH_done (by kernel_rfl) ?_ _
        refine NoPanic.normal ?_
        go_wp2
        go_ret
        exact ⟨rfl, BW.out⟩
      · rcases hbad with rfl | rfl
        · go_enter Try.func13, Try.ntmps13
          go_wp2_with (first | (go_at_call 33; (with_reducible refine (alive13_calls _).mono ?_); rintro e w1 ⟨rfl, hb1⟩) | (go_at_call 15; have hbx := hb1; (with_reducible refine (new_dk _).mono ?_); rintro e w2 ⟨rfl, hd2, hb2⟩; have D2 := Lib.hid hd2; have T2 := D2; have BW2 := Lib.hid (below_step hbx hb2); have HZ := Lib.hid hbx.size; clear hb1 hbx hd2 hb2) | (go_at_call 22; have hx := T2.out; clear T2; (with_reducible refine (HW1.out _ _ _ _ _ hx A0 c0 (par_C HR0.out BW2.out hx HZ.out)).mono ?_); rintro e w3 ⟨rfl, v3, hd3, hs3⟩; have D3 := Lib.hid hd3; have T3 := D3; have BW3 := Lib.hid (hs3.t.below BW2.out (fun k hk => Nat.le_trans HZ.out (hx.own k hk).1)); clear hd3 hs3 hx) | (go_at_call 17; have hx := T3.out; clear T3; (with_reducible refine (dk_flush hx).mono ?_); rintro e w4 ⟨rfl, hd4, hs4⟩; have D4 := Lib.hid hd4; have T4 := D4; have BW4 := Lib.hid (hs4.t.below BW3.out (fun k hk => Nat.le_trans HZ.out (hx.own k hk).1)); clear hd4 hs4 hx) | (go_at_call 22; have hx := T4.out; clear T4; (with_reducible refine (HW2.out _ _ _ _ _ hx A1 c1 (par_C HR1.out BW4.out hx HZ.out)).mono ?_); rintro e w5 ⟨rfl, v5, hd5, hs5⟩; have D5 := Lib.hid hd5; have T5 := D5; have BW5 := Lib.hid (hs5.t.below BW4.out (fun k hk => Nat.le_trans HZ.out (hx.own k hk).1)); clear hd5 hs5 hx) | (go_at_call 18; have hx := T5.out; clear T5; (with_reducible refine (dk_crash hx a2 m HM.out).mono ?_); rintro e w6 ⟨rfl, v6, hd6, hs6⟩; have D6 := Lib.hid hd6; have T6 := D6; have BW6 := Lib.hid (hs6.t.below BW5.out (fun k hk => Nat.le_trans HZ.out (hx.own k hk).1)); clear hd6 hs6 hx) | (go_at_call 26; have hx := T6.out; clear T6; (with_reducible refine (dk_recover hx HO1.out HE1.out).mono ?_); rw [HS1.out, HS2.out, HCUT.out]; rintro e w7 ⟨A7, c7, v7, Z7, rfl, hcl7, hF7, hz7, hd7, hs7⟩; have D7 := Lib.hid hd7; have BW7 := Lib.hid (hs7.t.below BW6.out (fun k hk => Nat.le_trans HZ.out (hx.own k hk).1)); have F7 := Lib.hid (Kd.F_bound hF7); have BS7 : Hid (Beside Z7 w7.heap.size _ v7) := Lib.hid (fun k hk hh => by have := hz7 k hk; omega); clear hd7 hs7 hx hF7 hz7 hcl7) | ((with_reducible refine gate_builtin (b := .append) (xs := #[.tmp 36, .tmp 37]) rfl ?_); at_builtin; refine Kd.N_append_rows (Kd.slice 5 (Kd.int .u8)) (w0 := w7) w7.heap.size rfl (.tmp 36) (.tmp 37) 33 22 (.slice none 0 0) 24 rfl Try.underlying33 info22 rfl (by decide) (by decide) (.slice none 0 0) [] l0 A0 l0.length c0 (fun _ => True) (fun k => k < w.heap.size) rfl rfl (Kd.N_nil _ _ _ _ _) (Kd.F_below (Kd.C_F (Kd.heap_slice 5 (Kd.heap_int .u8)) HR0.out) BW7.out) (fun k hk => ⟨trivial, by simp [Value.ownBlock]⟩) (fun _ _ => trivial) (Below.refl _ _) (Nat.le_refl _) (by have := HJ.out; simp only [List.length_nil]; omega) ?_; intro v8 w8 ho hb hg hat; rw [List.nil_append] at ho; have N8 := Lib.hid ho; have B8 := Lib.hid hb; clear ho hb hg hat) | ((with_reducible refine gate_builtin (b := .append) (xs := #[.tmp 38, .tmp 39]) rfl ?_); at_builtin; refine Kd.N_append_rows (Kd.slice 5 (Kd.int .u8)) (w0 := w7) w7.heap.size rfl (.tmp 38) (.tmp 39) 33 22 (.slice none 0 0) 24 rfl Try.underlying33 info22 rfl (by decide) (by decide) v8 l0 l1 A1 l1.length c1 (fun _ => True) (fun k => k < w.heap.size) rfl rfl N8.out (Kd.F_below (Kd.C_F (Kd.heap_slice 5 (Kd.heap_int .u8)) HR1.out) (below_step BW7.out B8.out)) (fun k hk => ⟨trivial, fun e => by have := N_base N8.out k e.symm; have := BW7.out.size; omega⟩) (fun _ _ => trivial) B8.out B8.out.size (by have := HJ.out; omega) ?_; intro v9 w9 ho hb hg hat; rw [HLA.out] at ho; obtain ⟨A9, c9, rfl⟩ := Kd.N_slice ho; have C9 := Lib.hid (Kd.N_reads' ho).2.2; have K9 := Lib.hid (Kd.N_reads' ho).2.1; have B9 := Lib.hid hb; obtain ⟨i9, hi9, _, hsz9, _⟩ := info_parts info22; have hcut9 := cut_to (P := Try.prog) 33 22 .i64 Try.underlying33 hi9 A9 LA.length c9 (L1.length : Int) (Int.natCast_nonneg _) (Int.ofNat_le.2 HJ.out.1) K9.out; rw [Int.toNat_natCast] at hcut9; have C9T : Hid (Kd.C (Kd.slice 5 (Kd.int .u8)) w9 A9 L1.length L1) := Lib.hid (takeL1 C9.out HJ.out.1 HL1T.out); have F9 := Lib.hid (Kd.F_below F7.out hb); have D9 := Lib.hid (D7.out.below hb); have BW9 := Lib.hid (below_step BW7.out hb); clear ho hb hg hat hi9 hsz9) | (go_at_call 27; (with_reducible refine (lists_same A7 A9 c7 c9 L1 _ (Kd.F_now F9.out) C9T.out (by have := HJ.out; omega)).mono ?_); rintro e w10 ⟨rfl, hq10⟩; have hb := quiet_below hq10; have F10 := Lib.hid (Kd.F_below F9.out hb); have D10 := Lib.hid (D9.out.below hb); have T10 := D10; have BW10 := Lib.hid (below_step BW9.out hb); have Z10 := Lib.hid (Nat.le_trans B9.out.size hb.size); clear hb hq10) | (go_at_call 22; have hx := T10.out; clear T10; refine (HW3.out _ _ _ _ _ (hx.below (below_alloc (Below.refl _ _) _)) (some ⟨w10.heap.size, 0, none⟩) 1 (lit_C HR3.out HC3.out BW10.out hx HZ.out)).mono ?_; rintro e w11 ⟨rfl, v11, hd11, hs11⟩; have D11 := Lib.hid hd11; have T11 := D11; have S11 := Lib.hid hs11; have BW11 := Lib.hid (hs11.t.below (below_alloc BW10.out _) (fun k hk => Nat.le_trans HZ.out (hx.own k hk).1)); clear hd11 hs11 hx))
          go_ret
          exact ⟨rfl, BW11.out⟩
        · go_enter Try.func13, Try.ntmps13
          go_wp2_with (first | (go_at_call 33; (with_reducible refine (alive13_calls _).mono ?_); rintro e w1 ⟨rfl, hb1⟩) | (go_at_call 15; have hbx := hb1; (with_reducible refine (new_dk _).mono ?_); rintro e w2 ⟨rfl, hd2, hb2⟩; have D2 := Lib.hid hd2; have T2 := D2; have BW2 := Lib.hid (below_step hbx hb2); have HZ := Lib.hid hbx.size; clear hb1 hbx hd2 hb2) | (go_at_call 22; have hx := T2.out; clear T2; (with_reducible refine (HW1.out _ _ _ _ _ hx A0 c0 (par_C HR0.out BW2.out hx HZ.out)).mono ?_); rintro e w3 ⟨rfl, v3, hd3, hs3⟩; have D3 := Lib.hid hd3; have T3 := D3; have BW3 := Lib.hid (hs3.t.below BW2.out (fun k hk => Nat.le_trans HZ.out (hx.own k hk).1)); clear hd3 hs3 hx) | (go_at_call 17; have hx := T3.out; clear T3; (with_reducible refine (dk_flush hx).mono ?_); rintro e w4 ⟨rfl, hd4, hs4⟩; have D4 := Lib.hid hd4; have T4 := D4; have BW4 := Lib.hid (hs4.t.below BW3.out (fun k hk => Nat.le_trans HZ.out (hx.own k hk).1)); clear hd4 hs4 hx) | (go_at_call 22; have hx := T4.out; clear T4; (with_reducible refine (HW2.out _ _ _ _ _ hx A1 c1 (par_C HR1.out BW4.out hx HZ.out)).mono ?_); rintro e w5 ⟨rfl, v5, hd5, hs5⟩; have D5 := Lib.hid hd5; have T5 := D5; have BW5 := Lib.hid (hs5.t.below BW4.out (fun k hk => Nat.le_trans HZ.out (hx.own k hk).1)); clear hd5 hs5 hx) | (go_at_call 18; have hx := T5.out; clear T5; (with_reducible refine (dk_crash hx a2 m HM.out).mono ?_); rintro e w6 ⟨rfl, v6, hd6, hs6⟩; have D6 := Lib.hid hd6; have T6 := D6; have BW6 := Lib.hid (hs6.t.below BW5.out (fun k hk => Nat.le_trans HZ.out (hx.own k hk).1)); clear hd6 hs6 hx) | (go_at_call 26; have hx := T6.out; clear T6; (with_reducible refine (dk_recover hx HO1.out HE1.out).mono ?_); rw [HS1.out, HS2.out, HCUT.out]; rintro e w7 ⟨A7, c7, v7, Z7, rfl, hcl7, hF7, hz7, hd7, hs7⟩; have D7 := Lib.hid hd7; have BW7 := Lib.hid (hs7.t.below BW6.out (fun k hk => Nat.le_trans HZ.out (hx.own k hk).1)); have F7 := Lib.hid (Kd.F_bound hF7); have BS7 : Hid (Beside Z7 w7.heap.size _ v7) := Lib.hid (fun k hk hh => by have := hz7 k hk; omega); clear hd7 hs7 hx hF7 hz7 hcl7) | ((with_reducible refine gate_builtin (b := .append) (xs := #[.tmp 36, .tmp 37]) rfl ?_); at_builtin; refine Kd.N_append_rows (Kd.slice 5 (Kd.int .u8)) (w0 := w7) w7.heap.size rfl (.tmp 36) (.tmp 37) 33 22 (.slice none 0 0) 24 rfl Try.underlying33 info22 rfl (by decide) (by decide) (.slice none 0 0) [] l0 A0 l0.length c0 (fun _ => True) (fun k => k < w.heap.size) rfl rfl (Kd.N_nil _ _ _ _ _) (Kd.F_below (Kd.C_F (Kd.heap_slice 5 (Kd.heap_int .u8)) HR0.out) BW7.out) (fun k hk => ⟨trivial, by simp [Value.ownBlock]⟩) (fun _ _ => trivial) (Below.refl _ _) (Nat.le_refl _) (by have := HJ.out; simp only [List.length_nil]; omega) ?_; intro v8 w8 ho hb hg hat; rw [List.nil_append] at ho; have N8 := Lib.hid ho; have B8 := Lib.hid hb; clear ho hb hg hat) | ((with_reducible refine gate_builtin (b := .append) (xs := #[.tmp 38, .tmp 39]) rfl ?_); at_builtin; refine Kd.N_append_rows (Kd.slice 5 (Kd.int .u8)) (w0 := w7) w7.heap.size rfl (.tmp 38) (.tmp 39) 33 22 (.slice none 0 0) 24 rfl Try.underlying33 info22 rfl (by decide) (by decide) v8 l0 l1 A1 l1.length c1 (fun _ => True) (fun k => k < w.heap.size) rfl rfl N8.out (Kd.F_below (Kd.C_F (Kd.heap_slice 5 (Kd.heap_int .u8)) HR1.out) (below_step BW7.out B8.out)) (fun k hk => ⟨trivial, fun e => by have := N_base N8.out k e.symm; have := BW7.out.size; omega⟩) (fun _ _ => trivial) B8.out B8.out.size (by have := HJ.out; omega) ?_; intro v9 w9 ho hb hg hat; rw [HLA.out] at ho; obtain ⟨A9, c9, rfl⟩ := Kd.N_slice ho; have C9 := Lib.hid (Kd.N_reads' ho).2.2; have K9 := Lib.hid (Kd.N_reads' ho).2.1; have B9 := Lib.hid hb; obtain ⟨i9, hi9, _, hsz9, _⟩ := info_parts info22; have hcut9 := cut_to (P := Try.prog) 33 22 .i64 Try.underlying33 hi9 A9 LA.length c9 (L1.length : Int) (Int.natCast_nonneg _) (Int.ofNat_le.2 HJ.out.1) K9.out; rw [Int.toNat_natCast] at hcut9; have C9T : Hid (Kd.C (Kd.slice 5 (Kd.int .u8)) w9 A9 L1.length L1) := Lib.hid (takeL1 C9.out HJ.out.1 HL1T.out); have F9 := Lib.hid (Kd.F_below F7.out hb); have D9 := Lib.hid (D7.out.below hb); have BW9 := Lib.hid (below_step BW7.out hb); clear ho hb hg hat hi9 hsz9) | (go_at_call 27; (with_reducible refine (lists_same A7 A9 c7 c9 L1 _ (Kd.F_now F9.out) C9T.out (by have := HJ.out; omega)).mono ?_); rintro e w10 ⟨rfl, hq10⟩; have hb := quiet_below hq10; have F10 := Lib.hid (Kd.F_below F9.out hb); have D10 := Lib.hid (D9.out.below hb); have T10 := D10; have BW10 := Lib.hid (below_step BW9.out hb); have Z10 := Lib.hid (Nat.le_trans B9.out.size hb.size); clear hb hq10) | (go_at_call 22; have hx := T10.out; clear T10; refine (HW3.out _ _ _ _ _ (hx.below (below_alloc (Below.refl _ _) _)) (some ⟨w10.heap.size, 0, none⟩) 1 (lit_C HR3.out HC3.out BW10.out hx HZ.out)).mono ?_; rintro e w11 ⟨rfl, v11, hd11, hs11⟩; have D11 := Lib.hid hd11; have T11 := D11; have S11 := Lib.hid hs11; have BW11 := Lib.hid (hs11.t.below (below_alloc BW10.out _) (fun k hk => Nat.le_trans HZ.out (hx.own k hk).1)); clear hd11 hs11 hx))
          go_ret
          exact ⟨rfl, BW11.out⟩
    · rcases hbad with rfl | rfl
      · go_enter Try.func13, Try.ntmps13
        go_wp2_with (first | (go_at_call 33; (with_reducible refine (alive13_calls _).mono ?_); rintro e w1 ⟨rfl, hb1⟩) | (go_at_call 15; have hbx := hb1; (with_reducible refine (new_dk _).mono ?_); rintro e w2 ⟨rfl, hd2, hb2⟩; have D2 := Lib.hid hd2; have T2 := D2; have BW2 := Lib.hid (below_step hbx hb2); have HZ := Lib.hid hbx.size; clear hb1 hbx hd2 hb2) | (go_at_call 22; have hx := T2.out; clear T2; (with_reducible refine (HW1.out _ _ _ _ _ hx A0 c0 (par_C HR0.out BW2.out hx HZ.out)).mono ?_); rintro e w3 ⟨rfl, v3, hd3, hs3⟩; have D3 := Lib.hid hd3; have T3 := D3; have BW3 := Lib.hid (hs3.t.below BW2.out (fun k hk => Nat.le_trans HZ.out (hx.own k hk).1)); clear hd3 hs3 hx) | (go_at_call 17; have hx := T3.out; clear T3; (with_reducible refine (dk_flush hx).mono ?_); rintro e w4 ⟨rfl, hd4, hs4⟩; have D4 := Lib.hid hd4; have T4 := D4; have BW4 := Lib.hid (hs4.t.below BW3.out (fun k hk => Nat.le_trans HZ.out (hx.own k hk).1)); clear hd4 hs4 hx) | (go_at_call 22; have hx := T4.out; clear T4; (with_reducible refine (HW2.out _ _ _ _ _ hx A1 c1 (par_C HR1.out BW4.out hx HZ.out)).mono ?_); rintro e w5 ⟨rfl, v5, hd5, hs5⟩; have D5 := Lib.hid hd5; have T5 := D5; have BW5 := Lib.hid (hs5.t.below BW4.out (fun k hk => Nat.le_trans HZ.out (hx.own k hk).1)); clear hd5 hs5 hx))
        go_ret
        exact ⟨rfl, BW5.out⟩
      · go_enter Try.func13, Try.ntmps13
        go_wp2_with (first | (go_at_call 33; (with_reducible refine (alive13_calls _).mono ?_); rintro e w1 ⟨rfl, hb1⟩) | (go_at_call 15; have hbx := hb1; (with_reducible refine (new_dk _).mono ?_); rintro e w2 ⟨rfl, hd2, hb2⟩; have D2 := Lib.hid hd2; have T2 := D2; have BW2 := Lib.hid (below_step hbx hb2); have HZ := Lib.hid hbx.size; clear hb1 hbx hd2 hb2) | (go_at_call 22; have hx := T2.out; clear T2; (with_reducible refine (HW1.out _ _ _ _ _ hx A0 c0 (par_C HR0.out BW2.out hx HZ.out)).mono ?_); rintro e w3 ⟨rfl, v3, hd3, hs3⟩; have D3 := Lib.hid hd3; have T3 := D3; have BW3 := Lib.hid (hs3.t.below BW2.out (fun k hk => Nat.le_trans HZ.out (hx.own k hk).1)); clear hd3 hs3 hx) | (go_at_call 17; have hx := T3.out; clear T3; (with_reducible refine (dk_flush hx).mono ?_); rintro e w4 ⟨rfl, hd4, hs4⟩; have D4 := Lib.hid hd4; have T4 := D4; have BW4 := Lib.hid (hs4.t.below BW3.out (fun k hk => Nat.le_trans HZ.out (hx.own k hk).1)); clear hd4 hs4 hx) | (go_at_call 22; have hx := T4.out; clear T4; (with_reducible refine (HW2.out _ _ _ _ _ hx A1 c1 (par_C HR1.out BW4.out hx HZ.out)).mono ?_); rintro e w5 ⟨rfl, v5, hd5, hs5⟩; have D5 := Lib.hid hd5; have T5 := D5; have BW5 := Lib.hid (hs5.t.below BW4.out (fun k hk => Nat.le_trans HZ.out (hx.own k hk).1)); clear hd5 hs5 hx))
        go_ret
        exact ⟨rfl, BW5.out⟩
  · rcases hbad with rfl | rfl
    · go_enter Try.func13, Try.ntmps13
      go_wp2_with (first | (go_at_call 33; (with_reducible refine (alive13_calls _).mono ?_); rintro e w1 ⟨rfl, hb1⟩) | (go_at_call 15; have hbx := hb1; (with_reducible refine (new_dk _).mono ?_); rintro e w2 ⟨rfl, hd2, hb2⟩; have D2 := Lib.hid hd2; have T2 := D2; have BW2 := Lib.hid (below_step hbx hb2); have HZ := Lib.hid hbx.size; clear hb1 hbx hd2 hb2) | (go_at_call 22; have hx := T2.out; clear T2; (with_reducible refine (HW1.out _ _ _ _ _ hx A0 c0 (par_C HR0.out BW2.out hx HZ.out)).mono ?_); rintro e w3 ⟨rfl, v3, hd3, hs3⟩; have D3 := Lib.hid hd3; have T3 := D3; have BW3 := Lib.hid (hs3.t.below BW2.out (fun k hk => Nat.le_trans HZ.out (hx.own k hk).1)); clear hd3 hs3 hx))
      go_ret
      exact ⟨rfl, BW3.out⟩
    · go_enter Try.func13, Try.ntmps13
      go_wp2_with (first | (go_at_call 33; (with_reducible refine (alive13_calls _).mono ?_); rintro e w1 ⟨rfl, hb1⟩) | (go_at_call 15; have hbx := hb1; (with_reducible refine (new_dk _).mono ?_); rintro e w2 ⟨rfl, hd2, hb2⟩; have D2 := Lib.hid hd2; have T2 := D2; have BW2 := Lib.hid (below_step hbx hb2); have HZ := Lib.hid hbx.size; clear hb1 hbx hd2 hb2) | (go_at_call 22; have hx := T2.out; clear T2; (with_reducible refine (HW1.out _ _ _ _ _ hx A0 c0 (par_C HR0.out BW2.out hx HZ.out)).mono ?_); rintro e w3 ⟨rfl, v3, hd3, hs3⟩; have D3 := Lib.hid hd3; have T3 := D3; have BW3 := Lib.hid (hs3.t.below BW2.out (fun k hk => Nat.le_trans HZ.out (hx.own k hk).1)); clear hd3 hs3 hx))
      go_ret
      exact ⟨rfl, BW3.out⟩
end Go.Proofs.Ytfdpbdaekfdnjaa.X
/- Arguments opened: what reads as data of a kind stands in memory as the print's words say it. -/
namespace Go.Proofs.Ytfdpbdaekfdnjaa.X
open Go.ChangeShapes Go.WideShapes Go.Deep
open Go.RowKit Go.Proofs.YtfdpbdaekfdnjaaW.PrintWords Go.Proofs.YtfdpbdaekfdnjaaW.PrintLast Go.Proofs.YtfdpbdaekfdnjaaW.PrintMore
set_option linter.unusedVariables false
set_option linter.unusedSimpArgs false

section
variable {H : Type} {enc : TypeId × Value → H} {P : Program} {w : World}

/-- What reads as data of type t is of kind d: some x, well formed, whose measure is at most the datum's bulk. -/
def Opens {α : Type} (enc : TypeId × Value → H) (P : Program) (w : World) (t : TypeId) (d : Kd α) (wf : α → Prop) (μ : α → Nat) : Prop :=
  ∀ (n : Nat) (cs : List Value) (y : DataW H × List MemPlace), DataW.trod enc P w 0 (fun _ => true) true n t cs = some y → ∃ x, d.K w x cs ∧ wf x ∧ μ x ≤ Rows.uptoBulk y.1

theorem Opens.int {t : TypeId} {k : IntKind} (hu : P.underlying t = some (.int k)) : Opens enc P w t (Kd.int k) (fun x => (Lit.int k x).wf = true) (fun _ => 1) := fun n cs y h => by
  obtain ⟨x, rfl, rfl, hw⟩ := DataW.trod_int hu h
  exact ⟨x, rfl, hw, by simp [Rows.uptoBulk]⟩
theorem Opens.bool {t : TypeId} (hu : P.underlying t = some .bool) : Opens enc P w t Kd.bool (fun _ => True) (fun _ => 1) := fun n cs y h => by
  obtain ⟨x, rfl, rfl⟩ := DataW.trod_bool hu h
  exact ⟨x, rfl, trivial, by simp [Rows.uptoBulk]⟩
theorem Opens.string {t : TypeId} (hu : P.underlying t = some .string) : Opens enc P w t Kd.string (fun _ => True) (fun s => s.size + 1) := fun n cs y h => by
  obtain ⟨x, rfl, rfl, hw⟩ := DataW.trod_string hu h
  exact ⟨x, rfl, trivial, by simp [Rows.uptoBulk]⟩

def sumM {α : Type} (μ : α → Nat) : List α → Nat
  | [] => 0
  | x :: l => μ x + sumM μ l
theorem sumM_append {α : Type} (μ : α → Nat) (l r : List α) : sumM μ (l ++ r) = sumM μ l + sumM μ r := by
  induction l with
  | nil => simp [sumM]
  | cons x l ih => simp only [List.cons_append, sumM, ih]; omega
theorem sumM_mem {α : Type} (μ : α → Nat) {l : List α} {x : α} (h : x ∈ l) : μ x ≤ sumM μ l := by
  induction l with
  | nil => cases h
  | cons y l ih =>
    simp only [sumM]
    rcases List.mem_cons.1 h with rfl | h
    · omega
    · have := ih h; omega
theorem sumM_len {α : Type} (μ : α → Nat) (hμ : ∀ x, 1 ≤ μ x) (l : List α) : l.length ≤ sumM μ l := by
  induction l with
  | nil => simp [sumM]
  | cons x l ih => have := hμ x; simp only [sumM, List.length_cons]; omega
theorem bulkAll_append (l r : List (DataW H)) : Rows.uptoBulkAll (l ++ r) = Rows.uptoBulkAll l + Rows.uptoBulkAll r := by
  induction l with
  | nil => simp [Rows.uptoBulkAll]
  | cons x l ih => simp only [List.cons_append, Rows.uptoBulkAll, ih]; omega
theorem sumM_range {α : Type} (μ : α → Nat) (X : Nat → α) (D : Nat → DataW H) : ∀ n, (∀ i, i < n → μ (X i) ≤ Rows.uptoBulk (D i)) → sumM μ ((List.range n).map X) ≤ Rows.uptoBulkAll ((List.range n).map D)
  | 0, _ => by simp [sumM]
  | n + 1, h => by
    have ih := sumM_range μ X D n (fun i hi => h i (by omega))
    have := h n (by omega)
    rw [List.range_succ, List.map_append, List.map_append, sumM_append, bulkAll_append]
    simp only [List.map_cons, List.map_nil, sumM, Rows.uptoBulkAll]
    omega

theorem Opens.slice {α : Type} [Inhabited α] {t e : TypeId} {d : Kd α} {wf : α → Prop} {μ : α → Nat} (ht : P.underlying t = some (.slice e)) (hsz : P.cellsOf e = d.sz) (h : Opens enc P w e d wf μ) :
    Opens enc P w t (Kd.slice e d) (fun xs => ∀ x ∈ xs, wf x) (fun xs => sumM μ xs + 1) := fun n cs y hy => by
  rcases open_slice ht hy with ⟨rfl, rfl⟩ | ⟨a, len, cap, m, n', D, Pl, rfl, _, hl, hm, hmm, rfl, hi⟩
  · exact ⟨[], ⟨none, 0, rfl, Nat.le_refl _, Kd.C_nil d w⟩, (fun x hx => by cases hx), by simp [Rows.uptoBulk, sumM]⟩
  · have hm' : m = cap := by simpa using hmm
    subst hm'
    obtain ⟨X, hX⟩ := choose_lt (α := α) (p := fun i x => ∃ cs', w.cells? 0 (a.add (i * P.cellsOf e)) (P.cellsOf e) = some cs' ∧ d.K w x cs' ∧ wf x ∧ μ x ≤ Rows.uptoBulk (D i)) (fun i hlt => by
      obtain ⟨cs', h1, h2⟩ := hi i hlt
      obtain ⟨x, k1, k2, k3⟩ := h n' cs' _ h2
      exact ⟨x, cs', h1, k1, k2, k3⟩)
    have hm63 : m ≤ 9223372036854775807 := by simpa [maxLen] using hm
    refine ⟨(List.range len).map X, ⟨some a, m, by simp, by simpa using hl, by simp, by simp; omega, fun _ => ⟨a, rfl, fun j p hj => ?_⟩⟩, ?_, ?_⟩
    · have hjl : j < len := by have := (List.getElem?_eq_some_iff.1 hj).1; simpa using this
      have hp : p = X j := by simpa [hjl] using hj.symm
      subst hp
      obtain ⟨cs', h1, k1, _, _⟩ := hX j (by omega)
      obtain ⟨_, hlen, hc⟩ := World.cells?_some h1
      rw [hsz] at hlen hc
      refine ⟨cs', hlen, k1, fun i u hu => ?_⟩
      have hil : i < d.sz := by have := (List.getElem?_eq_some_iff.1 hu).1; omega
      rw [← Go.Deep.add_add, hc i hil]
      exact hu
    · intro x hx
      obtain ⟨i, hi', rfl⟩ := List.mem_map.1 hx
      obtain ⟨_, _, _, k2, _⟩ := hX i (by have := List.mem_range.1 hi'; omega)
      exact k2
    · have := sumM_range μ X D len (fun i hi' => by obtain ⟨_, _, _, _, k3⟩ := hX i (by omega); exact k3)
      simp only [Rows.uptoBulk]
      omega

/-- A top argument that is a slice. -/
theorem Opens.arg_slice {α : Type} {t e : TypeId} {d : Kd α} {wf : List α → Prop} {μ : List α → Nat} {a : Option Addr} {len cap : Nat} {D : DataW H} {ps : List MemPlace}
    (h : Opens enc P w t (Kd.slice e d) wf μ) (ht : DataW.Trod enc P w 0 (fun _ => true) true t (.slice a len cap) D ps) : ∃ xs, len = xs.length ∧ len ≤ cap ∧ d.C w a xs.length xs ∧ wf xs ∧ μ xs ≤ Rows.uptoBulk D := by
  obtain ⟨fuel, hf⟩ := ht
  obtain ⟨xs, ⟨A, c, he, hc, hC⟩, h2, h3⟩ := h fuel _ _ hf
  simp [Value.cells] at he
  obtain ⟨rfl, rfl, rfl⟩ := he
  exact ⟨xs, rfl, hc, hC, h2, h3⟩
/-- .. and no longer than its weight allows. -/
theorem sized_any {t e : TypeId} {a : Option Addr} {len cap : Nat} {d : DataW H} {ps : List MemPlace} {ts : List TypeId} {ds : List (DataW H)} {j : Nat}
    (hsz : (DataW.weightsEach P ts ds).all (· ≤ reachBytes) = true) (ht : ts[j]? = some t) (hd : ds[j]? = some d) (hu : P.underlying t = some (.slice e)) {B : Nat} (hB : P.bytesOf e = B)
    (h : DataW.Trod enc P w 0 (fun _ => true) true t (.slice a len cap) d ps) : cap * B ≤ 140737488351232 := by
  obtain ⟨fuel, hf⟩ := h
  rcases open_slice hu hf with ⟨hcs, _⟩ | ⟨a', len', cap', m, n', D, Pl, hcs, _, hl, hm, hmm, hx, _⟩
  · simp [Value.cells] at hcs
    obtain ⟨rfl, rfl, rfl⟩ := hcs
    simp
  · simp [Value.cells] at hcs
    obtain ⟨rfl, rfl, rfl⟩ := hcs
    have hm' : m = cap := by simpa using hmm
    subst hm'
    simp only [Prod.mk.injEq] at hx
    obtain ⟨rfl, _⟩ := hx
    have z := sized_slice hsz ht hd hu
    rw [hB] at z
    have e1 : ((List.range len).map D).length + ((List.range (m - len)).map fun j => D (len + j)).length = m := by simp; omega
    rw [e1] at z
    exact z
end
end Go.Proofs.Ytfdpbdaekfdnjaa.X
/- How many octets there are, by an argument's bulk. -/
namespace Go.Proofs.Ytfdpbdaekfdnjaa.X
open Go.RowKit Go.Proofs.YtfdpbdaekfdnjaaW.PrintWords Go.Proofs.YtfdpbdaekfdnjaaW.PrintLast Go.Proofs.YtfdpbdaekfdnjaaW.PrintMore
theorem sum_ones {α : Type} : ∀ l : List α, sumM (fun _ => 1) l = l.length
  | [] => rfl
  | x :: l => by rw [sumM, sum_ones l, List.length_cons]; omega
theorem bulk_rows : ∀ l : List (List Int), tot l + l.length ≤ sumM (fun xs => sumM (fun _ => 1) xs + 1) l
  | [] => by simp [tot, sumM]
  | x :: l => by
    have := bulk_rows l
    rw [tot_cons, sumM, sum_ones x, List.length_cons]
    omega
end Go.Proofs.Ytfdpbdaekfdnjaa.X
/- The law JournalLasts (second form) over lists. Its condition: what comes in is of bulk at most 1048576. -/
namespace Go.Proofs.Ytfdpbdaekfdnjaa.Pure
open Go.RowKit Go.Proofs.Ytfdpbdaekfdnjaa.X
set_option linter.unusedVariables false
theorem octs (l : List Int) (w : ∀ z ∈ l, (Lit.int .u8 z).wf = true) : ∀ x ∈ l, 0 ≤ x ∧ x < 256 := by
  intro x hx
  have := w x hx
  simp [Lit.wf, IntKind.min, IntKind.max, IntKind.signed, IntKind.bits] at this
  omega
theorem JournalLasts (l0 l1 : List (List Int)) (a2 : Int) (l3 : List Int) (w0 : ∀ y ∈ l0, ∀ z ∈ y, (Lit.int .u8 z).wf = true) (w1 : ∀ y ∈ l1, ∀ z ∈ y, (Lit.int .u8 z).wf = true) (w2 : (Lit.int .i64 a2).wf = true) (w3 : ∀ z ∈ l3, (Lit.int .u8 z).wf = true)
    (hb : ((fun xs => sumM (fun xs => sumM (fun _ => 1) xs + 1) xs + 1) l0) + ((fun xs => sumM (fun xs => sumM (fun _ => 1) xs + 1) xs + 1) l1) + ((fun xs => sumM (fun _ => 1) xs + 1) l3) ≤ 1048576) : mootlaw13_JournalLasts.f l0 l1 a2 l3 = some true := by
  have hb0 := bulk_rows l0
  have hb1 := bulk_rows l1
  dsimp only at hb
  rw [sum_ones l3] at hb
  unfold mootlaw13_JournalLasts.f
  rw [if_pos ⟨⟨fun y hy => octs y (w0 y hy), fun y hy => octs y (w1 y hy), octs l3 w3⟩, ⟨by omega, by omega⟩, ⟨by omega, by omega⟩, by omega⟩]
end Go.Proofs.Ytfdpbdaekfdnjaa.Pure
