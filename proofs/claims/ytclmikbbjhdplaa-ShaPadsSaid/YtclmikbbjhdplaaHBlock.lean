/- sha.constants and the block function of sha. -/
import Derived.Test.YtclmikbbjhdplaaHSched
import Derived.Deep.Cut
import Derived.Deep.CutRange
import Derived.Deep.CutBlock
import Derived.Deep.DeepCutAuto
namespace Go.Proofs.Ytclmikbbjhdplaa.X
open Go.RowKit Go.Proofs.YtclmikbbjhdplaaW.PrintWords Go.Proofs.YtclmikbbjhdplaaW.PrintLast Go.Proofs.YtclmikbbjhdplaaW.PrintMore
set_option linter.unusedVariables false
set_option linter.unusedSimpArgs false

set_option maxRecDepth 100000 in
set_option maxHeartbeats 4000000 in
theorem constants_calls (w : World) :
    Calls Try.prog 56 #[] w fun e w' => e = .returned (.agg (nums .u32 K0).toArray) ∧ Below w.heap.size w w' := by
  go_enter Try.func56, Try.ntmps56
  go_wp2_with (first | ((with_reducible refine gate_dst (N := 1) rfl ?_); go_must (refine build_ev rfl rfl 68 _ rfl (nums .u32 K0).toArray (by kernel_rfl) ?_)) | ((with_reducible refine gate_store (t := 68) rfl ?_); go_must (refine store_ev rfl rfl 68 (.tmp 0) (.tmp 1) rfl w.heap.size _ _ rfl rfl (blk_new _ _) rfl (by kernel_rfl) (nums_one _ _) ?_; intro w1 hst)))
  refine bodyPost_ret (v := .agg (nums .u32 K0).toArray) ?_ rfl ⟨rfl, hst.below _ (below_alloc (Below.refl _ _) _) (Nat.le_refl _)⟩
  exact results_cell_row rfl _ _ w.heap.size 68 _ (0, 0) _ rfl hst.at_ Try.underlying68 rfl (by kernel_rfl)

theorem size_round (v : List Int) (k w : Int) : (nums .u32 (roundA v k w)).toArray.size = 8 := by simp [nums, roundA]
theorem info66_of {n : Nat} (h : n = 8) : (Try.prog.info? 66).map (·.size) = some n := by rw [h]; kernel_rfl
theorem wrap_succ (t : Nat) (h : t < 1000) : wrap64 ((t : Int) + 1) = ((t + 1 : Nat) : Int) := by unfold wrap64; omega
/-- What the block function keeps. -/
structure BI (w : World) (g3 g6 g7 g8 ga : Nat) (s ws ks v : List Int) (W : World) : Prop where
  b3 : W.heap[g3]? = some (.cells (nums .u32 s).toArray 66 (0, 0))
  b6 : W.heap[g6]? = some (.cells (nums .u32 (List.replicate 8 0)).toArray 66 (0, 0))
  b7 : W.heap[g7]? = some (.cells (nums .u32 ws).toArray 68 (0, 0))
  b8 : W.heap[g8]? = some (.cells (nums .u32 v).toArray 66 (0, 0))
  bk : W.heap[ga]? = some (.cells (nums .u32 ks).toArray 68 (0, 0))
  below : Below w.heap.size w W
theorem BI.drewN {w W : World} {g3 g6 g7 g8 ga : Nat} {s ws ks v : List Int} (h : BI w g3 g6 g7 g8 ga s ws ks v W) (n : Nat) : BI w g3 g6 g7 g8 ga s ws ks v (W.drewN n) := ⟨h.b3, h.b6, h.b7, h.b8, h.bk, pw_below_drewN h.below n⟩
theorem BI.set {w W : World} {g3 g6 g7 g8 ga : Nat} {s ws ks v : List Int} (h : BI w g3 g6 g7 g8 ga s ws ks v W) (i : Nat) (x : Int) (h3 : g3 ≠ g8) (h6 : g6 ≠ g8) (h7 : g7 ≠ g8) (hk : ga ≠ g8) (hg : w.heap.size ≤ g8) : BI w g3 g6 g7 g8 ga s ws ks (v.set i x) (W.setCell ⟨g8, i, none⟩ (.int .u32 x)) := by
  refine ⟨blk_far h.b3 h3 _, blk_far h.b6 h6 _, blk_far h.b7 h7 _, ?_, blk_far h.bk hk _, below_set h.below hg⟩
  have := blk_set h.b8 i (.int .u32 x)
  rwa [show (nums .u32 v).toArray.setIfInBounds i (.int .u32 x) = (nums .u32 (v.set i x)).toArray by simp [nums, List.map_set]] at this
theorem BI.store {w W W1 : World} {g3 g6 g7 g8 ga : Nat} {s ws ks v v' : List Int} (h : BI w g3 g6 g7 g8 ga s ws ks v W) (hst : Stored g8 66 (nums .u32 v').toArray W W1) (h3 : g3 ≠ g8) (h6 : g6 ≠ g8) (h7 : g7 ≠ g8) (hk : ga ≠ g8) (hg : w.heap.size ≤ g8) : BI w g3 g6 g7 g8 ga s ws ks v' W1 :=
  ⟨(hst.far _ h3).trans h.b3, (hst.far _ h6).trans h.b6, (hst.far _ h7).trans h.b7, hst.at_, (hst.far _ hk).trans h.bk, hst.below _ h.below hg⟩
theorem cell_nums {W : World} {g : Nat} {t : TypeId} {k : IntKind} {xs : List Int} (h : W.heap[g]? = some (.cells (nums k xs).toArray t (0, 0))) (i : Nat) (hi : i < xs.length) : W.cell? ⟨g, i, none⟩ = some (.int k (rd xs i)) := by
  rw [blk_cell h]
  simp [nums, rd, List.getD, List.getElem?_eq_getElem hi]

/-- What lies there ahead of the loops. -/
structure BP (w : World) (ga : Nat) (s ks : List Int) (W : World) : Prop where
  b3 : W.heap[w.heap.size]? = some (.cells (nums .u32 s).toArray 66 (0, 0))
  b6 : W.heap[w.heap.size + 1]? = some (.cells (nums .u32 (List.replicate 8 0)).toArray 66 (0, 0))
  bk : W.heap[ga]? = some (.cells (nums .u32 ks).toArray 68 (0, 0))
  below : Below w.heap.size w W
  size : w.heap.size + 2 ≤ W.heap.size
theorem BP.step {w W W1 : World} {ga : Nat} {s ks : List Int} (h : BP w ga s ks W) (hk : ga < w.heap.size) (hb : Below W.heap.size W W1) : BP w ga s ks W1 :=
  ⟨(hb.block _ (by have := h.size; omega)).trans h.b3, (hb.block _ (by have := h.size; omega)).trans h.b6, (hb.block _ (by have := h.size; omega)).trans h.bk, below_step h.below hb, Nat.le_trans h.size hb.size⟩
theorem BP.stored {w W W1 : World} {ga g : Nat} {s ks : List Int} {t : TypeId} {cs : Array Value} (h : BP w ga s ks W) (hk : ga < w.heap.size) (hst : Stored g t cs W W1) (hg : w.heap.size + 2 ≤ g) : BP w ga s ks W1 :=
  ⟨(hst.far _ (by omega)).trans h.b3, (hst.far _ (by omega)).trans h.b6, (hst.far _ (by omega)).trans h.bk, hst.below _ h.below (by omega), by rw [hst.size]; exact h.size⟩
set_option maxRecDepth 100000 in
set_option maxHeartbeats 4000000 in
theorem block_calls (A0 : Option Addr) (c0 : Nat) (l0 : List Int) (s ks : List Int) (ga : Nat) (w : World) (hs : s.length = 8) (hks : ks.length = 64) (hr0 : Kd.C (Kd.int .u8) w A0 l0.length l0) (hc0 : l0.length ≤ c0) (hw : ∀ t : Nat, t < 16 → octets_Word.f 6 l0 (4 * (t : Int)) = some (wordA l0 (4 * (t : Int))))
    (hk : w.heap[ga]? = some (.cells (nums .u32 ks).toArray 68 (0, 0))) (r : List Int) (hr : blockA s ks l0 = r) :
    Calls Try.prog 57 #[.agg (nums .u32 s).toArray, .slice A0 l0.length c0, .pointer (some ⟨ga, 0, none⟩)] w fun e w' => e = .returned (.agg (nums .u32 r).toArray) ∧ Below w.heap.size w w' := by
  have HR := Lib.hid hr
  clear hr
  obtain ⟨ws, hws⟩ : ∃ ws, wsA l0 64 = ws := ⟨_, rfl⟩
  have hwl : ws.length = 64 := by rw [← hws]; exact wsA_len l0 64
  have HWS := Lib.hid hws
  have hsched := sched_calls A0 c0 l0 ((w.alloc (.cells (nums .u32 s).toArray 66)).alloc (.cells (nums .u32 (List.replicate 8 0)).toArray 66)) (Kd.C_alloc (Kd.C_alloc hr0 _) _) hc0 hw ws hws
  clear hws
  have hs3 : (nums .u32 s).toArray.size = 8 := by simp [nums, hs]
  have hs7 : (nums .u32 ws).toArray.size = 64 := by simp [nums, hwl]
  have B3 : ((w.alloc (.cells (nums .u32 s).toArray 66)).alloc (.cells (nums .u32 (List.replicate 8 0)).toArray 66)).heap[w.heap.size]? = some (.cells (nums .u32 s).toArray 66 (0, 0)) := blk_alloc (blk_new _ _) _
  have B6 : ((w.alloc (.cells (nums .u32 s).toArray 66)).alloc (.cells (nums .u32 (List.replicate 8 0)).toArray 66)).heap[w.heap.size + 1]? = some (.cells (nums .u32 (List.replicate 8 0)).toArray 66 (0, 0)) := by
    have := blk_new (w.alloc (.cells (nums .u32 s).toArray 66)) (.cells (nums .u32 (List.replicate 8 0)).toArray 66)
    rwa [World.size_alloc] at this
  have S2 : ((w.alloc (.cells (nums .u32 s).toArray 66)).alloc (.cells (nums .u32 (List.replicate 8 0)).toArray 66)).heap.size = w.heap.size + 2 := by simp
  have hgk := blk_lt hk
  have Hs3 := Lib.hid hs3
  have Hs7 := Lib.hid hs7
  clear hs3 hs7
  go_enter Try.func57, Try.ntmps57
  have Bk : ((w.alloc (.cells (nums .u32 s).toArray 66)).alloc (.cells (nums .u32 (List.replicate 8 0)).toArray 66)).heap[ga]? = some (.cells (nums .u32 ks).toArray 68 (0, 0)) := blk_alloc (blk_alloc hk _) _
  have BB : Below w.heap.size w ((w.alloc (.cells (nums .u32 s).toArray 66)).alloc (.cells (nums .u32 (List.replicate 8 0)).toArray 66)) := below_alloc (below_alloc (Below.refl _ _) _) _
  have hP : BP w ga s ks ((w.alloc (.cells (nums .u32 s).toArray 66)).alloc (.cells (nums .u32 (List.replicate 8 0)).toArray 66)) := ⟨B3, B6, Bk, BB, by rw [S2]; exact Nat.le_refl _⟩
  clear B3 B6 Bk BB S2
  go_wp2_with (first | (go_at_call 67; go_must (refine hsched.mono ?_; rintro e w1 ⟨rfl, hb1⟩; have P1 := hP.step hgk hb1; clear hsched hb1 hP)) | ((with_reducible refine gate_dst (N := 7) rfl ?_); go_must (refine box_event rfl (N := 7) rfl (run_alloc _ 68 _ 64 i68 _ _ rfl _) ?_; intro g7 hg7 w2 b7 hb; have P2 := P1.step hgk hb; have G7 := hg7 ▸ P1.size; clear hb P1 hg7)) | ((with_reducible refine gate_store (t := 68) rfl ?_); go_must (refine store_ev rfl rfl 68 (.tmp 7) (.tmp 18) rfl g7 _ _ rfl rfl b7 (by rw [Hs7.out]; rfl) (by rw [Hs7.out]; kernel_rfl) (nums_one _ _) ?_; intro w3 hst; have P3 := P2.stored hgk hst G7; have D7 := hst.at_; clear hst P2 b7)) | ((with_reducible refine gate_dst (N := 19) rfl ?_); go_must (refine load_ev rfl rfl 66 (.tmp 3) rfl w.heap.size _ _ rfl P3.b3 Try.underlying66 rfl (by rw [Hs3.out]; kernel_rfl) ?_)) | ((with_reducible refine gate_dst (N := 8) rfl ?_); go_must (refine box_event rfl (N := 8) rfl (run_alloc _ 66 _ 8 i66 _ _ rfl _) ?_; intro g8 hg8 w4 b8 hb; have P4 := P3.step hgk hb; have G8 := hg8 ▸ P3.size; have E7 := (hb.block _ (blk_lt D7)).trans D7; have G78 : g7 < g8 := hg8 ▸ blk_lt D7; clear hb P3 hg8 D7)) | ((with_reducible refine gate_store (t := 66) rfl ?_); go_must (refine store_ev rfl rfl 66 (.tmp 8) (.tmp 19) rfl g8 _ _ rfl rfl b8 (by rw [Hs3.out]; rfl) (by rw [Hs3.out]; kernel_rfl) (nums_one _ _) ?_; intro w5 hst; have P5 := P4.stored hgk hst G8; have D8 := hst.at_; have D7 := (hst.far _ (Nat.ne_of_lt G78)).trans E7; clear hst P4 b8 E7)))
  have hI0 : BI w w.heap.size (w.heap.size + 1) g7 g8 ga s ws ks (roundsA s ks ws 0) w5 := ⟨P5.b3, P5.b6, D7, D8, P5.bk, P5.below⟩
  have N3 : Hid (w.heap.size ≠ g8) := (by omega : w.heap.size ≠ g8)
  have N6 : Hid (w.heap.size + 1 ≠ g8) := (by omega : w.heap.size + 1 ≠ g8)
  have N7 : Hid (g7 ≠ g8) := (by omega : g7 ≠ g8)
  have Nk : Hid (ga ≠ g8) := (by omega : ga ≠ g8)
  have N8 : Hid (w.heap.size ≤ g8) := (by omega : w.heap.size ≤ g8)
  clear P5 D7 D8
  go_loopg [20] 65 (fun kq v20 w' => ∃ t : Nat, v20 = .int .i64 (t : Int) ∧ Hid (kq + t = 65) ∧ Hid (t ≤ 64) ∧ Hid (BI w w.heap.size (w.heap.size + 1) g7 g8 ga s ws ks (roundsA s ks ws t) w'))
  case atStart => exact ⟨0, rfl, Lib.hid rfl, Lib.hid (by omega), Lib.hid hI0⟩
  case round =>
    clear hI0
    obtain ⟨t, rfl, hk, ht, hI⟩ := hrel
    by_cases c : t < 64
    · have c1 : decide ((t : Int) < 64) = true := decide_eq_true (by omega)
      have b1 : 0 ≤ (t : Int) := Int.natCast_nonneg t
      have b2 : (t : Int) < 64 := Int.ofNat_lt.mpr c
      have hlen : (roundsA s ks ws t).length = 8 := roundsA_len hs t
      obtain ⟨v, hv⟩ : ∃ v, roundsA s ks ws t = v := ⟨_, rfl⟩
      rw [hv] at hI hlen
      have HV := Lib.hid hv
      have d0 := cell_nums hI.out.b8 0 (by rw [hlen]; decide)
      have d1 := cell_nums hI.out.b8 1 (by rw [hlen]; decide)
      have d2 := cell_nums hI.out.b8 2 (by rw [hlen]; decide)
      have d3 := cell_nums hI.out.b8 3 (by rw [hlen]; decide)
      have d4 := cell_nums hI.out.b8 4 (by rw [hlen]; decide)
      have d5 := cell_nums hI.out.b8 5 (by rw [hlen]; decide)
      have d6 := cell_nums hI.out.b8 6 (by rw [hlen]; decide)
      have d7 := cell_nums hI.out.b8 7 (by rw [hlen]; decide)
      have dk := cell_nums hI.out.bk t (by rw [hks]; exact c)
      have dw := cell_nums hI.out.b7 t (by rw [hwl]; exact c)
      have hsz : Hid ((nums .u32 v).toArray.size = (nums .u32 (roundA v (rd ks t) (rd ws t))).toArray.size) := Lib.hid (by rw [size_round]; simp [nums, hlen])
      have hnot : (if IntKind.u32.signed = true then (-1 : Int) else IntKind.u32.max) = 4294967295 := by decide +kernel
      clear hv
      go_upto_block 1 with fail
      go_cut [] (fun wx => Hid (BI w w.heap.size (w.heap.size + 1) g7 g8 ga s ws ks (roundA v (rd ks (t : Int)) (rd ws (t : Int))) wx))
      case first =>
        go_wp2
        go_quiet (fail)
        go_wp2_with (go_at_call 68; go_must ((first | (with_reducible refine (sha_right.calls _ 6 _ _ (right6 _)).mono ?_) | (with_reducible refine (sha_right.calls _ 11 _ _ (right11 _)).mono ?_) | (with_reducible refine (sha_right.calls _ 25 _ _ (right25 _)).mono ?_)); rintro e w' ⟨rfl, ⟨n, rfl⟩⟩))
        generalize hS1 : Go.bits .xor .u32 (Go.bits .xor .u32 (rotA (rd v 4) 6) (rotA (rd v 4) 11)) (rotA (rd v 4) 25) = S1
        refine gen_world (w0 := wr) ⟨⟨_, rfl⟩⟩ (fun W1 hD => ?_)
        obtain ⟨m1, rfl⟩ := hD.out
        clear hD
        go_quiet (fail)
        generalize hT1 : ((rd v 7 + S1 + Go.bits .xor .u32 (Go.bits .and .u32 (rd v 4) (rd v 5)) (Go.bits .and .u32 (Go.bits .xor .u32 (4294967295) (rd v 4)) (rd v 6)) + rd ks (t : Int)) % 4294967296 + rd ws (t : Int)) % 4294967296 = T1
        have hcells : (nums .u32 (roundA v (rd ks (t : Int)) (rd ws (t : Int)))).toArray = #[.int .u32 ((T1 + (Go.bits .xor .u32 (Go.bits .xor .u32 (rotA (rd v 0) 2) (rotA (rd v 0) 13)) (rotA (rd v 0) 22) + Go.bits .xor .u32 (Go.bits .xor .u32 (Go.bits .and .u32 (rd v 0) (rd v 1)) (Go.bits .and .u32 (rd v 0) (rd v 2))) (Go.bits .and .u32 (rd v 1) (rd v 2)))) % 4294967296), .int .u32 (rd v 0), .int .u32 (rd v 1), .int .u32 (rd v 2), .int .u32 ((rd v 3 + T1) % 4294967296), .int .u32 (rd v 4), .int .u32 (rd v 5), .int .u32 (rd v 6)] := by
          simp only [nums, roundA, List.map_cons, List.map_nil, t1f, S1f, hS1, hT1, S0f, t2f]
        have HC := Lib.hid hcells
        clear hcells hS1 hT1
        go_wp2_with (first | (go_at_call 68; go_must ((first | (with_reducible refine (sha_right.calls _ 2 _ _ (right2 _)).mono ?_) | (with_reducible refine (sha_right.calls _ 13 _ _ (right13 _)).mono ?_) | (with_reducible refine (sha_right.calls _ 22 _ _ (right22 _)).mono ?_)); rintro e w' ⟨rfl, ⟨n, rfl⟩⟩)) | ((with_reducible refine gate_store (t := 66) rfl ?_); go_must (refine store_ev rfl rfl 66 (.tmp 8) (.tmp 104) rfl g8 _ (nums .u32 (roundA v (rd ks t) (rd ws t))).toArray rfl (by rw [HC.out]; rfl) (BI.drewN hI.out _).b8 hsz.out (info66_of (size_round _ _ _)) (nums_one _ _) ?_; intro w6 hst; have HN := (BI.drewN hI.out _).store hst N3.out N6.out N7.out Nk.out N8.out; clear hst d0 d1 d2 d3 d4 d5 d6 d7 dk dw hI HC)))
        go_meet
        exact HN
      case rest =>
        clear d0 d1 d2 d3 d4 d5 d6 d7 dk dw hsz hnot hI
        obtain ⟨k1, rfl⟩ : ∃ k1, gk = k1 + 1 := ⟨gk - 1, by have := hk.out; omega⟩
        have hn : BI w w.heap.size (w.heap.size + 1) g7 g8 ga s ws ks (roundsA s ks ws (t + 1)) wc := by
          rw [show roundsA s ks ws (t + 1) = roundA (roundsA s ks ws t) (rd ks (t : Int)) (rd ws (t : Int)) by rw [roundsA], HV.out]
          exact hcut.out
        go_wp2
        go_roundg k1
        case measure => omega
        case rel => exact ⟨t + 1, (by first | exact congrArg (Value.int .i64) (wrap_succ t (Nat.lt_of_lt_of_le c (by decide))) | exact congrArg (Value.int .i64) (Int.natCast_succ t).symm), Lib.hid (by have := hk.out; omega), Lib.hid (by omega), Lib.hid hn⟩
    · have hv : ∃ v, roundsA s ks ws 64 = v := ⟨_, rfl⟩
      obtain ⟨v, hv⟩ := hv
      have hS : BI w w.heap.size (w.heap.size + 1) g7 g8 ga s ws ks (addA v s 0) wr := by
        have : t = 64 := by have := ht.out; omega
        rw [addA, ← hv, ← this]; exact hI.out
      have hvl : v.length = 8 := by rw [← hv]; exact roundsA_len hs 64
      have HV := Lib.hid hv
      have c1 : decide ((t : Int) < 64) = false := decide_eq_false (by omega)
      clear hI hk ht hv
      go_wp2
      go_loopg [106] 9 (fun kq v106 w' => ∃ t : Nat, v106 = .int .i64 (t : Int) ∧ Hid (kq + t = 9) ∧ Hid (t ≤ 8) ∧ Hid (BI w w.heap.size (w.heap.size + 1) g7 g8 ga s ws ks (addA v s t) w'))
      case atStart => exact ⟨0, rfl, Lib.hid rfl, Lib.hid (by omega), Lib.hid hS⟩
      case round =>
        clear hS c1 c
        obtain ⟨t, rfl, hk, ht, hI⟩ := hrel
        by_cases c : t < 8
        · have c1 : decide ((t : Int) < 8) = true := decide_eq_true (by omega)
          have b1 : 0 ≤ (t : Int) := Int.natCast_nonneg t
          have b2 : (t : Int) < 8 := Int.ofNat_lt.mpr c
          have hal : (addA v s t).length = 8 := by rw [addA_len]; exact hvl
          have d8 := cell_nums hI.out.b8 t (by rw [hal]; exact c)
          have f8 := blk_frozen hI.out.b8 t
          have d3 := cell_nums hI.out.b3 t (by rw [hs]; exact c)
          have hne : Hid (w.heap.size ≠ g8) := N3
          go_wp2
          go_region
          all_goals go_wp2
          obtain ⟨k1, rfl⟩ : ∃ k1, gk = k1 + 1 := ⟨gk - 1, by have := hk.out; omega⟩
          have hn := (hI.out.set t ((rd (addA v s t) (t : Int) + rd s (t : Int)) % 4294967296) N3.out N6.out N7.out Nk.out N8.out).drewN 1
          rw [show (addA v s t).set t ((rd (addA v s t) (t : Int) + rd s (t : Int)) % 4294967296) = addA v s (t + 1) by rw [addA]] at hn
          go_roundg k1
          case measure => omega
          case rel => exact ⟨t + 1, (by first | exact congrArg (Value.int .i64) (wrap_succ t (Nat.lt_of_lt_of_le c (by decide))) | exact congrArg (Value.int .i64) (Int.natCast_succ t).symm), Lib.hid (by have := hk.out; omega), Lib.hid (by omega), Lib.hid hn⟩
        · have hS : BI w w.heap.size (w.heap.size + 1) g7 g8 ga s ws ks (addA v s 8) wr := by
            have : t = 8 := by have := ht.out; omega
            rw [← this]; exact hI.out
          have c1 : decide ((t : Int) < 8) = false := decide_eq_false (by omega)
          have hr : addA v s 8 = r := by rw [← HR.out, blockA, HWS.out, HV.out]
          rw [hr] at hS
          have hrl : (nums .u32 r).toArray.size = 8 := by rw [← hr]; simp [nums, addA_len, hvl]
          have HRL := Lib.hid hrl
          clear hI hk ht hrl hr
          go_wp2_with (first | ((with_reducible refine gate_dst (N := 118) rfl ?_); go_must (refine load_ev rfl rfl 66 (.tmp 8) rfl g8 _ _ rfl hS.b8 Try.underlying66 rfl (info66_of HRL.out) ?_)) | ((with_reducible refine gate_store (t := 66) rfl ?_); go_must (refine store_ev rfl rfl 66 (.tmp 6) (.tmp 118) rfl (w.heap.size + 1) _ _ rfl rfl hS.b6 (by rw [HRL.out]; rfl) (info66_of HRL.out) (nums_one _ _) ?_; intro w9 hst)))
          refine bodyPost_ret (v := .agg (nums .u32 r).toArray) ?_ rfl ⟨rfl, hst.below _ hS.below (Nat.le_succ _)⟩
          exact results_cell_row rfl _ _ (w.heap.size + 1) 66 _ (0, 0) _ rfl hst.at_ Try.underlying66 rfl (info66_of HRL.out)
end Go.Proofs.Ytclmikbbjhdplaa.X
