/- Texts of this session joined into one: HNet, HOpens, HOpensM, PureNetTells. -/
import Derived.Test.YtccabdgfjcjpoaaZNetTells1
import Derived.Deep.Cut
import Derived.Deep.DeepCutAuto
import Derived.BigQuiet
import Derived.StillTailTactics
import Derived.Test.YtccabdgfjcjpoaaRows
import Derived.Deep.Slices
import Derived.ChangeSame
import Derived.SizedLaws
import Derived.ProofKit
/- The law NetTells: its body's contract. Written by gennet.py. -/
namespace Go.Proofs.Ytccabdgfjcjpoaa.X
open Go.RowKit Go.Proofs.YtccabdgfjcjpoaaW.PrintWords Go.Proofs.YtccabdgfjcjpoaaW.PrintLast Go.Proofs.YtccabdgfjcjpoaaW.PrintMore
set_option linter.unusedVariables false
set_option linter.unusedSimpArgs false

theorem heap56 : Kd.Heap k56 := Kd.heap_iso _ (Kd.heap_pair (Kd.heap_int _) (Kd.heap_pair (Kd.heap_int _) (Kd.heap_pair (Kd.heap_int _) (Kd.heap_slice 5 (Kd.heap_int _)))))
abbrev mailC (m : S56) (A : Option Addr) (c : Nat) : Array Value := #[.int .i64 m.f0, .int .i64 m.f1, .int .i64 m.f2, .slice A m.f3.length c]
/-- One mail in a block, as a row that is read. -/
theorem box_F {W : World} {b : Nat} {m : S56} {A : Option Addr} {c : Nat} {P : Nat → Prop} (hb : W.heap[b]? = some (.cells (mailC m A c) 56 (0, 0))) (hl : m.f3.length ≤ c) (hF : Kd.F (Kd.int .u8) W P A m.f3.length m.f3) : Kd.F k56 W (fun k => k = b ∨ P k) (some ⟨b, 0, none⟩) 1 [m] := fun W' hW => by
  have hb' : W'.heap[b]? = some (.cells (mailC m A c) 56 (0, 0)) := (hW b (.inl rfl) (blk_lt hb)).trans hb
  refine ⟨rfl, by omega, fun _ => ⟨_, rfl, fun j p hj => ?_⟩⟩
  rcases j with _ | j
  · obtain rfl : m = p := by simpa using hj
    refine ⟨[.int .i64 m.f0, .int .i64 m.f1, .int .i64 m.f2, .slice A m.f3.length c], rfl, k56_mk W' m hl (hF W' (fun k hk hlt => hW k (.inr hk) hlt)), fun i u hu => ?_⟩
    rw [Nat.zero_mul, Nat.zero_add, add_plain, blk_cell hb' i]
    simpa [mailC] using hu
  · simp at hj
theorem boxed (W : World) (cs : Array Value) (x0 x1 x2 x3 : Value) : Below W.heap.size W (((((W.alloc (.cells cs 56)).setCell ⟨W.heap.size, 0, none⟩ x0).setCell ⟨W.heap.size, 1, none⟩ x1).setCell ⟨W.heap.size, 2, none⟩ x2).setCell ⟨W.heap.size, 3, none⟩ x3) :=
  Below.setCell (p := ⟨W.heap.size, 3, none⟩) (Below.setCell (p := ⟨W.heap.size, 2, none⟩) (Below.setCell (p := ⟨W.heap.size, 1, none⟩) (Below.setCell (p := ⟨W.heap.size, 0, none⟩) (below_alloc (Below.refl _ _) _) (Nat.le_refl _) x0) (Nat.le_refl _) x1) (Nat.le_refl _) x2) (Nat.le_refl _) x3
/-- What stays through the law: the box of the mail that came in, and all that is old. -/
structure NetB (w : World) (m : S56) (A1 : Option Addr) (c1 : Nat) (W : World) : Prop where
  box : W.heap[w.heap.size]? = some (.cells (mailC m A1 c1) 56 (0, 0))
  below : Below w.heap.size w W
theorem NetB.on {w : World} {m : S56} {A1 : Option Addr} {c1 : Nat} {W W1 : World} (h : NetB w m A1 c1 W) (hb : Below W.heap.size W W1) : NetB w m A1 c1 W1 := ⟨(hb.block _ (blk_lt h.box)).trans h.box, below_step h.below hb⟩
/-- A row of mails of the law's own, from Z on: it shares texts with what came in. -/
structure NetR (w Wz : World) (v : Value) (xs : List S56) (W : World) : Prop where
  row : Kd.N k56 56 W Wz.heap.size (fun _ => True) v xs
  below : Below Wz.heap.size Wz W
  old : w.heap.size ≤ Wz.heap.size
set_option maxRecDepth 100000 in
set_option maxHeartbeats 40000000 in
theorem nettells_small (A0 : Option Addr) (c0 : Nat) (l : List S56) (m : S56) (A1 : Option Addr) (c1 : Nat) (a2 a3 : Int) (A4 : Option Addr) (c4 : Nat) (data : List (List Int)) (w : World) (hC0 : Kd.C k56 w A0 l.length l) (hc0 : l.length ≤ c0) (hC1 : Kd.C (Kd.int .u8) w A1 m.f3.length m.f3) (hc1 : m.f3.length ≤ c1) (hC4 : Kd.C (Kd.slice 5 (Kd.int .u8)) w A4 data.length data) (hc4 : data.length ≤ c4)
    (hf : Fits l) (hm : m.f3.length ≤ 140737488355328) (hd : ∀ x ∈ data, x.length ≤ 140737488355328) (hl : l.length ≤ 900) (hd9 : data.length ≤ 9) :
    Calls Try.prog 9 #[.slice A0 l.length c0, .agg (mailC m A1 c1), .int .i64 a2, .int .i64 a3, .slice A4 data.length c4] w fun e w' => e = .returned (.bool true) ∧ Below w.heap.size w w' := by
  have hB1 : NetB w m A1 c1 (w.alloc (.cells (mailC m A1 c1) 56)) := ⟨blk_new _ _, below_alloc (Below.refl _ _) _⟩
  have q1 : decide ((l.length : Int) > 900) = false := decide_eq_false (by omega)
  have q2 : decide (900 < (l.length : Int)) = false := decide_eq_false (by omega)
  have q3 : decide (900 < l.length) = false := decide_eq_false (by omega)
  have q4 : decide ((data.length : Int) > 9) = false := decide_eq_false (by omega)
  have q5 : decide (9 < (data.length : Int)) = false := decide_eq_false (by omega)
  have q6 : decide (9 < data.length) = false := decide_eq_false (by omega)
  have C0 := Lib.hid hC0
  have C4 := Lib.hid hC4
  have F0 := Lib.hid (Kd.C_F heap56 hC0)
  have F1 := Lib.hid (Kd.C_F (Kd.heap_int .u8) hC1)
  have F4 := Lib.hid (Kd.C_F (Kd.heap_slice 5 (Kd.heap_int .u8)) hC4)
  have HC0 := Lib.hid hc0
  have HC1 := Lib.hid hc1
  have HC4 := Lib.hid hc4
  have HF := Lib.hid hf
  have HM := Lib.hid hm
  have HD := Lib.hid hd
  have HL := Lib.hid hl
  have HD9 := Lib.hid hd9
  have NB := Lib.hid hB1
  have LF : Hid (∀ W, Below w.heap.size w W → Kd.F k56 W (fun k => k < w.heap.size) A0 l.length l) := Lib.hid (fun W hb => Kd.F_step F0.out (fun k hk _ => hb.block k hk))
  have MF : Hid (∀ W, Below w.heap.size w W → Kd.F (Kd.int .u8) W (fun k => k < w.heap.size) A1 m.f3.length m.f3) := Lib.hid (fun W hb => Kd.F_step F1.out (fun k hk _ => hb.block k hk))
  have DF : Hid (∀ W, Below w.heap.size w W → Kd.F (Kd.slice 5 (Kd.int .u8)) W (fun k => k < w.heap.size) A4 data.length data) := Lib.hid (fun W hb => Kd.F_step F4.out (fun k hk _ => hb.block k hk))
  have hmix : Try.prog.follows .mixedOrders = true := by kernel_rfl
  have HMIX := Lib.hid hmix
  clear hC0 hc0 hC1 hc1 hC4 hc4 hf hm hd hl hd9 hB1
  go_enter Try.func9, Try.ntmps9
  go_upto_region 6 with (go_at_call 23; go_must ((with_reducible refine (alive24_calls _).mono ?_); rintro e w1 ⟨rfl, hb1⟩; have N1 := Lib.hid (NB.out.on hb1); clear hb1))
  have x0 := blk_cell N1.out.box 0
  have x1 := blk_cell N1.out.box 1
  have x2 := blk_cell N1.out.box 2
  have x3 := blk_cell N1.out.box 3
  go_cut [11] (fun v11 wx => Hid (NetR w w1 v11 (l ++ [m]) wx))
  case first =>
    refine wp_region_any hmix ?_
    (try (change wpAny _ _ _ _ _ _ _ (World.drew _)))
    have hbd : Below w1.heap.size w1 w1.drew := below_drew (Below.refl _ _)
    have hbx : w1.drew.heap[w.heap.size]? = some (.cells (mailC m A1 c1) 56 (0, 0)) := N1.out.box
    have hxl : w.heap.size < w1.heap.size := blk_lt N1.out.box
    refine wpAny_take (i := 0) (v := Value.slice none 0 0) rfl (by kernel_rfl) (by kernel_rfl) (by kernel_rfl) (fun _ _ _ h => h) (Or.inl ⟨by rfl, ?_⟩) ?_
    · intro w_; go_simp; (try with_reducible rfl)
    (try simp only [Act.put, List.getElem_toArray, List.getElem_cons_zero, List.getElem_cons_succ, List.setIfInBounds_toArray, List.set_cons_zero, List.set_cons_succ])
    refine wpAny_take (i := 1) (v := Value.slice A0 l.length c0) rfl (by kernel_rfl) (by kernel_rfl) (by kernel_rfl) (fun _ _ _ h => h) (Or.inl ⟨by rfl, ?_⟩) ?_
    · intro w_; go_simp; (try with_reducible rfl)
    (try simp only [Act.put, List.getElem_toArray, List.getElem_cons_zero, List.getElem_cons_succ, List.setIfInBounds_toArray, List.set_cons_zero, List.set_cons_succ])
    refine wpAny_ready (rs := [2, 3]) (by kernel_rfl) (by simp) ?_
    refine AllReady.cons rfl (fun K hK => ?_) (AllReady.cons rfl (fun K hK => ?_) AllReady.nil)
    · refine Kd.N_append_rows_step k56 (w0 := w1) w1.heap.size (by kernel_rfl) (.tmp 33) (.tmp 34) 53 56 _ 48 rfl Try.underlying53 info56 rfl (by decide) (by decide) (Value.slice none 0 0) [] l A0 l.length c0 (fun _ => True) (fun k => k < w.heap.size) rfl rfl (Kd.N_nil _ _ _ _ _) (LF.out _ (below_step N1.out.below hbd)) (fun k hk => ⟨trivial, by simp [Value.ownBlock]⟩) (fun _ _ => trivial) hbd (Below.size (B := w1.heap.size) hbd) (by have := HL.out; simp only [List.length_nil]; omega) ?_
      intro v2 w2 hN2 hb2 hg2 hat2
      rw [List.nil_append] at hN2
      refine hK _ _ ?_
      clear hK K
      (try simp only [Act.put, List.getElem_toArray, List.getElem_cons_zero, List.getElem_cons_succ, List.setIfInBounds_toArray, List.set_cons_zero, List.set_cons_succ])
      have hbx2 : w2.heap[w.heap.size]? = some (.cells (mailC m A1 c1) 56 (0, 0)) := (hb2.block _ hxl).trans N1.out.box
      have z0 := blk_cell hbx2 0
      have z1 := blk_cell hbx2 1
      have z2 := blk_cell hbx2 2
      have z3 := blk_cell hbx2 3
      refine wpAny_ready (rs := [3]) (by kernel_rfl) (by simp) ?_
      refine AllReady.cons rfl (fun K hK => ?_) AllReady.nil
      go_simp
      refine hK _ _ ?_
      clear hK K
      (try simp only [Act.put, List.getElem_toArray, List.getElem_cons_zero, List.getElem_cons_succ, List.setIfInBounds_toArray, List.set_cons_zero, List.set_cons_succ])
      refine wpAny_ready (rs := [4]) (by kernel_rfl) (by simp) ?_
      refine AllReady.cons rfl (fun K hK => ?_) AllReady.nil
      go_simp
      refine hK _ _ ?_
      clear hK K
      (try simp only [Act.put, List.getElem_toArray, List.getElem_cons_zero, List.getElem_cons_succ, List.setIfInBounds_toArray, List.set_cons_zero, List.set_cons_succ])
      have hba : Below w1.heap.size w1 (w2.alloc (.cells (mailC m A1 c1) 56)) := below_alloc hb2 _
      refine wpAny_ready (rs := [5]) (by kernel_rfl) (by simp) ?_
      refine AllReady.cons rfl (fun K hK => ?_) AllReady.nil
      refine Kd.N_append_rows_step k56 (w0 := w1) w1.heap.size (by kernel_rfl) (.tmp 35) (.tmp 37) 53 56 _ 48 rfl Try.underlying53 info56 rfl (by decide) (by decide) (v2) l [m] (some ⟨w2.heap.size, 0, none⟩) 1 1 (fun _ => True) (fun k => k = w2.heap.size ∨ k < w.heap.size) rfl rfl (Kd.N_alloc hN2 _) (box_F (blk_new w2 (.cells (mailC m A1 c1) 56)) HC1.out (MF.out _ (below_step N1.out.below hba))) (fun k hk => ⟨trivial, fun e => by rcases hk with rfl | hk; exact absurd (Kd.N_lt hN2 _ e.symm) (Nat.lt_irrefl _); have := Kd.N_base hN2 k e.symm; have := N1.out.below.size; omega⟩) (fun _ _ => trivial) hba (Below.size (B := w1.heap.size) hba) (by have := HL.out; omega) ?_
      intro v5 w5 hN5 hb5 hg5 hat5
      refine hK _ _ ?_
      clear hK K
      (try simp only [Act.put, List.getElem_toArray, List.getElem_cons_zero, List.getElem_cons_succ, List.setIfInBounds_toArray, List.set_cons_zero, List.set_cons_succ])
      refine wpAny_ready (rs := [6]) (by kernel_rfl) (by simp) ?_
      refine AllReady.cons rfl (fun K hK => ?_) AllReady.nil
      go_simp
      refine hK _ _ ?_
      clear hK K
      (try simp only [Act.put, List.getElem_toArray, List.getElem_cons_zero, List.getElem_cons_succ, List.setIfInBounds_toArray, List.set_cons_zero, List.set_cons_succ])
      refine wpAny_done (by kernel_rfl) ?_ _
      go_step
      go_step
      go_meet
      exact Lib.hid ⟨hN5, hb5, N1.out.below.size⟩
    · go_simp
      refine hK _ _ ?_
      clear hK K
      (try simp only [Act.put, List.getElem_toArray, List.getElem_cons_zero, List.getElem_cons_succ, List.setIfInBounds_toArray, List.set_cons_zero, List.set_cons_succ])
      refine wpAny_ready (rs := [2, 4]) (by kernel_rfl) (by simp) ?_
      refine AllReady.cons rfl (fun K hK => ?_) (AllReady.cons rfl (fun K hK => ?_) AllReady.nil)
      · refine Kd.N_append_rows_step k56 (w0 := w1) w1.heap.size (by kernel_rfl) (.tmp 33) (.tmp 34) 53 56 _ 48 rfl Try.underlying53 info56 rfl (by decide) (by decide) (Value.slice none 0 0) [] l A0 l.length c0 (fun _ => True) (fun k => k < w.heap.size) rfl rfl (Kd.N_nil _ _ _ _ _) (LF.out _ (below_step N1.out.below hbd)) (fun k hk => ⟨trivial, by simp [Value.ownBlock]⟩) (fun _ _ => trivial) hbd (Below.size (B := w1.heap.size) hbd) (by have := HL.out; simp only [List.length_nil]; omega) ?_
        intro v2 w2 hN2 hb2 hg2 hat2
        rw [List.nil_append] at hN2
        refine hK _ _ ?_
        clear hK K
        (try simp only [Act.put, List.getElem_toArray, List.getElem_cons_zero, List.getElem_cons_succ, List.setIfInBounds_toArray, List.set_cons_zero, List.set_cons_succ])
        refine wpAny_ready (rs := [4]) (by kernel_rfl) (by simp) ?_
        refine AllReady.cons rfl (fun K hK => ?_) AllReady.nil
        go_simp
        refine hK _ _ ?_
        clear hK K
        (try simp only [Act.put, List.getElem_toArray, List.getElem_cons_zero, List.getElem_cons_succ, List.setIfInBounds_toArray, List.set_cons_zero, List.set_cons_succ])
        have hba : Below w1.heap.size w1 (w2.alloc (.cells (mailC m A1 c1) 56)) := below_alloc hb2 _
        refine wpAny_ready (rs := [5]) (by kernel_rfl) (by simp) ?_
        refine AllReady.cons rfl (fun K hK => ?_) AllReady.nil
        refine Kd.N_append_rows_step k56 (w0 := w1) w1.heap.size (by kernel_rfl) (.tmp 35) (.tmp 37) 53 56 _ 48 rfl Try.underlying53 info56 rfl (by decide) (by decide) (v2) l [m] (some ⟨w2.heap.size, 0, none⟩) 1 1 (fun _ => True) (fun k => k = w2.heap.size ∨ k < w.heap.size) rfl rfl (Kd.N_alloc hN2 _) (box_F (blk_new w2 (.cells (mailC m A1 c1) 56)) HC1.out (MF.out _ (below_step N1.out.below hba))) (fun k hk => ⟨trivial, fun e => by rcases hk with rfl | hk; exact absurd (Kd.N_lt hN2 _ e.symm) (Nat.lt_irrefl _); have := Kd.N_base hN2 k e.symm; have := N1.out.below.size; omega⟩) (fun _ _ => trivial) hba (Below.size (B := w1.heap.size) hba) (by have := HL.out; omega) ?_
        intro v5 w5 hN5 hb5 hg5 hat5
        refine hK _ _ ?_
        clear hK K
        (try simp only [Act.put, List.getElem_toArray, List.getElem_cons_zero, List.getElem_cons_succ, List.setIfInBounds_toArray, List.set_cons_zero, List.set_cons_succ])
        refine wpAny_ready (rs := [6]) (by kernel_rfl) (by simp) ?_
        refine AllReady.cons rfl (fun K hK => ?_) AllReady.nil
        go_simp
        refine hK _ _ ?_
        clear hK K
        (try simp only [Act.put, List.getElem_toArray, List.getElem_cons_zero, List.getElem_cons_succ, List.setIfInBounds_toArray, List.set_cons_zero, List.set_cons_succ])
        refine wpAny_done (by kernel_rfl) ?_ _
        go_step
        go_step
        go_meet
        exact Lib.hid ⟨hN5, hb5, N1.out.below.size⟩
      · go_simp
        refine hK _ _ ?_
        clear hK K
        (try simp only [Act.put, List.getElem_toArray, List.getElem_cons_zero, List.getElem_cons_succ, List.setIfInBounds_toArray, List.set_cons_zero, List.set_cons_succ])
        have hba : Below w1.heap.size w1 (w1.drew.alloc (.cells (mailC m A1 c1) 56)) := below_alloc hbd _
        refine wpAny_ready (rs := [2]) (by kernel_rfl) (by simp) ?_
        refine AllReady.cons rfl (fun K hK => ?_) AllReady.nil
        refine Kd.N_append_rows_step k56 (w0 := w1) w1.heap.size (by kernel_rfl) (.tmp 33) (.tmp 34) 53 56 _ 48 rfl Try.underlying53 info56 rfl (by decide) (by decide) (Value.slice none 0 0) [] l A0 l.length c0 (fun _ => True) (fun k => k < w.heap.size) rfl rfl (Kd.N_nil _ _ _ _ _) (LF.out _ (below_step N1.out.below hba)) (fun k hk => ⟨trivial, by simp [Value.ownBlock]⟩) (fun _ _ => trivial) hba (Below.size (B := w1.heap.size) hba) (by have := HL.out; simp only [List.length_nil]; omega) ?_
        intro v2 w2 hN2 hb2 hg2 hat2
        rw [List.nil_append] at hN2
        refine hK _ _ ?_
        clear hK K
        (try simp only [Act.put, List.getElem_toArray, List.getElem_cons_zero, List.getElem_cons_succ, List.setIfInBounds_toArray, List.set_cons_zero, List.set_cons_succ])
        have hbb : w2.heap[w1.drew.heap.size]? = some (.cells (mailC m A1 c1) 56 (0, 0)) := (hg2.block _ (by show w1.drew.heap.size < (w1.alloc _).heap.size; rw [World.size_alloc]; exact Nat.lt_succ_self _) (by simp [Value.ownBlock])).trans (blk_new w1.drew (.cells (mailC m A1 c1) 56))
        refine wpAny_ready (rs := [5]) (by kernel_rfl) (by simp) ?_
        refine AllReady.cons rfl (fun K hK => ?_) AllReady.nil
        refine Kd.N_append_rows_step k56 (w0 := w1) w1.heap.size (by kernel_rfl) (.tmp 35) (.tmp 37) 53 56 _ 48 rfl Try.underlying53 info56 rfl (by decide) (by decide) (v2) l [m] (some ⟨w1.drew.heap.size, 0, none⟩) 1 1 (fun _ => True) (fun k => k = w1.drew.heap.size ∨ k < w.heap.size) rfl rfl hN2 (box_F hbb HC1.out (MF.out _ (below_step N1.out.below hb2))) (fun k hk => ⟨trivial, fun e => by rcases hk with rfl | hk; (rcases hat2 with h | ⟨b, h, hle⟩; (rw [h] at e; simp [Value.ownBlock] at e); (rw [h] at e; have e2 := Option.some.inj e; have hs := World.size_alloc w1 (.cells (mailC m A1 c1) 56); change (w1.alloc (.cells (mailC m A1 c1) 56)).heap.size ≤ b at hle; change w1.heap.size = b at e2; omega)); have := Kd.N_base hN2 k e.symm; have := N1.out.below.size; omega⟩) (fun _ _ => trivial) hb2 (Below.size (B := w1.heap.size) hb2) (by have := HL.out; omega) ?_
        intro v5 w5 hN5 hb5 hg5 hat5
        refine hK _ _ ?_
        clear hK K
        (try simp only [Act.put, List.getElem_toArray, List.getElem_cons_zero, List.getElem_cons_succ, List.setIfInBounds_toArray, List.set_cons_zero, List.set_cons_succ])
        refine wpAny_ready (rs := [6]) (by kernel_rfl) (by simp) ?_
        refine AllReady.cons rfl (fun K hK => ?_) AllReady.nil
        go_simp
        refine hK _ _ ?_
        clear hK K
        (try simp only [Act.put, List.getElem_toArray, List.getElem_cons_zero, List.getElem_cons_succ, List.setIfInBounds_toArray, List.set_cons_zero, List.set_cons_succ])
        refine wpAny_done (by kernel_rfl) ?_ _
        go_step
        go_step
        go_meet
        exact Lib.hid ⟨hN5, hb5, N1.out.below.size⟩
  case rest =>
    have NB2 := Lib.hid (N1.out.on hcut.out.below)
    obtain ⟨sl, hsl⟩ : ∃ x, x = l ++ [m] := ⟨_, rfl⟩
    have HSL := Lib.hid hsl
    rw [← hsl] at hcut
    obtain ⟨As, cs, rfl, hcs, hsC⟩ := Kd.N_reads hcut.out.row
    have HCS := Lib.hid hcs
    have SC := Lib.hid hsC
    clear hsl hcs hsC hcut
    obtain ⟨T, hT10, hTg, hTk⟩ := targets_of a3
    have HT10 := Lib.hid hT10
    have HTG := Lib.hid hTg
    have HTK := Lib.hid hTk
    clear hT10 hTg hTk x0 x1 x2 x3
    go_wp2_with (((with_reducible refine gate_builtin (b := .append) (xs := #[.tmp 39, .tmp 40]) rfl ?_); at_builtin; refine Kd.N_append_rows k56 (w0 := wc) wc.heap.size rfl (.tmp 39) (.tmp 40) 53 56 _ 48 rfl Try.underlying53 info56 rfl (by decide) (by decide) (Value.slice none 0 0) [] l A0 l.length c0 (fun _ => True) (fun k => k < w.heap.size) rfl rfl (Kd.N_nil _ _ _ _ _) (LF.out _ NB2.out.below) (fun k hk => ⟨trivial, by simp [Value.ownBlock]⟩) (fun _ _ => trivial) (Below.refl _ _) (Nat.le_refl _) (by have := HL.out; simp only [List.length_nil]; omega) ?_; intro v8 w8 ho hb hg hat; rw [List.nil_append] at ho; have N8 : Hid (NetR w wc v8 l w8) := Lib.hid ⟨ho, hb, NB2.out.below.size⟩; clear ho hb hg hat))
    go_loopg [12, 16] (data.length + 1) (fun kq v12 v16 wr => ∃ i : Nat, v16 = .int .i64 (i : Int) ∧ Hid (i ≤ data.length ∧ kq + i = data.length + 1) ∧ Hid (NetR w wc v12 (l ++ allL m.f0 m.f2 T (data.take i)) wr))
    case atStart => exact ⟨0, rfl, Lib.hid ⟨Nat.zero_le _, rfl⟩, Lib.hid (by simpa [allL] using N8.out)⟩
    case round =>
      obtain ⟨i, rfl, hi, hL⟩ := hrel
      obtain ⟨gko, hgko⟩ : ∃ x, x = gk := ⟨_, rfl⟩
      by_cases ci : i < data.length
      · have e1 : decide ((i : Int) < (data.length : Int)) = true := decide_eq_true (by omega)
        have e2 : decide (i < data.length) = true := decide_eq_true ci
        have p0 : 0 ≤ (i : Int) := by omega
        have p1 : (i : Int) < (data.length : Int) := by omega
        have CI := Lib.hid ci
        obtain ⟨ad, A3, c3, e0, t0, hb3, hc3⟩ := at_L11 C4.out (i : Int) p0 p1
        cases e0
        have hrd : rd_L11 data (i : Int) = data.getD i [] := by unfold rd_L11; rw [Int.toNat_natCast]
        obtain ⟨b, hbb⟩ : ∃ b, rd_L11 data (i : Int) = b := ⟨_, rfl⟩
        rw [hbb] at t0 hb3 hc3
        rw [Int.toNat_natCast] at t0
        have HBB : Hid (data.getD i [] = b) := Lib.hid (by rw [← hrd, hbb])
        have HB3 := Lib.hid hb3
        have T0 := Lib.hid t0
        have BF : Hid (∀ W, Below w.heap.size w W → Kd.F (Kd.int .u8) W (fun k => k < w.heap.size) A3 b.length b) := Lib.hid (fun W hb => Kd.F_step (Kd.C_F (Kd.heap_int .u8) hc3) (fun k hk _ => hb.block k hk))
        clear hrd hbb hb3 hc3 t0 ci p0 p1
        go_wp2
        go_loopg [12, 17] (T + 1) (fun kq v12 v17 wi => ∃ j : Nat, v17 = .int .i64 (j : Int) ∧ Hid (j ≤ T ∧ kq + j = T + 1) ∧ Hid (NetR w wc v12 (l ++ allL m.f0 m.f2 T (data.take i) ++ rowL m.f0 m.f2 b j) wi))
        case atStart => exact ⟨0, rfl, Lib.hid ⟨Nat.zero_le _, rfl⟩, Lib.hid (by simpa [rowL] using hL.out)⟩
        case round =>
          obtain ⟨j, rfl, hj, hJ⟩ := hrel
          by_cases cj : j < T
          · have hk := (HTK.out j).mp cj
            have k1 : decide ((j : Int) < a3) = true := decide_eq_true hk.1
            have k2 : decide ((j : Int) < 10) = true := decide_eq_true (by omega)
            have k3 : decide (j < 10) = true := decide_eq_true hk.2
            have CJ := Lib.hid cj
            have NB3 := Lib.hid (NB2.out.on hJ.out.below)
            have x0 := blk_cell NB3.out.box 0
            have x1 := blk_cell NB3.out.box 1
            have x2 := blk_cell NB3.out.box 2
            clear hk cj
            by_cases cf : (j : Int) = m.f0
            · have n1 : ((j : Int) = m.f0) = True := eq_true cf
              have n2 : ((j : Int) == m.f0) = true := beq_iff_eq.mpr cf
              have n3 : ((j : Int) != m.f0) = false := by rw [bne, n2]; rfl
              have CF := Lib.hid cf
              clear cf
              go_wp2
              obtain ⟨g1, rfl⟩ : ∃ g1, gk = g1 + 1 := ⟨gk - 1, by have := hj.out; have := CJ.out; omega⟩
              go_roundg g1
              case measure => omega
              case rel => exact ⟨j + 1, congrArg (Value.int .i64) (by have := hj.out; have := HT10.out; unfold wrap64; omega), Lib.hid ⟨CJ.out, by have := hj.out; omega⟩, Lib.hid (by rw [rowL, if_pos CF.out, List.append_nil]; exact hJ.out)⟩
            · have n1 : ((j : Int) = m.f0) = False := eq_false cf
              have n2 : ((j : Int) == m.f0) = false := beq_eq_false_iff_ne.mpr cf
              have n3 : ((j : Int) != m.f0) = true := by rw [bne, n2]; rfl
              have CF := Lib.hid cf
              have t0 := (NB3.out.below.cell (World.block_lt_of_cell? w _ T0.out)).trans T0.out
              have p0 : ((0 : Int) ≤ (i : Int)) = True := eq_true (by omega)
              have p1 : ((i : Int) < (data.length : Int)) = True := eq_true (by have := CI.out; omega)
              have hmix := HMIX.out
              have HLN : Hid (((l ++ allL m.f0 m.f2 T (data.take i) ++ rowL m.f0 m.f2 b j).length + 1) * 48 ≤ 140737488355328) := Lib.hid (by
                have h1 := allL_len m.f0 m.f2 T HT10.out (data.take i)
                have h2 := rowL_len m.f0 m.f2 b j
                have := HL.out; have := HD9.out; have := hj.out; have := HT10.out
                rw [List.length_take] at h1
                rw [List.length_append, List.length_append]
                omega)
              have HNE : Hid (∀ k, k = wr.heap.size ∨ k < w.heap.size → some k ≠ u12.ownBlock) := Lib.hid (fun k hk e => by
                rcases hk with rfl | hk
                · exact absurd (Kd.N_lt hJ.out.row _ e.symm) (Nat.lt_irrefl _)
                · have := Kd.N_base hJ.out.row k e.symm
                  have := NB2.out.below.size
                  omega)
              clear cf
              go_wp2
              refine wp_region_any hmix ?_
              (try (change wpAny _ _ _ _ _ _ _ (World.drew _)))
              have HBA : Hid (Below wc.heap.size wc (wr.drew.alloc (.cells #[.int .i64 m.f0, .int .i64 (j : Int), .int .i64 m.f2, .slice A3 b.length c3] 56))) := Lib.hid (below_alloc (below_drew hJ.out.below) _)
              have HBX : Hid (Below w.heap.size w (wr.drew.alloc (.cells #[.int .i64 m.f0, .int .i64 (j : Int), .int .i64 m.f2, .slice A3 b.length c3] 56))) := Lib.hid (below_step NB2.out.below HBA.out)
              refine wpAny_take (i := 0) (v := u12) rfl (by kernel_rfl) (by kernel_rfl) (by kernel_rfl) (fun _ _ _ h => h) (Or.inl ⟨by rfl, ?_⟩) ?_
              · intro w_; go_simp; (try with_reducible rfl)
              (try simp only [Act.put, List.getElem_toArray, List.getElem_cons_zero, List.getElem_cons_succ, List.setIfInBounds_toArray, List.set_cons_zero, List.set_cons_succ])
              refine wpAny_take (i := 1) (v := Value.pointer (some ⟨w.heap.size, 0, none⟩)) rfl (by kernel_rfl) (by kernel_rfl) (by kernel_rfl) (fun _ _ _ h => h) (Or.inl ⟨by rfl, ?_⟩) ?_
              · intro w_; go_simp; (try with_reducible rfl)
              (try simp only [Act.put, List.getElem_toArray, List.getElem_cons_zero, List.getElem_cons_succ, List.setIfInBounds_toArray, List.set_cons_zero, List.set_cons_succ])
              refine wpAny_take (i := 3) (v := Value.int .i64 (j : Int)) rfl (by kernel_rfl) (by kernel_rfl) (by kernel_rfl) (fun _ _ _ h => h) (Or.inl ⟨by rfl, ?_⟩) ?_
              · intro w_; go_simp; (try with_reducible rfl)
              (try simp only [Act.put, List.getElem_toArray, List.getElem_cons_zero, List.getElem_cons_succ, List.setIfInBounds_toArray, List.set_cons_zero, List.set_cons_succ])
              refine wpAny_take (i := 4) (v := Value.pointer (some ⟨w.heap.size, 2, none⟩)) rfl (by kernel_rfl) (by kernel_rfl) (by kernel_rfl) (fun _ _ _ h => h) (Or.inl ⟨by rfl, ?_⟩) ?_
              · intro w_; go_simp; (try with_reducible rfl)
              (try simp only [Act.put, List.getElem_toArray, List.getElem_cons_zero, List.getElem_cons_succ, List.setIfInBounds_toArray, List.set_cons_zero, List.set_cons_succ])
              refine wpAny_take (i := 6) (v := Value.slice (some ad) data.length c4) rfl (by kernel_rfl) (by kernel_rfl) (by kernel_rfl) (fun _ _ _ h => h) (Or.inl ⟨by rfl, ?_⟩) ?_
              · intro w_; go_simp; (try with_reducible rfl)
              (try simp only [Act.put, List.getElem_toArray, List.getElem_cons_zero, List.getElem_cons_succ, List.setIfInBounds_toArray, List.set_cons_zero, List.set_cons_succ])
              refine wpAny_take (i := 7) (v := Value.int .i64 (i : Int)) rfl (by kernel_rfl) (by kernel_rfl) (by kernel_rfl) (fun _ _ _ h => h) (Or.inl ⟨by rfl, ?_⟩) ?_
              · intro w_; go_simp; (try with_reducible rfl)
              (try simp only [Act.put, List.getElem_toArray, List.getElem_cons_zero, List.getElem_cons_succ, List.setIfInBounds_toArray, List.set_cons_zero, List.set_cons_succ])
              refine wpAny_take (i := 8) (v := Value.pointer (some (ad.add i))) rfl (by kernel_rfl) (by kernel_rfl) (by kernel_rfl) (fun _ _ _ h => h) (Or.inl ⟨by rfl, ?_⟩) ?_
              · intro w_; go_simp; (try with_reducible rfl)
              (try simp only [Act.put, List.getElem_toArray, List.getElem_cons_zero, List.getElem_cons_succ, List.setIfInBounds_toArray, List.set_cons_zero, List.set_cons_succ])
              refine wpAny_ready (rs := [2, 5, 9]) (by kernel_rfl) (by simp) ?_
              refine AllReady.cons rfl (fun K hK => ?_) (AllReady.cons rfl (fun K hK => ?_) (AllReady.cons rfl (fun K hK => ?_) (AllReady.nil)))
              · go_simp
                refine hK _ _ ?_
                clear hK K
                (try simp only [Act.put, List.getElem_toArray, List.getElem_cons_zero, List.getElem_cons_succ, List.setIfInBounds_toArray, List.set_cons_zero, List.set_cons_succ])
                refine wpAny_ready (rs := [5, 9]) (by kernel_rfl) (by simp) ?_
                refine AllReady.cons rfl (fun K hK => ?_) (AllReady.cons rfl (fun K hK => ?_) (AllReady.nil))
                · go_simp
                  refine hK _ _ ?_
                  clear hK K
                  (try simp only [Act.put, List.getElem_toArray, List.getElem_cons_zero, List.getElem_cons_succ, List.setIfInBounds_toArray, List.set_cons_zero, List.set_cons_succ])
                  refine wpAny_ready (rs := [9]) (by kernel_rfl) (by simp) ?_
                  refine AllReady.cons rfl (fun K hK => ?_) (AllReady.nil)
                  · go_simp
                    refine hK _ _ ?_
                    clear hK K
                    (try simp only [Act.put, List.getElem_toArray, List.getElem_cons_zero, List.getElem_cons_succ, List.setIfInBounds_toArray, List.set_cons_zero, List.set_cons_succ])
                    refine wpAny_ready (rs := [10]) (by kernel_rfl) (by simp) ?_
                    refine AllReady.cons rfl (fun K hK => ?_) AllReady.nil
                    go_simp
                    refine hK _ _ ?_
                    clear hK K
                    (try simp only [Act.put, List.getElem_toArray, List.getElem_cons_zero, List.getElem_cons_succ, List.setIfInBounds_toArray, List.set_cons_zero, List.set_cons_succ])
                    refine wpAny_ready (rs := [11]) (by kernel_rfl) (by simp) ?_
                    refine AllReady.cons rfl (fun K hK => ?_) AllReady.nil
                    go_simp
                    refine hK _ _ ?_
                    clear hK K
                    (try simp only [Act.put, List.getElem_toArray, List.getElem_cons_zero, List.getElem_cons_succ, List.setIfInBounds_toArray, List.set_cons_zero, List.set_cons_succ])
                    refine wpAny_ready (rs := [12]) (by kernel_rfl) (by simp) ?_
                    refine AllReady.cons rfl (fun K hK => ?_) AllReady.nil
                    refine Kd.N_append_rows_step k56 (w0 := wc) wc.heap.size (by kernel_rfl) (.tmp 61) (.tmp 72) 53 56 _ 48 rfl Try.underlying53 info56 rfl (by decide) (by decide) u12 (l ++ allL m.f0 m.f2 T (data.take i) ++ rowL m.f0 m.f2 b j) [⟨m.f0, (j : Int), m.f2, b⟩] (some ⟨wr.heap.size, 0, none⟩) 1 1 (fun _ => True) (fun k => k = wr.heap.size ∨ k < w.heap.size) rfl rfl (Kd.N_alloc (Kd.N_drew hJ.out.row) _) (box_F (m := ⟨m.f0, (j : Int), m.f2, b⟩) (blk_new _ _) HB3.out (BF.out _ HBX.out)) (fun k hk => ⟨trivial, HNE.out k hk⟩) (fun _ _ => trivial) HBA.out HBA.out.size HLN.out ?_
                    intro v9 w9 ho hb hg hat; have N9 : Hid (NetR w wc v9 _ w9) := Lib.hid ⟨ho, hb, NB2.out.below.size⟩; clear ho hb hg hat
                    refine hK _ _ ?_
                    clear hK K
                    (try simp only [Act.put, List.getElem_toArray, List.getElem_cons_zero, List.getElem_cons_succ, List.setIfInBounds_toArray, List.set_cons_zero, List.set_cons_succ])
                    refine wpAny_ready (rs := [13]) (by kernel_rfl) (by simp) ?_
                    refine AllReady.cons rfl (fun K hK => ?_) AllReady.nil
                    go_simp
                    refine hK _ _ ?_
                    clear hK K
                    (try simp only [Act.put, List.getElem_toArray, List.getElem_cons_zero, List.getElem_cons_succ, List.setIfInBounds_toArray, List.set_cons_zero, List.set_cons_succ])
                    refine wpAny_done (by kernel_rfl) ?_ _
                    go_wp2
                    obtain ⟨g1, rfl⟩ : ∃ g1, gk = g1 + 1 := ⟨gk - 1, by have := hj.out; have := CJ.out; omega⟩
                    go_roundg g1
                    case measure => omega
                    case rel => exact ⟨j + 1, congrArg (Value.int .i64) (by have := hj.out; have := HT10.out; unfold wrap64; omega), Lib.hid ⟨CJ.out, by have := hj.out; omega⟩, Lib.hid (by rw [rowL, if_neg CF.out, ← List.append_assoc]; exact N9.out)⟩
                · go_simp
                  refine hK _ _ ?_
                  clear hK K
                  (try simp only [Act.put, List.getElem_toArray, List.getElem_cons_zero, List.getElem_cons_succ, List.setIfInBounds_toArray, List.set_cons_zero, List.set_cons_succ])
                  refine wpAny_ready (rs := [5]) (by kernel_rfl) (by simp) ?_
                  refine AllReady.cons rfl (fun K hK => ?_) (AllReady.nil)
                  · go_simp
                    refine hK _ _ ?_
                    clear hK K
                    (try simp only [Act.put, List.getElem_toArray, List.getElem_cons_zero, List.getElem_cons_succ, List.setIfInBounds_toArray, List.set_cons_zero, List.set_cons_succ])
                    refine wpAny_ready (rs := [10]) (by kernel_rfl) (by simp) ?_
                    refine AllReady.cons rfl (fun K hK => ?_) AllReady.nil
                    go_simp
                    refine hK _ _ ?_
                    clear hK K
                    (try simp only [Act.put, List.getElem_toArray, List.getElem_cons_zero, List.getElem_cons_succ, List.setIfInBounds_toArray, List.set_cons_zero, List.set_cons_succ])
                    refine wpAny_ready (rs := [11]) (by kernel_rfl) (by simp) ?_
                    refine AllReady.cons rfl (fun K hK => ?_) AllReady.nil
                    go_simp
                    refine hK _ _ ?_
                    clear hK K
                    (try simp only [Act.put, List.getElem_toArray, List.getElem_cons_zero, List.getElem_cons_succ, List.setIfInBounds_toArray, List.set_cons_zero, List.set_cons_succ])
                    refine wpAny_ready (rs := [12]) (by kernel_rfl) (by simp) ?_
                    refine AllReady.cons rfl (fun K hK => ?_) AllReady.nil
                    refine Kd.N_append_rows_step k56 (w0 := wc) wc.heap.size (by kernel_rfl) (.tmp 61) (.tmp 72) 53 56 _ 48 rfl Try.underlying53 info56 rfl (by decide) (by decide) u12 (l ++ allL m.f0 m.f2 T (data.take i) ++ rowL m.f0 m.f2 b j) [⟨m.f0, (j : Int), m.f2, b⟩] (some ⟨wr.heap.size, 0, none⟩) 1 1 (fun _ => True) (fun k => k = wr.heap.size ∨ k < w.heap.size) rfl rfl (Kd.N_alloc (Kd.N_drew hJ.out.row) _) (box_F (m := ⟨m.f0, (j : Int), m.f2, b⟩) (blk_new _ _) HB3.out (BF.out _ HBX.out)) (fun k hk => ⟨trivial, HNE.out k hk⟩) (fun _ _ => trivial) HBA.out HBA.out.size HLN.out ?_
                    intro v9 w9 ho hb hg hat; have N9 : Hid (NetR w wc v9 _ w9) := Lib.hid ⟨ho, hb, NB2.out.below.size⟩; clear ho hb hg hat
                    refine hK _ _ ?_
                    clear hK K
                    (try simp only [Act.put, List.getElem_toArray, List.getElem_cons_zero, List.getElem_cons_succ, List.setIfInBounds_toArray, List.set_cons_zero, List.set_cons_succ])
                    refine wpAny_ready (rs := [13]) (by kernel_rfl) (by simp) ?_
                    refine AllReady.cons rfl (fun K hK => ?_) AllReady.nil
                    go_simp
                    refine hK _ _ ?_
                    clear hK K
                    (try simp only [Act.put, List.getElem_toArray, List.getElem_cons_zero, List.getElem_cons_succ, List.setIfInBounds_toArray, List.set_cons_zero, List.set_cons_succ])
                    refine wpAny_done (by kernel_rfl) ?_ _
                    go_wp2
                    obtain ⟨g1, rfl⟩ : ∃ g1, gk = g1 + 1 := ⟨gk - 1, by have := hj.out; have := CJ.out; omega⟩
                    go_roundg g1
                    case measure => omega
                    case rel => exact ⟨j + 1, congrArg (Value.int .i64) (by have := hj.out; have := HT10.out; unfold wrap64; omega), Lib.hid ⟨CJ.out, by have := hj.out; omega⟩, Lib.hid (by rw [rowL, if_neg CF.out, ← List.append_assoc]; exact N9.out)⟩
              · go_simp
                refine hK _ _ ?_
                clear hK K
                (try simp only [Act.put, List.getElem_toArray, List.getElem_cons_zero, List.getElem_cons_succ, List.setIfInBounds_toArray, List.set_cons_zero, List.set_cons_succ])
                refine wpAny_ready (rs := [2, 9]) (by kernel_rfl) (by simp) ?_
                refine AllReady.cons rfl (fun K hK => ?_) (AllReady.cons rfl (fun K hK => ?_) (AllReady.nil))
                · go_simp
                  refine hK _ _ ?_
                  clear hK K
                  (try simp only [Act.put, List.getElem_toArray, List.getElem_cons_zero, List.getElem_cons_succ, List.setIfInBounds_toArray, List.set_cons_zero, List.set_cons_succ])
                  refine wpAny_ready (rs := [9]) (by kernel_rfl) (by simp) ?_
                  refine AllReady.cons rfl (fun K hK => ?_) (AllReady.nil)
                  · go_simp
                    refine hK _ _ ?_
                    clear hK K
                    (try simp only [Act.put, List.getElem_toArray, List.getElem_cons_zero, List.getElem_cons_succ, List.setIfInBounds_toArray, List.set_cons_zero, List.set_cons_succ])
                    refine wpAny_ready (rs := [10]) (by kernel_rfl) (by simp) ?_
                    refine AllReady.cons rfl (fun K hK => ?_) AllReady.nil
                    go_simp
                    refine hK _ _ ?_
                    clear hK K
                    (try simp only [Act.put, List.getElem_toArray, List.getElem_cons_zero, List.getElem_cons_succ, List.setIfInBounds_toArray, List.set_cons_zero, List.set_cons_succ])
                    refine wpAny_ready (rs := [11]) (by kernel_rfl) (by simp) ?_
                    refine AllReady.cons rfl (fun K hK => ?_) AllReady.nil
                    go_simp
                    refine hK _ _ ?_
                    clear hK K
                    (try simp only [Act.put, List.getElem_toArray, List.getElem_cons_zero, List.getElem_cons_succ, List.setIfInBounds_toArray, List.set_cons_zero, List.set_cons_succ])
                    refine wpAny_ready (rs := [12]) (by kernel_rfl) (by simp) ?_
                    refine AllReady.cons rfl (fun K hK => ?_) AllReady.nil
                    refine Kd.N_append_rows_step k56 (w0 := wc) wc.heap.size (by kernel_rfl) (.tmp 61) (.tmp 72) 53 56 _ 48 rfl Try.underlying53 info56 rfl (by decide) (by decide) u12 (l ++ allL m.f0 m.f2 T (data.take i) ++ rowL m.f0 m.f2 b j) [⟨m.f0, (j : Int), m.f2, b⟩] (some ⟨wr.heap.size, 0, none⟩) 1 1 (fun _ => True) (fun k => k = wr.heap.size ∨ k < w.heap.size) rfl rfl (Kd.N_alloc (Kd.N_drew hJ.out.row) _) (box_F (m := ⟨m.f0, (j : Int), m.f2, b⟩) (blk_new _ _) HB3.out (BF.out _ HBX.out)) (fun k hk => ⟨trivial, HNE.out k hk⟩) (fun _ _ => trivial) HBA.out HBA.out.size HLN.out ?_
                    intro v9 w9 ho hb hg hat; have N9 : Hid (NetR w wc v9 _ w9) := Lib.hid ⟨ho, hb, NB2.out.below.size⟩; clear ho hb hg hat
                    refine hK _ _ ?_
                    clear hK K
                    (try simp only [Act.put, List.getElem_toArray, List.getElem_cons_zero, List.getElem_cons_succ, List.setIfInBounds_toArray, List.set_cons_zero, List.set_cons_succ])
                    refine wpAny_ready (rs := [13]) (by kernel_rfl) (by simp) ?_
                    refine AllReady.cons rfl (fun K hK => ?_) AllReady.nil
                    go_simp
                    refine hK _ _ ?_
                    clear hK K
                    (try simp only [Act.put, List.getElem_toArray, List.getElem_cons_zero, List.getElem_cons_succ, List.setIfInBounds_toArray, List.set_cons_zero, List.set_cons_succ])
                    refine wpAny_done (by kernel_rfl) ?_ _
                    go_wp2
                    obtain ⟨g1, rfl⟩ : ∃ g1, gk = g1 + 1 := ⟨gk - 1, by have := hj.out; have := CJ.out; omega⟩
                    go_roundg g1
                    case measure => omega
                    case rel => exact ⟨j + 1, congrArg (Value.int .i64) (by have := hj.out; have := HT10.out; unfold wrap64; omega), Lib.hid ⟨CJ.out, by have := hj.out; omega⟩, Lib.hid (by rw [rowL, if_neg CF.out, ← List.append_assoc]; exact N9.out)⟩
                · go_simp
                  refine hK _ _ ?_
                  clear hK K
                  (try simp only [Act.put, List.getElem_toArray, List.getElem_cons_zero, List.getElem_cons_succ, List.setIfInBounds_toArray, List.set_cons_zero, List.set_cons_succ])
                  refine wpAny_ready (rs := [2]) (by kernel_rfl) (by simp) ?_
                  refine AllReady.cons rfl (fun K hK => ?_) (AllReady.nil)
                  · go_simp
                    refine hK _ _ ?_
                    clear hK K
                    (try simp only [Act.put, List.getElem_toArray, List.getElem_cons_zero, List.getElem_cons_succ, List.setIfInBounds_toArray, List.set_cons_zero, List.set_cons_succ])
                    refine wpAny_ready (rs := [10]) (by kernel_rfl) (by simp) ?_
                    refine AllReady.cons rfl (fun K hK => ?_) AllReady.nil
                    go_simp
                    refine hK _ _ ?_
                    clear hK K
                    (try simp only [Act.put, List.getElem_toArray, List.getElem_cons_zero, List.getElem_cons_succ, List.setIfInBounds_toArray, List.set_cons_zero, List.set_cons_succ])
                    refine wpAny_ready (rs := [11]) (by kernel_rfl) (by simp) ?_
                    refine AllReady.cons rfl (fun K hK => ?_) AllReady.nil
                    go_simp
                    refine hK _ _ ?_
                    clear hK K
                    (try simp only [Act.put, List.getElem_toArray, List.getElem_cons_zero, List.getElem_cons_succ, List.setIfInBounds_toArray, List.set_cons_zero, List.set_cons_succ])
                    refine wpAny_ready (rs := [12]) (by kernel_rfl) (by simp) ?_
                    refine AllReady.cons rfl (fun K hK => ?_) AllReady.nil
                    refine Kd.N_append_rows_step k56 (w0 := wc) wc.heap.size (by kernel_rfl) (.tmp 61) (.tmp 72) 53 56 _ 48 rfl Try.underlying53 info56 rfl (by decide) (by decide) u12 (l ++ allL m.f0 m.f2 T (data.take i) ++ rowL m.f0 m.f2 b j) [⟨m.f0, (j : Int), m.f2, b⟩] (some ⟨wr.heap.size, 0, none⟩) 1 1 (fun _ => True) (fun k => k = wr.heap.size ∨ k < w.heap.size) rfl rfl (Kd.N_alloc (Kd.N_drew hJ.out.row) _) (box_F (m := ⟨m.f0, (j : Int), m.f2, b⟩) (blk_new _ _) HB3.out (BF.out _ HBX.out)) (fun k hk => ⟨trivial, HNE.out k hk⟩) (fun _ _ => trivial) HBA.out HBA.out.size HLN.out ?_
                    intro v9 w9 ho hb hg hat; have N9 : Hid (NetR w wc v9 _ w9) := Lib.hid ⟨ho, hb, NB2.out.below.size⟩; clear ho hb hg hat
                    refine hK _ _ ?_
                    clear hK K
                    (try simp only [Act.put, List.getElem_toArray, List.getElem_cons_zero, List.getElem_cons_succ, List.setIfInBounds_toArray, List.set_cons_zero, List.set_cons_succ])
                    refine wpAny_ready (rs := [13]) (by kernel_rfl) (by simp) ?_
                    refine AllReady.cons rfl (fun K hK => ?_) AllReady.nil
                    go_simp
                    refine hK _ _ ?_
                    clear hK K
                    (try simp only [Act.put, List.getElem_toArray, List.getElem_cons_zero, List.getElem_cons_succ, List.setIfInBounds_toArray, List.set_cons_zero, List.set_cons_succ])
                    refine wpAny_done (by kernel_rfl) ?_ _
                    go_wp2
                    obtain ⟨g1, rfl⟩ : ∃ g1, gk = g1 + 1 := ⟨gk - 1, by have := hj.out; have := CJ.out; omega⟩
                    go_roundg g1
                    case measure => omega
                    case rel => exact ⟨j + 1, congrArg (Value.int .i64) (by have := hj.out; have := HT10.out; unfold wrap64; omega), Lib.hid ⟨CJ.out, by have := hj.out; omega⟩, Lib.hid (by rw [rowL, if_neg CF.out, ← List.append_assoc]; exact N9.out)⟩
              · go_simp
                refine hK _ _ ?_
                clear hK K
                (try simp only [Act.put, List.getElem_toArray, List.getElem_cons_zero, List.getElem_cons_succ, List.setIfInBounds_toArray, List.set_cons_zero, List.set_cons_succ])
                refine wpAny_ready (rs := [2, 5]) (by kernel_rfl) (by simp) ?_
                refine AllReady.cons rfl (fun K hK => ?_) (AllReady.cons rfl (fun K hK => ?_) (AllReady.nil))
                · go_simp
                  refine hK _ _ ?_
                  clear hK K
                  (try simp only [Act.put, List.getElem_toArray, List.getElem_cons_zero, List.getElem_cons_succ, List.setIfInBounds_toArray, List.set_cons_zero, List.set_cons_succ])
                  refine wpAny_ready (rs := [5]) (by kernel_rfl) (by simp) ?_
                  refine AllReady.cons rfl (fun K hK => ?_) (AllReady.nil)
                  · go_simp
                    refine hK _ _ ?_
                    clear hK K
                    (try simp only [Act.put, List.getElem_toArray, List.getElem_cons_zero, List.getElem_cons_succ, List.setIfInBounds_toArray, List.set_cons_zero, List.set_cons_succ])
                    refine wpAny_ready (rs := [10]) (by kernel_rfl) (by simp) ?_
                    refine AllReady.cons rfl (fun K hK => ?_) AllReady.nil
                    go_simp
                    refine hK _ _ ?_
                    clear hK K
                    (try simp only [Act.put, List.getElem_toArray, List.getElem_cons_zero, List.getElem_cons_succ, List.setIfInBounds_toArray, List.set_cons_zero, List.set_cons_succ])
                    refine wpAny_ready (rs := [11]) (by kernel_rfl) (by simp) ?_
                    refine AllReady.cons rfl (fun K hK => ?_) AllReady.nil
                    go_simp
                    refine hK _ _ ?_
                    clear hK K
                    (try simp only [Act.put, List.getElem_toArray, List.getElem_cons_zero, List.getElem_cons_succ, List.setIfInBounds_toArray, List.set_cons_zero, List.set_cons_succ])
                    refine wpAny_ready (rs := [12]) (by kernel_rfl) (by simp) ?_
                    refine AllReady.cons rfl (fun K hK => ?_) AllReady.nil
                    refine Kd.N_append_rows_step k56 (w0 := wc) wc.heap.size (by kernel_rfl) (.tmp 61) (.tmp 72) 53 56 _ 48 rfl Try.underlying53 info56 rfl (by decide) (by decide) u12 (l ++ allL m.f0 m.f2 T (data.take i) ++ rowL m.f0 m.f2 b j) [⟨m.f0, (j : Int), m.f2, b⟩] (some ⟨wr.heap.size, 0, none⟩) 1 1 (fun _ => True) (fun k => k = wr.heap.size ∨ k < w.heap.size) rfl rfl (Kd.N_alloc (Kd.N_drew hJ.out.row) _) (box_F (m := ⟨m.f0, (j : Int), m.f2, b⟩) (blk_new _ _) HB3.out (BF.out _ HBX.out)) (fun k hk => ⟨trivial, HNE.out k hk⟩) (fun _ _ => trivial) HBA.out HBA.out.size HLN.out ?_
                    intro v9 w9 ho hb hg hat; have N9 : Hid (NetR w wc v9 _ w9) := Lib.hid ⟨ho, hb, NB2.out.below.size⟩; clear ho hb hg hat
                    refine hK _ _ ?_
                    clear hK K
                    (try simp only [Act.put, List.getElem_toArray, List.getElem_cons_zero, List.getElem_cons_succ, List.setIfInBounds_toArray, List.set_cons_zero, List.set_cons_succ])
                    refine wpAny_ready (rs := [13]) (by kernel_rfl) (by simp) ?_
                    refine AllReady.cons rfl (fun K hK => ?_) AllReady.nil
                    go_simp
                    refine hK _ _ ?_
                    clear hK K
                    (try simp only [Act.put, List.getElem_toArray, List.getElem_cons_zero, List.getElem_cons_succ, List.setIfInBounds_toArray, List.set_cons_zero, List.set_cons_succ])
                    refine wpAny_done (by kernel_rfl) ?_ _
                    go_wp2
                    obtain ⟨g1, rfl⟩ : ∃ g1, gk = g1 + 1 := ⟨gk - 1, by have := hj.out; have := CJ.out; omega⟩
                    go_roundg g1
                    case measure => omega
                    case rel => exact ⟨j + 1, congrArg (Value.int .i64) (by have := hj.out; have := HT10.out; unfold wrap64; omega), Lib.hid ⟨CJ.out, by have := hj.out; omega⟩, Lib.hid (by rw [rowL, if_neg CF.out, ← List.append_assoc]; exact N9.out)⟩
                · go_simp
                  refine hK _ _ ?_
                  clear hK K
                  (try simp only [Act.put, List.getElem_toArray, List.getElem_cons_zero, List.getElem_cons_succ, List.setIfInBounds_toArray, List.set_cons_zero, List.set_cons_succ])
                  refine wpAny_ready (rs := [2]) (by kernel_rfl) (by simp) ?_
                  refine AllReady.cons rfl (fun K hK => ?_) (AllReady.nil)
                  · go_simp
                    refine hK _ _ ?_
                    clear hK K
                    (try simp only [Act.put, List.getElem_toArray, List.getElem_cons_zero, List.getElem_cons_succ, List.setIfInBounds_toArray, List.set_cons_zero, List.set_cons_succ])
                    refine wpAny_ready (rs := [10]) (by kernel_rfl) (by simp) ?_
                    refine AllReady.cons rfl (fun K hK => ?_) AllReady.nil
                    go_simp
                    refine hK _ _ ?_
                    clear hK K
                    (try simp only [Act.put, List.getElem_toArray, List.getElem_cons_zero, List.getElem_cons_succ, List.setIfInBounds_toArray, List.set_cons_zero, List.set_cons_succ])
                    refine wpAny_ready (rs := [11]) (by kernel_rfl) (by simp) ?_
                    refine AllReady.cons rfl (fun K hK => ?_) AllReady.nil
                    go_simp
                    refine hK _ _ ?_
                    clear hK K
                    (try simp only [Act.put, List.getElem_toArray, List.getElem_cons_zero, List.getElem_cons_succ, List.setIfInBounds_toArray, List.set_cons_zero, List.set_cons_succ])
                    refine wpAny_ready (rs := [12]) (by kernel_rfl) (by simp) ?_
                    refine AllReady.cons rfl (fun K hK => ?_) AllReady.nil
                    refine Kd.N_append_rows_step k56 (w0 := wc) wc.heap.size (by kernel_rfl) (.tmp 61) (.tmp 72) 53 56 _ 48 rfl Try.underlying53 info56 rfl (by decide) (by decide) u12 (l ++ allL m.f0 m.f2 T (data.take i) ++ rowL m.f0 m.f2 b j) [⟨m.f0, (j : Int), m.f2, b⟩] (some ⟨wr.heap.size, 0, none⟩) 1 1 (fun _ => True) (fun k => k = wr.heap.size ∨ k < w.heap.size) rfl rfl (Kd.N_alloc (Kd.N_drew hJ.out.row) _) (box_F (m := ⟨m.f0, (j : Int), m.f2, b⟩) (blk_new _ _) HB3.out (BF.out _ HBX.out)) (fun k hk => ⟨trivial, HNE.out k hk⟩) (fun _ _ => trivial) HBA.out HBA.out.size HLN.out ?_
                    intro v9 w9 ho hb hg hat; have N9 : Hid (NetR w wc v9 _ w9) := Lib.hid ⟨ho, hb, NB2.out.below.size⟩; clear ho hb hg hat
                    refine hK _ _ ?_
                    clear hK K
                    (try simp only [Act.put, List.getElem_toArray, List.getElem_cons_zero, List.getElem_cons_succ, List.setIfInBounds_toArray, List.set_cons_zero, List.set_cons_succ])
                    refine wpAny_ready (rs := [13]) (by kernel_rfl) (by simp) ?_
                    refine AllReady.cons rfl (fun K hK => ?_) AllReady.nil
                    go_simp
                    refine hK _ _ ?_
                    clear hK K
                    (try simp only [Act.put, List.getElem_toArray, List.getElem_cons_zero, List.getElem_cons_succ, List.setIfInBounds_toArray, List.set_cons_zero, List.set_cons_succ])
                    refine wpAny_done (by kernel_rfl) ?_ _
                    go_wp2
                    obtain ⟨g1, rfl⟩ : ∃ g1, gk = g1 + 1 := ⟨gk - 1, by have := hj.out; have := CJ.out; omega⟩
                    go_roundg g1
                    case measure => omega
                    case rel => exact ⟨j + 1, congrArg (Value.int .i64) (by have := hj.out; have := HT10.out; unfold wrap64; omega), Lib.hid ⟨CJ.out, by have := hj.out; omega⟩, Lib.hid (by rw [rowL, if_neg CF.out, ← List.append_assoc]; exact N9.out)⟩
          · have hjT : j = T := by have := hj.out; omega
            have HJT := Lib.hid hjT
            have k0 : ¬ ((j : Int) < a3 ∧ j < 10) := fun h => cj ((HTK.out j).mpr h)
            clear hjT cj
            by_cases ca : (j : Int) < a3
            · have k1 : decide ((j : Int) < a3) = true := decide_eq_true ca
              have k2 : decide ((j : Int) < 10) = false := decide_eq_false (by omega)
              have k3 : decide (j < 10) = false := decide_eq_false (by omega)
              clear k0 ca
              go_wp2
              obtain ⟨g1, rfl⟩ : ∃ g1, gko = g1 + 1 := ⟨gko - 1, by have := hi.out; have := CI.out; omega⟩
              go_roundg g1
              case measure => omega
              case rel => exact ⟨i + 1, congrArg (Value.int .i64) (by have := hi.out; have := HD9.out; unfold wrap64; omega), Lib.hid ⟨CI.out, by have := hi.out; omega⟩, Lib.hid (by have h := hJ.out; rw [HJT.out] at h; rw [allL_snoc _ _ _ _ _ CI.out, HBB.out, ← List.append_assoc]; exact h)⟩
            · have k1 : decide ((j : Int) < a3) = false := decide_eq_false ca
              clear k0 ca
              go_wp2
              obtain ⟨g1, rfl⟩ : ∃ g1, gko = g1 + 1 := ⟨gko - 1, by have := hi.out; have := CI.out; omega⟩
              go_roundg g1
              case measure => omega
              case rel => exact ⟨i + 1, congrArg (Value.int .i64) (by have := hi.out; have := HD9.out; unfold wrap64; omega), Lib.hid ⟨CI.out, by have := hi.out; omega⟩, Lib.hid (by have h := hJ.out; rw [HJT.out] at h; rw [allL_snoc _ _ _ _ _ CI.out, HBB.out, ← List.append_assoc]; exact h)⟩
      · have e1 : decide ((i : Int) < (data.length : Int)) = false := decide_eq_false (by omega)
        have e2 : decide (i < data.length) = false := decide_eq_false ci
        have hiE : i = data.length := by have := hi.out; omega
        subst hiE
        rw [List.take_length] at hL
        clear ci
        have NB3 := Lib.hid (NB2.out.on hL.out.below)
        obtain ⟨wq, hwq⟩ : ∃ x, x = wr := ⟨_, rfl⟩
        subst hwq
        obtain ⟨al, hal⟩ : ∃ x, x = l ++ allL m.f0 m.f2 T data := ⟨_, rfl⟩
        have HAL := Lib.hid hal
        rw [← hal] at hL
        obtain ⟨Aa, ca, rfl, hca, haC⟩ := Kd.N_reads hL.out.row
        have HCA := Lib.hid hca
        have AC := Lib.hid haC
        have SC2 := Lib.hid (Kd.C_below SC.out (hL.out.below))
        clear hal hca haC hL SC hi hgko
        go_wp2
        go_loopg [13, 18] (l.length + 1) (fun kq v13 v18 wr => ∃ i : Nat, v18 = .int .i64 (i : Int) ∧ Hid (i ≤ l.length ∧ kq + i = l.length + 1) ∧ Hid (NetR w wq v13 ((l.take i).filter (fun t => decide (t.f1 = m.f1))) wr))
        case atStart => exact ⟨0, rfl, Lib.hid ⟨Nat.zero_le _, rfl⟩, Lib.hid ⟨by simpa using Kd.N_nil _ _ _ _ _, Below.refl _ _, NB3.out.below.size⟩⟩
        case round =>
          obtain ⟨i, rfl, hi, hL⟩ := hrel
          by_cases ci : i < l.length
          · have d1 : decide ((i : Int) < (l.length : Int)) = true := decide_eq_true (by omega)
            have d2 : decide (i < l.length) = true := decide_eq_true ci
            have p0 : 0 ≤ (i : Int) := by omega
            have p1 : (i : Int) < (l.length : Int) := by omega
            have CI := Lib.hid ci
            have NB4 := Lib.hid (NB3.out.on hL.out.below)
            obtain ⟨ad, A3, c3, e0, t0, t1, t2, t3, hb3, hc3⟩ := at_T56 C0.out (i : Int) p0 p1
            cases e0
            obtain ⟨y, hy⟩ : ∃ y, rd_T56 l (i : Int) = y := ⟨_, rfl⟩
            rw [hy] at t0 t1 t2 t3 hb3 hc3
            rw [Int.toNat_natCast] at t0 t1 t2 t3
            have HY : Hid (∀ h : i < l.length, l[i]'h = y) := Lib.hid (fun h => by rw [← hy, rd_T56_at h])
            have HB3 := Lib.hid hb3
            have BF : Hid (∀ W, Below w.heap.size w W → Kd.F (Kd.int .u8) W (fun k => k < w.heap.size) A3 y.f3.length y.f3) := Lib.hid (fun W hb => Kd.F_step (Kd.C_F (Kd.heap_int .u8) hc3) (fun k hk _ => hb.block k hk))
            replace t0 := (NB4.out.below.cell (World.block_lt_of_cell? w _ t0)).trans t0
            replace t1 := (NB4.out.below.cell (World.block_lt_of_cell? w _ t1)).trans t1
            replace t2 := (NB4.out.below.cell (World.block_lt_of_cell? w _ t2)).trans t2
            replace t3 := (NB4.out.below.cell (World.block_lt_of_cell? w _ t3)).trans t3
            have x0 := blk_cell NB4.out.box 0
            have x1 := blk_cell NB4.out.box 1
            have x2 := blk_cell NB4.out.box 2
            have HTL : Hid ((((l.take i).filter (fun t => decide (t.f1 = m.f1))).length + 1) * 48 ≤ 140737488355328) := Lib.hid (by
              have h1 := List.length_filter_le (fun t : S56 => decide (t.f1 = m.f1)) (l.take i)
              have := HL.out
              rw [List.length_take] at h1
              omega)
            have HNE : Hid (∀ k, k = wr.heap.size ∨ k < w.heap.size → some k ≠ u13.ownBlock) := Lib.hid (fun k hk e => by
              rcases hk with rfl | hk
              · exact absurd (Kd.N_lt hL.out.row _ e.symm) (Nat.lt_irrefl _)
              · have := Kd.N_base hL.out.row k e.symm
                have := NB3.out.below.size
                omega)
            replace p0 := eq_true p0
            replace p1 := eq_true p1
            clear hy hb3 hc3 ci
            by_cases cf : y.f1 = m.f1
            · have n1 : (y.f1 = m.f1) = True := eq_true cf
              have n2 : (y.f1 == m.f1) = true := beq_iff_eq.mpr cf
              have CF := Lib.hid cf
              clear cf
              go_wp2
              go_quiet (fail)
              go_wp2_with (((with_reducible refine gate_builtin (b := .append) (xs := #[.tmp 88, .tmp 93]) rfl ?_); at_builtin; refine Kd.N_append_rows k56 (w0 := wq) wq.heap.size rfl (.tmp 88) (.tmp 93) 53 56 _ 48 rfl Try.underlying53 info56 rfl (by decide) (by decide) u13 ((l.take i).filter (fun t => decide (t.f1 = m.f1))) [y] (some ⟨wr.heap.size, 0, none⟩) 1 1 (fun _ => True) (fun k => k = wr.heap.size ∨ k < w.heap.size) rfl rfl (Kd.N_alloc (Kd.N_drewN hL.out.row _) _) (box_F (m := y) (blk_new _ _) HB3.out (BF.out _ (below_alloc (pw_below_drewN NB4.out.below _) _))) (fun k hk => ⟨trivial, HNE.out k hk⟩) (fun _ _ => trivial) (below_alloc (pw_below_drewN hL.out.below _) _) (Below.size (B := wq.heap.size) (below_alloc (pw_below_drewN hL.out.below _) _)) HTL.out ?_; intro v9 w9 ho hb hg hat; have N9 : Hid (NetR w wq v9 _ w9) := Lib.hid ⟨ho, hb, NB3.out.below.size⟩; clear ho hb hg hat))
              obtain ⟨g1, rfl⟩ : ∃ g1, gk = g1 + 1 := ⟨gk - 1, by have := hi.out; have := CI.out; omega⟩
              go_roundg g1
              case measure => omega
              case rel => exact ⟨i + 1, congrArg (Value.int .i64) (by have := hi.out; have := HL.out; unfold wrap64; omega), Lib.hid ⟨CI.out, by have := hi.out; omega⟩, Lib.hid (by rw [List.take_succ_eq_append_getElem CI.out, List.filter_append, HY.out, List.filter_cons, if_pos (decide_eq_true CF.out), List.filter_nil]; exact N9.out)⟩
            · have n1 : (y.f1 = m.f1) = False := eq_false cf
              have n2 : (y.f1 == m.f1) = false := beq_eq_false_iff_ne.mpr cf
              have CF := Lib.hid cf
              clear cf
              go_wp2
              go_quiet (fail)
              go_wp2
              obtain ⟨g1, rfl⟩ : ∃ g1, gk = g1 + 1 := ⟨gk - 1, by have := hi.out; have := CI.out; omega⟩
              go_roundg g1
              case measure => omega
              case rel => exact ⟨i + 1, congrArg (Value.int .i64) (by have := hi.out; have := HL.out; unfold wrap64; omega), Lib.hid ⟨CI.out, by have := hi.out; omega⟩, Lib.hid (by rw [List.take_succ_eq_append_getElem CI.out, List.filter_append, HY.out, List.filter_cons, if_neg (by simpa using CF.out), List.filter_nil, List.append_nil]; exact ⟨Kd.N_drewN hL.out.row _, pw_below_drewN hL.out.below _, hL.out.old⟩)⟩
          · have d1 : decide ((i : Int) < (l.length : Int)) = false := decide_eq_false (by omega)
            have d2 : decide (i < l.length) = false := decide_eq_false ci
            have hiE : i = l.length := by have := hi.out; omega
            subst hiE
            rw [List.take_length] at hL
            clear ci
            obtain ⟨tl, htl⟩ : ∃ x, x = l.filter (fun t => decide (t.f1 = m.f1)) := ⟨_, rfl⟩
            have HTLF := Lib.hid htl
            rw [← htl] at hL
            obtain ⟨At, ct, rfl, hct, htC⟩ := Kd.N_reads hL.out.row
            have HCT := Lib.hid hct
            have TC := Lib.hid htC
            have SC := Lib.hid (Kd.C_below SC2.out hL.out.below)
            have AC3 := Lib.hid (Kd.C_below AC.out hL.out.below)
            have NB := Lib.hid (NB3.out.on hL.out.below)
            obtain ⟨wp, hwp⟩ : ∃ x, x = wr := ⟨_, rfl⟩
            subst hwp
            have LC := Lib.hid (Kd.C_below C0.out NB.out.below)
            have DC := Lib.hid (Kd.C_below C4.out NB.out.below)
            clear htl hct htC hL SC2 AC NB2 NB3 hi DF F0 F4 N1
            have HS1 : Hid (mootlaw24_same.f (sl.length + 1) sl sl = some true) := Lib.hid (same_f sl (by rw [HSL.out, List.length_append]; have := HL.out; simp; omega) _ (Nat.lt_succ_self _))
            have HS2 : Hid (mootlaw24_same.f (al.length + 1) al al = some true) := Lib.hid (same_f al (by rw [HAL.out, List.length_append]; have := allL_len m.f0 m.f2 T HT10.out data; have := HL.out; have := HD9.out; omega) _ (Nat.lt_succ_self _))
            have HS3 : Hid (mootlaw24_same.f (tl.length + 1) tl tl = some true) := Lib.hid (same_f tl (by rw [HTLF.out]; have := List.length_filter_le (fun t : S56 => decide (t.f1 = m.f1)) l; have := HL.out; omega) _ (Nat.lt_succ_self _))
            have HSEND : Hid (net_Send.f (l.length + 1) l m.f0 m.f1 m.f2 m.f3 = some sl) := Lib.hid (by rw [HSL.out]; exact send_f l m HF.out (by have := HL.out; omega) HM.out _ (Nat.lt_succ_self _))
            obtain ⟨kA, hkA⟩ := all_f l HF.out HL.out m.f0 a3 m.f2 T HT10.out HTG.out data HD9.out HD.out
            rw [← HAL.out] at hkA
            have HALL := Lib.hid hkA
            clear hkA
            by_cases hnil : l.length = 0
            · have BW : Hid (Below wp.heap.size wp wp) := Lib.hid (Below.refl _ _)
              have hT24 : ∀ W, Calls Try.prog 24 #[.slice A0 l.length c0, .int .i64 a2] W fun e w' => e = .returned (.tuple #[.agg #[.int .i64 0, .int .i64 0, .int .i64 0, .slice none 0 0], .slice none 0 0, .bool false]) ∧ Below W.heap.size W w' := fun W => by rw [hnil]; exact take_none A0 c0 a2 W
              have HT24 := Lib.hid hT24
              have HTW : Hid (net_Twin.f 0 l a2 = some []) := Lib.hid (by rw [List.eq_nil_of_length_eq_zero hnil]; exact twin_none 0 a2)
              have hone : ∀ W, Calls Try.prog 30 #[.agg #[.int .i64 0, .int .i64 0, .int .i64 0, .slice none 0 0], .agg #[.int .i64 0, .int .i64 0, .int .i64 0, .slice none 0 0]] W fun e w' => e = .returned (.bool true) ∧ Below W.heap.size W w' := fun W => mootlaw24_one.calls 0 0 0 none 0 [] 0 0 0 none 0 [] true W (Kd.C_nil _ _) (Nat.le_refl _) (Kd.C_nil _ _) (Nat.le_refl _) (one_same ⟨0, 0, 0, []⟩)
              have HONE := Lib.hid hone
              have g1 : decide ((l.length : Int) > 0) = false := decide_eq_false (by omega)
              have g2 : decide (0 < (l.length : Int)) = false := decide_eq_false (by omega)
              have g3 : decide (0 < l.length) = false := decide_eq_false (by omega)
              clear hnil hT24 hone
              go_upto_region 22 with ((go_at_call 24; go_must ((with_reducible refine (HT24.out _).mono ?_); rintro e w24 ⟨rfl, hb⟩; have B24 := BW; clear BW; have BW := Lib.hid (below_step B24.out hb); clear hb)))
              obtain ⟨wz, hwz⟩ : ∃ wz, w24.alloc (.cells #[.int .i64 0, .int .i64 0, .int .i64 0, .slice none 0 0] 56) = wz := ⟨_, rfl⟩
              rw [hwz]
              have bz := blk_new w24 (.cells #[.int .i64 0, .int .i64 0, .int .i64 0, .slice none 0 0] 56)
              have hbz := below_alloc (Below.refl w24.heap.size w24) (.cells #[.int .i64 0, .int .i64 0, .int .i64 0, .slice none 0 0] 56)
              rw [hwz] at bz hbz
              have BZ := Lib.hid bz
              have B24 := BW
              clear BW
              have BW := Lib.hid (below_step B24.out hbz)
              have HBZ := Lib.hid (Below.refl wz.heap.size wz)
              have x0 := blk_cell (NB.out.on BW.out).box 0
              have x1 := blk_cell (NB.out.on BW.out).box 1
              have x2 := blk_cell (NB.out.on BW.out).box 2
              have x3 := blk_cell (NB.out.on BW.out).box 3
              clear bz hbz hwz
              go_wp2_with (first | (go_at_call 26; go_must ((with_reducible refine (net_Send.calls (l.length + 1) A0 c0 l m.f0 m.f1 m.f2 A1 c1 m.f3 sl _ (Kd.C_below LC.out BW.out) HC0.out (Kd.F_now (MF.out _ (below_step NB.out.below BW.out))) HC1.out HSEND.out).mono ?_); rintro e w26 ⟨v26, rfl, hS, hb⟩; obtain ⟨A26, c26, rfl, hc26, hC26⟩ := Kd.S_reads hS; have C26 := Lib.hid hC26; have HC26 := Lib.hid hc26; clear hS hc26 hC26; have BQ := BW; clear BW; have BW := Lib.hid (below_step BQ.out hb); have HBQ := HBZ; clear HBZ; have HBZ := Lib.hid (below_step HBQ.out hb); clear x0 x1 x2 x3 BQ HBQ hb; have x0 := blk_cell (NB.out.on BW.out).box 0; have x1 := blk_cell (NB.out.on BW.out).box 1; have x2 := blk_cell (NB.out.on BW.out).box 2; have x3 := blk_cell (NB.out.on BW.out).box 3)) | (go_at_call 25; (with_reducible refine (mootlaw24_same.calls (sl.length + 1) A26 c26 sl As cs sl true _ C26.out HC26.out (Kd.C_below SC.out BW.out) HCS.out HS1.out).mono ?_); rintro e w25 ⟨rfl, hb⟩; have BQ := BW; clear BW; have BW := Lib.hid (below_step BQ.out hb); have HBQ := HBZ; clear HBZ; have HBZ := Lib.hid (below_step HBQ.out hb); clear x0 x1 x2 x3 BQ HBQ hb; have x0 := blk_cell (NB.out.on BW.out).box 0; have x1 := blk_cell (NB.out.on BW.out).box 1; have x2 := blk_cell (NB.out.on BW.out).box 2; have x3 := blk_cell (NB.out.on BW.out).box 3) | (go_at_call 27; go_must ((with_reducible refine (net_All.calls kA A0 c0 l m.f0 a3 m.f2 A4 c4 data al _ (Kd.C_below LC.out BW.out) HC0.out (Kd.C_below DC.out BW.out) HC4.out HALL.out).mono ?_); rintro e w27 ⟨v27, rfl, hS, hb⟩; obtain ⟨A27, c27, rfl, hc27, hC27⟩ := Kd.S_reads hS; have C27 := Lib.hid hC27; have HC27 := Lib.hid hc27; clear hS hc27 hC27; have BQ := BW; clear BW; have BW := Lib.hid (below_step BQ.out hb); have HBQ := HBZ; clear HBZ; have HBZ := Lib.hid (below_step HBQ.out hb); clear x0 x1 x2 x3 BQ HBQ hb; have x0 := blk_cell (NB.out.on BW.out).box 0; have x1 := blk_cell (NB.out.on BW.out).box 1; have x2 := blk_cell (NB.out.on BW.out).box 2; have x3 := blk_cell (NB.out.on BW.out).box 3)) | (go_at_call 25; (with_reducible refine (mootlaw24_same.calls (al.length + 1) A27 c27 al Aa ca al true _ C27.out HC27.out (Kd.C_below AC3.out BW.out) HCA.out HS2.out).mono ?_); rintro e w35 ⟨rfl, hb⟩; have BQ := BW; clear BW; have BW := Lib.hid (below_step BQ.out hb); have HBQ := HBZ; clear HBZ; have HBZ := Lib.hid (below_step HBQ.out hb); clear x0 x1 x2 x3 BQ HBQ hb; have x0 := blk_cell (NB.out.on BW.out).box 0; have x1 := blk_cell (NB.out.on BW.out).box 1; have x2 := blk_cell (NB.out.on BW.out).box 2; have x3 := blk_cell (NB.out.on BW.out).box 3) | (go_at_call 28; go_must ((with_reducible refine (to_calls A0 c0 l m.f1 _ (Kd.C_below LC.out BW.out) HC0.out HF.out (by have := HL.out; omega)).mono ?_); rintro e w28 ⟨v28, rfl, hS, hb⟩; rw [← HTLF.out] at hS; obtain ⟨A28, c28, rfl, hc28, hC28⟩ := Kd.R_reads hS; have C28 := Lib.hid hC28; have HC28 := Lib.hid hc28; clear hS hc28 hC28; have BQ := BW; clear BW; have BW := Lib.hid (below_step BQ.out hb); have HBQ := HBZ; clear HBZ; have HBZ := Lib.hid (below_step HBQ.out hb); clear x0 x1 x2 x3 BQ HBQ hb; have x0 := blk_cell (NB.out.on BW.out).box 0; have x1 := blk_cell (NB.out.on BW.out).box 1; have x2 := blk_cell (NB.out.on BW.out).box 2; have x3 := blk_cell (NB.out.on BW.out).box 3)) | (go_at_call 25; (with_reducible refine (mootlaw24_same.calls (tl.length + 1) A28 c28 tl At ct tl true _ C28.out HC28.out (Kd.C_below TC.out BW.out) HCT.out HS3.out).mono ?_); rintro e w45 ⟨rfl, hb⟩; have BQ := BW; clear BW; have BW := Lib.hid (below_step BQ.out hb); have HBQ := HBZ; clear HBZ; have HBZ := Lib.hid (below_step HBQ.out hb); clear x0 x1 x2 x3 BQ HBQ hb; have x0 := blk_cell (NB.out.on BW.out).box 0; have x1 := blk_cell (NB.out.on BW.out).box 1; have x2 := blk_cell (NB.out.on BW.out).box 2; have x3 := blk_cell (NB.out.on BW.out).box 3) | (go_at_call 29; go_must ((with_reducible refine (net_Twin.calls 0 A0 c0 l a2 [] _ (Kd.C_below LC.out BW.out) HC0.out HTW.out).mono ?_); rintro e w29 ⟨v29, rfl, hS, hb⟩; obtain ⟨A29, c29, rfl, hc29, hC29⟩ := Kd.S_reads hS; clear hS hc29 hC29; have BQ := BW; clear BW; have BW := Lib.hid (below_step BQ.out hb); have HBQ := HBZ; clear HBZ; have HBZ := Lib.hid (below_step HBQ.out hb); clear x0 x1 x2 x3 BQ HBQ hb; have x0 := blk_cell (NB.out.on BW.out).box 0; have x1 := blk_cell (NB.out.on BW.out).box 1; have x2 := blk_cell (NB.out.on BW.out).box 2; have x3 := blk_cell (NB.out.on BW.out).box 3; have y0 := blk_cell ((HBZ.out.block _ (blk_lt BZ.out)).trans BZ.out) 0; have y1 := blk_cell ((HBZ.out.block _ (blk_lt BZ.out)).trans BZ.out) 1; have y2 := blk_cell ((HBZ.out.block _ (blk_lt BZ.out)).trans BZ.out) 2; have y3 := blk_cell ((HBZ.out.block _ (blk_lt BZ.out)).trans BZ.out) 3)) | (go_at_call 30; go_must ((with_reducible refine (HONE.out _).mono ?_); rintro e w30 ⟨rfl, hb⟩; have BQ := BW; clear BW; have BW := Lib.hid (below_step BQ.out hb); have HBQ := HBZ; clear HBZ; have HBZ := Lib.hid (below_step HBQ.out hb); clear x0 x1 x2 x3 BQ HBQ hb; have x0 := blk_cell (NB.out.on BW.out).box 0; have x1 := blk_cell (NB.out.on BW.out).box 1; have x2 := blk_cell (NB.out.on BW.out).box 2; have x3 := blk_cell (NB.out.on BW.out).box 3)))
              go_ret
              exact ⟨rfl, below_step NB.out.below BW.out⟩
            · have hpos : 0 < l.length := Nat.pos_of_ne_zero hnil
              obtain ⟨n, hn, hnw, hpl⟩ := place_f a2 l.length hpos (by have := HL.out; omega)
              obtain ⟨t, ht⟩ : ∃ t, l[n] = t := ⟨_, rfl⟩
              obtain ⟨re, hre⟩ : ∃ x, l.take n ++ l.drop (n + 1) = x := ⟨_, rfl⟩
              obtain ⟨tw, htw⟩ : ∃ x, x = l ++ [t] := ⟨_, rfl⟩
              have htl : t.f3.length ≤ 140737488355328 := by rw [← ht]; exact HF.out _ (List.getElem_mem hn)
              have hrl : re.length ≤ l.length := by rw [← hre, List.length_append, List.length_take, List.length_drop]; omega
              have HN := Lib.hid hn
              have HPL := Lib.hid hpl
              have HT : Hid (∀ h : n < l.length, l[n]'h = t) := Lib.hid (fun _ => ht)
              have HRE := Lib.hid hre
              have HTWL := Lib.hid htw
              have HTWN : Hid (net_Twin.f (l.length + 1) l a2 = some tw) := Lib.hid (by rw [htw]; exact twin_f l HF.out (by have := HL.out; omega) n hn a2 hpl t ht _ (Nat.lt_succ_self _))
              have HS4 : Hid (mootlaw24_same.f (re.length + 1) re re = some true) := Lib.hid (same_f re (by have := HL.out; omega) _ (Nat.lt_succ_self _))
              have HS5 : Hid (mootlaw24_same.f (tw.length + 1) tw tw = some true) := Lib.hid (same_f tw (by rw [htw, List.length_append]; have := HL.out; simp; omega) _ (Nat.lt_succ_self _))
              have BW : Hid (Below wp.heap.size wp wp) := Lib.hid (Below.refl _ _)
              have g1 : decide ((l.length : Int) > 0) = true := decide_eq_true (by omega)
              have g2 : decide (0 < (l.length : Int)) = true := decide_eq_true (by omega)
              have g3 : decide (0 < l.length) = true := decide_eq_true (by omega)
              have g4 : ((l.length : Int) = 0) = False := eq_false (by omega)
              have g5 : ((l.length : Int) == 0) = false := beq_eq_false_iff_ne.mpr (by omega)
              have g6 : (l = []) = False := eq_false (fun e => by rw [e] at hpos; simp at hpos)
              have g7 : (l.length = 0) = False := eq_false (by omega)
              have hnw2 : (IntKind.i64.wrap (a2.tmod (l.length : Int) + (l.length : Int))).tmod (l.length : Int) = (n : Int) := by rw [show IntKind.i64.wrap (a2.tmod (l.length : Int) + (l.length : Int)) = wrap64 (a2.tmod (l.length : Int) + (l.length : Int)) by rw [IntKind.wrap_i64]; unfold wrap64; omega]; exact hnw
              have HPOS := Lib.hid hpos
              have hi56 : (Try.prog.info? 56).map (·.size) = some 4 := s56
              have f27 := cut_to (P := Try.prog) 53 56 .i64 Try.underlying53 (info_parts info56).choose_spec.1 A0 l.length c0 (n : Int) (by omega) (by omega) HC0.out
              rw [Int.toNat_natCast] at f27
              obtain ⟨J, hJ⟩ : ∃ J, wrap64 ((n : Int) + 1) = J := ⟨_, rfl⟩
              have hJ1 : J = (n : Int) + 1 := by rw [← hJ, wrap64_id _ (by omega) (by have := HL.out; omega)]
              have hJ2 : IntKind.i64.wrap ((n : Int) + 1) = J := by rw [IntKind.wrap_i64, ← hJ]; unfold wrap64; omega
              have f28 := cut_from (P := Try.prog) 53 56 .i64 Try.underlying53 (info_parts info56).choose_spec.1 4 (info_parts info56).choose_spec.2.2.1 A0 l.length c0 J (by omega) (by omega)
              rw [show J.toNat = n + 1 by omega] at f28
              obtain ⟨AD, hAD⟩ : ∃ x, (if c0 = n + 1 then A0 else A0.map (·.add ((n + 1) * 4))) = x := ⟨_, rfl⟩
              obtain ⟨mD, hmD⟩ : ∃ x, l.length - (n + 1) = x := ⟨_, rfl⟩
              obtain ⟨cD, hcD⟩ : ∃ x, c0 - (n + 1) = x := ⟨_, rfl⟩
              have LFT : Hid (∀ W, Below w.heap.size w W → Kd.F k56 W (fun k => k < w.heap.size) A0 n (l.take n)) := Lib.hid (fun W hb => by
                have h := Kd.F_take (m := n) (LF.out W hb) (by omega)
                rwa [List.length_take, Nat.min_eq_left (by omega)] at h)
              have LFD : Hid (∀ W, Below w.heap.size w W → Kd.F k56 W (fun k => k < w.heap.size) AD mD (l.drop (n + 1))) := Lib.hid (fun W hb => by
                have h := Kd.F_cut (m := n + 1) (c := c0) (LF.out W hb) (by omega) HC0.out
                rw [List.length_drop, hmD] at h
                rw [← hAD]
                exact h)
              rw [hAD, hmD, hcD] at f28
              have HBD1 : Hid ((([] : List S56).length + n) * 48 ≤ 140737488355328) := Lib.hid (by have := HL.out; simp only [List.length_nil]; omega)
              have HBD2 : Hid (((l.take n).length + mD) * 48 ≤ 140737488355328) := Lib.hid (by have := HL.out; rw [List.length_take]; omega)
              have HBD3 : Hid ((([] : List S56).length + l.length) * 48 ≤ 140737488355328) := Lib.hid (by have := HL.out; simp only [List.length_nil]; omega)
              have HBD4 : Hid ((l.length + 1) * 48 ≤ 140737488355328) := Lib.hid (by have := HL.out; omega)
              have HNL : Hid (n < l.length) := Lib.hid hn
              clear hAD hmD hcD hJ1
              obtain ⟨ad, A3, c3, e0, t0, t1, t2, t3, hb3, hc3⟩ := at_T56 C0.out (n : Int) (by omega) (by omega)
              rw [show rd_T56 l (n : Int) = t by rw [rd_T56_at hn, ht]] at t0 t1 t2 t3 hb3 hc3
              rw [Int.toNat_natCast] at t0 t1 t2 t3
              have T0 := Lib.hid t0
              have T1 := Lib.hid t1
              have T2 := Lib.hid t2
              have T3 := Lib.hid t3
              have HB3 := Lib.hid hb3
              have BF : Hid (∀ W, Below w.heap.size w W → Kd.F (Kd.int .u8) W (fun k => k < w.heap.size) A3 t.f3.length t.f3) := Lib.hid (fun W hb => Kd.F_step (Kd.C_F (Kd.heap_int .u8) hc3) (fun k hk _ => hb.block k hk))
              have EAD := Lib.hid e0
              clear e0 t0 t1 t2 t3 hb3 hc3
              clear hn hpl ht hre htw htl hrl hnil hpos
              go_upto_region 22 with ((go_at_call 24; go_must ((with_reducible refine (take_some A0 c0 l a2 n _ (Kd.C_below LC.out BW.out) HC0.out HF.out (by have := HL.out; omega) HN.out HPL.out t (HT.out HN.out) re HRE.out).mono ?_); rintro e w24 ⟨A3t, c3t, Are, cre, rfl, hb3, hc3, hcre, hCre, hb⟩; have HC3T := Lib.hid hb3; have TX0 := Lib.hid hc3; have HCRE := Lib.hid hcre; have RC0 := Lib.hid hCre; have B24 := BW; clear BW; have BW := Lib.hid (below_step B24.out hb); clear hb hb3 hc3 hcre hCre)))
              obtain ⟨wz, hwz⟩ : ∃ wz, w24.alloc (.cells #[.int .i64 t.f0, .int .i64 t.f1, .int .i64 t.f2, .slice A3t t.f3.length c3t] 56) = wz := ⟨_, rfl⟩
              rw [hwz]
              have bz := blk_new w24 (.cells #[.int .i64 t.f0, .int .i64 t.f1, .int .i64 t.f2, .slice A3t t.f3.length c3t] 56)
              have hbz := below_alloc (Below.refl w24.heap.size w24) (.cells #[.int .i64 t.f0, .int .i64 t.f1, .int .i64 t.f2, .slice A3t t.f3.length c3t] 56)
              rw [hwz] at bz hbz
              have RC := Lib.hid (Kd.C_below RC0.out hbz)
              have TXC := Lib.hid (Kd.C_below TX0.out hbz)
              clear RC0 TX0
              have BZ := Lib.hid bz
              have B24 := BW
              clear BW
              have BW := Lib.hid (below_step B24.out hbz)
              have HBZ := Lib.hid (Below.refl wz.heap.size wz)
              have x0 := blk_cell (NB.out.on BW.out).box 0
              have x1 := blk_cell (NB.out.on BW.out).box 1
              have x2 := blk_cell (NB.out.on BW.out).box 2
              have x3 := blk_cell (NB.out.on BW.out).box 3
              clear bz hbz hwz
              go_upto_region 27 with (first | (go_at_call 26; go_must ((with_reducible refine (net_Send.calls (l.length + 1) A0 c0 l m.f0 m.f1 m.f2 A1 c1 m.f3 sl _ (Kd.C_below LC.out BW.out) HC0.out (Kd.F_now (MF.out _ (below_step NB.out.below BW.out))) HC1.out HSEND.out).mono ?_); rintro e w26 ⟨v26, rfl, hS, hb⟩; obtain ⟨A26, c26, rfl, hc26, hC26⟩ := Kd.S_reads hS; have C26 := Lib.hid hC26; have HC26 := Lib.hid hc26; clear hS hc26 hC26; have BQ := BW; clear BW; have BW := Lib.hid (below_step BQ.out hb); have HBQ := HBZ; clear HBZ; have HBZ := Lib.hid (below_step HBQ.out hb); clear x0 x1 x2 x3 BQ HBQ hb; have x0 := blk_cell (NB.out.on BW.out).box 0; have x1 := blk_cell (NB.out.on BW.out).box 1; have x2 := blk_cell (NB.out.on BW.out).box 2; have x3 := blk_cell (NB.out.on BW.out).box 3)) | (go_at_call 25; (with_reducible refine (mootlaw24_same.calls (sl.length + 1) A26 c26 sl As cs sl true _ C26.out HC26.out (Kd.C_below SC.out BW.out) HCS.out HS1.out).mono ?_); rintro e w25 ⟨rfl, hb⟩; have BQ := BW; clear BW; have BW := Lib.hid (below_step BQ.out hb); have HBQ := HBZ; clear HBZ; have HBZ := Lib.hid (below_step HBQ.out hb); clear x0 x1 x2 x3 BQ HBQ hb; have x0 := blk_cell (NB.out.on BW.out).box 0; have x1 := blk_cell (NB.out.on BW.out).box 1; have x2 := blk_cell (NB.out.on BW.out).box 2; have x3 := blk_cell (NB.out.on BW.out).box 3) | (go_at_call 27; go_must ((with_reducible refine (net_All.calls kA A0 c0 l m.f0 a3 m.f2 A4 c4 data al _ (Kd.C_below LC.out BW.out) HC0.out (Kd.C_below DC.out BW.out) HC4.out HALL.out).mono ?_); rintro e w27 ⟨v27, rfl, hS, hb⟩; obtain ⟨A27, c27, rfl, hc27, hC27⟩ := Kd.S_reads hS; have C27 := Lib.hid hC27; have HC27 := Lib.hid hc27; clear hS hc27 hC27; have BQ := BW; clear BW; have BW := Lib.hid (below_step BQ.out hb); have HBQ := HBZ; clear HBZ; have HBZ := Lib.hid (below_step HBQ.out hb); clear x0 x1 x2 x3 BQ HBQ hb; have x0 := blk_cell (NB.out.on BW.out).box 0; have x1 := blk_cell (NB.out.on BW.out).box 1; have x2 := blk_cell (NB.out.on BW.out).box 2; have x3 := blk_cell (NB.out.on BW.out).box 3)) | (go_at_call 25; (with_reducible refine (mootlaw24_same.calls (al.length + 1) A27 c27 al Aa ca al true _ C27.out HC27.out (Kd.C_below AC3.out BW.out) HCA.out HS2.out).mono ?_); rintro e w35 ⟨rfl, hb⟩; have BQ := BW; clear BW; have BW := Lib.hid (below_step BQ.out hb); have HBQ := HBZ; clear HBZ; have HBZ := Lib.hid (below_step HBQ.out hb); clear x0 x1 x2 x3 BQ HBQ hb; have x0 := blk_cell (NB.out.on BW.out).box 0; have x1 := blk_cell (NB.out.on BW.out).box 1; have x2 := blk_cell (NB.out.on BW.out).box 2; have x3 := blk_cell (NB.out.on BW.out).box 3) | (go_at_call 28; go_must ((with_reducible refine (to_calls A0 c0 l m.f1 _ (Kd.C_below LC.out BW.out) HC0.out HF.out (by have := HL.out; omega)).mono ?_); rintro e w28 ⟨v28, rfl, hS, hb⟩; rw [← HTLF.out] at hS; obtain ⟨A28, c28, rfl, hc28, hC28⟩ := Kd.R_reads hS; have C28 := Lib.hid hC28; have HC28 := Lib.hid hc28; clear hS hc28 hC28; have BQ := BW; clear BW; have BW := Lib.hid (below_step BQ.out hb); have HBQ := HBZ; clear HBZ; have HBZ := Lib.hid (below_step HBQ.out hb); clear x0 x1 x2 x3 BQ HBQ hb; have x0 := blk_cell (NB.out.on BW.out).box 0; have x1 := blk_cell (NB.out.on BW.out).box 1; have x2 := blk_cell (NB.out.on BW.out).box 2; have x3 := blk_cell (NB.out.on BW.out).box 3)) | (go_at_call 25; (with_reducible refine (mootlaw24_same.calls (tl.length + 1) A28 c28 tl At ct tl true _ C28.out HC28.out (Kd.C_below TC.out BW.out) HCT.out HS3.out).mono ?_); rintro e w45 ⟨rfl, hb⟩; have BQ := BW; clear BW; have BW := Lib.hid (below_step BQ.out hb); have HBQ := HBZ; clear HBZ; have HBZ := Lib.hid (below_step HBQ.out hb); clear x0 x1 x2 x3 BQ HBQ hb; have x0 := blk_cell (NB.out.on BW.out).box 0; have x1 := blk_cell (NB.out.on BW.out).box 1; have x2 := blk_cell (NB.out.on BW.out).box 2; have x3 := blk_cell (NB.out.on BW.out).box 3))
              have hmix := HMIX.out
              clear x0 x1 x2 x3
              cases EAD.out
              refine wp_region_any hmix ?_
              (try (change wpAny _ _ _ _ _ _ _ (World.drew _)))
              have hbd : Below w45.heap.size w45 w45.drew := below_drew (Below.refl _ _)
              have hbw : Below w.heap.size w w45 := below_step NB.out.below BW.out
              clear hnw hnw2 g1 g2 g3 g4 g5 g6 g7
              refine wpAny_take (i := 0) (v := Value.slice none 0 0) rfl (by kernel_rfl) (by kernel_rfl) (by kernel_rfl) (fun _ _ _ h => h) (Or.inl ⟨by rfl, ?_⟩) ?_
              · intro w_; go_simp; (try with_reducible rfl)
              (try simp only [Act.put, List.getElem_toArray, List.getElem_cons_zero, List.getElem_cons_succ, List.setIfInBounds_toArray, List.set_cons_zero, List.set_cons_succ])
              refine wpAny_take (i := 1) (v := Value.slice (some ad) l.length c0) rfl (by kernel_rfl) (by kernel_rfl) (by kernel_rfl) (fun _ _ _ h => h) (Or.inl ⟨by rfl, ?_⟩) ?_
              · intro w_; go_simp; (try with_reducible rfl)
              (try simp only [Act.put, List.getElem_toArray, List.getElem_cons_zero, List.getElem_cons_succ, List.setIfInBounds_toArray, List.set_cons_zero, List.set_cons_succ])
              refine wpAny_take (i := 2) (v := Value.int .i64 (n : Int)) rfl (by kernel_rfl) (by kernel_rfl) (by kernel_rfl) (fun _ _ _ h => h) (Or.inl ⟨by rfl, ?_⟩) ?_
              · intro w_; go_simp; (try with_reducible rfl)
              (try simp only [Act.put, List.getElem_toArray, List.getElem_cons_zero, List.getElem_cons_succ, List.setIfInBounds_toArray, List.set_cons_zero, List.set_cons_succ])
              refine wpAny_take (i := 3) (v := Value.slice (some ad) n c0) rfl (by kernel_rfl) (by kernel_rfl) (by kernel_rfl) (fun _ _ _ h => h) (Or.inl ⟨by rfl, ?_⟩) ?_
              · intro w_; go_simp; (try with_reducible rfl)
              (try simp only [Act.put, List.getElem_toArray, List.getElem_cons_zero, List.getElem_cons_succ, List.setIfInBounds_toArray, List.set_cons_zero, List.set_cons_succ])
              refine wpAny_take (i := 5) (v := Value.slice (some ad) l.length c0) rfl (by kernel_rfl) (by kernel_rfl) (by kernel_rfl) (fun _ _ _ h => h) (Or.inl ⟨by rfl, ?_⟩) ?_
              · intro w_; go_simp; (try with_reducible rfl)
              (try simp only [Act.put, List.getElem_toArray, List.getElem_cons_zero, List.getElem_cons_succ, List.setIfInBounds_toArray, List.set_cons_zero, List.set_cons_succ])
              refine wpAny_take (i := 6) (v := Value.int .i64 (n : Int)) rfl (by kernel_rfl) (by kernel_rfl) (by kernel_rfl) (fun _ _ _ h => h) (Or.inl ⟨by rfl, ?_⟩) ?_
              · intro w_; go_simp; (try with_reducible rfl)
              (try simp only [Act.put, List.getElem_toArray, List.getElem_cons_zero, List.getElem_cons_succ, List.setIfInBounds_toArray, List.set_cons_zero, List.set_cons_succ])
              refine wpAny_take (i := 7) (v := Value.int .i64 J) rfl (by kernel_rfl) (by kernel_rfl) (by kernel_rfl) (fun _ _ _ h => h) (Or.inl ⟨by rfl, ?_⟩) ?_
              · intro w_; go_simp; (try with_reducible rfl)
              (try simp only [Act.put, List.getElem_toArray, List.getElem_cons_zero, List.getElem_cons_succ, List.setIfInBounds_toArray, List.set_cons_zero, List.set_cons_succ])
              refine wpAny_take (i := 8) (v := Value.slice AD mD cD) rfl (by kernel_rfl) (by kernel_rfl) (by kernel_rfl) (fun _ _ _ h => h) (Or.inl ⟨by rfl, ?_⟩) ?_
              · intro w_; go_simp; (try with_reducible rfl)
              (try simp only [Act.put, List.getElem_toArray, List.getElem_cons_zero, List.getElem_cons_succ, List.setIfInBounds_toArray, List.set_cons_zero, List.set_cons_succ])
              refine wpAny_ready (rs := [4]) (by kernel_rfl) (by simp) ?_
              refine AllReady.cons rfl (fun K hK => ?_) AllReady.nil
              refine Kd.N_append_rows_step k56 (w0 := w45) w45.heap.size (by kernel_rfl) (.tmp 164) (.tmp 167) 53 56 _ 48 rfl Try.underlying53 info56 rfl (by decide) (by decide) (Value.slice none 0 0) ([]) (l.take n) (some ad) n c0 (fun _ => True) (fun k => k < w.heap.size) rfl rfl (Kd.N_nil _ _ _ _ _) (LFT.out _ (below_step hbw hbd)) (fun k hk => ⟨trivial, by simp [Value.ownBlock]⟩) (fun _ _ => trivial) hbd (Below.size (B := w45.heap.size) hbd) HBD1.out ?_
              intro va wa hNa hba hga hata
              rw [List.nil_append] at hNa
              refine hK _ _ ?_
              clear hK K
              (try simp only [Act.put, List.getElem_toArray, List.getElem_cons_zero, List.getElem_cons_succ, List.setIfInBounds_toArray, List.set_cons_zero, List.set_cons_succ])
              refine wpAny_ready (rs := [9]) (by kernel_rfl) (by simp) ?_
              refine AllReady.cons rfl (fun K hK => ?_) AllReady.nil
              refine Kd.N_append_rows_step k56 (w0 := w45) w45.heap.size (by kernel_rfl) (.tmp 168) (.tmp 172) 53 56 _ 48 rfl Try.underlying53 info56 rfl (by decide) (by decide) (va) (l.take n) (l.drop (n + 1)) (AD) mD cD (fun _ => True) (fun k => k < w.heap.size) rfl rfl hNa (LFD.out _ (below_step hbw hba)) (fun k hk => ⟨trivial, fun e => absurd (Nat.lt_of_lt_of_le hk (Nat.le_trans hbw.size (Kd.N_base hNa k e.symm))) (Nat.lt_irrefl _)⟩) (fun _ _ => trivial) hba (Below.size (B := w45.heap.size) hba) HBD2.out ?_
              intro vb wb hNb hbb hgb hatb
              rw [HRE.out] at hNb
              refine hK _ _ ?_
              clear hK K
              (try simp only [Act.put, List.getElem_toArray, List.getElem_cons_zero, List.getElem_cons_succ, List.setIfInBounds_toArray, List.set_cons_zero, List.set_cons_succ])
              refine wpAny_ready (rs := [10]) (by kernel_rfl) (by simp) ?_
              refine AllReady.cons rfl (fun K hK => ?_) AllReady.nil
              go_simp
              refine hK _ _ ?_
              clear hK K
              (try simp only [Act.put, List.getElem_toArray, List.getElem_cons_zero, List.getElem_cons_succ, List.setIfInBounds_toArray, List.set_cons_zero, List.set_cons_succ])
              refine wpAny_done (by kernel_rfl) ?_ _
              have N14 : Hid (NetR w w45 vb re wb) := Lib.hid ⟨hNb, hbb, hbw.size⟩
              clear hNa hba hga hata hNb hbb hgb hatb hbd
              have BQ := BW; clear BW; have BW := Lib.hid (below_step BQ.out N14.out.below); have HBQ := HBZ; clear HBZ; have HBZ := Lib.hid (below_step HBQ.out N14.out.below); clear BQ HBQ; have x0 := blk_cell (NB.out.on BW.out).box 0; have x1 := blk_cell (NB.out.on BW.out).box 1; have x2 := blk_cell (NB.out.on BW.out).box 2; have x3 := blk_cell (NB.out.on BW.out).box 3
              clear x0 x1 x2 x3
              go_upto_region 28 with fail
              obtain ⟨A14, c14, rfl, hc14, hC14⟩ := Kd.N_reads N14.out.row
              have C14 := Lib.hid hC14
              have HC14 := Lib.hid hc14
              have HWB : Hid (Below w.heap.size w wb) := Lib.hid (below_step NB.out.below BW.out)
              clear hc14 hC14 N14
              go_cut [15] (fun v15 wx => Hid (NetR w wb v15 tw wx))
              case first =>
                refine wp_region_any hmix ?_
                (try (change wpAny _ _ _ _ _ _ _ (World.drew _)))
                have hbd : Below wb.heap.size wb wb.drew := below_drew (Below.refl _ _)
                refine wpAny_take (i := 0) (v := Value.slice none 0 0) rfl (by kernel_rfl) (by kernel_rfl) (by kernel_rfl) (fun _ _ _ h => h) (Or.inl ⟨by rfl, ?_⟩) ?_
                · intro w_; go_simp; (try with_reducible rfl)
                (try simp only [Act.put, List.getElem_toArray, List.getElem_cons_zero, List.getElem_cons_succ, List.setIfInBounds_toArray, List.set_cons_zero, List.set_cons_succ])
                refine wpAny_take (i := 1) (v := Value.slice (some ad) l.length c0) rfl (by kernel_rfl) (by kernel_rfl) (by kernel_rfl) (fun _ _ _ h => h) (Or.inl ⟨by rfl, ?_⟩) ?_
                · intro w_; go_simp; (try with_reducible rfl)
                (try simp only [Act.put, List.getElem_toArray, List.getElem_cons_zero, List.getElem_cons_succ, List.setIfInBounds_toArray, List.set_cons_zero, List.set_cons_succ])
                refine wpAny_take (i := 3) (v := Value.slice (some ad) l.length c0) rfl (by kernel_rfl) (by kernel_rfl) (by kernel_rfl) (fun _ _ _ h => h) (Or.inl ⟨by rfl, ?_⟩) ?_
                · intro w_; go_simp; (try with_reducible rfl)
                (try simp only [Act.put, List.getElem_toArray, List.getElem_cons_zero, List.getElem_cons_succ, List.setIfInBounds_toArray, List.set_cons_zero, List.set_cons_succ])
                refine wpAny_take (i := 4) (v := Value.int .i64 (n : Int)) rfl (by kernel_rfl) (by kernel_rfl) (by kernel_rfl) (fun _ _ _ h => h) (Or.inl ⟨by rfl, ?_⟩) ?_
                · intro w_; go_simp; (try with_reducible rfl)
                (try simp only [Act.put, List.getElem_toArray, List.getElem_cons_zero, List.getElem_cons_succ, List.setIfInBounds_toArray, List.set_cons_zero, List.set_cons_succ])
                have p0 : ((0 : Int) ≤ (n : Int)) = True := eq_true (by omega)
                have p1 : ((n : Int) < (l.length : Int)) = True := eq_true (by have := HNL.out; omega)
                refine wpAny_take (i := 5) (v := Value.pointer (some (ad.add (n * 4)))) rfl (by kernel_rfl) (by kernel_rfl) (by kernel_rfl) (fun _ _ _ h => h) (Or.inl ⟨by rfl, ?_⟩) ?_
                · intro w_; go_simp; (try with_reducible rfl)
                (try simp only [Act.put, List.getElem_toArray, List.getElem_cons_zero, List.getElem_cons_succ, List.setIfInBounds_toArray, List.set_cons_zero, List.set_cons_succ])
                refine wpAny_ready (rs := [2, 6]) (by kernel_rfl) (by simp) ?_
                refine AllReady.cons rfl (fun K hK => ?_) (AllReady.cons rfl (fun K hK => ?_) AllReady.nil)
                · refine Kd.N_append_rows_step k56 (w0 := wb) wb.heap.size (by kernel_rfl) (.tmp 174) (.tmp 175) 53 56 _ 48 rfl Try.underlying53 info56 rfl (by decide) (by decide) (Value.slice none 0 0) ([]) (l) (some ad) l.length c0 (fun _ => True) (fun k => k < w.heap.size) rfl rfl (Kd.N_nil _ _ _ _ _) (LF.out _ (below_step HWB.out hbd)) (fun k hk => ⟨trivial, by simp [Value.ownBlock]⟩) (fun _ _ => trivial) hbd (Below.size (B := wb.heap.size) hbd) HBD3.out ?_
                  intro v2 w2 hN2 hb2 hg2 hat2
                  rw [List.nil_append] at hN2
                  refine hK _ _ ?_
                  clear hK K
                  (try simp only [Act.put, List.getElem_toArray, List.getElem_cons_zero, List.getElem_cons_succ, List.setIfInBounds_toArray, List.set_cons_zero, List.set_cons_succ])
                  have hbq : Below w.heap.size w _ := below_step HWB.out hb2
                  have z0 := (hbq.cell (World.block_lt_of_cell? w _ T0.out)).trans T0.out
                  have z1 := (hbq.cell (World.block_lt_of_cell? w _ T1.out)).trans T1.out
                  have z2 := (hbq.cell (World.block_lt_of_cell? w _ T2.out)).trans T2.out
                  have z3 := (hbq.cell (World.block_lt_of_cell? w _ T3.out)).trans T3.out
                  refine wpAny_ready (rs := [6]) (by kernel_rfl) (by simp) ?_
                  refine AllReady.cons rfl (fun K hK => ?_) AllReady.nil
                  go_simp
                  refine hK _ _ ?_
                  clear hK K
                  (try simp only [Act.put, List.getElem_toArray, List.getElem_cons_zero, List.getElem_cons_succ, List.setIfInBounds_toArray, List.set_cons_zero, List.set_cons_succ])
                  refine wpAny_ready (rs := [7]) (by kernel_rfl) (by simp) ?_
                  refine AllReady.cons rfl (fun K hK => ?_) AllReady.nil
                  go_simp
                  refine hK _ _ ?_
                  clear hK K
                  (try simp only [Act.put, List.getElem_toArray, List.getElem_cons_zero, List.getElem_cons_succ, List.setIfInBounds_toArray, List.set_cons_zero, List.set_cons_succ])
                  have hba : Below wb.heap.size wb (w2.alloc (.cells #[.int .i64 t.f0, .int .i64 t.f1, .int .i64 t.f2, .slice A3 t.f3.length c3] 56)) := below_alloc hb2 _
                  refine wpAny_ready (rs := [8]) (by kernel_rfl) (by simp) ?_
                  refine AllReady.cons rfl (fun K hK => ?_) AllReady.nil
                  refine Kd.N_append_rows_step k56 (w0 := wb) wb.heap.size (by kernel_rfl) (.tmp 176) (.tmp 181) 53 56 _ 48 rfl Try.underlying53 info56 rfl (by decide) (by decide) (v2) (l) ([t]) (some ⟨w2.heap.size, 0, none⟩) 1 1 (fun _ => True) (fun k => k = w2.heap.size ∨ k < w.heap.size) rfl rfl (Kd.N_alloc hN2 _) (box_F (blk_new w2 (.cells #[.int .i64 t.f0, .int .i64 t.f1, .int .i64 t.f2, .slice A3 t.f3.length c3] 56)) HB3.out (BF.out _ (below_step HWB.out hba))) (fun k hk => ⟨trivial, fun e => hk.elim (fun hk => absurd (hk ▸ Kd.N_lt hN2 _ e.symm) (Nat.lt_irrefl _)) (fun hk => absurd (Nat.lt_of_lt_of_le hk (Nat.le_trans HWB.out.size (Kd.N_base hN2 k e.symm))) (Nat.lt_irrefl _))⟩) (fun _ _ => trivial) hba (Below.size (B := wb.heap.size) hba) HBD4.out ?_
                  intro v5 w5 hN5 hb5 hg5 hat5
                  rw [← HTWL.out] at hN5
                  refine hK _ _ ?_
                  clear hK K
                  (try simp only [Act.put, List.getElem_toArray, List.getElem_cons_zero, List.getElem_cons_succ, List.setIfInBounds_toArray, List.set_cons_zero, List.set_cons_succ])
                  refine wpAny_ready (rs := [9]) (by kernel_rfl) (by simp) ?_
                  refine AllReady.cons rfl (fun K hK => ?_) AllReady.nil
                  go_simp
                  refine hK _ _ ?_
                  clear hK K
                  (try simp only [Act.put, List.getElem_toArray, List.getElem_cons_zero, List.getElem_cons_succ, List.setIfInBounds_toArray, List.set_cons_zero, List.set_cons_succ])
                  refine wpAny_done (by kernel_rfl) ?_ _
                  go_step
                  go_step
                  go_meet
                  exact Lib.hid ⟨hN5, hb5, HWB.out.size⟩
                · have hbq : Below w.heap.size w _ := below_step HWB.out hbd
                  have z0 := (hbq.cell (World.block_lt_of_cell? w _ T0.out)).trans T0.out
                  have z1 := (hbq.cell (World.block_lt_of_cell? w _ T1.out)).trans T1.out
                  have z2 := (hbq.cell (World.block_lt_of_cell? w _ T2.out)).trans T2.out
                  have z3 := (hbq.cell (World.block_lt_of_cell? w _ T3.out)).trans T3.out
                  go_simp
                  refine hK _ _ ?_
                  clear hK K
                  (try simp only [Act.put, List.getElem_toArray, List.getElem_cons_zero, List.getElem_cons_succ, List.setIfInBounds_toArray, List.set_cons_zero, List.set_cons_succ])
                  refine wpAny_ready (rs := [2, 7]) (by kernel_rfl) (by simp) ?_
                  refine AllReady.cons rfl (fun K hK => ?_) (AllReady.cons rfl (fun K hK => ?_) AllReady.nil)
                  · refine Kd.N_append_rows_step k56 (w0 := wb) wb.heap.size (by kernel_rfl) (.tmp 174) (.tmp 175) 53 56 _ 48 rfl Try.underlying53 info56 rfl (by decide) (by decide) (Value.slice none 0 0) ([]) (l) (some ad) l.length c0 (fun _ => True) (fun k => k < w.heap.size) rfl rfl (Kd.N_nil _ _ _ _ _) (LF.out _ (below_step HWB.out hbd)) (fun k hk => ⟨trivial, by simp [Value.ownBlock]⟩) (fun _ _ => trivial) hbd (Below.size (B := wb.heap.size) hbd) HBD3.out ?_
                    intro v2 w2 hN2 hb2 hg2 hat2
                    rw [List.nil_append] at hN2
                    refine hK _ _ ?_
                    clear hK K
                    (try simp only [Act.put, List.getElem_toArray, List.getElem_cons_zero, List.getElem_cons_succ, List.setIfInBounds_toArray, List.set_cons_zero, List.set_cons_succ])
                    refine wpAny_ready (rs := [7]) (by kernel_rfl) (by simp) ?_
                    refine AllReady.cons rfl (fun K hK => ?_) AllReady.nil
                    go_simp
                    refine hK _ _ ?_
                    clear hK K
                    (try simp only [Act.put, List.getElem_toArray, List.getElem_cons_zero, List.getElem_cons_succ, List.setIfInBounds_toArray, List.set_cons_zero, List.set_cons_succ])
                    have hba : Below wb.heap.size wb (w2.alloc (.cells #[.int .i64 t.f0, .int .i64 t.f1, .int .i64 t.f2, .slice A3 t.f3.length c3] 56)) := below_alloc hb2 _
                    refine wpAny_ready (rs := [8]) (by kernel_rfl) (by simp) ?_
                    refine AllReady.cons rfl (fun K hK => ?_) AllReady.nil
                    refine Kd.N_append_rows_step k56 (w0 := wb) wb.heap.size (by kernel_rfl) (.tmp 176) (.tmp 181) 53 56 _ 48 rfl Try.underlying53 info56 rfl (by decide) (by decide) (v2) (l) ([t]) (some ⟨w2.heap.size, 0, none⟩) 1 1 (fun _ => True) (fun k => k = w2.heap.size ∨ k < w.heap.size) rfl rfl (Kd.N_alloc hN2 _) (box_F (blk_new w2 (.cells #[.int .i64 t.f0, .int .i64 t.f1, .int .i64 t.f2, .slice A3 t.f3.length c3] 56)) HB3.out (BF.out _ (below_step HWB.out hba))) (fun k hk => ⟨trivial, fun e => hk.elim (fun hk => absurd (hk ▸ Kd.N_lt hN2 _ e.symm) (Nat.lt_irrefl _)) (fun hk => absurd (Nat.lt_of_lt_of_le hk (Nat.le_trans HWB.out.size (Kd.N_base hN2 k e.symm))) (Nat.lt_irrefl _))⟩) (fun _ _ => trivial) hba (Below.size (B := wb.heap.size) hba) HBD4.out ?_
                    intro v5 w5 hN5 hb5 hg5 hat5
                    rw [← HTWL.out] at hN5
                    refine hK _ _ ?_
                    clear hK K
                    (try simp only [Act.put, List.getElem_toArray, List.getElem_cons_zero, List.getElem_cons_succ, List.setIfInBounds_toArray, List.set_cons_zero, List.set_cons_succ])
                    refine wpAny_ready (rs := [9]) (by kernel_rfl) (by simp) ?_
                    refine AllReady.cons rfl (fun K hK => ?_) AllReady.nil
                    go_simp
                    refine hK _ _ ?_
                    clear hK K
                    (try simp only [Act.put, List.getElem_toArray, List.getElem_cons_zero, List.getElem_cons_succ, List.setIfInBounds_toArray, List.set_cons_zero, List.set_cons_succ])
                    refine wpAny_done (by kernel_rfl) ?_ _
                    go_step
                    go_step
                    go_meet
                    exact Lib.hid ⟨hN5, hb5, HWB.out.size⟩
                  · go_simp
                    refine hK _ _ ?_
                    clear hK K
                    (try simp only [Act.put, List.getElem_toArray, List.getElem_cons_zero, List.getElem_cons_succ, List.setIfInBounds_toArray, List.set_cons_zero, List.set_cons_succ])
                    have hba : Below wb.heap.size wb (wb.drew.alloc (.cells #[.int .i64 t.f0, .int .i64 t.f1, .int .i64 t.f2, .slice A3 t.f3.length c3] 56)) := below_alloc hbd _
                    refine wpAny_ready (rs := [2]) (by kernel_rfl) (by simp) ?_
                    refine AllReady.cons rfl (fun K hK => ?_) AllReady.nil
                    refine Kd.N_append_rows_step k56 (w0 := wb) wb.heap.size (by kernel_rfl) (.tmp 174) (.tmp 175) 53 56 _ 48 rfl Try.underlying53 info56 rfl (by decide) (by decide) (Value.slice none 0 0) ([]) (l) (some ad) l.length c0 (fun _ => True) (fun k => k < w.heap.size) rfl rfl (Kd.N_nil _ _ _ _ _) (LF.out _ (below_step HWB.out hba)) (fun k hk => ⟨trivial, by simp [Value.ownBlock]⟩) (fun _ _ => trivial) hba (Below.size (B := wb.heap.size) hba) HBD3.out ?_
                    intro v2 w2 hN2 hb2 hg2 hat2
                    rw [List.nil_append] at hN2
                    refine hK _ _ ?_
                    clear hK K
                    (try simp only [Act.put, List.getElem_toArray, List.getElem_cons_zero, List.getElem_cons_succ, List.setIfInBounds_toArray, List.set_cons_zero, List.set_cons_succ])
                    have hbb : w2.heap[wb.drew.heap.size]? = some (.cells #[.int .i64 t.f0, .int .i64 t.f1, .int .i64 t.f2, .slice A3 t.f3.length c3] 56 (0, 0)) := (hg2.block _ (by show wb.drew.heap.size < (wb.alloc _).heap.size; rw [World.size_alloc]; exact Nat.lt_succ_self _) (by simp [Value.ownBlock])).trans (blk_new wb.drew (.cells #[.int .i64 t.f0, .int .i64 t.f1, .int .i64 t.f2, .slice A3 t.f3.length c3] 56))
                    refine wpAny_ready (rs := [8]) (by kernel_rfl) (by simp) ?_
                    refine AllReady.cons rfl (fun K hK => ?_) AllReady.nil
                    refine Kd.N_append_rows_step k56 (w0 := wb) wb.heap.size (by kernel_rfl) (.tmp 176) (.tmp 181) 53 56 _ 48 rfl Try.underlying53 info56 rfl (by decide) (by decide) (v2) (l) ([t]) (some ⟨wb.drew.heap.size, 0, none⟩) 1 1 (fun _ => True) (fun k => k = wb.drew.heap.size ∨ k < w.heap.size) rfl rfl hN2 (box_F hbb HB3.out (BF.out _ (below_step HWB.out hb2))) (fun k hk => ⟨trivial, fun e => by rcases hk with rfl | hk; (rcases hat2 with h | ⟨b, h, hle⟩; (rw [h] at e; simp [Value.ownBlock] at e); (rw [h] at e; have e2 := Option.some.inj e; have hs := World.size_alloc wb (.cells #[.int .i64 t.f0, .int .i64 t.f1, .int .i64 t.f2, .slice A3 t.f3.length c3] 56); change (wb.alloc (.cells #[.int .i64 t.f0, .int .i64 t.f1, .int .i64 t.f2, .slice A3 t.f3.length c3] 56)).heap.size ≤ b at hle; change wb.heap.size = b at e2; omega)); have := Kd.N_base hN2 k e.symm; have := HWB.out.size; omega⟩) (fun _ _ => trivial) hb2 (Below.size (B := wb.heap.size) hb2) HBD4.out ?_
                    intro v5 w5 hN5 hb5 hg5 hat5
                    rw [← HTWL.out] at hN5
                    refine hK _ _ ?_
                    clear hK K
                    (try simp only [Act.put, List.getElem_toArray, List.getElem_cons_zero, List.getElem_cons_succ, List.setIfInBounds_toArray, List.set_cons_zero, List.set_cons_succ])
                    refine wpAny_ready (rs := [9]) (by kernel_rfl) (by simp) ?_
                    refine AllReady.cons rfl (fun K hK => ?_) AllReady.nil
                    go_simp
                    refine hK _ _ ?_
                    clear hK K
                    (try simp only [Act.put, List.getElem_toArray, List.getElem_cons_zero, List.getElem_cons_succ, List.setIfInBounds_toArray, List.set_cons_zero, List.set_cons_succ])
                    refine wpAny_done (by kernel_rfl) ?_ _
                    go_step
                    go_step
                    go_meet
                    exact Lib.hid ⟨hN5, hb5, HWB.out.size⟩
              case rest =>
                obtain ⟨A15, c15, rfl, hc15, hC15⟩ := Kd.N_reads hcut.out.row
                have C15 := Lib.hid hC15
                have HC15 := Lib.hid hc15
                have HWC := Lib.hid (below_drew hcut.out.below)
                have HWX := Lib.hid (below_drew (Below.refl wc.heap.size wc))
                have Q_ := BW; clear BW; have BW := Lib.hid (below_step Q_.out HWC.out); clear Q_
                have Q_ := HBZ; clear HBZ; have HBZ := Lib.hid (below_step Q_.out HWC.out); clear Q_
                clear hc15 hC15 hcut
                go_upto_region 29 with fail
                have hbq : Below w.heap.size w wc.drew := below_step NB.out.below BW.out
                have z0 := (hbq.cell (World.block_lt_of_cell? w _ T0.out)).trans T0.out
                have z1 := (hbq.cell (World.block_lt_of_cell? w _ T1.out)).trans T1.out
                have z2 := (hbq.cell (World.block_lt_of_cell? w _ T2.out)).trans T2.out
                have z3 := (hbq.cell (World.block_lt_of_cell? w _ T3.out)).trans T3.out
                have y0 := blk_cell ((HBZ.out.block _ (blk_lt BZ.out)).trans BZ.out) 0
                have y1 := blk_cell ((HBZ.out.block _ (blk_lt BZ.out)).trans BZ.out) 1
                have y2 := blk_cell ((HBZ.out.block _ (blk_lt BZ.out)).trans BZ.out) 2
                have y3 := blk_cell ((HBZ.out.block _ (blk_lt BZ.out)).trans BZ.out) 3
                have p0 : ((0 : Int) ≤ (n : Int)) = True := eq_true (by omega)
                have p1 : ((n : Int) < (l.length : Int)) = True := eq_true (by have := HNL.out; omega)
                clear hbq
                go_region_with (first | (go_at_call 30; go_must ((with_reducible refine (mootlaw24_one.calls t.f0 t.f1 t.f2 A3t c3t t.f3 t.f0 t.f1 t.f2 A3 c3 t.f3 true _ (Kd.C_below TXC.out HBZ.out) HC3T.out (Kd.F_now (BF.out _ (below_step NB.out.below BW.out))) HB3.out (one_same t)).mono ?_); rintro e w50 ⟨rfl, hb⟩; have Q_ := BW; clear BW; have BW := Lib.hid (below_step Q_.out hb); clear Q_; have Q_ := HBZ; clear HBZ; have HBZ := Lib.hid (below_step Q_.out hb); clear Q_; have Q_ := HWC; clear HWC; have HWC := Lib.hid (below_step Q_.out hb); clear Q_; have Q_ := HWX; clear HWX; have HWX := Lib.hid (below_step Q_.out hb); clear Q_; clear hb)) | (go_at_call 25; (with_reducible refine (mootlaw24_same.calls (re.length + 1) Are cre re A14 c14 re true _ (Kd.C_below RC.out HBZ.out) HCRE.out (Kd.C_below C14.out HWC.out) HC14.out HS4.out).mono ?_); rintro e w51 ⟨rfl, hb⟩; have Q_ := BW; clear BW; have BW := Lib.hid (below_step Q_.out hb); clear Q_; have Q_ := HBZ; clear HBZ; have HBZ := Lib.hid (below_step Q_.out hb); clear Q_; have Q_ := HWC; clear HWC; have HWC := Lib.hid (below_step Q_.out hb); clear Q_; have Q_ := HWX; clear HWX; have HWX := Lib.hid (below_step Q_.out hb); clear Q_; clear hb) | (go_at_call 29; go_must ((with_reducible refine (net_Twin.calls (l.length + 1) (some ad) c0 l a2 tw _ (Kd.C_below LC.out BW.out) HC0.out HTWN.out).mono ?_); rintro e w52 ⟨v52, rfl, hS, hb⟩; obtain ⟨A52, c52, rfl, hc52, hC52⟩ := Kd.S_reads hS; have C52 := Lib.hid hC52; have HC52 := Lib.hid hc52; clear hS hc52 hC52; have Q_ := BW; clear BW; have BW := Lib.hid (below_step Q_.out hb); clear Q_; have Q_ := HBZ; clear HBZ; have HBZ := Lib.hid (below_step Q_.out hb); clear Q_; have Q_ := HWC; clear HWC; have HWC := Lib.hid (below_step Q_.out hb); clear Q_; have Q_ := HWX; clear HWX; have HWX := Lib.hid (below_step Q_.out hb); clear Q_; clear hb)) | (go_at_call 25; (with_reducible refine (mootlaw24_same.calls (tw.length + 1) A52 c52 tw A15 c15 tw true _ C52.out HC52.out (Kd.C_below C15.out HWX.out) HC15.out HS5.out).mono ?_); rintro e w53 ⟨rfl, hb⟩; have Q_ := BW; clear BW; have BW := Lib.hid (below_step Q_.out hb); clear Q_; have Q_ := HBZ; clear HBZ; have HBZ := Lib.hid (below_step Q_.out hb); clear Q_; have Q_ := HWC; clear HWC; have HWC := Lib.hid (below_step Q_.out hb); clear Q_; have Q_ := HWX; clear HWX; have HWX := Lib.hid (below_step Q_.out hb); clear Q_; clear hb))
                all_goals (try simp only [Act.put, List.getElem_toArray, List.getElem_cons_zero, List.getElem_cons_succ, List.setIfInBounds_toArray, List.set_cons_zero, List.set_cons_succ])
                all_goals go_wp2
                all_goals go_ret
                all_goals exact ⟨rfl, below_step NB.out.below BW.out⟩
set_option maxRecDepth 100000 in
set_option maxHeartbeats 4000000 in
theorem nettells_big (A0 : Option Addr) (c0 : Nat) (l : List S56) (m : S56) (A1 : Option Addr) (c1 : Nat) (a2 a3 : Int) (A4 : Option Addr) (c4 : Nat) (data : List (List Int)) (w : World) (h : 900 < l.length ∨ 9 < data.length) :
    Calls Try.prog 9 #[.slice A0 l.length c0, .agg (mailC m A1 c1), .int .i64 a2, .int .i64 a3, .slice A4 data.length c4] w fun e w' => e = .returned (.bool true) ∧ Below w.heap.size w w' := by
  have NB : Hid (Below w.heap.size w (w.alloc (.cells (mailC m A1 c1) 56))) := Lib.hid (below_alloc (Below.refl _ _) _)
  by_cases c : 900 < l.length
  · have q1 : decide ((l.length : Int) > 900) = true := decide_eq_true (by omega)
    have q2 : decide (900 < (l.length : Int)) = true := decide_eq_true (by omega)
    have q3 : decide (900 < l.length) = true := decide_eq_true c
    clear c h
    go_enter Try.func9, Try.ntmps9
    go_wp2_with (go_at_call 23; go_must ((with_reducible refine (alive24_calls _).mono ?_); rintro e w1 ⟨rfl, hb1⟩; have B1 := Lib.hid (below_step NB.out hb1); clear hb1))
    go_ret
    exact ⟨rfl, B1.out⟩
  · have c2 : 9 < data.length := h.resolve_left c
    have q1 : decide ((l.length : Int) > 900) = false := decide_eq_false (by omega)
    have q2 : decide (900 < (l.length : Int)) = false := decide_eq_false (by omega)
    have q3 : decide (900 < l.length) = false := decide_eq_false c
    have q4 : decide ((data.length : Int) > 9) = true := decide_eq_true (by omega)
    have q5 : decide (9 < (data.length : Int)) = true := decide_eq_true (by omega)
    have q6 : decide (9 < data.length) = true := decide_eq_true c2
    clear c c2 h
    go_enter Try.func9, Try.ntmps9
    go_wp2_with (go_at_call 23; go_must ((with_reducible refine (alive24_calls _).mono ?_); rintro e w1 ⟨rfl, hb1⟩; have B1 := Lib.hid (below_step NB.out hb1); clear hb1))
    go_ret
    exact ⟨rfl, B1.out⟩
def mootlaw24_NetTells.f (l0 : List S56) (m0 m1 m2 : Int) (m3 : List Int) (a2 a3 : Int) (l4 : List (List Int)) : Option Bool := if (∀ x ∈ l0, x.f3.length ≤ 140737488355328) ∧ m3.length ≤ 140737488355328 ∧ (∀ x ∈ l4, x.length ≤ 140737488355328) then some true else none
theorem mootlaw24_NetTells.calls (A0 : Option Addr) (c0 : Nat) (l : List S56) (m0 m1 m2 : Int) (A1 : Option Addr) (c1 : Nat) (m3 : List Int) (a2 a3 : Int) (A4 : Option Addr) (c4 : Nat) (data : List (List Int)) (r : Bool) (w : World) (hC0 : Kd.C k56 w A0 l.length l) (hc0 : l.length ≤ c0) (hC1 : Kd.C (Kd.int .u8) w A1 m3.length m3) (hc1 : m3.length ≤ c1) (hC4 : Kd.C (Kd.slice 5 (Kd.int .u8)) w A4 data.length data) (hc4 : data.length ≤ c4)
    (h : mootlaw24_NetTells.f l m0 m1 m2 m3 a2 a3 data = some r) :
    Calls Try.prog 9 #[.slice A0 l.length c0, .agg #[.int .i64 m0, .int .i64 m1, .int .i64 m2, .slice A1 m3.length c1], .int .i64 a2, .int .i64 a3, .slice A4 data.length c4] w fun e w' => e = .returned (.bool r) ∧ Below w.heap.size w w' := by
  unfold mootlaw24_NetTells.f at h
  split at h
  · rename_i hO
    obtain rfl := Option.some.inj h
    by_cases hb : 900 < l.length ∨ 9 < data.length
    · exact nettells_big A0 c0 l ⟨m0, m1, m2, m3⟩ A1 c1 a2 a3 A4 c4 data w hb
    · exact nettells_small A0 c0 l ⟨m0, m1, m2, m3⟩ A1 c1 a2 a3 A4 c4 data w hC0 hc0 hC1 hc1 hC4 hc4 hO.1 hO.2.1 hO.2.2 (by omega) (by omega)
  · cases h
end Go.Proofs.Ytccabdgfjcjpoaa.X
/- Arguments opened: what reads as data of a kind stands in memory as the print's words say it. -/
namespace Go.Proofs.Ytccabdgfjcjpoaa.X
open Go.ChangeShapes Go.WideShapes Go.Deep
open Go.RowKit Go.Proofs.YtccabdgfjcjpoaaW.PrintWords Go.Proofs.YtccabdgfjcjpoaaW.PrintLast Go.Proofs.YtccabdgfjcjpoaaW.PrintMore
set_option linter.unusedVariables false
set_option linter.unusedSimpArgs false

section
variable {H : Type} {enc : TypeId × Value → H} {P : Program} {w : World}

/-- What reads as data of type t is of kind d: some x, well formed, whose measure is at most the datum's bulk. -/
def Opens {α : Type} (enc : TypeId × Value → H) (P : Program) (w : World) (t : TypeId) (d : Kd α) (wf : α → Prop) (μ : α → Nat) : Prop :=
  ∀ (n : Nat) (cs : List Value) (y : DataW H × List MemPlace), DataW.trod enc P w 0 (fun _ => true) true n t cs = some y → ∃ x, d.K w x cs ∧ wf x ∧ μ x ≤ Rows.uptoBulk y.1

theorem Opens.int {t : TypeId} {k : IntKind} (hu : P.underlying t = some (.int k)) : Opens enc P w t (Kd.int k) (fun x => (Lit.int k x).wf = true) (fun _ => 1) := fun n cs y h => by
  obtain ⟨x, rfl, rfl, hw⟩ := DataW.trod_int hu h
  exact ⟨x, rfl, hw, by simp [Rows.uptoBulk]⟩
theorem Opens.bool {t : TypeId} (hu : P.underlying t = some .bool) : Opens enc P w t Kd.bool (fun _ => True) (fun _ => 1) := fun n cs y h => by
  obtain ⟨x, rfl, rfl⟩ := DataW.trod_bool hu h
  exact ⟨x, rfl, trivial, by simp [Rows.uptoBulk]⟩
theorem Opens.string {t : TypeId} (hu : P.underlying t = some .string) : Opens enc P w t Kd.string (fun _ => True) (fun s => s.size + 1) := fun n cs y h => by
  obtain ⟨x, rfl, rfl, hw⟩ := DataW.trod_string hu h
  exact ⟨x, rfl, trivial, by simp [Rows.uptoBulk]⟩

def sumM {α : Type} (μ : α → Nat) : List α → Nat
  | [] => 0
  | x :: l => μ x + sumM μ l
theorem sumM_append {α : Type} (μ : α → Nat) (l r : List α) : sumM μ (l ++ r) = sumM μ l + sumM μ r := by
  induction l with
  | nil => simp [sumM]
  | cons x l ih => simp only [List.cons_append, sumM, ih]; omega
theorem sumM_mem {α : Type} (μ : α → Nat) {l : List α} {x : α} (h : x ∈ l) : μ x ≤ sumM μ l := by
  induction l with
  | nil => cases h
  | cons y l ih =>
    simp only [sumM]
    rcases List.mem_cons.1 h with rfl | h
    · omega
    · have := ih h; omega
theorem sumM_len {α : Type} (μ : α → Nat) (hμ : ∀ x, 1 ≤ μ x) (l : List α) : l.length ≤ sumM μ l := by
  induction l with
  | nil => simp [sumM]
  | cons x l ih => have := hμ x; simp only [sumM, List.length_cons]; omega
theorem bulkAll_append (l r : List (DataW H)) : Rows.uptoBulkAll (l ++ r) = Rows.uptoBulkAll l + Rows.uptoBulkAll r := by
  induction l with
  | nil => simp [Rows.uptoBulkAll]
  | cons x l ih => simp only [List.cons_append, Rows.uptoBulkAll, ih]; omega
theorem sumM_range {α : Type} (μ : α → Nat) (X : Nat → α) (D : Nat → DataW H) : ∀ n, (∀ i, i < n → μ (X i) ≤ Rows.uptoBulk (D i)) → sumM μ ((List.range n).map X) ≤ Rows.uptoBulkAll ((List.range n).map D)
  | 0, _ => by simp [sumM]
  | n + 1, h => by
    have ih := sumM_range μ X D n (fun i hi => h i (by omega))
    have := h n (by omega)
    rw [List.range_succ, List.map_append, List.map_append, sumM_append, bulkAll_append]
    simp only [List.map_cons, List.map_nil, sumM, Rows.uptoBulkAll]
    omega

theorem Opens.slice {α : Type} [Inhabited α] {t e : TypeId} {d : Kd α} {wf : α → Prop} {μ : α → Nat} (ht : P.underlying t = some (.slice e)) (hsz : P.cellsOf e = d.sz) (h : Opens enc P w e d wf μ) :
    Opens enc P w t (Kd.slice e d) (fun xs => ∀ x ∈ xs, wf x) (fun xs => sumM μ xs + 1) := fun n cs y hy => by
  rcases open_slice ht hy with ⟨rfl, rfl⟩ | ⟨a, len, cap, m, n', D, Pl, rfl, _, hl, hm, hmm, rfl, hi⟩
  · exact ⟨[], ⟨none, 0, rfl, Nat.le_refl _, Kd.C_nil d w⟩, (fun x hx => by cases hx), by simp [Rows.uptoBulk, sumM]⟩
  · have hm' : m = cap := by simpa using hmm
    subst hm'
    obtain ⟨X, hX⟩ := choose_lt (α := α) (p := fun i x => ∃ cs', w.cells? 0 (a.add (i * P.cellsOf e)) (P.cellsOf e) = some cs' ∧ d.K w x cs' ∧ wf x ∧ μ x ≤ Rows.uptoBulk (D i)) (fun i hlt => by
      obtain ⟨cs', h1, h2⟩ := hi i hlt
      obtain ⟨x, k1, k2, k3⟩ := h n' cs' _ h2
      exact ⟨x, cs', h1, k1, k2, k3⟩)
    have hm63 : m ≤ 9223372036854775807 := by simpa [maxLen] using hm
    refine ⟨(List.range len).map X, ⟨some a, m, by simp, by simpa using hl, by simp, by simp; omega, fun _ => ⟨a, rfl, fun j p hj => ?_⟩⟩, ?_, ?_⟩
    · have hjl : j < len := by have := (List.getElem?_eq_some_iff.1 hj).1; simpa using this
      have hp : p = X j := by simpa [hjl] using hj.symm
      subst hp
      obtain ⟨cs', h1, k1, _, _⟩ := hX j (by omega)
      obtain ⟨_, hlen, hc⟩ := World.cells?_some h1
      rw [hsz] at hlen hc
      refine ⟨cs', hlen, k1, fun i u hu => ?_⟩
      have hil : i < d.sz := by have := (List.getElem?_eq_some_iff.1 hu).1; omega
      rw [← Go.Deep.add_add, hc i hil]
      exact hu
    · intro x hx
      obtain ⟨i, hi', rfl⟩ := List.mem_map.1 hx
      obtain ⟨_, _, _, k2, _⟩ := hX i (by have := List.mem_range.1 hi'; omega)
      exact k2
    · have := sumM_range μ X D len (fun i hi' => by obtain ⟨_, _, _, _, k3⟩ := hX i (by omega); exact k3)
      simp only [Rows.uptoBulk]
      omega

/-- A top argument that is a slice. -/
theorem Opens.arg_slice {α : Type} {t e : TypeId} {d : Kd α} {wf : List α → Prop} {μ : List α → Nat} {a : Option Addr} {len cap : Nat} {D : DataW H} {ps : List MemPlace}
    (h : Opens enc P w t (Kd.slice e d) wf μ) (ht : DataW.Trod enc P w 0 (fun _ => true) true t (.slice a len cap) D ps) : ∃ xs, len = xs.length ∧ len ≤ cap ∧ d.C w a xs.length xs ∧ wf xs ∧ μ xs ≤ Rows.uptoBulk D := by
  obtain ⟨fuel, hf⟩ := ht
  obtain ⟨xs, ⟨A, c, he, hc, hC⟩, h2, h3⟩ := h fuel _ _ hf
  simp [Value.cells] at he
  obtain ⟨rfl, rfl, rfl⟩ := he
  exact ⟨xs, rfl, hc, hC, h2, h3⟩
/-- .. and no longer than its weight allows. -/
theorem sized_any {t e : TypeId} {a : Option Addr} {len cap : Nat} {d : DataW H} {ps : List MemPlace} {ts : List TypeId} {ds : List (DataW H)} {j : Nat}
    (hsz : (DataW.weightsEach P ts ds).all (· ≤ reachBytes) = true) (ht : ts[j]? = some t) (hd : ds[j]? = some d) (hu : P.underlying t = some (.slice e)) {B : Nat} (hB : P.bytesOf e = B)
    (h : DataW.Trod enc P w 0 (fun _ => true) true t (.slice a len cap) d ps) : cap * B ≤ 140737488351232 := by
  obtain ⟨fuel, hf⟩ := h
  rcases open_slice hu hf with ⟨hcs, _⟩ | ⟨a', len', cap', m, n', D, Pl, hcs, _, hl, hm, hmm, hx, _⟩
  · simp [Value.cells] at hcs
    obtain ⟨rfl, rfl, rfl⟩ := hcs
    simp
  · simp [Value.cells] at hcs
    obtain ⟨rfl, rfl, rfl⟩ := hcs
    have hm' : m = cap := by simpa using hmm
    subst hm'
    simp only [Prod.mk.injEq] at hx
    obtain ⟨rfl, _⟩ := hx
    have z := sized_slice hsz ht hd hu
    rw [hB] at z
    have e1 : ((List.range len).map D).length + ((List.range (m - len)).map fun j => D (len + j)).length = m := by simp; omega
    rw [e1] at z
    exact z
end

/-! ### the struct of type 27 -/
def wfT27 (x : S27) : Prop := (Lit.int .i64 x.f0).wf = true ∧ (Lit.int .i64 x.f1).wf = true ∧ (Lit.int .i64 x.f2).wf = true ∧ (Lit.int .i64 x.f3).wf = true ∧ True
def muT27 (x : S27) : Nat := (fun _ => 1) x.f0 + (fun _ => 1) x.f1 + (fun _ => 1) x.f2 + (fun _ => 1) x.f3 + (fun s => s.size + 1) x.f4 + 1
instance : Inhabited S27 := ⟨z27⟩
theorem Opens.T27 {H : Type} {enc : TypeId × Value → H} {w : World} : Opens enc Try.prog w 27 k27 wfT27 muT27 := fun n cs y h => by
  obtain ⟨xs, m, _, hy, hlen, hxl, hg⟩ := DataW.trod_struct Try.underlying27 h
  have hcs : cs.length = 5 := hlen.trans (by kernel_rfl)
  match cs, hcs with
  | [c0, c1, c2, c3, c4], _ =>
  match xs, hxl with
  | [y0, y1, y2, y3, y4], _ =>
    have g0 : DataW.trod enc Try.prog w 0 (fun _ => true) true m 3 (([c0, c1, c2, c3, c4].drop 0).take (Try.prog.cellsOf 3)) = some y0 := hg 0 _ rfl
    rw [show Try.prog.cellsOf 3 = 1 from by kernel_rfl] at g0
    have g1 : DataW.trod enc Try.prog w 0 (fun _ => true) true m 3 (([c0, c1, c2, c3, c4].drop 1).take (Try.prog.cellsOf 3)) = some y1 := hg 1 _ rfl
    rw [show Try.prog.cellsOf 3 = 1 from by kernel_rfl] at g1
    have g2 : DataW.trod enc Try.prog w 0 (fun _ => true) true m 3 (([c0, c1, c2, c3, c4].drop 2).take (Try.prog.cellsOf 3)) = some y2 := hg 2 _ rfl
    rw [show Try.prog.cellsOf 3 = 1 from by kernel_rfl] at g2
    have g3 : DataW.trod enc Try.prog w 0 (fun _ => true) true m 3 (([c0, c1, c2, c3, c4].drop 3).take (Try.prog.cellsOf 3)) = some y3 := hg 3 _ rfl
    rw [show Try.prog.cellsOf 3 = 1 from by kernel_rfl] at g3
    have g4 : DataW.trod enc Try.prog w 0 (fun _ => true) true m 9 (([c0, c1, c2, c3, c4].drop 4).take (Try.prog.cellsOf 9)) = some y4 := hg 4 _ rfl
    rw [show Try.prog.cellsOf 9 = 1 from by kernel_rfl] at g4
    obtain ⟨x0, q0, w0, m0⟩ := (Opens.int Try.underlying3) _ [c0] _ g0
    obtain ⟨x1, q1, w1, m1⟩ := (Opens.int Try.underlying3) _ [c1] _ g1
    obtain ⟨x2, q2, w2, m2⟩ := (Opens.int Try.underlying3) _ [c2] _ g2
    obtain ⟨x3, q3, w3, m3⟩ := (Opens.int Try.underlying3) _ [c3] _ g3
    obtain ⟨x4, q4, w4, m4⟩ := (Opens.string Try.underlying9) _ [c4] _ g4
    have u0 : [c0] = [.int .i64 x0] := q0
    simp only [List.cons.injEq, and_true] at u0
    subst u0
    have u1 : [c1] = [.int .i64 x1] := q1
    simp only [List.cons.injEq, and_true] at u1
    subst u1
    have u2 : [c2] = [.int .i64 x2] := q2
    simp only [List.cons.injEq, and_true] at u2
    subst u2
    have u3 : [c3] = [.int .i64 x3] := q3
    simp only [List.cons.injEq, and_true] at u3
    subst u3
    have u4 : [c4] = [.string x4] := q4
    simp only [List.cons.injEq, and_true] at u4
    subst u4
    refine ⟨⟨x0, x1, x2, x3, x4⟩, k27_mk w ⟨x0, x1, x2, x3, x4⟩ , ⟨w0, w1, w2, w3, w4⟩, ?_⟩
    subst hy
    simp only [List.map_cons, List.map_nil, Rows.uptoBulk, Rows.uptoBulkAll, muT27]
    have z0 : 1 ≤ Rows.uptoBulk y0.1 := m0; have z1 : 1 ≤ Rows.uptoBulk y1.1 := m1; have z2 : 1 ≤ Rows.uptoBulk y2.1 := m2; have z3 : 1 ≤ Rows.uptoBulk y3.1 := m3; have z4 : x4.size + 1 ≤ Rows.uptoBulk y4.1 := m4
    omega

/-! ### the struct of type 30 -/
def wfT30 (x : S30) : Prop := (Lit.int .i64 x.f0).wf = true ∧ (Lit.int .i64 x.f1).wf = true ∧ True
def muT30 (x : S30) : Nat := (fun _ => 1) x.f0 + (fun _ => 1) x.f1 + (fun s => s.size + 1) x.f2 + 1
instance : Inhabited S30 := ⟨z30⟩
theorem Opens.T30 {H : Type} {enc : TypeId × Value → H} {w : World} : Opens enc Try.prog w 30 k30 wfT30 muT30 := fun n cs y h => by
  obtain ⟨xs, m, _, hy, hlen, hxl, hg⟩ := DataW.trod_struct Try.underlying30 h
  have hcs : cs.length = 3 := hlen.trans (by kernel_rfl)
  match cs, hcs with
  | [c0, c1, c2], _ =>
  match xs, hxl with
  | [y0, y1, y2], _ =>
    have g0 : DataW.trod enc Try.prog w 0 (fun _ => true) true m 3 (([c0, c1, c2].drop 0).take (Try.prog.cellsOf 3)) = some y0 := hg 0 _ rfl
    rw [show Try.prog.cellsOf 3 = 1 from by kernel_rfl] at g0
    have g1 : DataW.trod enc Try.prog w 0 (fun _ => true) true m 3 (([c0, c1, c2].drop 1).take (Try.prog.cellsOf 3)) = some y1 := hg 1 _ rfl
    rw [show Try.prog.cellsOf 3 = 1 from by kernel_rfl] at g1
    have g2 : DataW.trod enc Try.prog w 0 (fun _ => true) true m 9 (([c0, c1, c2].drop 2).take (Try.prog.cellsOf 9)) = some y2 := hg 2 _ rfl
    rw [show Try.prog.cellsOf 9 = 1 from by kernel_rfl] at g2
    obtain ⟨x0, q0, w0, m0⟩ := (Opens.int Try.underlying3) _ [c0] _ g0
    obtain ⟨x1, q1, w1, m1⟩ := (Opens.int Try.underlying3) _ [c1] _ g1
    obtain ⟨x2, q2, w2, m2⟩ := (Opens.string Try.underlying9) _ [c2] _ g2
    have u0 : [c0] = [.int .i64 x0] := q0
    simp only [List.cons.injEq, and_true] at u0
    subst u0
    have u1 : [c1] = [.int .i64 x1] := q1
    simp only [List.cons.injEq, and_true] at u1
    subst u1
    have u2 : [c2] = [.string x2] := q2
    simp only [List.cons.injEq, and_true] at u2
    subst u2
    refine ⟨⟨x0, x1, x2⟩, k30_mk w ⟨x0, x1, x2⟩ , ⟨w0, w1, w2⟩, ?_⟩
    subst hy
    simp only [List.map_cons, List.map_nil, Rows.uptoBulk, Rows.uptoBulkAll, muT30]
    have z0 : 1 ≤ Rows.uptoBulk y0.1 := m0; have z1 : 1 ≤ Rows.uptoBulk y1.1 := m1; have z2 : x2.size + 1 ≤ Rows.uptoBulk y2.1 := m2
    omega

/-! ### the struct of type 32 -/
def wfT32 (x : S32) : Prop := wfT30 x.f0 ∧ (Lit.int .i64 x.f1).wf = true ∧ (Lit.int .i64 x.f2).wf = true
def muT32 (x : S32) : Nat := muT30 x.f0 + (fun _ => 1) x.f1 + (fun _ => 1) x.f2 + 1
instance : Inhabited S32 := ⟨z32⟩
theorem Opens.T32 {H : Type} {enc : TypeId × Value → H} {w : World} : Opens enc Try.prog w 32 k32 wfT32 muT32 := fun n cs y h => by
  obtain ⟨xs, m, _, hy, hlen, hxl, hg⟩ := DataW.trod_struct Try.underlying32 h
  have hcs : cs.length = 5 := hlen.trans (by kernel_rfl)
  match cs, hcs with
  | [c0, c1, c2, c3, c4], _ =>
  match xs, hxl with
  | [y0, y1, y2], _ =>
    have g0 : DataW.trod enc Try.prog w 0 (fun _ => true) true m 30 (([c0, c1, c2, c3, c4].drop 0).take (Try.prog.cellsOf 30)) = some y0 := hg 0 _ rfl
    rw [show Try.prog.cellsOf 30 = 3 from by kernel_rfl] at g0
    have g1 : DataW.trod enc Try.prog w 0 (fun _ => true) true m 3 (([c0, c1, c2, c3, c4].drop 3).take (Try.prog.cellsOf 3)) = some y1 := hg 1 _ rfl
    rw [show Try.prog.cellsOf 3 = 1 from by kernel_rfl] at g1
    have g2 : DataW.trod enc Try.prog w 0 (fun _ => true) true m 3 (([c0, c1, c2, c3, c4].drop 4).take (Try.prog.cellsOf 3)) = some y2 := hg 2 _ rfl
    rw [show Try.prog.cellsOf 3 = 1 from by kernel_rfl] at g2
    obtain ⟨x0, q0, w0, m0⟩ := Opens.T30 _ [c0, c1, c2] _ g0
    obtain ⟨x1, q1, w1, m1⟩ := (Opens.int Try.underlying3) _ [c3] _ g1
    obtain ⟨x2, q2, w2, m2⟩ := (Opens.int Try.underlying3) _ [c4] _ g2
    have u0 := k30_open q0
    simp only [List.cons.injEq, and_true] at u0
    obtain ⟨rfl, rfl, rfl⟩ := u0
    have u1 : [c3] = [.int .i64 x1] := q1
    simp only [List.cons.injEq, and_true] at u1
    subst u1
    have u2 : [c4] = [.int .i64 x2] := q2
    simp only [List.cons.injEq, and_true] at u2
    subst u2
    refine ⟨⟨x0, x1, x2⟩, k32_mk w ⟨x0, x1, x2⟩ , ⟨w0, w1, w2⟩, ?_⟩
    subst hy
    simp only [List.map_cons, List.map_nil, Rows.uptoBulk, Rows.uptoBulkAll, muT32]
    have z0 : muT30 x0 ≤ Rows.uptoBulk y0.1 := m0; have z1 : 1 ≤ Rows.uptoBulk y1.1 := m1; have z2 : 1 ≤ Rows.uptoBulk y2.1 := m2
    omega

/-! ### the struct of type 56 -/
def wfT56 (x : S56) : Prop := (Lit.int .i64 x.f0).wf = true ∧ (Lit.int .i64 x.f1).wf = true ∧ (Lit.int .i64 x.f2).wf = true ∧ (∀ z ∈ x.f3, (Lit.int .u8 z).wf = true)
def muT56 (x : S56) : Nat := (fun _ => 1) x.f0 + (fun _ => 1) x.f1 + (fun _ => 1) x.f2 + (fun xs => sumM (fun _ => 1) xs + 1) x.f3 + 1
instance : Inhabited S56 := ⟨z56⟩
theorem Opens.T56 {H : Type} {enc : TypeId × Value → H} {w : World} : Opens enc Try.prog w 56 k56 wfT56 muT56 := fun n cs y h => by
  obtain ⟨xs, m, _, hy, hlen, hxl, hg⟩ := DataW.trod_struct Try.underlying56 h
  have hcs : cs.length = 4 := hlen.trans (by kernel_rfl)
  match cs, hcs with
  | [c0, c1, c2, c3], _ =>
  match xs, hxl with
  | [y0, y1, y2, y3], _ =>
    have g0 : DataW.trod enc Try.prog w 0 (fun _ => true) true m 3 (([c0, c1, c2, c3].drop 0).take (Try.prog.cellsOf 3)) = some y0 := hg 0 _ rfl
    rw [show Try.prog.cellsOf 3 = 1 from by kernel_rfl] at g0
    have g1 : DataW.trod enc Try.prog w 0 (fun _ => true) true m 3 (([c0, c1, c2, c3].drop 1).take (Try.prog.cellsOf 3)) = some y1 := hg 1 _ rfl
    rw [show Try.prog.cellsOf 3 = 1 from by kernel_rfl] at g1
    have g2 : DataW.trod enc Try.prog w 0 (fun _ => true) true m 3 (([c0, c1, c2, c3].drop 2).take (Try.prog.cellsOf 3)) = some y2 := hg 2 _ rfl
    rw [show Try.prog.cellsOf 3 = 1 from by kernel_rfl] at g2
    have g3 : DataW.trod enc Try.prog w 0 (fun _ => true) true m 54 (([c0, c1, c2, c3].drop 3).take (Try.prog.cellsOf 54)) = some y3 := hg 3 _ rfl
    rw [show Try.prog.cellsOf 54 = 1 from by kernel_rfl] at g3
    obtain ⟨x0, q0, w0, m0⟩ := (Opens.int Try.underlying3) _ [c0] _ g0
    obtain ⟨x1, q1, w1, m1⟩ := (Opens.int Try.underlying3) _ [c1] _ g1
    obtain ⟨x2, q2, w2, m2⟩ := (Opens.int Try.underlying3) _ [c2] _ g2
    obtain ⟨x3, q3, w3, m3⟩ := (Opens.slice Try.underlying54 (by kernel_rfl) (Opens.int Try.underlying5)) _ [c3] _ g3
    have u0 : [c0] = [.int .i64 x0] := q0
    simp only [List.cons.injEq, and_true] at u0
    subst u0
    have u1 : [c1] = [.int .i64 x1] := q1
    simp only [List.cons.injEq, and_true] at u1
    subst u1
    have u2 : [c2] = [.int .i64 x2] := q2
    simp only [List.cons.injEq, and_true] at u2
    subst u2
    obtain ⟨A3, p3, u3, lq3, gq3⟩ := q3
    simp only [List.cons.injEq, and_true] at u3
    subst u3
    refine ⟨⟨x0, x1, x2, x3⟩, k56_mk w ⟨x0, x1, x2, x3⟩ lq3 gq3, ⟨w0, w1, w2, w3⟩, ?_⟩
    subst hy
    simp only [List.map_cons, List.map_nil, Rows.uptoBulk, Rows.uptoBulkAll, muT56]
    have z0 : 1 ≤ Rows.uptoBulk y0.1 := m0; have z1 : 1 ≤ Rows.uptoBulk y1.1 := m1; have z2 : 1 ≤ Rows.uptoBulk y2.1 := m2; have z3 : sumM (fun _ => 1) x3 + 1 ≤ Rows.uptoBulk y3.1 := m3
    omega
end Go.Proofs.Ytccabdgfjcjpoaa.X
/- Mails and rows opened, with the bound that their weights give to each text in them. -/
namespace Go.Proofs.Ytccabdgfjcjpoaa.X
open Go.ChangeShapes Go.WideShapes Go.Deep
open Go.RowKit Go.Proofs.YtccabdgfjcjpoaaW.PrintWords Go.Proofs.YtccabdgfjcjpoaaW.PrintLast Go.Proofs.YtccabdgfjcjpoaaW.PrintMore
set_option linter.unusedVariables false
set_option linter.unusedSimpArgs false
section
variable {H : Type} {enc : TypeId × Value → H} {P : Program} {w : World}
/-- What reads as data of type t, no part of which weighs more than an address reaches, is of kind d. -/
def OpensW {α : Type} (enc : TypeId × Value → H) (P : Program) (w : World) (t : TypeId) (d : Kd α) (wf : α → Prop) : Prop :=
  ∀ (n : Nat) (cs : List Value) (y : DataW H × List MemPlace), DataW.trod enc P w 0 (fun _ => true) true n t cs = some y → (∀ m ∈ y.1.weights P t, m ≤ reachBytes) → ∃ x, d.K w x cs ∧ wf x
theorem weightsAll_mem {e : TypeId} {d : DataW H} {m : Nat} : ∀ {l : List (DataW H)}, d ∈ l → m ∈ d.weights P e → m ∈ DataW.weightsAll P e l
  | x :: l, hd, hm => by
    simp only [DataW.weightsAll, List.mem_append]
    rcases List.mem_cons.1 hd with rfl | h
    · exact Or.inl hm
    · exact Or.inr (weightsAll_mem h hm)
theorem OpensW.slice {α : Type} [Inhabited α] {t e : TypeId} {d : Kd α} {wf : α → Prop} (ht : P.underlying t = some (.slice e)) (hsz : P.cellsOf e = d.sz) (h : OpensW enc P w e d wf) :
    OpensW enc P w t (Kd.slice e d) (fun xs => ∀ x ∈ xs, wf x) := fun n cs y hy hw => by
  rcases open_slice ht hy with ⟨rfl, rfl⟩ | ⟨a, len, cap, m, n', D, Pl, rfl, _, hl, hm, hmm, rfl, hi⟩
  · exact ⟨[], ⟨none, 0, rfl, Nat.le_refl _, Kd.C_nil d w⟩, (fun x hx => by cases hx)⟩
  · have hm' : m = cap := by simpa using hmm
    subst hm'
    obtain ⟨X, hX⟩ := choose_lt (α := α) (n := len) (p := fun i x => ∃ cs', w.cells? 0 (a.add (i * P.cellsOf e)) (P.cellsOf e) = some cs' ∧ d.K w x cs' ∧ wf x) (fun i hlt => by
      obtain ⟨cs', h1, h2⟩ := hi i (by omega)
      obtain ⟨x, k1, k2⟩ := h n' cs' _ h2 (fun q hq => hw q (by
        simp only [DataW.weights, ht, List.mem_cons, List.mem_append]
        exact Or.inr (Or.inl (weightsAll_mem (List.mem_map.2 ⟨i, List.mem_range.2 hlt, rfl⟩) hq))))
      exact ⟨x, cs', h1, k1, k2⟩)
    have hm63 : m ≤ 9223372036854775807 := by simpa [maxLen] using hm
    refine ⟨(List.range len).map X, ⟨some a, m, by simp, by simpa using hl, by simp, by simp; omega, fun _ => ⟨a, rfl, fun j p hj => ?_⟩⟩, ?_⟩
    · have hjl : j < len := by have := (List.getElem?_eq_some_iff.1 hj).1; simpa using this
      have hp : p = X j := by simpa [hjl] using hj.symm
      subst hp
      obtain ⟨cs', h1, k1, _⟩ := hX j hjl
      obtain ⟨_, hlen, hc⟩ := World.cells?_some h1
      rw [hsz] at hlen hc
      refine ⟨cs', hlen, k1, fun i u hu => ?_⟩
      have hil : i < d.sz := by have := (List.getElem?_eq_some_iff.1 hu).1; omega
      rw [← Go.Deep.add_add, hc i hil]
      exact hu
    · intro x hx
      obtain ⟨i, hi', rfl⟩ := List.mem_map.1 hx
      obtain ⟨_, _, _, k2⟩ := hX i (List.mem_range.1 hi')
      exact k2
theorem OpensW.arg_slice {α : Type} {t e : TypeId} {d : Kd α} {wf : List α → Prop} {a : Option Addr} {len cap : Nat} {D : DataW H} {ps : List MemPlace} {ts : List TypeId} {ds : List (DataW H)} {j : Nat}
    (h : OpensW enc P w t (Kd.slice e d) wf) (hsz : (DataW.weightsEach P ts ds).all (· ≤ reachBytes) = true) (hj : ts[j]? = some t) (hd : ds[j]? = some D) (ht : DataW.Trod enc P w 0 (fun _ => true) true t (.slice a len cap) D ps) : ∃ xs, len = xs.length ∧ len ≤ cap ∧ d.C w a xs.length xs ∧ wf xs ∧ True := by
  obtain ⟨fuel, hf⟩ := ht
  obtain ⟨xs, ⟨A, c, he, hc, hC⟩, h2⟩ := h fuel _ _ hf (fun m hm => by
    have := List.all_eq_true.1 hsz _ (DataW.weights_mem_each hj hd m hm)
    simpa using this)
  simp [Value.cells] at he
  obtain ⟨rfl, rfl, rfl⟩ := he
  exact ⟨xs, rfl, hc, hC, h2, trivial⟩
end
theorem OpensW.T56 {H : Type} {enc : TypeId × Value → H} {w : World} : OpensW enc Try.prog w 56 k56 (fun x => x.f3.length ≤ 140737488351232) := fun n cs y h hwt => by
  obtain ⟨xs, m, _, hy, hlen, hxl, hg⟩ := DataW.trod_struct Try.underlying56 h
  have hcs : cs.length = 4 := hlen.trans (by kernel_rfl)
  match cs, hcs with
  | [c0, c1, c2, c3], _ =>
  match xs, hxl with
  | [y0, y1, y2, y3], _ =>
    have g0 : DataW.trod enc Try.prog w 0 (fun _ => true) true m 3 (([c0, c1, c2, c3].drop 0).take (Try.prog.cellsOf 3)) = some y0 := hg 0 _ rfl
    rw [show Try.prog.cellsOf 3 = 1 from by kernel_rfl] at g0
    have g1 : DataW.trod enc Try.prog w 0 (fun _ => true) true m 3 (([c0, c1, c2, c3].drop 1).take (Try.prog.cellsOf 3)) = some y1 := hg 1 _ rfl
    rw [show Try.prog.cellsOf 3 = 1 from by kernel_rfl] at g1
    have g2 : DataW.trod enc Try.prog w 0 (fun _ => true) true m 3 (([c0, c1, c2, c3].drop 2).take (Try.prog.cellsOf 3)) = some y2 := hg 2 _ rfl
    rw [show Try.prog.cellsOf 3 = 1 from by kernel_rfl] at g2
    have g3 : DataW.trod enc Try.prog w 0 (fun _ => true) true m 54 (([c0, c1, c2, c3].drop 3).take (Try.prog.cellsOf 54)) = some y3 := hg 3 _ rfl
    rw [show Try.prog.cellsOf 54 = 1 from by kernel_rfl] at g3
    obtain ⟨x0, q0, w0, m0⟩ := (Opens.int Try.underlying3) _ [c0] _ g0
    obtain ⟨x1, q1, w1, m1⟩ := (Opens.int Try.underlying3) _ [c1] _ g1
    obtain ⟨x2, q2, w2, m2⟩ := (Opens.int Try.underlying3) _ [c2] _ g2
    obtain ⟨x3, q3, w3, m3⟩ := (Opens.slice Try.underlying54 (by kernel_rfl) (Opens.int Try.underlying5)) _ [c3] _ g3
    have u0 : [c0] = [.int .i64 x0] := q0
    simp only [List.cons.injEq, and_true] at u0
    subst u0
    have u1 : [c1] = [.int .i64 x1] := q1
    simp only [List.cons.injEq, and_true] at u1
    subst u1
    have u2 : [c2] = [.int .i64 x2] := q2
    simp only [List.cons.injEq, and_true] at u2
    subst u2
    obtain ⟨A3, p3, u3, lq3, gq3⟩ := q3
    simp only [List.cons.injEq, and_true] at u3
    subst u3
    refine ⟨⟨x0, x1, x2, x3⟩, k56_mk w ⟨x0, x1, x2, x3⟩ lq3 gq3, ?_⟩
    subst hy
    have hall : (DataW.weightsEach Try.prog [3, 3, 3, 54] [y0.1, y1.1, y2.1, y3.1]).all (· ≤ reachBytes) = true := by
      refine List.all_eq_true.2 fun q hq => ?_
      have := hwt q (by simpa [DataW.weights, Try.underlying56] using hq)
      simpa using this
    have := sized_any (enc := enc) (w := w) (P := Try.prog) (a := A3) (len := x3.length) (cap := p3) (d := y3.1) (ps := y3.2) hall (j := 3) (t := 54) rfl rfl Try.underlying54 (B := 1) (by kernel_rfl) ⟨m, g3⟩
    show x3.length ≤ 140737488351232
    have lq : x3.length ≤ p3 := lq3
    omega
theorem OpensW.T54 {H : Type} {enc : TypeId × Value → H} {w : World} : OpensW enc Try.prog w 54 (Kd.slice 5 (Kd.int .u8)) (fun x => (∀ z ∈ x, (Lit.int .u8 z).wf = true) ∧ x.length ≤ 140737488351232) := fun n cs y h hwt => by
  obtain ⟨x2, q2, w2, m2⟩ := (Opens.slice Try.underlying54 (by kernel_rfl) (Opens.int Try.underlying5)) _ cs _ h
  obtain ⟨A2, p2, u2, lq2, gq2⟩ := q2
  subst u2
  refine ⟨x2, ⟨A2, p2, rfl, lq2, gq2⟩, w2, ?_⟩
  have hall : (DataW.weightsEach Try.prog [54] [y.1]).all (· ≤ reachBytes) = true := by
    refine List.all_eq_true.2 fun q hq => ?_
    have := hwt q (by simpa [DataW.weightsEach] using hq)
    simpa using this
  have := sized_any (enc := enc) (w := w) (P := Try.prog) (a := A2) (len := x2.length) (cap := p2) (d := y.1) (ps := y.2) hall (j := 0) (t := 54) rfl rfl Try.underlying54 (B := 1) (by kernel_rfl) ⟨n, h⟩
  omega
/-- A struct that comes in as an argument: opened, with its bound. -/
theorem OpensW.arg {α : Type} {H : Type} {enc : TypeId × Value → H} {P : Program} {w : World} {t : TypeId} {d : Kd α} {wf : α → Prop} {cs : List Value} {n : Nat} {D : DataW H} {ps : List MemPlace} {ts : List TypeId} {ds : List (DataW H)} {j : Nat}
    (h : OpensW enc P w t d wf) (hsz : (DataW.weightsEach P ts ds).all (· ≤ reachBytes) = true) (hj : ts[j]? = some t) (hd : ds[j]? = some D) (hf : DataW.trod enc P w 0 (fun _ => true) true n t cs = some (D, ps)) : ∃ x, d.K w x cs ∧ wf x :=
  h n cs _ hf (fun m hm => by
    have := List.all_eq_true.1 hsz _ (DataW.weights_mem_each hj hd m hm)
    simpa using this)
end Go.Proofs.Ytccabdgfjcjpoaa.X
/- The law NetTells: any mail with one more, with one to all, without one, with one twice, and that to a target, are as the page says. No condition. -/
namespace Go.Proofs.Ytccabdgfjcjpoaa.Pure
open Go.RowKit Go.Proofs.Ytccabdgfjcjpoaa.X
theorem NetTells (l0 : List S56) (x1 : S56) (a2 a3 : Int) (l4 : List (List Int)) (w0 : ∀ x ∈ l0, x.f3.length ≤ 140737488351232) (w1 : x1.f3.length ≤ 140737488351232) (w4 : ∀ x ∈ l4, (∀ z ∈ x, (Lit.int .u8 z).wf = true) ∧ x.length ≤ 140737488351232) : mootlaw24_NetTells.f l0 x1.f0 x1.f1 x1.f2 x1.f3 a2 a3 l4 = some true := by
  unfold mootlaw24_NetTells.f
  rw [if_pos ⟨fun x hx => Nat.le_trans (w0 x hx) (by omega), Nat.le_trans w1 (by omega), fun x hx => Nat.le_trans (w4 x hx).2 (by omega)⟩]
end Go.Proofs.Ytccabdgfjcjpoaa.Pure
