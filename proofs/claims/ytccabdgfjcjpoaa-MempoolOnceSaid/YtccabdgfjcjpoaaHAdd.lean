/- mempool.Add: a transaction more. -/
import Derived.Test.YtccabdgfjcjpoaaHClone
import Derived.Test.YtccabdgfjcjpoaaHMap
import Derived.Test.YtccabdgfjcjpoaaXF31
import Derived.Test.YtccabdgfjcjpoaaXF32
import Derived.Deep.Cut
import Derived.Deep.DeepCutAuto
import Derived.Deep.RegionLaw
import Derived.Maps.OwnOps
namespace Go.Proofs.Ytccabdgfjcjpoaa.X
open Go.RowKit Go.Proofs.YtccabdgfjcjpoaaW.PrintWords Go.Proofs.YtccabdgfjcjpoaaW.PrintLast Go.Proofs.YtccabdgfjcjpoaaW.PrintMore
set_option linter.unusedVariables false
set_option linter.unusedSimpArgs false

/-- A map written. -/
structure MapPut (g : Nat) (W W1 : World) : Prop where
  size : W1.heap.size = W.heap.size
  far : ∀ k, k ≠ g → W1.heap[k]? = W.heap[k]?
  below : ∀ v : World, Below v.heap.size v W → v.heap.size ≤ g → Below v.heap.size v W1
section
variable {ops : Array Oper} {rest : List Oper} {o : Oper} {a : Act} {Q : Exit → Act → World → Prop}
theorem mapset_ev {W : World} (hgd : o.guard = none) (m k v : Operand) (ho : o.op = .mapUpdate 66 m k v) (hd : o.dst = none) (g : Nat) (p : Int × Int) (hm : a.eval m = .map (some g)) (hk : a.eval k = keyP p) (hv : a.eval v = .bool true) (ps : List (Int × Int)) (hS : SetAt W g ps)
    (h : ∀ W1, SetAt W1 g (ps ++ [p]) → MapPut g W W1 → wpList Try.prog ops Q rest a W1) : wpList Try.prog ops Q (o :: rest) a W := by
  obtain ⟨W1, hr, hS1, hs, hf, h1, h2, h3⟩ := put_run hS p
  refine wpList_plain hgd fun K hK => ?_
  have := hK a W1 (h W1 hS1 ⟨hs, hf, fun v hb hg => ⟨h1.trans hb.os, h2.trans hb.tape, h3.trans hb.output, by rw [hs]; exact hb.size, fun i hi => (hf i (by omega)).trans (hb.block i hi)⟩⟩)
  have hrun : (execOp a.eval o).run Try.prog W = .ok .skip W1 := by simp [execOp, ho, hm, hk, hv, hr, Result.andThen]
  unfold Oper.wp
  rw [hrun]
  simpa [Oper.upon, hd, Act.put] using this
theorem mkmap_ev {W : World} (hgd : o.guard = none) {N : Tmp} (hd : o.dst = some N) (t : TypeId) (ho : o.op = .makeMap t none)
    (h : ∀ g W1, g = W.heap.size → W1.heap[g]? = some (.map #[] 0) → Below W.heap.size W W1 → wpList Try.prog ops Q rest (a.put o.dst (.map (some g))) W1) : wpList Try.prog ops Q (o :: rest) a W := by
  refine Kd.event_run hgd (v := .map (some W.heap.size)) (w1 := W.alloc (.map #[] 0)) ?_ (h _ _ rfl (by simp [World.alloc, -World.alloc_eq]) (below_alloc (Below.refl _ _) _))
  simp [execOp, ho, Instr.makeMap, Result.andThen]
end
def slot (t : S27) : Int × Int := (t.f0, t.f3)
def mempool_Add.f (l0 : List S27) (a1_0 a1_1 a1_2 a1_3 : Int) (a1_4 : ByteArray) : Option (List S27 × Bool) :=
  (tx_Check.f a1_0 a1_1 a1_2 a1_3 a1_4).bind fun c => if c ≠ 0 ∨ 16 ≤ l0.length ∨ (a1_0, a1_3) ∈ l0.map slot then some ([], false) else some (l0 ++ [⟨a1_0, a1_1, a1_2, a1_3, a1_4⟩], true)
theorem i27 : (Try.prog.info? 27).map (fun i => (i.zero, i.size)) = some (some (.agg #[.int .i64 0, .int .i64 0, .int .i64 0, .int .i64 0, .string ⟨#[]⟩]), 5) := by kernel_rfl
theorem s27 : (Try.prog.info? 27).map (·.size) = some 5 := by kernel_rfl
theorem one27 (a b c d : Int) (e : ByteArray) : #[Value.int .i64 a, .int .i64 b, .int .i64 c, .int .i64 d, .string e].all (·.oneCell') = true := by simp [Value.oneCell']
theorem row27_one {W : World} {g : Nat} {t : S27} (h : W.heap[g]? = some (.cells #[.int .i64 t.f0, .int .i64 t.f1, .int .i64 t.f2, .int .i64 t.f3, .string t.f4] 27 (0, 0))) : Kd.C k27 W (some ⟨g, 0, none⟩) 1 [t] := by
  refine ⟨rfl, by omega, fun _ => ⟨_, rfl, fun j p hp => ?_⟩⟩
  have hj : j = 0 := by
    cases j with
    | zero => rfl
    | succ j => simp at hp
  subst hj
  simp only [List.getElem?_cons_zero, Option.some.injEq] at hp
  subst hp
  refine ⟨_, rfl, k27_mk W t, fun i u hu => ?_⟩
  rw [Nat.zero_mul, Nat.zero_add, show (⟨g, 0, none⟩ : Addr).add i = ⟨g, i, none⟩ by simp only [Addr.add]; split <;> simp_all, blk_cell h]
  simpa using hu
/-- What Add keeps. -/
structure AddI (w : World) (t : S27) (g : Nat) (ps : List (Int × Int)) (W : World) : Prop where
  box : W.heap[w.heap.size]? = some (.cells #[.int .i64 t.f0, .int .i64 t.f1, .int .i64 t.f2, .int .i64 t.f3, .string t.f4] 27 (0, 0))
  set : SetAt W g ps
  gt : w.heap.size < g
  below : Below w.heap.size w W
theorem AddI.step {w W W1 : World} {t : S27} {g : Nat} {ps : List (Int × Int)} (h : AddI w t g ps W) (hb : Below W.heap.size W W1) : AddI w t g ps W1 :=
  ⟨(hb.block _ (blk_lt h.box)).trans h.box, h.set.far (hb.block _ h.set.lt), h.gt, below_step h.below hb⟩
theorem AddI.stored {w W W1 : World} {t : S27} {g g8 : Nat} {ps : List (Int × Int)} {ty : TypeId} {cs : Array Value} (h : AddI w t g ps W) (hst : Stored g8 ty cs W W1) (h1 : w.heap.size < g8) (h2 : g ≠ g8) : AddI w t g ps W1 :=
  ⟨(hst.far _ (by omega)).trans h.box, h.set.far (hst.far _ h2), h.gt, hst.below _ h.below (by omega)⟩
theorem AddI.put {w W W1 : World} {t : S27} {g : Nat} {ps ps' : List (Int × Int)} (h : AddI w t g ps W) (hp : MapPut g W W1) (hs : SetAt W1 g ps') : AddI w t g ps' W1 :=
  ⟨(hp.far _ (by have := h.gt; omega)).trans h.box, hs, h.gt, hp.below _ h.below (by have := h.gt; omega)⟩
set_option maxRecDepth 100000 in
set_option maxHeartbeats 4000000 in
theorem add_calls (A0 : Option Addr) (c0 : Nat) (l0 : List S27) (t : S27) (c : Int) (b : Bool) (r : List S27) (w : World) (hr0 : Kd.C k27 w A0 l0.length l0) (hc0 : l0.length ≤ c0) (hc : tx_Check.f t.f0 t.f1 t.f2 t.f3 t.f4 = some c)
    (hno : c ≠ 0 ∨ 16 ≤ l0.length ∨ slot t ∈ l0.map slot → b = false ∧ r = []) (hyes : ¬ (c ≠ 0 ∨ 16 ≤ l0.length ∨ slot t ∈ l0.map slot) → b = true ∧ r = l0 ++ [t]) :
    Calls Try.prog 11 #[.slice A0 l0.length c0, .agg #[.int .i64 t.f0, .int .i64 t.f1, .int .i64 t.f2, .int .i64 t.f3, .string t.f4]] w fun e w' => ∃ v : Value, e = .returned (.tuple #[v, .bool b]) ∧ Kd.R k27 27 w' w.heap.size (fun _ => True) v r ∧ Below w.heap.size w w' := by
  have HNO := Lib.hid hno
  have HYES := Lib.hid hyes
  clear hno hyes
  have HR0 := Lib.hid hr0
  have HC := Lib.hid hc
  have HC0 := Lib.hid hc0
  have HMX := Lib.hid (Kd.C_max hr0)
  clear hr0 hc hc0
  go_enter Try.func11, Try.ntmps11
  go_wp2_with ((with_reducible refine gate_dst (N := 9) rfl ?_); go_must (refine mkmap_ev rfl (N := 9) rfl 66 rfl ?_; intro g w1 hg hmg hb; have hI : AddI w t g [] w1 := ⟨(hb.block _ (by simp)).trans (blk_new w _), ⟨#[], [], 0, hmg, .nil, fun p => by simp⟩, by (rw [hg]; simp), below_step (below_alloc (Below.refl _ _) _) hb⟩; clear hg hmg hb))
  have HI := Lib.hid hI
  clear hI
  go_loopg [12] (l0.length + 1) (fun kq v12 w' => ∃ i : Nat, v12 = .int .i64 (i : Int) ∧ Hid (i ≤ l0.length ∧ kq + i = l0.length + 1) ∧ Hid (AddI w t g ((l0.take i).map slot) w'))
  case atStart => exact ⟨0, rfl, Lib.hid ⟨by omega, rfl⟩, HI⟩
  case round =>
    clear HI
    obtain ⟨i, rfl, hi, hI⟩ := hrel
    by_cases ci : i < l0.length
    · have c1 : decide ((i : Int) < (l0.length : Int)) = true := decide_eq_true (by omega)
      have c2 : decide (i < l0.length) = true := decide_eq_true ci
      have p0 : 0 ≤ (i : Int) := by omega
      have p1 : (i : Int) < (l0.length : Int) := by omega
      obtain ⟨ad, e0, x0, x1, x2, x3, x4⟩ := at_T27 (Kd.C_below HR0.out hI.out.below) (i : Int) p0 p1
      cases e0
      rw [Int.toNat_natCast] at x0 x1 x2 x3 x4
      obtain ⟨y, hy⟩ : ∃ y, rd_T27 l0 (i : Int) = y := ⟨_, rfl⟩
      rw [hy] at x0 x1 x2 x3 x4
      have hsl : (l0.take i).map slot ++ [slot y] = (l0.take (i + 1)).map slot := by
        rw [List.take_succ_eq_append_getElem ci, List.map_append, ← hy]
        simp [rd_T27, List.getD_eq_getElem?_getD, ci]
      have HSL := Lib.hid hsl
      have HCI := Lib.hid ci
      replace p0 := eq_true p0
      replace p1 := eq_true p1
      clear hsl hy ci
      go_wp2_with (first | ((with_reducible refine gate_dst (N := 8) rfl ?_); go_must (refine box_event rfl (N := 8) rfl (run_alloc _ 27 _ 5 i27 _ _ rfl _) ?_; intro g8 hg8 w2 b8 hb; have I2 := hI.out.step hb; have L8 := Nat.lt_of_lt_of_eq (blk_lt hI.out.box) hg8.symm; have N8 : g ≠ g8 := (by have := hI.out.set.lt; omega); clear hb hg8 x0 x1 x2 x3 x4)) | ((with_reducible refine gate_store (t := 27) rfl ?_); go_must (refine store_ev rfl rfl 27 (.tmp 8) (.tmp 15) rfl g8 _ _ rfl rfl b8 rfl s27 (one27 _ _ _ _ _) ?_; intro w3 hst; have I3 := I2.stored hst L8 N8; have d8 := hst.at_; have f0 := blk_cell d8 0; have f1 := blk_cell d8 1; have f2 := blk_cell d8 2; have f3 := blk_cell d8 3; have f4 := blk_cell d8 4; clear hst b8 I2)) | (go_at_call 31; go_must ((with_reducible refine (mempool_of.calls _ _ _ _ _ _ _ _ rfl).mono ?_); rintro e w4 ⟨rfl, hb⟩; have I4 := I3.step hb; clear hb I3 d8 f0 f1 f2 f3 f4)) | (at_mapUpdate; go_must (refine mapset_ev rfl (.tmp 16) (.tmp 18) (.const (.bool true)) rfl rfl g (slot y) rfl rfl rfl _ I4.set ?_; intro w5 hS hP; have I5 := I4.put hP hS; rw [HSL.out] at I5; have HI5 := Lib.hid I5; clear hS hP I4 I5)))
      obtain ⟨k1, rfl⟩ : ∃ k1, gk = k1 + 1 := ⟨gk - 1, by have := hi.out; omega⟩
      go_roundg k1
      case measure => omega
      case rel => exact ⟨i + 1, congrArg (Value.int .i64) (by have := hi.out; have := HMX.out; have := HCI.out; unfold wrap64; omega), Lib.hid ⟨HCI.out, by have := hi.out; omega⟩, HI5⟩
    · have hil : i = l0.length := by have := hi.out; omega
      have hJ : AddI w t g (l0.map slot) wr := by
        have := hI.out
        rwa [hil, List.take_length] at this
      have c1 : decide ((i : Int) < (l0.length : Int)) = false := decide_eq_false (by omega)
      have c2 : decide (i < l0.length) = false := decide_eq_false ci
      have f0 := blk_cell hJ.box 0
      have f1 := blk_cell hJ.box 1
      have f2 := blk_cell hJ.box 2
      have f3 := blk_cell hJ.box 3
      have f4 := blk_cell hJ.box 4
      clear hI hi hil ci
      by_cases cc : c = 0
      · subst cc
        by_cases c16 : 16 ≤ l0.length
        · have d16 : decide (16 ≤ l0.length) = true := decide_eq_true c16
          have e16 : decide ((16 : Int) ≤ (l0.length : Int)) = true := decide_eq_true (by omega)
          obtain ⟨hb, hr⟩ := HNO.out (.inr (.inl c16))
          have HB := Lib.hid hb
          have HRR := Lib.hid hr
          clear hb hr c16
          go_wp2_with (go_at_call 32; go_must ((with_reducible refine (tx_Check.calls _ _ _ _ _ _ _ HC.out).mono ?_); rintro e w6 ⟨rfl, hb⟩; have I6 := hJ.step hb; have f0 := blk_cell I6.box 0; have f1 := blk_cell I6.box 1; have f2 := blk_cell I6.box 2; have f3 := blk_cell I6.box 3; have f4 := blk_cell I6.box 4; clear hb))
          go_ret2
          exact ⟨_, by rw [HB.out]; rfl, by rw [HRR.out]; exact Kd.R_nil _ _ _ _ _, I6.below⟩
        · have d16 : decide (16 ≤ l0.length) = false := decide_eq_false c16
          have e16 : decide ((16 : Int) ≤ (l0.length : Int)) = false := decide_eq_false (by omega)
          by_cases cm : slot t ∈ l0.map slot
          · have DM := Lib.hid (decide_eq_true cm)
            obtain ⟨hb, hr⟩ := HNO.out (.inr (.inr cm))
            have HB := Lib.hid hb
            have HRR := Lib.hid hr
            clear hb hr c16 cm
            go_wp2_with (first | (go_at_call 32; go_must ((with_reducible refine (tx_Check.calls _ _ _ _ _ _ _ HC.out).mono ?_); rintro e w6 ⟨rfl, hb⟩; have I6 := hJ.step hb; have f0 := blk_cell I6.box 0; have f1 := blk_cell I6.box 1; have f2 := blk_cell I6.box 2; have f3 := blk_cell I6.box 3; have f4 := blk_cell I6.box 4; clear hb)) | (go_at_call 31; go_must ((with_reducible refine (mempool_of.calls _ _ _ _ _ _ _ _ rfl).mono ?_); rintro e w7 ⟨rfl, hb⟩; have I7 := Lib.hid (I6.step hb); have hlk := has_run I7.out.set (slot t); rw [DM.out] at hlk; simp only [keyP, slot] at hlk; have f0 := blk_cell I7.out.box 0; have f1 := blk_cell I7.out.box 1; have f2 := blk_cell I7.out.box 2; have f3 := blk_cell I7.out.box 3; have f4 := blk_cell I7.out.box 4; clear hb)))
            go_ret2
            exact ⟨_, by rw [HB.out]; rfl, by rw [HRR.out]; exact Kd.R_nil _ _ _ _ _, I7.out.below⟩
          · have DM := Lib.hid (decide_eq_false cm)
            obtain ⟨hb, hr⟩ := HYES.out (by rintro (h | h | h); exact h rfl; exact c16 h; exact cm h)
            have HB := Lib.hid hb
            have HRR := Lib.hid hr
            have H16 := Lib.hid c16
            clear hb hr c16 cm
            go_wp2_with (first | (go_at_call 32; go_must ((with_reducible refine (tx_Check.calls _ _ _ _ _ _ _ HC.out).mono ?_); rintro e w6 ⟨rfl, hb⟩; have I6 := hJ.step hb; have f0 := blk_cell I6.box 0; have f1 := blk_cell I6.box 1; have f2 := blk_cell I6.box 2; have f3 := blk_cell I6.box 3; have f4 := blk_cell I6.box 4; clear hb)) | (go_at_call 31; go_must ((with_reducible refine (mempool_of.calls _ _ _ _ _ _ _ _ rfl).mono ?_); rintro e w7 ⟨rfl, hb⟩; have I7 := Lib.hid (I6.step hb); have hlk := has_run I7.out.set (slot t); rw [DM.out] at hlk; simp only [keyP, slot] at hlk; have f0 := blk_cell I7.out.box 0; have f1 := blk_cell I7.out.box 1; have f2 := blk_cell I7.out.box 2; have f3 := blk_cell I7.out.box 3; have f4 := blk_cell I7.out.box 4; clear hb)))
            go_region_law (first | (refine goes_ Try.func33 (by kernel_rfl) rfl #[.slice A0 l0.length c0] (by rfl) rfl rfl (by (try simp only [List.map_toArray, List.map_cons, List.map_nil]); first | done | rfl) ?_; refine (cloneT_calls A0 c0 l0 _ (Kd.C_below HR0.out (by first | exact below_drew I7.out.below | exact below_alloc (below_drew I7.out.below) _)) HC0.out (by have := H16.out; omega)).mono ?_; rintro e w8 ⟨v8, rfl, ho, hb⟩; refine ⟨_, rfl, ?_⟩; have I8 := AddI.step (AddI.step I7.out (by first | exact below_drew (Below.refl _ _) | exact below_alloc (below_drew (Below.refl _ _)) _)) hb; have R8 : Kd.R k27 27 w8 w.heap.size (fun _ => True) v8 l0 := Kd.R_lower ho (Below.size (B := w.heap.size) (by first | exact below_drew I7.out.below | exact below_alloc (below_drew I7.out.below) _)); have f0 := blk_cell I8.box 0; have f1 := blk_cell I8.box 1; have f2 := blk_cell I8.box 2; have f3 := blk_cell I8.box 3; have f4 := blk_cell I8.box 4; (first | (have hnew : w8.heap[w7.heap.size]? = some (.cells #[.int .i64 t.f0, .int .i64 t.f1, .int .i64 t.f2, .int .i64 t.f3, .string t.f4] 27 (0, 0)) := (hb.block _ (by simp)).trans (blk_new w7.drew _)) | skip)) | (refine Kd.R_append_rows_step k27 (w0 := w) w.heap.size (by rfl) (.tmp 35) (.tmp 37) 22 27 _ 48 rfl Try.underlying22 info27 rfl (by decide) (by decide) v8 l0 [t] (some ⟨w8.heap.size, 0, none⟩) 1 1 (fun _ => True) (fun _ => False) rfl rfl (Kd.R_alloc R8 _) (row27_one (blk_new w8 _)) KM27 (fun _ hk => hk.elim) (fun _ _ => trivial) (below_alloc I8.below _) (Below.size (B := w.heap.size) (below_alloc I8.below _)) (by have := H16.out; omega) ?_; intro v1 w9 hR9 hb9 hg9 hat9) | (refine Kd.R_append_rows_step k27 (w0 := w) w.heap.size (by rfl) (.tmp 35) (.tmp 37) 22 27 _ 48 rfl Try.underlying22 info27 rfl (by decide) (by decide) v8 l0 [t] (some ⟨w7.heap.size, 0, none⟩) 1 1 (fun _ => True) (fun _ => False) rfl rfl R8 (row27_one hnew) KM27 (fun _ hk => hk.elim) (fun _ _ => trivial) I8.below (Below.size (B := w.heap.size) I8.below) (by have := H16.out; omega) ?_; intro v1 w9 hR9 hb9 hg9 hat9))
            all_goals go_wp2
            all_goals go_ret2
            all_goals exact ⟨v1, by rw [HB.out]; rfl, by rw [HRR.out]; exact hR9, hb9⟩
      · have cb : (c != 0) = true := bne_iff_ne.mpr cc
        obtain ⟨hb, hr⟩ := HNO.out (.inl cc)
        have HB := Lib.hid hb
        have HRR := Lib.hid hr
        clear hb hr cc
        go_wp2_with (go_at_call 32; go_must ((with_reducible refine (tx_Check.calls _ _ _ _ _ _ _ HC.out).mono ?_); rintro e w6 ⟨rfl, hb⟩; have I6 := hJ.step hb; have f0 := blk_cell I6.box 0; have f1 := blk_cell I6.box 1; have f2 := blk_cell I6.box 2; have f3 := blk_cell I6.box 3; have f4 := blk_cell I6.box 4; clear hb))
        go_ret2
        exact ⟨_, by rw [HB.out]; rfl, by rw [HRR.out]; exact Kd.R_nil _ _ _ _ _, I6.below⟩
theorem mempool_Add.calls (A0 : Option Addr) (c0 : Nat) (l0 : List S27) (a1_0 a1_1 a1_2 a1_3 : Int) (a1_4 : ByteArray) (r1 : List S27) (r2 : Bool) (w : World) (hr0 : Kd.C k27 w A0 l0.length l0) (hc0 : l0.length ≤ c0) (h : mempool_Add.f l0 a1_0 a1_1 a1_2 a1_3 a1_4 = some (r1, r2)) :
    Calls Try.prog 11 #[.slice A0 l0.length c0, .agg #[.int .i64 a1_0, .int .i64 a1_1, .int .i64 a1_2, .int .i64 a1_3, .string a1_4]] w fun e w' => ∃ v : Value, e = .returned (.tuple #[v, .bool r2]) ∧ Kd.R k27 27 w' w.heap.size (fun _ => True) v r1 ∧ Below w.heap.size w w' := by
  unfold mempool_Add.f at h
  obtain ⟨c, hc, h⟩ := Option.bind_eq_some_iff.mp h
  refine add_calls A0 c0 l0 ⟨a1_0, a1_1, a1_2, a1_3, a1_4⟩ c r2 r1 w hr0 hc0 hc (fun hh => ?_) (fun hh => ?_)
  · have hh' : c ≠ 0 ∨ 16 ≤ l0.length ∨ (a1_0, a1_3) ∈ List.map slot l0 := hh
    rw [if_pos hh'] at h
    cases h
    exact ⟨rfl, rfl⟩
  · have hh' : ¬ (c ≠ 0 ∨ 16 ≤ l0.length ∨ (a1_0, a1_3) ∈ List.map slot l0) := hh
    rw [if_neg hh'] at h
    cases h
    exact ⟨rfl, rfl⟩
end Go.Proofs.Ytccabdgfjcjpoaa.X
