/- mempool.Take: what can be done now. -/
import Derived.Test.YtccabdgfjcjpoaaHIntMap
import Derived.Test.YtccabdgfjcjpoaaHAdd
import Derived.StillTailTactics
namespace Go.Proofs.Ytccabdgfjcjpoaa.X
open Go.RowKit Go.Proofs.YtccabdgfjcjpoaaW.PrintWords Go.Proofs.YtccabdgfjcjpoaaW.PrintLast Go.Proofs.YtccabdgfjcjpoaaW.PrintMore
set_option linter.unusedVariables false
set_option linter.unusedSimpArgs false

abbrev aggT (t : S27) : Value := .agg #[.int .i64 t.f0, .int .i64 t.f1, .int .i64 t.f2, .int .i64 t.f3, .string t.f4]
/-- Where the first is that fits. -/
def idxOf (p : S27 → Bool) (l : List S27) : Int := match l.findIdx? p with | some i => (i : Int) | none => -1
theorem idxOf_at {p : S27 → Bool} {l : List S27} {i : Nat} (hi : i < l.length) (hp : p l[i] = true) (hb : ∀ j (h : j < l.length), j < i → p l[j] = false) : idxOf p l = i := by
  have : l.findIdx? p = some i := by
    rw [List.findIdx?_eq_some_iff_getElem]
    exact ⟨hi, hp, fun j hj => by simpa using hb j (by omega) hj⟩
  rw [idxOf, this]
theorem idxOf_none {p : S27 → Bool} {l : List S27} (hb : ∀ j (h : j < l.length), p l[j] = false) : idxOf p l = -1 := by
  have : l.findIdx? p = none := by
    rw [List.findIdx?_eq_none_iff]
    intro x hx
    obtain ⟨j, hj, rfl⟩ := List.getElem_of_mem hx
    exact hb j hj
  rw [idxOf, this]

set_option maxRecDepth 100000 in
set_option maxHeartbeats 4000000 in
theorem index37 (A : Option Addr) (c : Nat) (l : List S27) (cap : Value) (p : S27 → Bool) (w : World) (hr : Kd.C k27 w A l.length l) (hc : l.length ≤ c)
    (hp : ∀ (t : S27), t ∈ l → ∀ W : World, Below w.heap.size w W → Calls Try.prog 37 #[aggT t, cap] W fun e w' => e = .returned (.bool (p t)) ∧ Below W.heap.size W w') :
    Calls Try.prog 36 #[.slice A l.length c, .func (.func 37) #[] #[cap]] w fun e w' => e = .returned (.int .i64 (idxOf p l)) ∧ Below w.heap.size w w' := by
  have HR := Lib.hid hr
  have HC := Lib.hid hc
  have HP := Lib.hid hp
  have HMX := Lib.hid (Kd.C_max hr)
  clear hr hc hp
  go_enter Try.func36, Try.ntmps36
  go_wp2
  go_loopg [8] (l.length + 1) (fun kq v8 w' => ∃ i : Nat, v8 = .int .i64 (i : Int) ∧ Hid (i ≤ l.length ∧ kq + i = l.length + 1) ∧ Hid (Below w.heap.size w w' ∧ ∀ j (h : j < l.length), j < i → p l[j] = false))
  case atStart => exact ⟨0, rfl, Lib.hid ⟨by omega, rfl⟩, Lib.hid ⟨Below.refl _ _, fun j _ h => absurd h (Nat.not_lt_zero _)⟩⟩
  case round =>
    obtain ⟨i, rfl, hi, hI⟩ := hrel
    by_cases ci : i < l.length
    · have c1 : decide ((i : Int) < (l.length : Int)) = true := decide_eq_true (by omega)
      have c2 : decide (i < l.length) = true := decide_eq_true ci
      have p0 : 0 ≤ (i : Int) := by omega
      have p1 : (i : Int) < (l.length : Int) := by omega
      obtain ⟨ad, e0, x0, x1, x2, x3, x4⟩ := at_T27 (Kd.C_below HR.out hI.out.1) (i : Int) p0 p1
      cases e0
      rw [Int.toNat_natCast] at x0 x1 x2 x3 x4
      obtain ⟨y, hy⟩ : ∃ y, rd_T27 l (i : Int) = y := ⟨_, rfl⟩
      rw [hy] at x0 x1 x2 x3 x4
      have hyl : l[i] = y := by rw [← hy]; simp [rd_T27, List.getD_eq_getElem?_getD, ci]
      have hcall := HP.out y (by rw [← hyl]; exact List.getElem_mem ci) wr hI.out.1
      have HCI := Lib.hid ci
      have HY : Hid (∀ h : i < l.length, l[i]'h = y) := Lib.hid (fun _ => hyl)
      replace p0 := eq_true p0
      replace p1 := eq_true p1
      cases hb : p y
      · rw [hb] at hcall
        have HB := Lib.hid hb
        clear hy hyl ci hb
        go_wp2_with (go_at_call 37; go_must ((with_reducible refine Calls.mono hcall ?_); rintro e w2 ⟨rfl, hb2⟩))
        have hB2 := below_step hI.out.1 hb2
        have HN := Lib.hid hB2
        clear hb2 hB2 x0 x1 x2 x3 x4 hcall
        obtain ⟨k1, rfl⟩ : ∃ k1, gk = k1 + 1 := ⟨gk - 1, by have := hi.out; omega⟩
        go_roundg k1
        case measure => omega
        case rel => exact ⟨i + 1, congrArg (Value.int .i64) (by have := hi.out; have := HMX.out; have := HCI.out; unfold wrap64; omega), Lib.hid ⟨HCI.out, by have := hi.out; omega⟩, Lib.hid ⟨HN.out, fun j h hj => by
          rcases Nat.lt_or_ge j i with h' | h'
          · exact hI.out.2 j h h'
          · have : j = i := by omega
            subst this
            rw [HY.out h]; exact HB.out⟩⟩
      · rw [hb] at hcall
        have hix : idxOf p l = i := idxOf_at ci (by rw [hyl]; exact hb) hI.out.2
        have HIX := Lib.hid hix
        clear hy hyl ci hb hix
        go_wp2_with (go_at_call 37; go_must ((with_reducible refine Calls.mono hcall ?_); rintro e w2 ⟨rfl, hb2⟩))
        go_ret
        exact ⟨by rw [HIX.out]; rfl, below_step hI.out.1 hb2⟩
    · have c1 : decide ((i : Int) < (l.length : Int)) = false := decide_eq_false (by omega)
      have c2 : decide (i < l.length) = false := decide_eq_false ci
      have hix : idxOf p l = -1 := idxOf_none (fun j h => hI.out.2 j h (by have := hi.out; omega))
      have HIX := Lib.hid hix
      clear hix ci hi
      go_wp2
      go_ret
      exact ⟨by rw [HIX.out]; rfl, hI.out.1⟩

/-- Does a transaction fit? -/
def fitsT (ns : List Int) (t : S27) : Bool := decide (0 ≤ t.f0 ∧ t.f0 < ns.length) && decide (ns.getD t.f0.toNat 0 = t.f3)
set_option maxRecDepth 100000 in
set_option maxHeartbeats 4000000 in
theorem fits_calls (t : S27) (ns : List Int) (g5 g : Nat) (w : World) (h5 : w.heap[g5]? = some (.cells #[.map (some g)] 76 (0, 0))) (hm : MapI w g ns) :
    Calls Try.prog 37 #[aggT t, .pointer (some ⟨g5, 0, none⟩)] w fun e w' => e = .returned (.bool (fitsT ns t)) ∧ Below w.heap.size w w' := by
  obtain ⟨w1, hw1⟩ : ∃ w1, w.alloc (.cells #[.int .i64 t.f0, .int .i64 t.f1, .int .i64 t.f2, .int .i64 t.f3, .string t.f4] 27) = w1 := ⟨_, rfl⟩
  have hB : Below w.heap.size w w1 := by rw [← hw1]; exact below_alloc (Below.refl _ _) _
  have b1 : w1.heap[w.heap.size]? = some (.cells #[.int .i64 t.f0, .int .i64 t.f1, .int .i64 t.f2, .int .i64 t.f3, .string t.f4] 27 (0, 0)) := by rw [← hw1]; exact blk_new _ _
  have c5 := blk_cell ((hB.block _ (blk_lt h5)).trans h5) 0
  have f0 := blk_cell b1 0
  have f3 := blk_cell b1 3
  have hlk := askI_run (MapI.far hm (hB.block _ (mapI_lt hm))) t.f0
  have HB := Lib.hid hB
  have e : aggT t = .agg #[.int .i64 t.f0, .int .i64 t.f1, .int .i64 t.f2, .int .i64 t.f3, .string t.f4] := rfl
  rw [e]
  by_cases c : 0 ≤ t.f0 ∧ t.f0 < ns.length
  · rw [if_pos c, decide_eq_true c] at hlk
    obtain ⟨n, hn⟩ : ∃ n, ns.getD t.f0.toNat 0 = n := ⟨_, rfl⟩
    rw [hn] at hlk
    have hfit : fitsT ns t = decide (n = t.f3) := by rw [fitsT, hn, decide_eq_true c, Bool.true_and]
    by_cases c3 : n = t.f3
    · have d3 : (n == t.f3) = true := beq_iff_eq.mpr c3
      rw [hfit, decide_eq_true c3]
      clear hfit h5 hm b1 hB c hn e c3
      go_enter Try.func37, Try.ntmps37
      go_wp2_with (rw [hw1])
      go_ret
      exact ⟨rfl, HB.out⟩
    · have d3 : (n == t.f3) = false := beq_eq_false_iff_ne.mpr c3
      rw [hfit, decide_eq_false c3]
      clear hfit h5 hm b1 hB c hn e c3
      go_enter Try.func37, Try.ntmps37
      go_wp2_with (rw [hw1])
      go_ret
      exact ⟨rfl, HB.out⟩
  · rw [if_neg c, decide_eq_false c] at hlk
    have hfit : fitsT ns t = false := by rw [fitsT, decide_eq_false c, Bool.false_and]
    rw [hfit]
    clear hfit h5 hm b1 hB c e
    go_enter Try.func37, Try.ntmps37
    go_wp2_with (rw [hw1])
    go_ret
    exact ⟨rfl, HB.out⟩

/-- What is taken, one behind the other. -/
def takeN (l : List S27) : Nat → List Int → List S27 → List S27
  | 0, _, out => out
  | n + 1, ns, out => match l.find? (fitsT ns) with
    | none => out
    | some t => takeN l n (ns.set t.f0.toNat (wrap64 (ns.getD t.f0.toNat 0 + 1))) (out ++ [t])
theorem idxOf_find_none {p : S27 → Bool} {l : List S27} (h : l.find? p = none) : idxOf p l = -1 :=
  idxOf_none (fun j hj => by
    have := List.find?_eq_none.1 h _ (List.getElem_mem hj)
    simpa using this)
theorem idxOf_find {p : S27 → Bool} {l : List S27} {t : S27} (h : l.find? p = some t) : ∃ (i : Nat) (hi : i < l.length), idxOf p l = i ∧ l[i] = t ∧ p t = true := by
  obtain ⟨hp, i, hi, he, hb⟩ := List.find?_eq_some_iff_getElem.1 h
  refine ⟨i, hi, idxOf_at hi (by rw [he]; exact hp) (fun j hj hji => by simpa using hb j hji), he, hp⟩
def mempool_Take.f (l0 : List S27) (l1 : List S52) : Option (List S27) := some (takeN l0 4 (l1.map (·.f1)) [])
/-- What Take keeps. -/
structure TakeI (w : World) (g5 g : Nat) (ns : List Int) (W : World) : Prop where
  box : W.heap[g5]? = some (.cells #[.map (some g)] 76 (0, 0))
  map : MapI W g ns
  l5 : w.heap.size ≤ g5
  lg : w.heap.size ≤ g
  ne : g5 ≠ g
  below : Below w.heap.size w W
theorem TakeI.step {w W W1 : World} {g5 g : Nat} {ns : List Int} (h : TakeI w g5 g ns W) (hb : Below W.heap.size W W1) : TakeI w g5 g ns W1 :=
  ⟨(hb.block _ (blk_lt h.box)).trans h.box, h.map.far (hb.block _ (mapI_lt h.map)), h.l5, h.lg, h.ne, below_step h.below hb⟩
theorem TakeI.put {w W W1 : World} {g5 g : Nat} {ns ns' : List Int} (h : TakeI w g5 g ns W) (hp : MapPut g W W1) (hs : MapI W1 g ns') : TakeI w g5 g ns' W1 :=
  ⟨(hp.far _ h.ne).trans h.box, hs, h.l5, h.lg, h.ne, hp.below _ h.below h.lg⟩
theorem TakeI.grown {w W W1 : World} {g5 g : Nat} {ns : List Int} {row : Option Nat} (h : TakeI w g5 g ns W) (hg : W.grownBy W1 row) (hr : ∀ k, row = some k → k ≠ g ∧ k ≠ g5) (hb : Below w.heap.size w W1) : TakeI w g5 g ns W1 :=
  ⟨(hg.block _ (blk_lt h.box) (fun e => (hr g5 e.symm).2 rfl)).trans h.box, h.map.far (hg.block _ (mapI_lt h.map) (fun e => (hr g e.symm).1 rfl)), h.l5, h.lg, h.ne, hb⟩
section
variable {ops : Array Oper} {rest : List Oper} {o : Oper} {a : Act} {Q : Exit → Act → World → Prop}
theorem mapseti_ev {W : World} (hgd : o.guard = none) (m k v : Operand) (ho : o.op = .mapUpdate 76 m k v) (hd : o.dst = none) (g : Nat) (kk vv : Int) (hm : a.eval m = .map (some g)) (hk : a.eval k = .int .i64 kk) (hv : a.eval v = .int .i64 vv) (ns : List Int) (hS : MapI W g ns) (hkk : 0 ≤ kk ∧ kk ≤ ns.length)
    (h : ∀ W1, MapI W1 g (if kk < ns.length then ns.set kk.toNat vv else ns ++ [vv]) → MapPut g W W1 → wpList Try.prog ops Q rest a W1) : wpList Try.prog ops Q (o :: rest) a W := by
  obtain ⟨W1, hr, hS1, hs, hf, h1, h2, h3⟩ := setI_run hS kk vv hkk
  refine wpList_plain hgd fun K hK => ?_
  have := hK a W1 (h W1 hS1 ⟨hs, hf, fun v hb hg => ⟨h1.trans hb.os, h2.trans hb.tape, h3.trans hb.output, by rw [hs]; exact hb.size, fun i hi => (hf i (by omega)).trans (hb.block i hi)⟩⟩)
  have hrun : (execOp a.eval o).run Try.prog W = .ok .skip W1 := by simp [execOp, ho, hm, hk, hv, hr, Result.andThen]
  unfold Oper.wp
  rw [hrun]
  simpa [Oper.upon, hd, Act.put] using this
end
/-- A map asked, as a step that stays. -/
theorem still_lookup {ops : Array Oper} {rest : List Oper} {o : Oper} {a : Act} {W : World} {Q : Act → Prop} (hgd : o.guard = none) {N : Tmp} (hd : o.dst = some N) (m k : Operand) (ho : o.op = .lookup 76 m k false) (g : Nat) (kk v : Int) (ns : List Int) (hm : a.eval m = .map (some g)) (hk : a.eval k = .int .i64 kk)
    (hS : MapI W g ns) (hkk : 0 ≤ kk ∧ kk < ns.length) (hv : ns.getD kk.toNat 0 = v) (h : wpStill Try.prog ops W Q rest (a.put (some N) (.int .i64 v))) : wpStill Try.prog ops W Q (o :: rest) a := by
  refine wpStill_step (fun K hK => ?_)
  rw [if_pos (by simp [Region.wanted, hgd])]
  have hg := getI_run hS kk hkk
  rw [hv] at hg
  have hr : (execOp a.eval o).run Try.prog W = .ok (.value (.int .i64 v)) W := by
    unfold execOp
    simp only [ho, hm, hk, Sem.run_bind, hg, Result.andThen_ok, Sem.run_pure]
  unfold Oper.still
  rw [hr, Oper.stillUpon_value, hd]
  exact hK _ h
theorem s52 : (Try.prog.info? 52).map (·.size) = some 2 := by kernel_rfl
theorem i52 : (Try.prog.info? 52).map (fun i => (i.zero, i.size)) = some (some (.agg #[.int .i64 0, .int .i64 0]), 2) := by kernel_rfl
theorem i76 : (Try.prog.info? 76).map (fun i => (i.zero, i.size)) = some (some (.map none), 1) := by kernel_rfl
set_option maxRecDepth 100000 in
set_option maxHeartbeats 4000000 in
theorem mempool_Take.calls (A0 : Option Addr) (c0 : Nat) (l0 : List S27) (A1 : Option Addr) (c1 : Nat) (l1 : List S52) (r : List S27) (w : World) (hr0 : Kd.C k27 w A0 l0.length l0) (hc0 : l0.length ≤ c0) (hr1 : Kd.C k52 w A1 l1.length l1) (hc1 : l1.length ≤ c1) (h : mempool_Take.f l0 l1 = some r) :
    Calls Try.prog 21 #[.slice A0 l0.length c0, .slice A1 l1.length c1] w fun e w' => ∃ v : Value, e = .returned v ∧ Kd.R k27 27 w' w.heap.size (fun _ => True) v r ∧ Below w.heap.size w w' := by
  obtain rfl := Option.some.inj h
  have HR0 := Lib.hid hr0
  have HC0 := Lib.hid hc0
  have HR1 := Lib.hid hr1
  have HMX := Lib.hid (Kd.C_max hr1)
  clear hr0 hc0 hr1 hc1 h
  go_enter Try.func21, Try.ntmps21
  go_wp2_with ((with_reducible refine gate_dst (N := 10) rfl ?_); go_must (refine mkmap_ev rfl (N := 10) rfl 76 rfl ?_; intro g w1 hg hmg hb; have M1 : MapI w1 g [] := ⟨#[], 0, hmg, .nil 0⟩; have B1 := hb; have LG := Nat.le_of_eq hg.symm; clear hmg hb hg))
  obtain ⟨W0, hW0⟩ : ∃ W0, w1.alloc (Obj.cells #[Value.map (some g)] 76) = W0 := ⟨_, rfl⟩
  obtain ⟨g5, hg5⟩ : ∃ g5, w1.heap.size = g5 := ⟨_, rfl⟩
  have hI0 : TakeI w g5 g [] W0 := by
    rw [← hW0, ← hg5]
    exact ⟨blk_new _ _, M1.far ((below_alloc (Below.refl _ _) _ : Below w1.heap.size w1 _).block _ (mapI_lt M1)), B1.size, LG, Nat.ne_of_gt (mapI_lt M1), below_alloc B1 _⟩
  rw [hW0, hg5]
  have HI0 := Lib.hid hI0
  clear hI0 hW0 hg5 M1 B1 LG
  go_loopg [13] (l1.length + 1) (fun kq v13 w' => ∃ i : Nat, v13 = .int .i64 (i : Int) ∧ Hid (i ≤ l1.length ∧ kq + i = l1.length + 1) ∧ Hid (TakeI w g5 g ((l1.take i).map (·.f1)) w'))
  case atStart => exact ⟨0, rfl, Lib.hid ⟨by omega, rfl⟩, HI0⟩
  case round =>
    clear HI0
    obtain ⟨i, rfl, hi, hI⟩ := hrel
    by_cases ci : i < l1.length
    · have c1' : decide ((i : Int) < (l1.length : Int)) = true := decide_eq_true (by omega)
      have c2' : decide (i < l1.length) = true := decide_eq_true ci
      have p0 : 0 ≤ (i : Int) := by omega
      have p1 : (i : Int) < (l1.length : Int) := by omega
      obtain ⟨ad, e0, x0, x1⟩ := at_T52 (Kd.C_below HR1.out hI.out.below) (i : Int) p0 p1
      cases e0
      rw [Int.toNat_natCast] at x0 x1
      obtain ⟨y, hy⟩ : ∃ y, rd_T52 l1 (i : Int) = y := ⟨_, rfl⟩
      rw [hy] at x0 x1
      have hns : (if (i : Int) < (((l1.take i).map (·.f1)).length : Int) then ((l1.take i).map (·.f1)).set (i : Int).toNat y.f1 else (l1.take i).map (·.f1) ++ [y.f1]) = (l1.take (i + 1)).map (·.f1) := by
        rw [if_neg (by rw [List.length_map, List.length_take]; omega), List.take_succ_eq_append_getElem ci, List.map_append, ← hy]
        simp [rd_T52, List.getD_eq_getElem?_getD, ci]
      have hle : (i : Int) ≤ ((((l1.take i).map (·.f1)).length : Nat) : Int) := by rw [List.length_map, List.length_take]; omega
      have HNS := Lib.hid hns
      have HLE := Lib.hid hle
      have HP0 := Lib.hid p0
      have HCI := Lib.hid ci
      replace p0 := eq_true p0
      replace p1 := eq_true p1
      clear hns hle hy ci
      go_wp2_with (first | ((with_reducible refine gate_dst (N := 7) rfl ?_); go_must (refine box_event rfl (N := 7) rfl (run_alloc _ 52 _ 2 i52 _ _ rfl _) ?_; intro g7 hg7 w2 b7 hb; have I2 := hI.out.step hb; have L7 := Nat.le_trans (Below.size (B := w.heap.size) hI.out.below) (Nat.le_of_eq hg7.symm); have N5 : g5 ≠ g7 := (by have := blk_lt hI.out.box; omega); have N6 : g ≠ g7 := (by have := mapI_lt hI.out.map; omega); clear hb hg7 x0 x1)) | ((with_reducible refine gate_store (t := 52) rfl ?_); go_must (refine store_ev rfl rfl 52 (.tmp 7) (.tmp 17) rfl g7 _ #[.int .i64 y.f0, .int .i64 y.f1] rfl rfl b7 rfl s52 (by simp [Value.oneCell']) ?_; intro w3 hst; have I3 : TakeI w g5 g ((l1.take i).map (·.f1)) w3 := ⟨(hst.far _ N5).trans I2.box, I2.map.far (hst.far _ N6), I2.l5, I2.lg, I2.ne, hst.below _ I2.below L7⟩; have d7 := hst.at_; have f1 := blk_cell d7 1; have c5 := blk_cell I3.box 0; clear hst b7 I2 N5 N6 L7)) | (at_mapUpdate; go_must (refine mapseti_ev rfl (.tmp 18) (.tmp 19) (.tmp 21) rfl rfl g (i : Int) y.f1 rfl rfl rfl _ I3.map ⟨HP0.out, HLE.out⟩ ?_; intro w5 hS hP; have I5 := I3.put hP hS; rw [HNS.out] at I5; have HI5 := Lib.hid I5; clear hS hP I3 I5)))
      obtain ⟨k1, rfl⟩ : ∃ k1, gk = k1 + 1 := ⟨gk - 1, by have := hi.out; omega⟩
      go_roundg k1
      case measure => omega
      case rel => exact ⟨i + 1, congrArg (Value.int .i64) (by have := hi.out; have := HMX.out; have := HCI.out; unfold wrap64; omega), Lib.hid ⟨HCI.out, by have := hi.out; omega⟩, HI5⟩
    · have hil : i = l1.length := by have := hi.out; omega
      have hJ : TakeI w g5 g (l1.map (·.f1)) wr := by
        have := hI.out
        rwa [hil, List.take_length] at this
      have c1' : decide ((i : Int) < (l1.length : Int)) = false := decide_eq_false (by omega)
      have c2' : decide (i < l1.length) = false := decide_eq_false ci
      have HJ := Lib.hid hJ
      clear hI hi hil ci hJ
      go_wp2
      go_loopg [8] 5 (fun kq v8 w' => ∃ (k : Nat) (ns : List Int) (out : List S27), Hid (kq = k + 1 ∧ out.length + k = 4 ∧ takeN l0 k ns out = takeN l0 4 (l1.map (·.f1)) []) ∧ Hid (Kd.R k27 27 w' w.heap.size (fun b => b ≠ g ∧ b ≠ g5) v8 out ∧ TakeI w g5 g ns w'))
      case atStart => exact ⟨4, l1.map (·.f1), [], Lib.hid ⟨rfl, rfl, rfl⟩, Lib.hid ⟨Kd.R_nil _ _ _ _ _, HJ.out⟩⟩
      case round =>
        clear HJ c1' c2'
        obtain ⟨k, ns, out, hk, hI⟩ := hrel
        obtain ⟨Ao, co, rfl⟩ := Kd.R_slice hI.out.1
        cases k with
        | zero =>
          have hol : out.length = 4 := by have := hk.out.2.1; omega
          have hres : out = takeN l0 4 (l1.map (·.f1)) [] := hk.out.2.2
          have c4 : decide ((out.length : Int) < 4) = false := decide_eq_false (by omega)
          have c4' : decide (out.length < 4) = false := decide_eq_false (by omega)
          have HR := Lib.hid hI.out.1
          have HRES := Lib.hid hres
          have HB := Lib.hid hI.out.2.below
          clear hk hI hol hres
          go_wp2
          go_ret
          exact ⟨_, rfl, by rw [← HRES.out]; exact Kd.R_mono HR.out (fun _ _ => trivial), HB.out⟩
        | succ k =>
          have hol : out.length < 4 := by have := hk.out.2.1; omega
          have c4 : decide ((out.length : Int) < 4) = true := decide_eq_true (by omega)
          have c4' : decide (out.length < 4) = true := decide_eq_true hol
          cases hf : l0.find? (fitsT ns) with
          | none =>
            have hix := idxOf_find_none hf
            have hres : out = takeN l0 4 (l1.map (·.f1)) [] := by rw [← hk.out.2.2, takeN, hf]
            have HR := Lib.hid hI.out.1
            have HI := Lib.hid hI.out.2
            have HRES := Lib.hid hres
            clear hk hI hol hres hf
            go_wp2_with (go_at_call 36; go_must (refine (index37 A0 c0 l0 _ (fitsT ns) _ (Kd.C_below HR0.out HI.out.below) HC0.out (fun t _ W hW => fits_calls t ns g5 g W ((hW.block _ (blk_lt HI.out.box)).trans HI.out.box) (HI.out.map.far (hW.block _ (mapI_lt HI.out.map)))) ).mono ?_; rw [hix]; rintro e w2 ⟨rfl, hb2⟩; have HB := Lib.hid (below_step HI.out.below hb2); have HR2 := Lib.hid (Kd.R_below HR.out hb2); clear hb2))
            go_ret
            exact ⟨_, rfl, by rw [← HRES.out]; exact Kd.R_mono HR2.out (fun _ _ => trivial), HB.out⟩
          | some t =>
            obtain ⟨i, hi, hix, hit, hpt⟩ := idxOf_find hf
            have p0 : 0 ≤ (i : Int) := by omega
            have p1 : (i : Int) < (l0.length : Int) := by omega
            have n0 : decide ((i : Int) < 0) = false := decide_eq_false (by omega)
            have hfit : (0 ≤ t.f0 ∧ t.f0 < ns.length) ∧ ns.getD t.f0.toNat 0 = t.f3 := by
              simpa [fitsT] using hpt
            have hrt : rd_T27 l0 (i : Int) = t := by rw [← hit]; simp [rd_T27, List.getD_eq_getElem?_getD, hi]
            obtain ⟨v, hv⟩ : ∃ v, ns.getD t.f0.toNat 0 = v := ⟨_, rfl⟩
            obtain ⟨u, hu⟩ : ∃ u, wrap64 (v + 1) = u := ⟨_, rfl⟩
            have huw : IntKind.i64.wrap (v + 1) = u := by rw [← hu, IntKind.wrap_i64]; unfold wrap64; omega
            have hstep : takeN l0 k (ns.set t.f0.toNat u) (out ++ [t]) = takeN l0 4 (l1.map (·.f1)) [] := by
              rw [← hk.out.2.2, takeN, hf]
              simp only
              rw [hv, hu]
            have HR := Lib.hid hI.out.1
            have HI := Lib.hid hI.out.2
            have HST := Lib.hid hstep
            have HRT := Lib.hid hrt
            have HFIT := Lib.hid hfit
            have HV := Lib.hid hv
            have HOL := Lib.hid hol
            have HP0 := Lib.hid p0
            have HP1 := Lib.hid p1
            have hmix : Try.prog.follows .mixedOrders = true := by kernel_rfl
            clear hI hol hf hit hpt hfit hrt hv hstep hi p0 p1 hu
            go_wp2_with (first | (go_at_call 36; go_must (refine (index37 A0 c0 l0 _ (fitsT ns) _ (Kd.C_below HR0.out HI.out.below) HC0.out (fun t _ W hW => fits_calls t ns g5 g W ((hW.block _ (blk_lt HI.out.box)).trans HI.out.box) (HI.out.map.far (hW.block _ (mapI_lt HI.out.map)))) ).mono ?_; rw [hix]; rintro e w2 ⟨rfl, hb2⟩; have HI2 := Lib.hid (HI.out.step hb2); have HR2 := Lib.hid (Kd.R_below HR.out hb2); have hat := at_T27 (Kd.C_below HR0.out HI2.out.below) (i : Int) HP0.out HP1.out; rw [HRT.out] at hat; obtain ⟨ad, e0, x0, x1, x2, x3, x4⟩ := hat; cases e0; rw [Int.toNat_natCast] at x0 x1 x2 x3 x4; have p0 := eq_true HP0.out; have p1 := eq_true HP1.out; clear hb2)) | ((with_reducible refine gate_builtin (b := .append) (xs := #[.tmp 31, .tmp 36]) rfl ?_); at_builtin; go_must (refine Kd.R_append k27 (w0 := w) w.heap.size rfl (.tmp 31) (.tmp 36) 22 27 (.agg #[(.int .i64 0), (.int .i64 0), (.int .i64 0), (.int .i64 0), (.string ⟨#[]⟩)]) 48 rfl Try.underlying22 info27 rfl (by decide) (by omega) (.slice Ao out.length co) out t [.int .i64 t.f0, .int .i64 t.f1, .int .i64 t.f2, .int .i64 t.f3, .string t.f4] (fun b => b ≠ g ∧ b ≠ g5) (fun _ => False) rfl rfl ?aP (fun _ hk => hk.elim) ?aF ?aO ?aB ?aS ?aL ?_; (case aP => exact k27_mkM _ _ _ t); (case aB => exact HI2.out.below); (case aF => exact (fun k hk => by have h1 := mapI_lt HI2.out.map; have h2 := blk_lt HI2.out.box; omega)); (case aO => exact HR2.out); (case aS => exact Below.size (B := w.heap.size) HI2.out.below); (case aL => have := HOL.out; omega); intro v8 w4 ho hb hg hat; have HI4 := Lib.hid (TakeI.grown HI2.out hg (fun k hk => HR2.out.1 k hk) hb); have HR4 := Lib.hid ho; clear ho hb hg hat x0 x1 x2 x3 x4)))
            have c5 := blk_cell HI4.out.box 0
            have hat := at_T27 (Kd.C_below HR0.out HI4.out.below) (i : Int) HP0.out HP1.out
            rw [HRT.out] at hat
            obtain ⟨ad2, e0, x0, x1, x2, x3, x4⟩ := hat
            cases e0
            rw [Int.toNat_natCast] at x0
            clear x1 x2 x3 x4 n0
            refine wp_region_still_tail 8 hmix (by kernel_rfl) ?_
            simp only [List.take_succ_cons, List.take_zero, List.drop_succ_cons, List.drop_zero]
            repeat still_step
            refine still_lookup rfl rfl (.tmp 38) (.tmp 43) rfl g t.f0 v ns rfl rfl (HI4.out.map.far rfl) HFIT.out.1 HV.out ?_
            repeat still_step
            refine wpStill_nil ?_
            change wpList _ _ _ _ _ w4.drew
            clear x0 c5 huw
            have hset : MapI w4.drew g ns := HI4.out.map.far rfl
            go_wp2_with (at_mapUpdate; go_must (refine mapseti_ev rfl (.tmp 38) (.tmp 43) (.tmp 45) rfl rfl g t.f0 u rfl rfl rfl _ hset ⟨HFIT.out.1.1, Int.le_of_lt HFIT.out.1.2⟩ ?_; intro w5 hS hP; rw [if_pos HFIT.out.1.2] at hS; have HI5 := Lib.hid (TakeI.put (HI4.out.step (below_drew (Below.refl _ _))) hP hS); have HR5 := Lib.hid (Kd.R_step (Kd.R_drew HR4.out) (fun k hk _ => hP.far k hk.1)); clear hS hP))
            go_roundg (k + 1)
            case measure => have := hk.out.1; omega
            case rel => exact ⟨k, ns.set t.f0.toNat u, out ++ [t], Lib.hid ⟨rfl, by have := hk.out.2.1; rw [List.length_append]; simp only [List.length_cons, List.length_nil]; omega, HST.out⟩, Lib.hid ⟨HR5.out, HI5.out⟩⟩
end Go.Proofs.Ytccabdgfjcjpoaa.X
