/- octets.Put: a number in so many octets. -/
import Derived.Test.YtclmikbbjhdplaaHBack
namespace Go.Proofs.Ytclmikbbjhdplaa.X
open Go.RowKit Go.Shelf Go.Proofs.YtclmikbbjhdplaaW.PrintWords Go.Proofs.YtclmikbbjhdplaaW.PrintLast Go.Proofs.YtclmikbbjhdplaaW.PrintMore
set_option linter.unusedVariables false
set_option linter.unusedSimpArgs false
attribute [local go_sem] Oper.semAt_some max2_int min2_int max_two min_two max_three min_three max_four min_four

theorem back_in (F : Fence) (n : Nat) (h49 : F.fn 49) (hro : F.round = none) (a : Option Addr) (len cap : Nat) (w : World) :
    CallsIn F n Try.prog 49 #[.slice a len cap] w fun e w' => e = .returned (.func (.func 62) #[] #[.pointer (some ⟨w.heap.size, 0, none⟩)]) ∧ w' = w.alloc (.cells #[.slice a len cap] 23) := by
  refine callsIn_of_wp Try.func49 rfl h49 ?_ hro
  simp only [Try.ntmps49, List.size_toArray, List.length_cons, List.length_nil, Nat.reduceAdd, Nat.reduceSub, Array.replicate_succ, Array.replicate_zero, List.push_toArray, List.append_toArray, List.nil_append, List.cons_append]
  gi_wp2
  go_ret
  exact ⟨rfl, rfl⟩

/-- The lowest octets of a number, the highest first. -/
def putL (u : Int) : Nat → List Int
  | 0 => []
  | k + 1 => (u / 256 ^ k % 256) :: putL u k
def octets_Put.f (a0 : Int) (a1 : Int) : Option (List Int) := some (putL (IntKind.u64.wrap a0) (mn (mx a1 0) 8).toNat)

def pstp (st : List Int × Int) (i : Nat) : List Int × Int := (st.1.set i (st.2 % 256), st.2 / 256)

theorem blk_own {W W' : World} {g : Nat} {t : TypeId} {cs : Array Value} {row : Option Nat} (h : W.heap[g]? = some (.cells cs t (0, 0))) (hg : W.grownBy W' row) (hr : ∀ r, row = some r → ∃ o : Obj, W.heap[r]? = some o ∧ o.isCells = false) : W'.heap[g]? = some (.cells cs t (0, 0)) :=
  blk_grown h hg (fun e => by obtain ⟨o, ho, hc⟩ := hr g e.symm; rw [h] at ho; cases ho; cases hc)

def putF (s : Nat) (u : Int) (is : List Nat) : List Int × Int := is.foldl pstp (List.replicate s 0, u)
theorem putF_snoc (s : Nat) (u : Int) (is : List Nat) (i : Nat) : putF s u (is ++ [i]) = pstp (putF s u is) i := by simp [putF]
theorem foldl_pstp (is : List Nat) : ∀ st : List Int × Int, (is.foldl pstp st).1.length = st.1.length ∧ (0 ≤ st.2 → st.2 < 18446744073709551616 → 0 ≤ (is.foldl pstp st).2 ∧ (is.foldl pstp st).2 < 18446744073709551616) := by
  induction is with
  | nil => intro st; exact ⟨rfl, fun a b => ⟨a, b⟩⟩
  | cons i is ih =>
    intro st
    obtain ⟨h1, h2⟩ := ih (pstp st i)
    refine ⟨by rw [List.foldl_cons, h1]; simp [pstp], fun a b => ?_⟩
    rw [List.foldl_cons]
    exact h2 (by simp only [pstp]; omega) (by simp only [pstp]; omega)
theorem putF_len (s : Nat) (u : Int) (is : List Nat) : (putF s u is).1.length = s := by unfold putF; rw [(foldl_pstp is _).1]; simp
theorem putF_nonneg (s : Nat) (u : Int) (hu : 0 ≤ u ∧ u < 18446744073709551616) (is : List Nat) : 0 ≤ (putF s u is).2 ∧ (putF s u is).2 < 18446744073709551616 := (foldl_pstp is _).2 hu.1 hu.2
/-- From the last place on to the first one: the octets. -/
theorem putF_all (s : Nat) (u : Int) : ∀ k, k ≤ s → putF s u (((List.range s).reverse).take k) = (List.replicate (s - k) 0 ++ putL u k, u / 256 ^ k) := by
  intro k
  induction k with
  | zero => intro _; simp [putF, putL]
  | succ k ih =>
    intro hk
    rw [List.take_succ_eq_append_getElem (by simp; omega), putF_snoc, ih (by omega)]
    simp only [pstp, List.getElem_reverse, List.length_range, List.getElem_range, putL]
    have e1 : s - k = (s - (k + 1)) + 1 := by omega
    have e2 : s - 1 - k = s - (k + 1) := by omega
    refine Prod.ext ?_ ?_
    · simp only [e2]
      rw [e1, List.replicate_succ', List.append_assoc, List.set_append_right _ _ (by simp)]
      simp
    · simp only
      rw [Int.pow_succ, Int.ediv_ediv_of_nonneg (by exact Int.pow_nonneg (by omega))]
theorem putF_end (s : Nat) (u : Int) (ys : List {x : Nat × Int // x.1 < s}) (h : Came s 0 ys) : (putF s u (ys.map (fun y => y.1.1))).1 = putL u s := by
  rw [h.2, Nat.sub_zero, putF_all s u s (Nat.le_refl _)]
  simp

/-- What the loop over the octets keeps. -/
structure PutInv (w : World) (s : Nat) (u : Int) (is : List Nat) (W : World) : Prop where
  row : W.heap[w.heap.size]? = some (.cells (nums .u8 (putF s u is).1).toArray 5 (0, 0))
  box : W.heap[w.heap.size + 1]? = some (.cells #[.slice (some ⟨w.heap.size, 0, none⟩) s s] 23 (0, 0))
  num : W.heap[w.heap.size + 1 + 1]? = some (.cells #[.int .u64 (putF s u is).2] 58 (0, 0))
  seq : W.heap[w.heap.size + 1 + 1 + 1]? = some (.cells #[.slice (some ⟨w.heap.size, 0, none⟩) s s] 23 (0, 0))

theorem putL_len (u : Int) : ∀ s, (putL u s).length = s
  | 0 => rfl
  | s + 1 => by simp [putL, putL_len u s]
theorem R_of_blk {W : World} {g e base cap : Nat} {k : IntKind} {ok : Nat → Prop} {xs : List Int} (h : W.heap[g]? = some (.cells (nums k xs).toArray e (0, 0))) (hb : base ≤ g) (hc : xs.length = cap) (hm : cap ≤ 9223372036854775807) (hok : ∀ k, ok k) :
    Kd.R (Kd.int k) e W base ok (.slice (some ⟨g, 0, none⟩) xs.length cap) xs := by
  subst hc
  refine Kd.R_of_own (enc := Value.int k) ⟨by simp [encs], .inr ⟨g, xs.length, _, rfl, hb, h, Nat.le_refl _, by simpa [maxLen] using hm, by simp [nums], ?_⟩⟩ (fun k _ => hok k)
  simp [nums, encs, List.take_of_length_le]

theorem nums_set (k : IntKind) (xs : List Int) (i : Nat) (x : Int) : (nums k xs).toArray.setIfInBounds i (.int k x) = (nums k (xs.set i x)).toArray := by
  simp [nums, List.map_set]
theorem PutInv.step {w : World} {s : Nat} {u : Int} {is : List Nat} {W : World} (h : PutInv w s u is W) (i : Nat) :
    PutInv w s u (is ++ [i]) ((W.setCell ⟨w.heap.size, i, none⟩ (.int .u8 ((putF s u is).2 % 256))).setCell ⟨w.heap.size + 1 + 1, 0, none⟩ (.int .u64 ((putF s u is).2 / 256))) := by
  rw [show w.heap.size + 1 + 1 = w.heap.size + 2 from rfl]
  refine ⟨?_, ?_, ?_, ?_⟩
  · refine blk_far ?_ (by dsimp only; omega) _
    rw [putF_snoc, pstp, ← nums_set]
    exact blk_set h.row i _
  · exact blk_far (blk_far h.box (by dsimp only; omega) _) (by dsimp only; omega) _
  · rw [putF_snoc, pstp]
    exact blk_set (blk_far h.num (by dsimp only; omega) _) 0 _
  · exact blk_far (blk_far h.seq (by dsimp only; omega) _) (by dsimp only; omega) _
theorem PutInv.bytes {w : World} {s : Nat} {u : Int} {is : List Nat} {W : World} (h : PutInv w s u is W) (j : Nat) (hj : j < s) : W.cell? ⟨w.heap.size, j, none⟩ = some (.int .u8 ((putF s u is).1[j]?.getD 0)) := by
  have hl0 := putF_len s u is
  rw [blk_cell h.row]
  simp only [nums, List.getElem?_toArray, List.getElem?_map]
  rw [List.getElem?_eq_getElem (by omega)]
  rfl

set_option maxRecDepth 100000 in
set_option maxHeartbeats 4000000 in
theorem octets_Put.calls (a0 : Int) (a1 : Int) (r : List Int) (w : World) (h : octets_Put.f a0 a1 = some r) :
    Calls Try.prog 16 #[.int .i64 a0, .int .i64 a1] w fun e w' => ∃ v0_ : Value, e = .returned (v0_) ∧ Kd.R (Kd.int .u8) 5 w' w.heap.size (fun _ => True) v0_ r ∧ Below w.heap.size w w' := by
  obtain ⟨m1, he1⟩ : ∃ m1 : Int, (if a1 < 0 then 0 else a1) = m1 := ⟨_, rfl⟩
  have hm0 : 0 ≤ m1 := by rw [← he1]; split <;> omega
  obtain ⟨s, he2, hs8⟩ : ∃ s : Nat, (if 8 < m1 then 8 else m1) = (s : Int) ∧ s ≤ 8 := ⟨(if 8 < m1 then 8 else m1).toNat, by split <;> omega, by split <;> omega⟩
  obtain rfl : putL (IntKind.u64.wrap a0) s = r := by
    have e : mn (mx a1 0) 8 = (s : Int) := by rw [← he2, ← he1]; unfold mn mx; rfl
    simpa [octets_Put.f, e] using h
  clear h
  have hmk := print_make (P := Try.prog) 23 5 .u8 1 Try.underlying23 info5 (by omega) s (by omega)
  refine callsIn_wide (n := 5).1 ?_
  have hro : Fence.wide.round = none := rfl
  have h1 : 1 ≤ 5 := by omega
  have h49 : Fence.wide.fn 49 := trivial
  have h62 : Fence.wide.fn 62 := trivial
  refine callsIn_of_wp_marks Try.func16 rfl trivial ?_ hro
  simp only [Try.ntmps16, List.size_toArray, List.length_cons, List.length_nil, Nat.reduceAdd, Nat.reduceSub, Array.replicate_succ, Array.replicate_zero, List.push_toArray, List.append_toArray, List.nil_append, List.cons_append]
  gi_wp2_with (gi_at_call 49; refine (back_in Fence.wide 4 h49 hro _ _ _ _).mono ?_; rintro e w' ⟨rfl, rfl⟩)
  obtain ⟨W0, hW0⟩ : ∃ W0, ((((w.alloc (Obj.cells (madeCells #[Value.int IntKind.u8 0] s) 5)).alloc (Obj.cells #[Value.slice (some { block := w.heap.size, off := 0 }) s s] 23)).alloc (Obj.cells #[Value.int IntKind.u64 (IntKind.u64.wrap a0)] 58)).alloc (Obj.cells #[Value.slice (some { block := w.heap.size, off := 0 }) s s] 23)) = W0 := ⟨_, rfl⟩
  rw [hW0]
  have hsz : W0.heap.size = w.heap.size + 4 := by rw [← hW0]; simp
  have hmc : madeCells #[Value.int IntKind.u8 0] s = (nums .u8 (List.replicate s 0)).toArray := by
    apply Array.ext'
    apply List.ext_getElem
    · simp [nums, madeCells]
    · intro i h1 h2
      simp [nums, madeCells, Nat.mod_one]
  have hI0 : PutInv w s (IntKind.u64.wrap a0) [] W0 := by
    rw [← hW0]
    have b0 := blk_new w (Obj.cells (madeCells #[Value.int IntKind.u8 0] s) 5)
    have b1 := blk_new (w.alloc (Obj.cells (madeCells #[Value.int IntKind.u8 0] s) 5)) (Obj.cells #[Value.slice (some { block := w.heap.size, off := 0 }) s s] 23)
    have b2 := blk_new ((w.alloc (Obj.cells (madeCells #[Value.int IntKind.u8 0] s) 5)).alloc (Obj.cells #[Value.slice (some { block := w.heap.size, off := 0 }) s s] 23)) (Obj.cells #[Value.int IntKind.u64 (IntKind.u64.wrap a0)] 58)
    have b3 := blk_new (((w.alloc (Obj.cells (madeCells #[Value.int IntKind.u8 0] s) 5)).alloc (Obj.cells #[Value.slice (some { block := w.heap.size, off := 0 }) s s] 23)).alloc (Obj.cells #[Value.int IntKind.u64 (IntKind.u64.wrap a0)] 58)) (Obj.cells #[Value.slice (some { block := w.heap.size, off := 0 }) s s] 23)
    simp only [World.size_alloc] at b1 b2 b3
    exact ⟨by rw [hmc] at b0 ⊢; exact blk_alloc (blk_alloc (blk_alloc b0 _) _) _, blk_alloc (blk_alloc b1 _) _, blk_alloc b2 _, b3⟩
  have hB0 : Below w.heap.size w W0 := by rw [← hW0]; exact below_alloc (below_alloc (below_alloc (below_alloc (Below.refl _ _) _) _) _) _
  have hu : 0 ≤ IntKind.u64.wrap a0 ∧ IntKind.u64.wrap a0 < 18446744073709551616 := by rw [IntKind.wrap_u64]; omega
  obtain ⟨u0, hu0⟩ : ∃ u0, IntKind.u64.wrap a0 = u0 := ⟨_, rfl⟩
  rw [hu0] at hI0 hu ⊢
  have HU := Lib.hid hu0
  clear hW0 he1 he2 hmk hmc hu0
  refine wpIn_rangeFunc_ownG hro h1 (gf := 62) (lb := #[.pointer (some ⟨w.heap.size + 1 + 1 + 1, 0, none⟩)]) rfl h62 (enters_of Try.func62 (by kernel_rfl) rfl)
    (encs := fun x : {x : Nat × Int // x.1 < s} => #[Value.int .i64 (x.1.1 : Int), Value.int .u8 x.1.2]) (Kp := KeepsBytes (w.heap.size + 1 + 1 + 1) w.heap.size s) (S := Came s 0) (Sp := fun _ => True) (N := s) (w0 := W0) ?seq ?kt ?kb (Below.refl _ _) (fun _ => rfl)
    (fun pre W => PutInv w s u0 (pre.map (fun y => y.1.1)) W ∧ Below w.heap.size w W)
    (fun _ _ _ => False)
    ?own (fun _ _ _ _ _ hs _ _ => hs) ⟨hI0, hB0⟩
    (fun x => { tmps := #[Value.int IntKind.i64 a0, Value.int IntKind.i64 a1, undef, undef, Value.slice none 0 0,
          Value.pointer (some { block := w.heap.size + 1, off := 0 }),
          Value.pointer (some { block := w.heap.size + 1 + 1, off := 0 }), Value.int .i64 (x.1.1 : Int), Value.int IntKind.i64 a1,
          Value.int IntKind.i64 m1, Value.int IntKind.i64 ↑s, Value.slice (some { block := w.heap.size, off := 0 }) s s,
          Value.int IntKind.i64 a0, Value.int IntKind.u64 u0,
          Value.slice (some { block := w.heap.size, off := 0 }) s s,
          Value.func (Fn.func 62) #[] #[Value.pointer (some { block := w.heap.size + 1 + 1 + 1, off := 0 })], Value.int .i64 (x.1.1 : Int),
          Value.int .u8 x.1.2, undef, undef, undef, undef, undef, undef, undef, undef], defers := [] }) ?assign ?body ?done ?stop
  case seq =>
    intro l J Jx W hW _ _ hY h0
    have e1 := hW.cell (p := ⟨w.heap.size + 1 + 1 + 1, 0, none⟩) (by simp [hsz])
    have e2 : ∀ j, j < s → ∃ v, W.cell? ⟨w.heap.size, j, none⟩ = some (.int .u8 v) := fun j hj => by
      rw [hW.cell (p := ⟨w.heap.size, j, none⟩) (by simp [hsz]), blk_cell hI0.row]
      have hl := putF_len s u0 []
      exact ⟨_, by simp only [nums, List.getElem?_toArray, List.getElem?_map]; rw [List.getElem?_eq_getElem (by simp only [List.map_nil] at *; omega)]; rfl⟩
    exact back1_in Fence.wide 4 h62 hro (by omega) l _ _ s s (by omega) J Jx hY W (e1.trans (blk_cell hI0.seq 0)) e2 h0
  case kt => exact fun h k => h.trans k
  case kb =>
    intro W l o o' hl ho hc hw
    exact KeepsBytes.of_grown (grownBy_putObj' W l o') (fun r e => by cases e; exact ⟨o, ho, hc⟩)
  case own =>
    exact OwnFrom.and (Own.from (fun s_ A B row hs hg hr => ⟨blk_own hs.row hg hr, blk_own hs.box hg hr, blk_own hs.num hg hr, blk_own hs.seq hg hr⟩) _) (ownFrom_below (Nat.le_refl _) (by omega))
  case assign =>
    intro l x W K hK
    gi_wp2
    exact hK
  case body =>
    rintro l pre ⟨⟨i, v⟩, hx⟩ W ⟨hI, hB⟩ _
    dsimp only at hx ⊢
    have hn0 := putF_nonneg s u0 hu (pre.map (fun y => y.1.1))
    have hl0 := putF_len s u0 (pre.map (fun y => y.1.1))
    have hi := hI.step i
    have hkb : KeepsBytes (w.heap.size + 1 + 1 + 1) w.heap.size s W ((W.setCell ⟨w.heap.size, i, none⟩ (.int .u8 ((putF s u0 (pre.map (fun y => y.1.1))).2 % 256))).setCell ⟨w.heap.size + 1 + 1, 0, none⟩ (.int .u64 ((putF s u0 (pre.map (fun y => y.1.1))).2 / 256))) :=
      ⟨fun v hv => by rw [blk_cell hI.seq] at hv; rw [blk_cell hi.seq]; exact hv, fun j hj _ => ⟨_, hi.bytes j hj⟩⟩
    have HI := Lib.hid hi
    have HKB := Lib.hid hkb
    clear hi hkb
    have c0 := hI.bytes i hx
    have f0 := blk_frozen hI.row i
    have c1 := blk_cell hI.box 0
    have c2 := blk_cell hI.num 0
    have f2 := blk_frozen hI.num 0
    generalize hst : putF s u0 (pre.map (fun y => y.1.1)) = st at *
    clear hst
    obtain ⟨L, u⟩ := st
    dsimp only at *
    gi_wp2
    refine ⟨((KeepsOthers.setCell _ _ _).trans (KeepsOthers.setCell _ _ _)).from _, HKB.out, ?_, below_set (below_set hB (Nat.le_refl _)) (by omega)⟩
    simpa using HI.out
  case done =>
    rintro D ys W hD hys ⟨hI, hB⟩ hK
    have hend := putF_end s u0 ys hys
    have hrow := hI.row
    rw [hend] at hrow
    have c1 := blk_cell hI.box 0
    have HR := Lib.hid hrow
    clear hrow hend
    gi_wp2
    refine ⟨by simp, .inl ⟨_, _, rfl, run_takeDeferred hK, ?_⟩⟩
    refine ⟨_, results_tmp rfl _ _ _, _, rfl, ?_, hB.trans (belowK_b (w := w) (Nat.le_refl _) W D _ _ (by omega) hK rfl rfl)⟩
    have hput : (W.putObj D (.deferred none)).heap[w.heap.size]? = some (.cells (nums .u8 (putL u0 s)).toArray 5 (0, 0)) := blk_own HR.out (grownBy_putObj' W D _) (fun r e => by cases e; exact ⟨_, hK, rfl⟩)
    have hlen : (putL u0 s).length = s := putL_len u0 s
    have := R_of_blk (k := .u8) (e := 5) (ok := fun _ => True) (base := w.heap.size) hput (Nat.le_refl _) (cap := s) (by omega) (by omega) (fun _ => trivial)
    rw [hlen] at this
    rw [HU.out]
    exact this
  case stop =>
    rintro D c pre W _ _ h _
    exact h.elim
end Go.Proofs.Ytclmikbbjhdplaa.X
