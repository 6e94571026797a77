/- Texts of this session joined into one: XF36, XF37, HShort, HOwn, HOpens, QTot, PureOctetsOwn. -/
import Derived.Test.YtclmikbbjhdplaaZSha
import Derived.Lib.ConvBytes
import Derived.Deep.Cut
import Derived.Test.YtclmikbbjhdplaaRows
import Derived.Deep.Slices
import Derived.ChangeSame
import Derived.SizedLaws
import Derived.ProofKit
-- Written by a program of this session (a turn of the kit's print with contracts by hand). Not trusted: Lean checks it.
namespace Go.Proofs.Ytclmikbbjhdplaa.X
open Go.RowKit Go.Proofs.YtclmikbbjhdplaaW.PrintWords Go.Proofs.YtclmikbbjhdplaaW.PrintLast Go.Proofs.YtclmikbbjhdplaaW.PrintMore
attribute [local go_sem] max2_int min2_int max_two min_two max_three min_three max_four min_four   -- for this text's walks alone
set_option linter.unusedVariables false
set_option linter.unusedSimpArgs false

/-! ### sha_Long: function 36 -/
def sha_Long.f (k : Nat) (l0 : List (List Int)) : Option (ByteArray) := (octets_Join.f k l0).bind fun t340 => ((sha_Sum.f t340).bind fun t343 => (some (strOfNums t343)))
theorem sha_Long.mono : ∀ a0 k, LeO (sha_Long.f k a0) (sha_Long.f (k + 1) a0) := by
  intro a0 k
  unfold sha_Long.f
  repeat' first
      | (with_reducible exact octets_Join.mono _ _)
      | (with_reducible exact LeO.refl _)
      | (with_reducible exact LeO.none _)
      | (with_reducible refine LeO.ite ?_ ?_)
      | (with_reducible refine LeO.bind ?_ (fun _ => ?_))
      | exact octets_Join.mono _ _
      | exact LeO.none _
      | refine LeO.ite ?_ ?_
      | refine LeO.bind ?_ (fun _ => ?_)
set_option maxHeartbeats 8000000 in
set_option maxRecDepth 100000 in
theorem sha_Long.calls (k : Nat) (A0 : Option Addr) (c0 : Nat) (l0 : List (List Int)) (r : ByteArray) (w : World) (hr0 : Kd.C (Kd.slice 5 (Kd.int .u8)) w A0 l0.length l0) (hc0 : l0.length ≤ c0) (h : sha_Long.f k l0 = some r) :
    Calls Try.prog 36 #[.slice A0 l0.length c0] w fun e w' => e = .returned (.string r) ∧ Below w.heap.size w w' := by
  have HR0 := Aside0.mk hr0
  have HC0 := Aside0.mk hc0
  clear hr0 hc0
  have HB := Aside0.mk (Below.refl w.heap.size w)
  have H : ((octets_Join.f k l0).bind fun t340 => ((sha_Sum.f t340).bind fun t343 => (some (strOfNums t343)))) = some r := h
  clear h
  replace H := Option.bind_eq_some_iff.mp H
  obtain ⟨t340, A20, H⟩ := H
  replace H : ((sha_Sum.f t340).bind fun t343 => (some (strOfNums t343))) = some r := H
  have A2 := Aside0.mk A20
  clear A20
  replace H := Option.bind_eq_some_iff.mp H
  obtain ⟨t343, A30, H⟩ := H
  replace H : (some (strOfNums t343)) = some r := H
  have A3 := Aside0.mk A30
  clear A30
  obtain rfl := Option.some.inj H
  go_enter Try.func36, Try.ntmps36
  go_wp2_with (first | ((with_reducible refine gate_callee (f := 20) rfl ?_); refine goesL_ (some 4) rfl rfl Try.func20 (by kernel_rfl) rfl #[.slice A0 l0.length c0] rfl (by (try simp only [List.map_toArray, List.map_cons, List.map_nil]); first | done | rfl | (simp only [List.length_drop, List.length_take]; rfl)) ?_; (with_reducible refine (octets_Join.calls k _ _ l0 t340 _ ?side1 ?side2 A2.out).mono ?_); (case side1 => repeat (first | exact HR0.out | (with_reducible refine Kd.C_alloc ?_ _) | (with_reducible refine Kd.C_drewN ?_ _) | (with_reducible refine Kd.C_drew ?_))); (case side2 => exact HC0.out); rintro e w4 ⟨v341, rfl, ho0, hb⟩; refine ⟨_, rfl, ?_⟩; have n0_ := Aside0.mk (Kd.R_lower ho0 (below_size (by repeat (first | (with_reducible first | exact HB.out | apply below_alloc | apply pw_below_drewN | apply below_drew1) | exact HB.out)))); have n1_ := Aside0.mk (below_step (by repeat (first | (with_reducible first | exact HB.out | apply below_alloc | apply pw_below_drewN | apply below_drew1) | exact HB.out)) hb); clear HB; have HO342 := n0_; have HB := n1_; clear n0_ n1_; (try clear hb); (try clear hb2); (try clear hk); (try clear hi); (try clear ho0); obtain ⟨Ao5, co5, eo5⟩ := Kd.R_slice HO342.out; subst eo5) | ((with_reducible refine gate_callee (f := 31) rfl ?_); refine goesL_ (some 5) rfl rfl Try.func31 (by kernel_rfl) rfl #[.slice Ao5 t340.length co5] rfl (by (try simp only [List.map_toArray, List.map_cons, List.map_nil]); first | done | rfl | (simp only [List.length_drop, List.length_take]; rfl)) ?_; (with_reducible refine (sha_Sum.calls _ _ t340 t343 _ ?side1 ?side2 A3.out).mono ?_); (case side1 => repeat (first | exact (Kd.R_reads' HO342.out).2.2 | (with_reducible refine Kd.C_alloc ?_ _) | (with_reducible refine Kd.C_drewN ?_ _) | (with_reducible refine Kd.C_drew ?_))); (case side2 => exact (Kd.R_reads' HO342.out).2.1); rintro e w6 ⟨v344, rfl, ho0, hb⟩; refine ⟨_, rfl, ?_⟩; have n0_ := Aside0.mk (Kd.R_elder' (by (with_reducible repeat (first | apply Kd.R_alloc | apply Kd.R_drewN | apply Kd.R_drew)); exact HO342.out) (Kd.R_base ho0) hb); have n1_ := Aside0.mk (Kd.R_lower (Kd.R_new' ho0 (Kd.R_lt (by (with_reducible repeat (first | apply Kd.R_alloc | apply Kd.R_drewN | apply Kd.R_drew)); exact HO342.out))) (below_size (by repeat (first | (with_reducible first | exact HB.out | apply below_alloc | apply pw_below_drewN | apply below_drew1) | exact HB.out)))); have n2_ := Aside0.mk (below_step (by repeat (first | (with_reducible first | exact HB.out | apply below_alloc | apply pw_below_drewN | apply below_drew1) | exact HB.out)) hb); clear HO342; clear HB; have HO342 := n0_; have HO345 := n1_; have HB := n2_; clear n0_ n1_ n2_; (try clear hb); (try clear hb2); (try clear hk); (try clear hi); (try clear ho0); have hcv7 := own_string (P := Try.prog) Try.underlying23 Try.underlying5 Try.underlying9 (Kd.own_of_R HO345.out)))
  go_ret
  exact ⟨by first | rfl | (simp [errW_none, errW_some] <;> rfl) | (simp [*, errW_none, errW_some] <;> rfl), by repeat (first | (with_reducible first | exact HB.out | apply below_alloc | apply pw_below_drewN | apply below_drew1) | exact HB.out)⟩

end Go.Proofs.Ytclmikbbjhdplaa.X
-- Written by a program of this session (a turn of the kit's print with contracts by hand). Not trusted: Lean checks it.
namespace Go.Proofs.Ytclmikbbjhdplaa.X
open Go.RowKit Go.Proofs.YtclmikbbjhdplaaW.PrintWords Go.Proofs.YtclmikbbjhdplaaW.PrintLast Go.Proofs.YtclmikbbjhdplaaW.PrintMore
attribute [local go_sem] max2_int min2_int max_two min_two max_three min_three max_four min_four   -- for this text's walks alone
set_option linter.unusedVariables false
set_option linter.unusedSimpArgs false

/-! ### sha_Short: function 37 -/
def sha_Short.f (k : Nat) (l0 : List (List Int)) : Option (ByteArray) := (sha_Long.f k l0).bind fun t346 => (if 0 ≤ 8 then (if 8 ≤ (t346.size : Int) then (some (t346.extract 0 8)) else (none)) else (none))
theorem sha_Short.mono : ∀ a0 k, LeO (sha_Short.f k a0) (sha_Short.f (k + 1) a0) := by
  intro a0 k
  unfold sha_Short.f
  repeat' first
      | (with_reducible exact sha_Long.mono _ _)
      | (with_reducible exact LeO.refl _)
      | (with_reducible exact LeO.none _)
      | (with_reducible refine LeO.ite ?_ ?_)
      | (with_reducible refine LeO.bind ?_ (fun _ => ?_))
      | exact sha_Long.mono _ _
      | exact LeO.none _
      | refine LeO.ite ?_ ?_
      | refine LeO.bind ?_ (fun _ => ?_)
set_option maxHeartbeats 8000000 in
set_option maxRecDepth 100000 in
theorem sha_Short.calls (k : Nat) (A0 : Option Addr) (c0 : Nat) (l0 : List (List Int)) (r : ByteArray) (w : World) (hr0 : Kd.C (Kd.slice 5 (Kd.int .u8)) w A0 l0.length l0) (hc0 : l0.length ≤ c0) (h : sha_Short.f k l0 = some r) :
    Calls Try.prog 37 #[.slice A0 l0.length c0] w fun e w' => e = .returned (.string r) ∧ Below w.heap.size w w' := by
  have HR0 := Aside0.mk hr0
  have HC0 := Aside0.mk hc0
  clear hr0 hc0
  have HB := Aside0.mk (Below.refl w.heap.size w)
  have H : ((sha_Long.f k l0).bind fun t346 => (if 0 ≤ 8 then (if 8 ≤ (t346.size : Int) then (some (t346.extract 0 8)) else (none)) else (none))) = some r := h
  clear h
  replace H := Option.bind_eq_some_iff.mp H
  obtain ⟨t346, A20, H⟩ := H
  replace H : (if 0 ≤ 8 then (if 8 ≤ (t346.size : Int) then (some (t346.extract 0 8)) else (none)) else (none)) = some r := H
  have A2 := Aside0.mk A20
  clear A20
  by_cases c3 : 0 ≤ 8
  · rw [if_pos c3] at H
    have c3b0 := eq_true c3
    have c3b1 : decide (0 ≤ 8) = true := decide_eq_true c3
    clear c3
    by_cases c4 : 8 ≤ (t346.size : Int)
    · rw [if_pos c4] at H
      have c4b0 := eq_true c4
      have c4b1 : decide (8 ≤ (t346.size : Int)) = true := decide_eq_true c4
      clear c4
      obtain rfl := Option.some.inj H
      go_enter Try.func37, Try.ntmps37
      go_wp2_with (first | ((with_reducible refine gate_callee (f := 36) rfl ?_); refine goesL_ (some 4) rfl rfl Try.func36 (by kernel_rfl) rfl #[.slice A0 l0.length c0] rfl (by (try simp only [List.map_toArray, List.map_cons, List.map_nil]); first | done | rfl | (simp only [List.length_drop, List.length_take]; rfl)) ?_; (with_reducible refine (sha_Long.calls k _ _ l0 t346 _ ?side1 ?side2 A2.out).mono ?_); (case side1 => repeat (first | exact HR0.out | (with_reducible refine Kd.C_alloc ?_ _) | (with_reducible refine Kd.C_drewN ?_ _) | (with_reducible refine Kd.C_drew ?_))); (case side2 => exact HC0.out); rintro e w5 ⟨rfl, hb⟩; refine ⟨_, rfl, ?_⟩; have n0_ := Aside0.mk (below_step (by repeat (first | (with_reducible first | exact HB.out | apply below_alloc | apply pw_below_drewN | apply below_drew1) | exact HB.out)) hb); clear HB; have HB := n0_; clear n0_; (try clear hb); (try clear hb2); (try clear hk); (try clear hi)))
      go_ret
      exact ⟨by first | rfl | (simp [errW_none, errW_some] <;> rfl) | (simp [*, errW_none, errW_some] <;> rfl), by repeat (first | (with_reducible first | exact HB.out | apply below_alloc | apply pw_below_drewN | apply below_drew1) | exact HB.out)⟩
    · rw [if_neg c4] at H
      exact absurd H (by simp)
  · rw [if_neg c3] at H
    exact absurd H (by simp)

end Go.Proofs.Ytclmikbbjhdplaa.X
/- Strings as octets, rows of rows, and what sha.Short comes to. -/
namespace Go.Proofs.Ytclmikbbjhdplaa.X
open Go.RowKit Go.Proofs.YtclmikbbjhdplaaW.PrintWords Go.Proofs.YtclmikbbjhdplaaW.PrintLast Go.Proofs.YtclmikbbjhdplaaW.PrintMore
set_option linter.unusedVariables false
set_option linter.unusedSimpArgs false

theorem bytesWorld_below (w : World) (e : TypeId) (s : ByteArray) : Below w.heap.size w (Lib.bytesWorld w e s) :=
  ⟨by simp [Lib.bytesWorld, World.freeze, World.alloc, World.drew, -World.alloc_eq, -World.drew_eq], by simp [Lib.bytesWorld, World.freeze, World.alloc, World.drew, -World.alloc_eq, -World.drew_eq], by simp [Lib.bytesWorld, World.freeze, World.alloc, World.drew, -World.alloc_eq, -World.drew_eq], by rw [Lib.bytesWorld_size]; omega, fun k hk => Lib.bytesWorld_at_old w e s k hk⟩
theorem bytesOf_at (s : ByteArray) (j : Nat) : (bytesOf s).getD j 0 = ((s.data.toList.getD j 0).toNat : Int) := by
  simp only [bytesOf, List.getD_eq_getElem?_getD, List.getElem?_map]
  cases s.data.toList[j]? <;> rfl
theorem bytesWorld_row (w : World) (e : TypeId) (s : ByteArray) (hs : s.size ≤ 9223372036854775807) : Kd.C (Kd.int .u8) (Lib.bytesWorld w e s) (some ⟨w.heap.size, 0, none⟩) (bytesOf s).length (bytesOf s) := by
  refine Kd.C_of_reads (d := (0 : Int)) (h1 := fun _ => rfl) ⟨rfl, by rw [bytesOf_length]; exact hs, fun _ => ⟨_, rfl, fun j hj => ?_⟩⟩
  rw [bytesOf_length] at hj
  rw [show (⟨w.heap.size, 0, none⟩ : Addr).add j = ⟨w.heap.size, j, none⟩ by simp only [Addr.add]; split <;> simp_all, Lib.bytesWorld_cell w e s j hj, bytesOf_at]
section
variable {ops : Array Oper} {rest : List Oper} {o : Oper} {a : Act} {Q : Exit → Act → World → Prop}
/-- A text turned into octets. -/
theorem str_ev {W : World} (hgd : o.guard = none) {N : Tmp} (hd : o.dst = some N) (x : Operand) (ho : o.op = .convert 9 23 x) (s : ByteArray) (hx : a.eval x = .string s) (hs : s.size ≤ 9223372036854775807)
    (h : ∀ w1 c, Below W.heap.size W w1 → (bytesOf s).length ≤ c → Kd.C (Kd.int .u8) w1 (some ⟨W.heap.size, 0, none⟩) (bytesOf s).length (bytesOf s) → wpList Try.prog ops Q rest (a.put o.dst (.slice (some ⟨W.heap.size, 0, none⟩) (bytesOf s).length c)) w1) : wpList Try.prog ops Q (o :: rest) a W := by
  have hr := Lib.run_convert_string_bytes (P := Try.prog) W 9 23 5 s Try.underlying9 Try.underlying23 Try.underlying5
  refine Kd.event_run hgd (v := .slice (some ⟨W.heap.size, 0, none⟩) (bytesOf s).length (grownCap W s.size 0 5)) (w1 := Lib.bytesWorld W 5 s) ?_ (h _ _ (bytesWorld_below _ _ _) ?_ (bytesWorld_row _ _ _ hs))
  · simp [execOp, ho, hx, hr, bytesOf_length, Result.andThen]
  · rw [bytesOf_length]
    exact grownCap_ge _ _ _ _
end
/-- Rows of octets: each value leads to its octets. -/
def RowsOf (W : World) : List Value → List (List Int) → Prop
  | [], [] => True
  | v :: vs, x :: xs => (∃ A c, v = .slice A x.length c ∧ x.length ≤ c ∧ Kd.C (Kd.int .u8) W A x.length x) ∧ RowsOf W vs xs
  | _, _ => False
theorem rows_nil {W : World} : RowsOf W [] [] := trivial
theorem rows_cons {W : World} {A : Option Addr} {c : Nat} {x : List Int} {vs : List Value} {xs : List (List Int)} (hc : x.length ≤ c) (hC : Kd.C (Kd.int .u8) W A x.length x) (h : RowsOf W vs xs) : RowsOf W (Value.slice A x.length c :: vs) (x :: xs) := ⟨⟨A, c, rfl, hc, hC⟩, h⟩
theorem RowsOf.at_ {W : World} : ∀ {vs : List Value} {xs : List (List Int)}, RowsOf W vs xs → vs.length = xs.length ∧ ∀ (j : Nat) (p : List Int), xs[j]? = some p → ∃ v : Value, vs[j]? = some v ∧ ∃ A c, v = Value.slice A p.length c ∧ p.length ≤ c ∧ Kd.C (Kd.int .u8) W A p.length p
  | [], [], _ => ⟨rfl, fun j p h => by simp at h⟩
  | v :: vs, x :: xs, h => by
    obtain ⟨h1, h2⟩ := RowsOf.at_ h.2
    refine ⟨by simp [h1], fun j p hp => ?_⟩
    cases j with
    | zero =>
      simp only [List.getElem?_cons_zero, Option.some.injEq] at hp
      subst hp
      exact ⟨v, rfl, h.1⟩
    | succ j => exact h2 j p (by simpa using hp)
  | [], _ :: _, h => h.elim
  | _ :: _, [], h => h.elim
theorem RowsOf.row {W : World} {vs : List Value} {xs : List (List Int)} (h : RowsOf W vs xs) {g : Nat} {t : TypeId} (hg : W.heap[g]? = some (.cells vs.toArray t (0, 0))) (hn : xs.length ≤ 9223372036854775807) : Kd.C (Kd.slice 5 (Kd.int .u8)) W (some ⟨g, 0, none⟩) xs.length xs := by
  obtain ⟨h1, h2⟩ := h.at_
  refine ⟨rfl, hn, fun _ => ⟨_, rfl, fun j p hp => ?_⟩⟩
  obtain ⟨v, hv, A, c, rfl, hc, hC⟩ := h2 j p hp
  refine ⟨[.slice A p.length c], rfl, ⟨A, c, rfl, hc, hC⟩, fun i u hu => ?_⟩
  have hi : i = 0 := by
    cases i with
    | zero => rfl
    | succ i => simp at hu
  subst hi
  simp only [List.getElem?_cons_zero, Option.some.injEq] at hu
  subst hu
  have hsz : (Kd.slice 5 (Kd.int .u8)).sz = 1 := rfl
  rw [hsz, Nat.mul_one, Nat.add_zero, show (⟨g, 0, none⟩ : Addr).add j = ⟨g, j, none⟩ by simp only [Addr.add]; split <;> simp_all, blk_cell hg]
  simpa using hv

/-- The first octets of a sum. -/
def shortB (l : List Int) : ByteArray := (strOfNums (sumL l)).extract 0 8
theorem short_f' (l : List (List Int)) (hl : l.length ≤ 8) (ht : tot l ≤ 140737488355000) (k : Nat) (hk : 20 ≤ k) : sha_Short.f k l = some (shortB l.flatten) := by
  unfold sha_Short.f sha_Long.f
  rw [join_f l (by omega) (by omega) k (by omega), Option.bind_some, sum_f _ (by rw [tot_flatten]; exact ht), Option.bind_some, Option.bind_some, if_pos (by omega), if_pos (by rw [strOfNums_size, sumL_len]; omega)]
  rfl
theorem short_f (l : List (List Int)) (hl : l.length ≤ 8) (ht : tot l ≤ 140737488355000) : sha_Short.f 20 l = some (shortB l.flatten) := short_f' l hl ht 20 (by omega)
theorem shortB_size (l : List Int) : (shortB l).size = 8 := by
  simp [shortB, ByteArray.size_extract, strOfNums_size, sumL_len]
end Go.Proofs.Ytclmikbbjhdplaa.X
/- The law OctetsOwn, walked. -/
namespace Go.Proofs.Ytclmikbbjhdplaa.X
open Go.RowKit Go.Proofs.YtclmikbbjhdplaaW.PrintWords Go.Proofs.YtclmikbbjhdplaaW.PrintLast Go.Proofs.YtclmikbbjhdplaaW.PrintMore
set_option linter.unusedVariables false
set_option linter.unusedSimpArgs false

/-- A row whose octets are being turned; all else stays. -/
structure TurnI (w w3 : World) (A : Option Addr) (n c : Nat) (W : World) : Prop where
  row : ∃ xs : List Int, xs.length = n ∧ Kd.R (Kd.int .u8) 5 W w.heap.size (fun _ => True) (.slice A n c) xs
  kept : ∀ k, (∀ ad, A = some ad → k ≠ ad.block) → W.heap[k]? = w3.heap[k]?
  size : W.heap.size = w3.heap.size
  below : Below w.heap.size w W
theorem TurnI.open {w w3 W : World} {A : Option Addr} {n c : Nat} (h : TurnI w w3 A n c W) (hn : 0 < n) : ∃ g cur, A = some ⟨g, 0, none⟩ ∧ w.heap.size ≤ g ∧ W.heap[g]? = some (.cells cur 5 (0, 0)) ∧ ∀ i : Nat, i < n → ∃ x, W.cell? ⟨g, i, none⟩ = some (.int .u8 x) := by
  obtain ⟨xs, hl, hR⟩ := h.row
  subst hl
  obtain ⟨g, cap, cur, e, hg, hh, _, hC⟩ := lit_block hR hn
  injection e with e1 e2 e3
  refine ⟨g, cur, e1, hg, hh, fun i hi => ?_⟩
  obtain ⟨ad, e, hx⟩ := Kd.at_int hC (i : Int) (by omega) (by omega)
  cases e
  rw [Int.toNat_natCast, show (⟨g, 0, none⟩ : Addr).add i = ⟨g, i, none⟩ by simp only [Addr.add]; split <;> simp_all] at hx
  exact ⟨_, hx⟩
theorem TurnI.put {w w3 W : World} {g n c : Nat} (h : TurnI w w3 (some ⟨g, 0, none⟩) n c W) (hg : w.heap.size ≤ g) (i : Nat) (x : Int) : TurnI w w3 (some ⟨g, 0, none⟩) n c (W.setCell ⟨g, i, none⟩ (.int .u8 x)) := by
  obtain ⟨xs, hl, hR⟩ := h.row
  subst hl
  have h1 := Kd.R_put hR (i : Int) x
  rw [Int.toNat_natCast] at h1
  refine ⟨⟨xs.set i x, by simp, h1.1⟩, fun k hk => ?_, by rw [World.size_setCell]; exact h.size, below_set h.below hg⟩
  have hkg : k ≠ g := hk ⟨g, 0, none⟩ rfl
  exact (Below.heap_setCell W ⟨g, i, none⟩ _ k hkg).trans (h.kept k hk)
def mootlaw01_OctetsOwn.f (l0 l1 : List Int) : Option Bool := if l0.length + l1.length ≤ 1048576 then some true else none
set_option maxRecDepth 100000 in
set_option maxHeartbeats 4000000 in
theorem mootlaw01_OctetsOwn.calls (A0 : Option Addr) (c0 : Nat) (l0 : List Int) (A1 : Option Addr) (cc1 : Nat) (l1 : List Int) (r : Bool) (w : World) (hr0 : Kd.C (Kd.int .u8) w A0 l0.length l0) (hc0 : l0.length ≤ c0) (hr1 : Kd.C (Kd.int .u8) w A1 l1.length l1) (hc1 : l1.length ≤ cc1) (h : mootlaw01_OctetsOwn.f l0 l1 = some r) :
    Calls Try.prog 5 #[.slice A0 l0.length c0, .slice A1 l1.length cc1] w fun e w' => e = .returned (.bool r) ∧ Below w.heap.size w w' := by
  unfold mootlaw01_OctetsOwn.f at h
  by_cases hs : l0.length + l1.length ≤ 1048576
  · rw [if_pos hs] at h
    obtain rfl := Option.some.inj h
    have hj := join_f [l0, l1] (by simp) (by simp only [tot_cons, show tot [] = 0 from rfl]; omega) 20 (by simp)
    obtain ⟨y, hy⟩ : ∃ y, l0 ++ l1 = y := ⟨_, rfl⟩
    have hyl : y.length = l0.length + l1.length := by rw [← hy, List.length_append]
    have hst : strOfNums l0 ++ strOfNums l1 = strOfNums y := by
      rw [← hy]
      apply ByteArray.ext
      simp [strOfNums, ByteArray.data_append]
    rw [show ([l0, l1] : List (List Int)).flatten = y by simp [hy]] at hj
    have HJ := Lib.hid hj
    have HYL := Lib.hid hyl
    have HST := Lib.hid hst
    have HS := Lib.hid hs
    have HR0 := Lib.hid hr0
    have HR1 := Lib.hid hr1
    have HC0 := Lib.hid hc0
    have HC1 := Lib.hid hc1
    clear h hj hy hyl hst hs hr0 hr1 hc0 hc1
    go_enter Try.func5, Try.ntmps5
    go_wp2_with (first | (go_at_call 15; go_must ((with_reducible refine (mootlaw01_alive.calls true _ (by decide +kernel)).mono ?_); rintro e w1 ⟨rfl, hb⟩; have B1 := hb; clear hb)) | ((with_reducible refine gate_dst (N := 12) rfl ?_); refine Kd.R_lit (Kd.int .u8) w.heap.size 5 ?hg (N := 12) ?hd (xs := ([] : List Int)) (inner := []) (ok := fun _ => True) (okp := fun _ => True) ?hr ?hp (fun _ hk => hk) trivial B1 B1.size (by simp) ?_; (case hd => rfl); (case hg => rfl); (case hr => first | (go_simp; done) | (go_simp; rfl)); (case hp => exact Reps.none _ _); intro v5 w2 ho B2 hg_ hnew_; clear hg_ hnew_ B1) | ((with_reducible refine gate_builtin (b := .append) (xs := #[.tmp 12, .tmp 13]) rfl ?_); at_builtin; refine Kd.R_append_rows (Kd.int .u8) (w0 := w) w.heap.size rfl (.tmp 12) (.tmp 13) 23 5 (.int .u8 0) 1 rfl Try.underlying23 info5 rfl (by decide) (by decide) v5 [] l0 A0 l0.length c0 (fun _ => True) (fun _ => False) rfl rfl ho (Kd.C_below HR0.out B2) (fun x cs hp => hp) (fun _ hk => hk.elim) (fun _ _ => trivial) B2 B2.size (by have := HS.out; simp; omega) ?_; intro v1 w3 hR3 B3 hg3 hat3; rw [List.nil_append] at hR3; obtain ⟨A3, c3, rfl⟩ := Kd.R_slice hR3; have C3 := (Kd.R_reads' hR3).2.2; have hc3 := (Kd.R_reads' hR3).2.1; clear ho B2 hg3 hat3) | (go_at_call 20; go_must (refine (octets_Join.calls 20 _ _ [l0, l1] y _ (RowsOf.row (rows_cons hc3 (Kd.C_alloc C3 _) (rows_cons HC1.out (Kd.C_alloc (Kd.C_below HR1.out B3) _) rows_nil)) (blk_new _ _) (by simp)) (Nat.le_refl _) HJ.out).mono ?_; rintro e w4 ⟨v4, rfl, ho, hb⟩; obtain ⟨A4, c4, rfl⟩ := Kd.R_slice ho; have B4 := Lib.hid (below_step (below_alloc B3 _) hb); have R4 := Lib.hid (Kd.R_below (Kd.R_alloc hR3 _) hb); have S4 := Lib.hid (Kd.F_bound (Kd.R_F (Kd.R_mono (Kd.R_bound ho) (fun k hk => hk.2.1)))); have L4 := Lib.hid (Kd.R_lt hR3); clear ho hb B3 hR3 C3 hc3)))
    have hT : TurnI w w4 A3 l0.length c3 w4 := ⟨⟨l0, rfl, R4.out⟩, fun _ _ => rfl, rfl, B4.out⟩
    have HT := Lib.hid hT
    clear hT
    go_loopg [7] (l0.length + 1) (fun kq v7 w' => ∃ i : Nat, v7 = .int .i64 (i : Int) ∧ Hid (i ≤ l0.length ∧ kq + i = l0.length + 1) ∧ Hid (TurnI w w4 A3 l0.length c3 w'))
    case atStart => exact ⟨0, rfl, Lib.hid ⟨by omega, rfl⟩, HT⟩
    case round =>
      clear HT
      obtain ⟨i, rfl, hi, hI⟩ := hrel
      by_cases ci : i < l0.length
      · have c1 : decide ((i : Int) < (l0.length : Int)) = true := decide_eq_true (by omega)
        have c2 : decide (i < l0.length) = true := decide_eq_true ci
        obtain ⟨g, cur, rfl, hg, hh, hcell⟩ := hI.out.open (by omega)
        obtain ⟨x, hx⟩ := hcell i ci
        have hf := blk_frozen hh i
        have p0 : (0 ≤ (i : Int)) = True := eq_true (by omega)
        have p1 : ((i : Int) < (l0.length : Int)) = True := eq_true (by omega)
        have q1 : (i < l0.length) = True := eq_true ci
        have a1 : (⟨g, 0, none⟩ : Addr).add i = ⟨g, i, none⟩ := by simp only [Addr.add]; split <;> simp_all
        have HCI := Lib.hid ci
        have HG := Lib.hid hg
        clear hh hcell ci hg
        go_wp2
        obtain ⟨k1, rfl⟩ : ∃ k1, gk = k1 + 1 := ⟨gk - 1, by have := hi.out; omega⟩
        have hN := Lib.hid (hI.out.put HG.out i ((x + 1) % 256))
        go_roundg k1
        case measure => omega
        case rel => exact ⟨i + 1, congrArg (Value.int .i64) (by have := hi.out; have := HS.out; have := HCI.out; unfold wrap64; omega), Lib.hid ⟨HCI.out, by have := hi.out; omega⟩, hN⟩
      · have c1 : decide ((i : Int) < (l0.length : Int)) = false := decide_eq_false (by omega)
        have c2 : decide (i < l0.length) = false := decide_eq_false ci
        obtain ⟨xs, hxl, hxR⟩ := hI.out.row
        have hxj := join_f [xs] (by simp) (by simp only [tot_cons, show tot [] = 0 from rfl]; have := HS.out; omega) 20 (by simp)
        rw [show ([xs] : List (List Int)).flatten = xs by simp] at hxj
        have CX := (Kd.R_reads' (hxl ▸ hxR : Kd.R (Kd.int .u8) 5 wr w.heap.size (fun _ => True) (.slice A3 xs.length c3) xs)).2
        have FC : Kd.F (Kd.int .u8) wr (fun k => (w3.heap.size ≤ k) ∧ k < wr.heap.size) A4 y.length y := by
          have h4 := hI.out.size
          refine Kd.F_mono (Kd.F_step S4.out (fun k hk hlt => hI.out.kept k (fun ad e => ?_))) (fun k hk => ⟨by have := hk.1; rw [World.size_alloc] at this; omega, by rw [h4]; exact hk.2⟩)
          have h5 := L4.out ad.block (by rw [e]; rfl)
          have h6 := hk.1
          rw [World.size_alloc] at h6
          omega
        have HXL := Lib.hid hxl
        have HXJ := Lib.hid hxj
        have HFC := Lib.hid FC
        have HCX := Lib.hid CX
        have HBW := Lib.hid hI.out.below
        rw [← hxl] at c1 c2 ⊢
        clear hxl hxR hxj FC CX hI hi ci S4 L4
        go_wp2_with (go_at_call 20; go_must (refine (octets_Join.calls 20 _ _ [xs] xs _ (RowsOf.row (rows_cons HCX.out.1 (Kd.C_alloc HCX.out.2 _) rows_nil) (blk_new _ _) (by simp)) (Nat.le_refl _) HXJ.out).mono ?_; rintro e w5 ⟨v5, rfl, ho, hb⟩; obtain ⟨A5, c5, rfl⟩ := Kd.R_slice ho; have B5 := Lib.hid (below_step (below_alloc HBW.out _) hb); have S5 := Lib.hid ho; have F5 := Lib.hid (Kd.F_below (Kd.F_alloc HFC.out _) hb); have T5 := Lib.hid hb; clear ho hb))
        have hT5 : TurnI w w5 A5 xs.length c5 w5 := ⟨⟨xs, rfl, Kd.R_lower S5.out (by rw [World.size_alloc]; have := HBW.out.size; omega)⟩, fun _ _ => rfl, rfl, B5.out⟩
        have L5 : Hid (∀ ad, A5 = some ad → wr.heap.size ≤ ad.block) := Lib.hid (fun ad e => by
          have h1 := Kd.R_base S5.out ad.block (by rw [e]; rfl)
          rw [World.size_alloc] at h1
          omega)
        have HT5 := Lib.hid hT5
        clear hT5
        go_loopg [9] (xs.length + 1) (fun kq v9 w' => ∃ i : Nat, v9 = .int .i64 (i : Int) ∧ Hid (i ≤ xs.length ∧ kq + i = xs.length + 1) ∧ Hid (TurnI w w5 A5 xs.length c5 w'))
        case atStart => exact ⟨0, rfl, Lib.hid ⟨by omega, rfl⟩, HT5⟩
        case round =>
          clear HT5 c1 c2
          obtain ⟨j, rfl, hi, hI⟩ := hrel
          by_cases ci : j < xs.length
          · have c1 : decide ((j : Int) < (xs.length : Int)) = true := decide_eq_true (by omega)
            have c2 : decide (j < xs.length) = true := decide_eq_true ci
            obtain ⟨g, cur, rfl, hg, hh, hcell⟩ := hI.out.open (by omega)
            obtain ⟨x, hx⟩ := hcell j ci
            have hf := blk_frozen hh j
            have p0 : (0 ≤ (j : Int)) = True := eq_true (by omega)
            have p1 : ((j : Int) < (xs.length : Int)) = True := eq_true (by omega)
            have q1 : (j < xs.length) = True := eq_true ci
            have a1 : (⟨g, 0, none⟩ : Addr).add j = ⟨g, j, none⟩ := by simp only [Addr.add]; split <;> simp_all
            have HCI := Lib.hid ci
            have HG := Lib.hid hg
            clear hh hcell ci hg
            go_wp2
            obtain ⟨k1, rfl⟩ : ∃ k1, gk = k1 + 1 := ⟨gk - 1, by have := hi.out; omega⟩
            have hN := Lib.hid (hI.out.put HG.out j ((x + 1) % 256))
            go_roundg k1
            case measure => omega
            case rel => exact ⟨j + 1, congrArg (Value.int .i64) (by have := hi.out; have := HS.out; have := HCI.out; have := HXL.out; unfold wrap64; omega), Lib.hid ⟨HCI.out, by have := hi.out; omega⟩, hN⟩
          · have c1 : decide ((j : Int) < (xs.length : Int)) = false := decide_eq_false (by omega)
            have c2 : decide (j < xs.length) = false := decide_eq_false ci
            have F6 := Kd.F_now (Kd.F_step F5.out (fun k hk hlt => hI.out.kept k (fun ad e => by have := L5.out ad e; have := hk.2; omega)))
            have s1 := Kd.C_string (P := Try.prog) Try.underlying23 Try.underlying5 Try.underlying9 (c := c4) F6
            have s2 := Kd.C_string (P := Try.prog) Try.underlying23 Try.underlying5 Try.underlying9 (c := c0) (Kd.C_below HR0.out hI.out.below)
            have s3 := Kd.C_string (P := Try.prog) Try.underlying23 Try.underlying5 Try.underlying9 (c := cc1) (Kd.C_below HR1.out hI.out.below)
            have hst := HST.out
            rw [HXL.out.symm] at s2
            have hlim : (9223372036854775807 < (strOfNums l0).size + (strOfNums l1).size) = False := eq_false (by rw [strOfNums_size, strOfNums_size]; have := HS.out; omega)
            have HBB := Lib.hid hI.out.below
            clear F6 ci hI hi
            go_wp2
            all_goals go_ret
            all_goals exact ⟨by simp, HBB.out⟩
  · rw [if_neg hs] at h
    cases h
end Go.Proofs.Ytclmikbbjhdplaa.X
/- Arguments opened: what reads as data of a kind stands in memory as the print's words say it. -/
namespace Go.Proofs.Ytclmikbbjhdplaa.X
open Go.ChangeShapes Go.WideShapes Go.Deep
open Go.RowKit Go.Proofs.YtclmikbbjhdplaaW.PrintWords Go.Proofs.YtclmikbbjhdplaaW.PrintLast Go.Proofs.YtclmikbbjhdplaaW.PrintMore
set_option linter.unusedVariables false
set_option linter.unusedSimpArgs false

section
variable {H : Type} {enc : TypeId × Value → H} {P : Program} {w : World}

/-- What reads as data of type t is of kind d: some x, well formed, whose measure is at most the datum's bulk. -/
def Opens {α : Type} (enc : TypeId × Value → H) (P : Program) (w : World) (t : TypeId) (d : Kd α) (wf : α → Prop) (μ : α → Nat) : Prop :=
  ∀ (n : Nat) (cs : List Value) (y : DataW H × List MemPlace), DataW.trod enc P w 0 (fun _ => true) true n t cs = some y → ∃ x, d.K w x cs ∧ wf x ∧ μ x ≤ Rows.uptoBulk y.1

theorem Opens.int {t : TypeId} {k : IntKind} (hu : P.underlying t = some (.int k)) : Opens enc P w t (Kd.int k) (fun x => (Lit.int k x).wf = true) (fun _ => 1) := fun n cs y h => by
  obtain ⟨x, rfl, rfl, hw⟩ := DataW.trod_int hu h
  exact ⟨x, rfl, hw, by simp [Rows.uptoBulk]⟩
theorem Opens.bool {t : TypeId} (hu : P.underlying t = some .bool) : Opens enc P w t Kd.bool (fun _ => True) (fun _ => 1) := fun n cs y h => by
  obtain ⟨x, rfl, rfl⟩ := DataW.trod_bool hu h
  exact ⟨x, rfl, trivial, by simp [Rows.uptoBulk]⟩
theorem Opens.string {t : TypeId} (hu : P.underlying t = some .string) : Opens enc P w t Kd.string (fun _ => True) (fun s => s.size + 1) := fun n cs y h => by
  obtain ⟨x, rfl, rfl, hw⟩ := DataW.trod_string hu h
  exact ⟨x, rfl, trivial, by simp [Rows.uptoBulk]⟩

def sumM {α : Type} (μ : α → Nat) : List α → Nat
  | [] => 0
  | x :: l => μ x + sumM μ l
theorem sumM_append {α : Type} (μ : α → Nat) (l r : List α) : sumM μ (l ++ r) = sumM μ l + sumM μ r := by
  induction l with
  | nil => simp [sumM]
  | cons x l ih => simp only [List.cons_append, sumM, ih]; omega
theorem sumM_mem {α : Type} (μ : α → Nat) {l : List α} {x : α} (h : x ∈ l) : μ x ≤ sumM μ l := by
  induction l with
  | nil => cases h
  | cons y l ih =>
    simp only [sumM]
    rcases List.mem_cons.1 h with rfl | h
    · omega
    · have := ih h; omega
theorem sumM_len {α : Type} (μ : α → Nat) (hμ : ∀ x, 1 ≤ μ x) (l : List α) : l.length ≤ sumM μ l := by
  induction l with
  | nil => simp [sumM]
  | cons x l ih => have := hμ x; simp only [sumM, List.length_cons]; omega
theorem bulkAll_append (l r : List (DataW H)) : Rows.uptoBulkAll (l ++ r) = Rows.uptoBulkAll l + Rows.uptoBulkAll r := by
  induction l with
  | nil => simp [Rows.uptoBulkAll]
  | cons x l ih => simp only [List.cons_append, Rows.uptoBulkAll, ih]; omega
theorem sumM_range {α : Type} (μ : α → Nat) (X : Nat → α) (D : Nat → DataW H) : ∀ n, (∀ i, i < n → μ (X i) ≤ Rows.uptoBulk (D i)) → sumM μ ((List.range n).map X) ≤ Rows.uptoBulkAll ((List.range n).map D)
  | 0, _ => by simp [sumM]
  | n + 1, h => by
    have ih := sumM_range μ X D n (fun i hi => h i (by omega))
    have := h n (by omega)
    rw [List.range_succ, List.map_append, List.map_append, sumM_append, bulkAll_append]
    simp only [List.map_cons, List.map_nil, sumM, Rows.uptoBulkAll]
    omega

theorem Opens.slice {α : Type} [Inhabited α] {t e : TypeId} {d : Kd α} {wf : α → Prop} {μ : α → Nat} (ht : P.underlying t = some (.slice e)) (hsz : P.cellsOf e = d.sz) (h : Opens enc P w e d wf μ) :
    Opens enc P w t (Kd.slice e d) (fun xs => ∀ x ∈ xs, wf x) (fun xs => sumM μ xs + 1) := fun n cs y hy => by
  rcases open_slice ht hy with ⟨rfl, rfl⟩ | ⟨a, len, cap, m, n', D, Pl, rfl, _, hl, hm, hmm, rfl, hi⟩
  · exact ⟨[], ⟨none, 0, rfl, Nat.le_refl _, Kd.C_nil d w⟩, (fun x hx => by cases hx), by simp [Rows.uptoBulk, sumM]⟩
  · have hm' : m = cap := by simpa using hmm
    subst hm'
    obtain ⟨X, hX⟩ := choose_lt (α := α) (p := fun i x => ∃ cs', w.cells? 0 (a.add (i * P.cellsOf e)) (P.cellsOf e) = some cs' ∧ d.K w x cs' ∧ wf x ∧ μ x ≤ Rows.uptoBulk (D i)) (fun i hlt => by
      obtain ⟨cs', h1, h2⟩ := hi i hlt
      obtain ⟨x, k1, k2, k3⟩ := h n' cs' _ h2
      exact ⟨x, cs', h1, k1, k2, k3⟩)
    have hm63 : m ≤ 9223372036854775807 := by simpa [maxLen] using hm
    refine ⟨(List.range len).map X, ⟨some a, m, by simp, by simpa using hl, by simp, by simp; omega, fun _ => ⟨a, rfl, fun j p hj => ?_⟩⟩, ?_, ?_⟩
    · have hjl : j < len := by have := (List.getElem?_eq_some_iff.1 hj).1; simpa using this
      have hp : p = X j := by simpa [hjl] using hj.symm
      subst hp
      obtain ⟨cs', h1, k1, _, _⟩ := hX j (by omega)
      obtain ⟨_, hlen, hc⟩ := World.cells?_some h1
      rw [hsz] at hlen hc
      refine ⟨cs', hlen, k1, fun i u hu => ?_⟩
      have hil : i < d.sz := by have := (List.getElem?_eq_some_iff.1 hu).1; omega
      rw [← Go.Deep.add_add, hc i hil]
      exact hu
    · intro x hx
      obtain ⟨i, hi', rfl⟩ := List.mem_map.1 hx
      obtain ⟨_, _, _, k2, _⟩ := hX i (by have := List.mem_range.1 hi'; omega)
      exact k2
    · have := sumM_range μ X D len (fun i hi' => by obtain ⟨_, _, _, _, k3⟩ := hX i (by omega); exact k3)
      simp only [Rows.uptoBulk]
      omega

/-- A top argument that is a slice. -/
theorem Opens.arg_slice {α : Type} {t e : TypeId} {d : Kd α} {wf : List α → Prop} {μ : List α → Nat} {a : Option Addr} {len cap : Nat} {D : DataW H} {ps : List MemPlace}
    (h : Opens enc P w t (Kd.slice e d) wf μ) (ht : DataW.Trod enc P w 0 (fun _ => true) true t (.slice a len cap) D ps) : ∃ xs, len = xs.length ∧ len ≤ cap ∧ d.C w a xs.length xs ∧ wf xs ∧ μ xs ≤ Rows.uptoBulk D := by
  obtain ⟨fuel, hf⟩ := ht
  obtain ⟨xs, ⟨A, c, he, hc, hC⟩, h2, h3⟩ := h fuel _ _ hf
  simp [Value.cells] at he
  obtain ⟨rfl, rfl, rfl⟩ := he
  exact ⟨xs, rfl, hc, hC, h2, h3⟩
/-- .. and no longer than its weight allows. -/
theorem sized_any {t e : TypeId} {a : Option Addr} {len cap : Nat} {d : DataW H} {ps : List MemPlace} {ts : List TypeId} {ds : List (DataW H)} {j : Nat}
    (hsz : (DataW.weightsEach P ts ds).all (· ≤ reachBytes) = true) (ht : ts[j]? = some t) (hd : ds[j]? = some d) (hu : P.underlying t = some (.slice e)) {B : Nat} (hB : P.bytesOf e = B)
    (h : DataW.Trod enc P w 0 (fun _ => true) true t (.slice a len cap) d ps) : cap * B ≤ 140737488351232 := by
  obtain ⟨fuel, hf⟩ := h
  rcases open_slice hu hf with ⟨hcs, _⟩ | ⟨a', len', cap', m, n', D, Pl, hcs, _, hl, hm, hmm, hx, _⟩
  · simp [Value.cells] at hcs
    obtain ⟨rfl, rfl, rfl⟩ := hcs
    simp
  · simp [Value.cells] at hcs
    obtain ⟨rfl, rfl, rfl⟩ := hcs
    have hm' : m = cap := by simpa using hmm
    subst hm'
    simp only [Prod.mk.injEq] at hx
    obtain ⟨rfl, _⟩ := hx
    have z := sized_slice hsz ht hd hu
    rw [hB] at z
    have e1 : ((List.range len).map D).length + ((List.range (m - len)).map fun j => D (len + j)).length = m := by simp; omega
    rw [e1] at z
    exact z
end
end Go.Proofs.Ytclmikbbjhdplaa.X
/- How many octets there are, by an argument's bulk. -/
namespace Go.Proofs.Ytclmikbbjhdplaa.X
open Go.RowKit Go.Proofs.YtclmikbbjhdplaaW.PrintWords Go.Proofs.YtclmikbbjhdplaaW.PrintLast Go.Proofs.YtclmikbbjhdplaaW.PrintMore
theorem sum_ones {α : Type} : ∀ l : List α, sumM (fun _ => 1) l = l.length
  | [] => rfl
  | x :: l => by rw [sumM, sum_ones l, List.length_cons]; omega
theorem bulk_rows : ∀ l : List (List Int), tot l + l.length ≤ sumM (fun xs => sumM (fun _ => 1) xs + 1) l
  | [] => by simp [tot, sumM]
  | x :: l => by
    have := bulk_rows l
    rw [tot_cons, sumM, sum_ones x, List.length_cons]
    omega
end Go.Proofs.Ytclmikbbjhdplaa.X
/- The law OctetsOwn (second form): what is put together shares nothing with its parts. Its condition: what comes in is of bulk at most 1048576. -/
namespace Go.Proofs.Ytclmikbbjhdplaa.Pure
open Go.RowKit Go.Proofs.Ytclmikbbjhdplaa.X
set_option linter.unusedVariables false
theorem OctetsOwn (l0 l1 : List Int) (w0 : ∀ z ∈ l0, (Lit.int .u8 z).wf = true) (w1 : ∀ z ∈ l1, (Lit.int .u8 z).wf = true) (hb : sumM (fun _ => 1) l0 + 1 + (sumM (fun _ => 1) l1 + 1) ≤ 1048576) : mootlaw01_OctetsOwn.f l0 l1 = some true := by
  rw [sum_ones, sum_ones] at hb
  unfold mootlaw01_OctetsOwn.f
  rw [if_pos (by omega)]
end Go.Proofs.Ytclmikbbjhdplaa.Pure
