/- Texts of this session joined into one: QScan, HLists, HLParts, HRecover, XF34, XF41, XF53, HAlive30, XF45, HLScan, HRKind, HKept, XF25, HLKeeps, HRewrite, HLRewrites, HOpens, HLasts, HS45, HOpensS, HOpensR, PureCompactRewrites. -/
import Derived.Test.YtfdpbdaekfdnjaaZFrm
import Derived.Test.YtfdpbdaekfdnjaaZKeep
import Derived.StillTailTactics
import Derived.BigQuiet
import Derived.Deep.RegionHeld3
import Derived.Test.YtfdpbdaekfdnjaaRows
import Derived.Deep.Slices
import Derived.ChangeSame
import Derived.SizedLaws
import Derived.ProofKit
/- Frames, cut anywhere: the records that are whole come back. -/
namespace Go.Proofs.Ytfdpbdaekfdnjaa.X
open Go.RowKit Go.Proofs.YtfdpbdaekfdnjaaW.PrintWords Go.Proofs.YtfdpbdaekfdnjaaW.PrintLast Go.Proofs.YtfdpbdaekfdnjaaW.PrintMore
set_option linter.unusedVariables false
set_option linter.unusedSimpArgs false

/-- How many records more there is room for up to m. -/
def fits (m : Nat) : Nat → List (List Int) → Nat
  | _, [] => 0
  | at_, x :: r => if at_ + 3 + x.length ≤ m then fits m (at_ + 3 + x.length) r + 1 else 0
theorem fits_le (m : Nat) : ∀ (l : List (List Int)) (at_ : Nat), fits m at_ l ≤ l.length
  | [], _ => Nat.le_refl _
  | x :: r, at_ => by
    rw [fits]
    split
    · have := fits_le m r (at_ + 3 + x.length)
      rw [List.length_cons]
      omega
    · omega
theorem framesL_cons (x : List Int) (r : List (List Int)) : framesL (x :: r) = frameL x ++ framesL r := by simp [framesL]
theorem framesL_nil : framesL [] = [] := rfl
theorem fits_end (m : Nat) : ∀ (l : List (List Int)) (at_ : Nat), at_ ≤ m → at_ + (framesL (l.take (fits m at_ l))).length ≤ m
  | [], at_, h => by simpa [fits, framesL_nil] using h
  | x :: r, at_, h => by
    rw [fits]
    split
    · rename_i hc
      have := fits_end m r (at_ + 3 + x.length) hc
      rw [List.take_succ_cons, framesL_cons, List.length_append, frameL_len]
      omega
    · simpa [framesL_nil] using h
theorem fits_ge (m : Nat) : ∀ (p r : List (List Int)) (at_ : Nat), at_ + (framesL p).length ≤ m → p.length ≤ fits m at_ (p ++ r)
  | [], _, _, _ => Nat.zero_le _
  | x :: p, r, at_, h => by
    rw [framesL_cons, List.length_append, frameL_len] at h
    rw [List.cons_append, fits, if_pos (by omega), List.length_cons]
    have := fits_ge m p r (at_ + 3 + x.length) (by omega)
    omega
theorem framesL_len_ge (l : List (List Int)) : l.length ≤ (framesL l).length := by
  induction l with
  | nil => exact Nat.zero_le _
  | cons x l ih => rw [framesL_cons, List.length_append, frameL_len, List.length_cons]; omega
theorem lenAt_frames (l p r : List (List Int)) (x : List Int) (hl : l = p ++ x :: r) (hx : x.length ≤ 16384) (m : Nat) (hm : (framesL p).length + 3 ≤ m) : lenAt ((framesL l).take m) (framesL p).length = (x.length : Int) := by
  have e : framesL l = (framesL p ++ putL (x.length : Int) 3) ++ (x ++ framesL r) := by
    rw [hl, framesL_append, framesL_cons, frameL]
    simp [List.append_assoc]
  unfold lenAt
  rw [List.take_take, Nat.min_eq_left hm, e, List.take_left' (by rw [List.length_append, putL_len]), List.drop_left' rfl, getF_putL _ (by omega)]
  omega
theorem piece_frames (l p r : List (List Int)) (x : List Int) (hl : l = p ++ x :: r) (m : Nat) (hm : (framesL p).length + 3 + x.length ≤ m) : pieceL ((framesL l).take m) ((framesL p).length + 3, x.length) = x := by
  have e : framesL l = ((framesL p ++ putL (x.length : Int) 3) ++ x) ++ framesL r := by
    rw [hl, framesL_append, framesL_cons, frameL]
    simp [List.append_assoc]
  unfold pieceL
  dsimp only
  rw [List.take_take, Nat.min_eq_left hm, e, List.take_left' (by rw [List.length_append, List.length_append, putL_len]), List.drop_left' (by rw [List.length_append, putL_len])]
theorem scanN_frames (l : List (List Int)) (hl : ∀ x ∈ l, x.length ≤ 16384) (m : Nat) (hm : m ≤ (framesL l).length) : ∀ (r p : List (List Int)) (k : Nat), l = p ++ r → fits m (framesL p).length r < k → (framesL p).length ≤ m →
    (scanN ((framesL l).take m) k (framesL p).length).map (pieceL ((framesL l).take m)) = r.take (fits m (framesL p).length r) ∧
    (fits m (framesL p).length r ≠ 0 → endN (scanN ((framesL l).take m) k (framesL p).length) = (framesL p).length + (framesL (r.take (fits m (framesL p).length r))).length) ∧
    (fits m (framesL p).length r = 0 → scanN ((framesL l).take m) k (framesL p).length = [])
  | [], p, k, he, hk, hp => by
    obtain ⟨k, rfl⟩ : ∃ j, k = j + 1 := ⟨k - 1, by omega⟩
    rw [List.append_nil] at he
    have hb : ((framesL l).take m).length = m := by rw [List.length_take]; omega
    have : scanN ((framesL l).take m) (k + 1) (framesL p).length = [] := by
      rw [scanN, if_neg (by rw [hb, ← he]; omega)]
    rw [this]
    exact ⟨rfl, fun h => absurd rfl h, fun _ => rfl⟩
  | x :: r, p, k, he, hk, hp => by
    obtain ⟨k, rfl⟩ : ∃ j, k = j + 1 := ⟨k - 1, by omega⟩
    have hb : ((framesL l).take m).length = m := by rw [List.length_take]; omega
    have hx : x.length ≤ 16384 := hl x (by rw [he]; simp)
    rw [scanN, hb, fits]
    by_cases h3 : (framesL p).length + 3 ≤ m
    · have hn : (lenAt ((framesL l).take m) (framesL p).length).toNat = x.length := by rw [lenAt_frames l p r x he hx m h3]; rfl
      rw [if_pos h3, hn]
      by_cases h4 : (framesL p).length + 3 + x.length ≤ m
      · have e2 : (framesL (p ++ [x])).length = (framesL p).length + 3 + x.length := by rw [framesL_snoc, List.length_append, frameL_len]; omega
        rw [fits, if_pos h4] at hk
        have ih := scanN_frames l hl m hm r (p ++ [x]) k (by rw [he]; simp) (by rw [e2]; omega) (by omega)
        rw [e2] at ih
        rw [if_neg (by omega), if_pos h4, List.map_cons, List.take_succ_cons, piece_frames l p r x he m h4, ih.1]
        refine ⟨rfl, fun _ => ?_, fun h => absurd h (by omega)⟩
        rw [framesL_cons, List.length_append, frameL_len]
        by_cases hz : fits m ((framesL p).length + 3 + x.length) r = 0
        · rw [ih.2.2 hz, hz, List.take_zero, framesL_nil]
          simp only [endN, List.getLast?_singleton, Option.map_some, Option.getD_some, List.length_nil]
          omega
        · have h1 := ih.2.1 hz
          have hne : scanN ((framesL l).take m) k ((framesL p).length + 3 + x.length) ≠ [] := by
            intro e
            have := ih.1
            rw [e, List.map_nil] at this
            have h7 := congrArg List.length this
            rw [List.length_nil, List.length_take] at h7
            have := fits_le m r ((framesL p).length + 3 + x.length)
            omega
          obtain ⟨y, ys, hy⟩ := List.exists_cons_of_ne_nil hne
          rw [hy] at h1 ⊢
          have : endN (((framesL p).length + 3, x.length) :: y :: ys) = endN (y :: ys) := by simp [endN, List.getLast?_cons_cons]
          rw [this, h1]
          omega
      · rw [if_pos (by omega), if_neg h4]
        exact ⟨rfl, fun h => absurd rfl h, fun _ => rfl⟩
    · rw [if_neg h3, if_neg (by omega)]
      exact ⟨rfl, fun h => absurd rfl h, fun _ => rfl⟩
/-- What is whole of frames that are cut. -/
theorem scan_frames (l : List (List Int)) (hl : ∀ x ∈ l, x.length ≤ 16384) (m : Nat) (hm : m ≤ (framesL l).length) :
    scanL ((framesL l).take m) = l.take (fits m 0 l) ∧ scanEnd ((framesL l).take m) = (framesL (l.take (fits m 0 l))).length := by
  have hb : ((framesL l).take m).length = m := by rw [List.length_take]; omega
  have hk : fits m 0 l < m + 1 := by
    have h1 := fits_end m l 0 (Nat.zero_le _)
    have h2 := framesL_len_ge (l.take (fits m 0 l))
    rw [List.length_take, Nat.min_eq_left (fits_le m l 0)] at h2
    omega
  have h := scanN_frames l hl m hm l [] (m + 1) rfl hk (Nat.zero_le _)
  rw [framesL_nil, List.length_nil] at h
  refine ⟨by rw [scanL, hb]; exact h.1, ?_⟩
  rw [scanEnd, hb]
  by_cases hz : fits m 0 l = 0
  · rw [h.2.2 hz, hz]
    rfl
  · rw [h.2.1 hz]
    omega
/-- Nothing is cut. -/
theorem scan_all (l : List (List Int)) (hl : ∀ x ∈ l, x.length ≤ 16384) : scanL (framesL l) = l ∧ scanEnd (framesL l) = (framesL l).length := by
  have h := scan_frames l hl (framesL l).length (Nat.le_refl _)
  have hf : fits (framesL l).length 0 l = l.length := by
    have h1 := fits_ge (framesL l).length l [] 0 (by omega)
    rw [List.append_nil] at h1
    have := fits_le (framesL l).length l 0
    omega
  rw [List.take_length, hf, List.take_length] at h
  exact h
theorem frames_octets (l : List (List Int)) (h : ∀ x ∈ l, Octets x) : Octets (framesL l) := by
  induction l with
  | nil => intro x hx; cases hx
  | cons y l ih =>
    intro x hx
    rw [framesL_cons, frameL] at hx
    rcases List.mem_append.1 hx with hx | hx
    · rcases List.mem_append.1 hx with hx | hx
      · exact putL_octets _ 3 x hx
      · exact h y (by simp) x hx
    · exact ih (fun z hz => h z (by simp [hz])) x hx
end Go.Proofs.Ytfdpbdaekfdnjaa.X
/- mootplain.Lists of one list of rows, told twice: true. -/
namespace Go.Proofs.Ytfdpbdaekfdnjaa.X
open Go.RowKit Go.Proofs.YtfdpbdaekfdnjaaW.PrintWords Go.Proofs.YtfdpbdaekfdnjaaW.PrintLast Go.Proofs.YtfdpbdaekfdnjaaW.PrintMore
set_option linter.unusedVariables false
set_option linter.unusedSimpArgs false
set_option maxRecDepth 100000 in
set_option maxHeartbeats 40000000 in
theorem lists_same (A0 A1 : Option Addr) (c0 c1 : Nat) (l : List (List Int)) (w : World) (hC0 : Kd.C (Kd.slice 5 (Kd.int .u8)) w A0 l.length l) (hC1 : Kd.C (Kd.slice 5 (Kd.int .u8)) w A1 l.length l) (hl : l.length ≤ 4611686018427387904) :
    Calls Try.prog 27 #[.slice A0 l.length c0, .slice A1 l.length c1] w fun e w' => e = .returned (.bool true) ∧ Drawn0 w w' := by
  have HC0 := Lib.hid hC0
  have HC1 := Lib.hid hC1
  clear hC0 hC1
  go_enter Try.func27, Try.ntmps27
  go_wp2
  go_loopg [5] (l.length + 1) (fun kq v5 w' => ∃ i : Nat, v5 = .int .i64 (i : Int) ∧ Hid (i ≤ l.length) ∧ Hid (kq + i = l.length + 1) ∧ Hid (∃ n, w' = w.drewN n))
  case atStart => exact ⟨0, rfl, Lib.hid (Nat.zero_le _), Lib.hid rfl, Lib.hid ⟨0, rfl⟩⟩
  case round =>
    obtain ⟨i, rfl, hi, hk8, hW⟩ := hrel
    obtain ⟨n, rfl⟩ := hW.out
    by_cases ci : i < l.length
    · have d1 : decide ((i : Int) < (l.length : Int)) = true := decide_eq_true (by omega)
      have d2 : decide (i < l.length) = true := decide_eq_true ci
      have p0 : (0 ≤ (i : Int)) = True := eq_true (by omega)
      have p1 : ((i : Int) < (l.length : Int)) = True := eq_true (by omega)
      have q1 : (i < l.length) = True := eq_true ci
      obtain ⟨ad0, A2, c2, rfl, hx0, hl0, hi0⟩ := at_L1 HC0.out i (by omega) (by omega)
      obtain ⟨ad1, A3, c3, rfl, hx1, hl1, hi1⟩ := at_L1 HC1.out i (by omega) (by omega)
      rw [Int.toNat_natCast] at hx0 hx1
      obtain ⟨b, hb⟩ : ∃ b, rd_L1 l (i : Int) = b := ⟨_, rfl⟩
      rw [hb] at hx0 hx1 hi0 hi1
      have s0 : ∀ k, (convert 22 9 (.slice A2 b.length c2)).run Try.prog (w.drewN k) = .ok (.string (strOfNums b)) (w.drewN k) := fun k => Kd.C_string (P := Try.prog) Try.underlying22 Try.underlying5 Try.underlying9 (c := c2) (Kd.C_drewN hi0 k)
      have s1 : ∀ k, (convert 22 9 (.slice A3 b.length c3)).run Try.prog (w.drewN k) = .ok (.string (strOfNums b)) (w.drewN k) := fun k => Kd.C_string (P := Try.prog) Try.underlying22 Try.underlying5 Try.underlying9 (c := c3) (Kd.C_drewN hi1 k)
      clear hl0 hl1 hi0 hi1 hb
      have CI := Lib.hid ci
      clear ci
      go_wp2
      go_quiet (fail)
      go_wp2
      obtain ⟨k1, rfl⟩ : ∃ k1, gk = k1 + 1 := ⟨gk - 1, by have := hk8.out; have := CI.out; omega⟩
      go_roundg k1
      case measure => omega
      case rel => exact ⟨i + 1, congrArg (Value.int .i64) (by have := CI.out; rw [wrap64_id _ (by omega) (by omega)]; rfl), Lib.hid CI.out, Lib.hid (by have := hk8.out; omega), Lib.hid ⟨_, rfl⟩⟩
    · have d1 : decide ((i : Int) < (l.length : Int)) = false := decide_eq_false (by omega)
      have d2 : decide (i < l.length) = false := decide_eq_false ci
      go_wp2
      go_ret
      exact ⟨rfl, ⟨n, rfl⟩⟩
end Go.Proofs.Ytfdpbdaekfdnjaa.X
/- The law JournalParts, walked. -/
namespace Go.Proofs.Ytfdpbdaekfdnjaa.X
open Go.RowKit Go.Proofs.YtfdpbdaekfdnjaaW.PrintWords Go.Proofs.YtfdpbdaekfdnjaaW.PrintLast Go.Proofs.YtfdpbdaekfdnjaaW.PrintMore
set_option linter.unusedVariables false
set_option linter.unusedSimpArgs false
theorem wpAnyH_mono {P : Program} {md : Region.Mode} {ops : Array Oper} {Q : Exit → Act → World → Prop} {S S' : World → Prop} (hs : ∀ w, S' w → S w) :
    ∀ {fuel : Nat} {listed : Array Bool} {a : Act} {w : World}, wpAnyH P md ops Q S' fuel listed a w → wpAnyH P md ops Q S fuel listed a w
  | 0, _, _, _, h => h
  | fuel + 1, _, _, _, h => ⟨h.1, fun i hi => wpOp_mono (fun _ _ h' => ⟨hs _ h'.1, wpAnyH_mono hs h'.2⟩) (h.2 i hi)⟩
theorem quiet_below {w w' : World} (h : Drawn0 w w') : Below w.heap.size w w' := by
  obtain ⟨n, rfl⟩ := h
  exact pw_below_drewN (Below.refl _ _) _
theorem framesL_len_eq (l : List (List Int)) : (framesL l).length = 3 * l.length + tot l := by
  induction l with
  | nil => simp [framesL, tot]
  | cons b l ih => rw [framesL_cons, List.length_append, ih, frameL_len, tot_cons, List.length_cons]; omega
theorem new_dk (W : World) : Calls Try.prog 15 #[.int .i64 262144] W fun e w' => e = .returned (.pointer (some ⟨W.heap.size, 0, none⟩)) ∧ Dk w' W.heap.size W.heap.size (.slice none 0 0) [] 0 262144 ∧ Below W.heap.size W w' := by
  refine (new_calls W 262144 262144 (by decide)).mono ?_
  rintro e w' ⟨rfl, hd, hb⟩
  exact ⟨rfl, ⟨hd, Nat.le_refl _, by omega, by omega, by simp⟩, hb⟩
/-- The first one that is too long. -/
theorem first_long (P : Nat → Prop) (hP : ∀ i, P i ∨ ¬ P i) : ∀ n : Nat, (∀ i, i < n → P i) ∨ ∃ m, m < n ∧ ¬ P m ∧ ∀ i, i < m → P i
  | 0 => .inl (fun i hi => absurd hi (Nat.not_lt_zero _))
  | n + 1 => by
    rcases first_long P hP n with h | ⟨m, h1, h2, h3⟩
    · rcases hP n with hn | hn
      · refine .inl (fun i hi => ?_)
        rcases Nat.lt_or_ge i n with h4 | h4
        · exact h i h4
        · obtain rfl : i = n := by omega
          exact hn
      · exact .inr ⟨n, by omega, hn, h⟩
    · exact .inr ⟨m, by omega, h2, h3⟩
theorem rd_all {l : List (List Int)} (h : ∀ i, i < l.length → (rd_L1 l (i : Int)).length ≤ 16384) : ∀ x ∈ l, x.length ≤ 16384 := by
  intro x hx
  obtain ⟨i, hi, rfl⟩ := List.getElem_of_mem hx
  have := h i hi
  rwa [rdL2_at l i hi] at this
/-- A disk beside one that is written. -/
theorem Dk.beside {W W1 : World} {base g g' : Nat} {v v' v1 : Value} {xs : List Int} {sure : Nat} {room : Int} (h : Dk W base g v xs sure room) (hs : Step W W1 g' v' v1) (hap : ∀ k, Own g v k → ¬ Own g' v' k) : Dk W1 base g v xs sure room :=
  ⟨h.d.move (hs.t.block _ (h.own g (.inl rfl)).2 (hap g (.inl rfl))) (fun k hk => hs.t.block _ (h.own k (.inr hk)).2 (hap k (.inr hk))), h.hs, h.r0, h.r1, h.hx⟩
def mootlaw13_JournalParts.f (l0 : List (List Int)) : Option Bool := if (∀ y ∈ l0, ∀ x ∈ y, 0 ≤ x ∧ x < 256) ∧ l0.length ≤ 1048576 ∧ tot l0 ≤ 1048576 then some true else none
theorem parts_cond {l0 : List (List Int)} {r : Bool} (h : mootlaw13_JournalParts.f l0 = some r) : r = true ∧ (∀ y ∈ l0, Octets y) ∧ l0.length ≤ 1048576 ∧ tot l0 ≤ 1048576 := by
  unfold mootlaw13_JournalParts.f at h
  split at h
  · rename_i hc
    exact ⟨(Option.some.inj h).symm, hc⟩
  · cases h
theorem apart_new {ga gb : Nat} (h : ga < gb) : ∀ k, Own gb (.slice none 0 0) k → ¬ Own ga (.slice none 0 0) k := fun k hk ho => by
  rcases hk with rfl | hk
  · rcases ho with rfl | ho
    · omega
    · simp [Value.ownBlock] at ho
  · simp [Value.ownBlock] at hk
section
variable {w w3 : World} {A0 : Option Addr} {l0 : List (List Int)}
theorem par_C (hr0 : Kd.C (Kd.slice 5 (Kd.int .u8)) w A0 l0.length l0) (hB : Below w.heap.size w w3) {base g : Nat} {v : Value} {xs : List Int} {sure : Nat} {room : Int} (h : Dk w3 base g v xs sure room) (hb : w.heap.size ≤ base) :
    ∀ W1, Touch (Own g v) w3 W1 → Kd.C (Kd.slice 5 (Kd.int .u8)) W1 A0 l0.length l0 := fun W1 ht => Kd.C_below hr0 (ht.below hB (fun k hk => Nat.le_trans hb (h.own k hk).1))
theorem lit_C {Ai : Option Addr} {ci : Nat} {x : List Int} {wr : World} (hx : Kd.C (Kd.int .u8) w Ai x.length x) (hc : x.length ≤ ci) (hB : Below w.heap.size w wr) {base g : Nat} {v : Value} {xs : List Int} {sure : Nat} {room : Int} (h : Dk wr base g v xs sure room) (hb : w.heap.size ≤ base) :
    ∀ W1, Touch (Own g v) (wr.alloc (.cells #[.slice Ai x.length ci] 22)) W1 → Kd.C (Kd.slice 5 (Kd.int .u8)) W1 (some ⟨wr.heap.size, 0, none⟩) [x].length [x] := fun W1 ht => by
  have hB1 : Below w.heap.size w W1 := ht.below (below_alloc hB _) (fun k hk => Nat.le_trans hb (h.own k hk).1)
  have hn : ¬ Own g v wr.heap.size := fun ho => by have := (h.own _ ho).2; omega
  have hk : W1.heap[wr.heap.size]? = some (.cells #[.slice Ai x.length ci] 22 (0, 0)) := (ht.block _ (by rw [World.size_alloc]; omega) hn).trans (blk_new _ _)
  exact one_C ((blk_cell hk 0).trans rfl) hc (Kd.C_below hx hB1)
end
set_option maxRecDepth 100000 in
set_option maxHeartbeats 40000000 in
theorem mootlaw13_JournalParts.calls (A0 : Option Addr) (c0 : Nat) (l0 : List (List Int)) (r : Bool) (w : World) (hr0 : Kd.C (Kd.slice 5 (Kd.int .u8)) w A0 l0.length l0) (hc0 : l0.length ≤ c0) (h : mootlaw13_JournalParts.f l0 = some r) :
    Calls Try.prog 11 #[.slice A0 l0.length c0] w fun e w' => e = .returned (.bool r) ∧ Below w.heap.size w w' := by
  obtain ⟨rfl, hO, hlen, htot⟩ := parts_cond h
  clear h
  have hfl := framesL_len_eq l0
  have HFB : Hid ((framesL l0).length ≤ 4194304) := Lib.hid (by omega)
  have HLL : Hid (l0.length ≤ 1048576) := Lib.hid hlen
  have HR0 := Lib.hid hr0
  have HO := Lib.hid hO
  clear hfl hlen htot hr0 hO
  rcases first_long (fun i => (rd_L1 l0 (i : Int)).length ≤ 16384) (fun i => Nat.lt_or_ge 16384 (rd_L1 l0 (i : Int)).length |>.symm.imp (fun h => h) (fun h => by omega)) l0.length with hall | ⟨m, hm, hlong, hpre⟩
  · have HALL := Lib.hid hall
    clear hall
    by_cases hroom : (262144 : Int) < (framesL l0).length
    · have HROOM := Lib.hid hroom
      clear hroom
      go_enter Try.func11, Try.ntmps11
      go_wp2_with (first | (go_at_call 33; (with_reducible refine (alive13_calls _).mono ?_); rintro e w1 ⟨rfl, hb1⟩) | (go_at_call 15; have hbx := hb1; (with_reducible refine (new_dk _).mono ?_); rintro e w2 ⟨rfl, ha2, hb2⟩; have HB2 := Lib.hid (below_step hbx hb2); have HZ := Lib.hid hbx.size; clear hb1 hbx) | (go_at_call 15; have hax := ha2; (with_reducible refine (new_dk _).mono ?_); rintro e w3 ⟨rfl, hbk, hb3⟩; have HA := Lib.hid (hax.below hb3); have HBK := Lib.hid hbk; have HB3 := Lib.hid (below_step HB2.out hb3); have HZ2 := Lib.hid HB2.out.size; have HAP : Hid (∀ k, Own w2.heap.size (.slice none 0 0) k → ¬ Own w1.heap.size (.slice none 0 0) k) := Lib.hid (apart_new (hax.own _ (.inl rfl)).2); clear ha2 hax hbk hb3 hb2) | (go_at_call 22; (with_reducible refine (dk_write HA.out A0 c0 l0 (par_C HR0.out HB3.out HA.out HZ.out) (by have := HLL.out; omega) l0.length (Nat.le_refl _) HALL.out (fun h => absurd h (Nat.lt_irrefl _)) (Nat.lt_of_le_of_lt (framesL_take_le _ _) (by have := HFB.out; omega)) 17 [] (fun h => absurd h (Nat.lt_irrefl _)) (fun _ _ => ⟨rfl, rfl⟩) (fun _ h => absurd h (by have := HROOM.out; simp only [List.length_nil]; omega))).mono ?_); rintro e w4 ⟨rfl, va, ha4, hs4⟩; have HB4 := Lib.hid (hs4.t.below HB3.out (fun k hk => Nat.le_trans HZ.out (HA.out.own k hk).1)); clear hs4) | (go_at_call 29; (with_reducible refine (size_calls _ _ _ _ _ _ _ ha4.d).mono ?_); rintro e w5 ⟨rfl, rfl⟩))
      go_ret
      exact ⟨rfl, HB4.out⟩
    · have HROOM : Hid (((framesL l0).length : Int) ≤ 262144) := Lib.hid (by omega)
      clear hroom
      go_enter Try.func11, Try.ntmps11
      go_wp2_with (first | (go_at_call 33; (with_reducible refine (alive13_calls _).mono ?_); rintro e w1 ⟨rfl, hb1⟩) | (go_at_call 15; have hbx := hb1; (with_reducible refine (new_dk _).mono ?_); rintro e w2 ⟨rfl, ha2, hb2⟩; have HB2 := Lib.hid (below_step hbx hb2); have HZ := Lib.hid hbx.size; clear hb1 hbx) | (go_at_call 15; have hax := ha2; (with_reducible refine (new_dk _).mono ?_); rintro e w3 ⟨rfl, hbk, hb3⟩; have HA := Lib.hid (hax.below hb3); have HBK := Lib.hid hbk; have HB3 := Lib.hid (below_step HB2.out hb3); have HZ2 := Lib.hid HB2.out.size; have HAP : Hid (∀ k, Own w2.heap.size (.slice none 0 0) k → ¬ Own w1.heap.size (.slice none 0 0) k) := Lib.hid (apart_new (hax.own _ (.inl rfl)).2); clear ha2 hax hbk hb3 hb2) | (go_at_call 22; (with_reducible refine (dk_write HA.out A0 c0 l0 (par_C HR0.out HB3.out HA.out HZ.out) (by have := HLL.out; omega) l0.length (Nat.le_refl _) HALL.out (fun h => absurd h (Nat.lt_irrefl _)) (Nat.lt_of_le_of_lt (framesL_take_le _ _) (by have := HFB.out; omega)) 0 (framesL l0) (fun h => absurd h (Nat.lt_irrefl _)) (fun _ h => absurd h (by have := HROOM.out; simp only [List.length_nil]; omega)) (fun _ _ => ⟨rfl, rfl⟩)).mono ?_); rintro e w4 ⟨rfl, va, ha4, hs4⟩; have HA4 := Lib.hid ha4; have HB4 := Lib.hid (hs4.t.below HB3.out (fun k hk => Nat.le_trans HZ.out (HA.out.own k hk).1)); have HBK4 := Lib.hid (HBK.out.beside hs4 HAP.out); have HAT := Lib.hid hs4.at_; have HS43 := Lib.hid hs4.t.size; clear hs4 ha4))
      have hap0 : ∀ k, Own w2.heap.size (.slice none 0 0) k → ¬ Own w1.heap.size va k := fun k hk ho => by
        have hk1 := (HBK.out.own k hk)
        rcases ho with rfl | ho
        · exact HAP.out _ hk (.inl rfl)
        · rcases HAT.out with e | ⟨b, e, hb⟩
          · exact HAP.out _ hk (.inr (e ▸ ho))
          · rw [e] at ho
            obtain rfl := Option.some.inj ho
            omega
      have HAP0 := Lib.hid hap0
      clear hap0
      go_loopg [6] (l0.length + 1) (fun kq v6 w' => ∃ (i : Nat) (vb : Value), v6 = .int .i64 (i : Int) ∧ Hid (i ≤ l0.length) ∧ Hid (kq + i = l0.length + 1) ∧ Hid (Dk w' w2.heap.size w2.heap.size vb (framesL (l0.take i)) 0 262144) ∧ Hid (Dk w' w1.heap.size w1.heap.size va (framesL l0) 0 262144) ∧ Hid (Below w.heap.size w w') ∧ Hid (∀ k, Own w2.heap.size vb k → ¬ Own w1.heap.size va k))
      case atStart => exact ⟨0, _, rfl, Lib.hid (Nat.zero_le _), Lib.hid rfl, HBK4, HA4, HB4, HAP0⟩
      case round =>
        obtain ⟨i, vb, rfl, hi, hk8, HBF, HAF, BWF, HAPR⟩ := hrel
        by_cases ci : i < l0.length
        · have d1 : decide ((i : Int) < (l0.length : Int)) = true := decide_eq_true (by omega)
          have d2 : decide (i < l0.length) = true := decide_eq_true ci
          have p0 : (0 ≤ (i : Int)) = True := eq_true (by omega)
          have p1 : ((i : Int) < (l0.length : Int)) = True := eq_true (by omega)
          have q1 : (i < l0.length) = True := eq_true ci
          obtain ⟨ad, A1, c1_, rfl, hx, hl1, hi1⟩ := at_L1 HR0.out i (by omega) (by omega)
          rw [Int.toNat_natCast] at hx
          replace hx := (BWF.out.cell (World.block_lt_of_cell? w _ hx)).trans hx
          have hbl := HALL.out i ci
          have hnx := framesL_next l0 i ci
          have htk := framesL_take_le l0 (i + 1)
          obtain ⟨b, hb⟩ : ∃ b, rd_L1 l0 (i : Int) = b := ⟨_, rfl⟩
          rw [hb] at hx hl1 hi1 hbl hnx
          have hf1 : framesL [b] = frameL b := by simp [framesL]
          have HI1 := Lib.hid hi1
          have HL1 := Lib.hid hl1
          have HBL := Lib.hid hbl
          have HF1 : Hid (framesL (l0.take i) ++ framesL [b] = framesL (l0.take (i + 1))) := Lib.hid (by rw [hf1, hnx])
          have HRM : Hid (((framesL (l0.take i)).length : Int) + (framesL [b]).length ≤ 262144) := Lib.hid (by have h1 := congrArg List.length hnx; rw [List.length_append, ← hf1] at h1; have := HROOM.out; omega)
          have CI := Lib.hid ci
          clear hl1 hi1 hbl hnx htk hb hf1 ci
          go_wp2_with (go_at_call 22; refine (dk_write (HBF.out.below (below_alloc (Below.refl _ _) _)) (some ⟨wr.heap.size, 0, none⟩) 1 [b] (lit_C HI1.out HL1.out BWF.out HBF.out HZ2.out) (by simp) 1 (by simp) (fun j hj => by obtain rfl : j = 0 := (by omega); exact HBL.out) (fun h => absurd h (by simp)) (by have := HRM.out; simp only [List.take_succ_cons, List.take_zero]; omega) 0 (framesL (l0.take (i + 1))) (fun h => absurd h (by simp)) (fun _ h => absurd h (by have := HRM.out; omega)) (fun _ _ => ⟨rfl, HF1.out.symm⟩)).mono ?_; rintro e w5 ⟨rfl, vb5, hb5, hs5⟩)
          have hown5 := (HBF.out.below (below_alloc (Below.refl _ wr) (.cells #[.slice A1 b.length c1_] 22))).own
          have HB5 : Below w.heap.size w w5 := hs5.t.below (below_alloc BWF.out _) (fun k hk => Nat.le_trans HZ2.out (hown5 k hk).1)
          have HA5 := (HAF.out.below (below_alloc (Below.refl _ wr) (.cells #[.slice A1 b.length c1_] 22))).beside hs5 (fun k hk ho => HAPR.out k ho hk)
          have hap5 : ∀ k, Own w2.heap.size vb5 k → ¬ Own w1.heap.size va k := fun k hk ho => by
            have hk1 := (HAF.out.own k ho)
            rcases hk with rfl | hk
            · exact HAPR.out _ (.inl rfl) ho
            · rcases hs5.at_ with e | ⟨b', e, hb'⟩
              · exact HAPR.out _ (.inr (e ▸ hk)) ho
              · rw [e] at hk
                obtain rfl := Option.some.inj hk
                rw [World.size_alloc] at hb'
                omega
          have G1 := Lib.hid hb5
          have G2 := Lib.hid HA5
          have G3 := Lib.hid HB5
          have G4 := Lib.hid hap5
          clear hb5 HA5 HB5 hap5 hown5 hs5
          obtain ⟨k1, rfl⟩ : ∃ k1, gk = k1 + 1 := ⟨gk - 1, by have := hk8.out; have := CI.out; omega⟩
          go_roundg k1
          case measure => omega
          case rel => exact ⟨i + 1, vb5, congrArg (Value.int .i64) (by have := CI.out; have := HLL.out; rw [wrap64_id _ (by omega) (by omega)]; rfl), Lib.hid CI.out, Lib.hid (by have := hk8.out; omega), G1, G2, G3, G4⟩
        · have d1 : decide ((i : Int) < (l0.length : Int)) = false := decide_eq_false (by omega)
          have d2 : decide (i < l0.length) = false := decide_eq_false ci
          obtain rfl : i = l0.length := by have := hi.out; omega
          rw [List.take_length] at HBF
          obtain ⟨hs1, hs2⟩ := scan_all l0 (rd_all HALL.out)
          have HS1 := Lib.hid hs1
          have HS2 := Lib.hid hs2
          have HFO := Lib.hid (frames_octets l0 HO.out)
          clear hs1 hs2 ci
          go_wp2_with (first | (go_at_call 19; (with_reducible refine (read_calls _ _ _ _ _ _ _ HBF.out.d (by have := HFB.out; omega)).mono ?_); rintro e w5 ⟨v5, rfl, ho, hb⟩; obtain ⟨A5, c5, rfl⟩ := Kd.R_slice ho; have C5 := Lib.hid (Kd.R_reads' ho).2.2; have N5 := Lib.hid (Kd.R_reads' ho).2.1; have HBF5 := Lib.hid (HBF.out.below hb); have HAF5 := Lib.hid (HAF.out.below hb); have BWF5 := Lib.hid (below_step BWF.out hb); clear ho hb) | (go_at_call 31; (with_reducible refine (scan_calls A5 c5 (framesL l0) _ C5.out N5.out HFO.out (by have := HFB.out; omega)).mono ?_); rw [HS1.out, HS2.out]; rintro e w6 ⟨v6, rfl, hR6, hb6⟩; obtain ⟨A7, c7, rfl⟩ := Kd.R_slice hR6; have CXF := Lib.hid (Kd.R_reads' hR6).2.2; have HBF := Lib.hid (HBF5.out.below hb6); have HAF := Lib.hid (HAF5.out.below hb6); have BWF := Lib.hid (below_step BWF5.out hb6); clear hR6 hb6 HBF5 HAF5 BWF5))
          refine wp_region_noPanic ?_
          refine wp_region_held_drew (S := (fun w' => True)) (by kernel_rfl) trivial (fun hHeld => ?_)
          have DA := Lib.hid (HAF.out.below (below_drew (Below.refl _ _)))
          have DB := Lib.hid (HBF.out.below (below_drew (Below.refl _ _)))
          have CX := Lib.hid (Kd.C_drew CXF.out)
          have BW := Lib.hid (below_drew BWF.out)
          refine wpAnyH_take (i := 0) (oi := ({ dst := some 41, op := Go.Op.move (Go.Operand.tmp 3), type := 24, pos := "law.go:116", after := #[], guard := none } : Oper)) (v := ?_) rfl (by kernel_rfl) (by kernel_rfl) (by kernel_rfl) (fun _ _ _ h => h) (Or.inl ⟨by rfl, ?_⟩) (by assumption) ?_
          rotate_left
          · (intro w' hSw; try dsimp only at hSw)
            go_simp <;> with_reducible rfl
          try simp only [Act.put, List.setIfInBounds_toArray, List.set_cons_zero, List.set_cons_succ]
          refine wpAnyH_take (i := 3) (oi := ({ dst := some 44, op := Go.Op.move (Go.Operand.tmp 4), type := 24, pos := "law.go:116", after := #[], guard := none } : Oper)) (v := ?_) rfl (by kernel_rfl) (by kernel_rfl) (by kernel_rfl) (fun _ _ _ h => h) (Or.inl ⟨by rfl, ?_⟩) (by assumption) ?_
          rotate_left
          · (intro w' hSw; try dsimp only at hSw)
            go_simp <;> with_reducible rfl
          try simp only [Act.put, List.setIfInBounds_toArray, List.set_cons_zero, List.set_cons_succ]
          refine wpAnyH_ready (rs := [1]) (by kernel_rfl) (by simp) ?_
          refine AllReadyH.cons (o := ({ dst := some 42, op := Go.Op.call { callee := Go.Callee.value (Go.Operand.func 19), args := #[Go.Operand.tmp 41], argTypes := #[24] }, type := 22, pos := "law.go:116", after := #[{ on := 0, ground := Go.Ground.data }], guard := none } : Oper)) rfl (fun K hK => ?_) AllReadyH.nil
          go_simp
          go_at_call 19
          (with_reducible refine (read_calls _ _ _ _ _ _ _ DA.out.d (by have := HFB.out; omega)).mono ?_)
          rintro e w5 ⟨v5, rfl, ho, hb⟩
          obtain ⟨A5, c5, rfl⟩ := Kd.R_slice ho
          have C5 := Lib.hid (Kd.R_reads' ho).2.2
          clear ho
          have DA := Lib.hid (DA.out.below hb)
          have DB := Lib.hid (DB.out.below hb)
          have CX := Lib.hid (Kd.C_below CX.out hb)
          have BW := Lib.hid (below_step BW.out hb)
          clear hb
          clear hHeld
          go_wp2_with fail
          refine hK.out _ _ trivial (fun hHeld => ?_)
          clear hK K
          try simp only [Act.put, List.setIfInBounds_toArray, List.set_cons_zero, List.set_cons_succ]
          refine wpAnyH_mono (S' := (fun w' => (True) ∧ ((convert 22 9 (.slice A5 (framesL l0).length c5)).run Try.prog w' = .ok (.string (strOfNums (framesL l0))) w'))) (fun _ h => h.1) ?_
          replace hHeld := And.intro hHeld (Kd.C_string (P := Try.prog) Try.underlying22 Try.underlying5 Try.underlying9 (c := c5) C5.out)
          refine wpAnyH_take (i := 2) (oi := ({ dst := some 43, op := Go.Op.convert 22 9 (Go.Operand.tmp 42), type := 9, pos := "law.go:116", after := #[{ on := 1, ground := Go.Ground.data }], guard := none } : Oper)) (v := ?_) rfl (by kernel_rfl) (by kernel_rfl) (by kernel_rfl) (fun _ _ _ h => h) (Or.inl ⟨by rfl, ?_⟩) (by assumption) ?_
          rotate_left
          · (intro w' hSw; try dsimp only at hSw)
            obtain ⟨s0, s1⟩ := hSw
            go_simp <;> with_reducible rfl
          try simp only [Act.put, List.setIfInBounds_toArray, List.set_cons_zero, List.set_cons_succ]
          refine wpAnyH_ready (rs := [4]) (by kernel_rfl) (by simp) ?_
          refine AllReadyH.cons (o := ({ dst := some 45, op := Go.Op.call { callee := Go.Callee.value (Go.Operand.func 19), args := #[Go.Operand.tmp 44], argTypes := #[24] }, type := 22, pos := "law.go:116", after := #[{ on := 3, ground := Go.Ground.data }, { on := 1, ground := Go.Ground.chain }], guard := none } : Oper)) rfl (fun K hK => ?_) AllReadyH.nil
          go_simp
          go_at_call 19
          (with_reducible refine (read_calls _ _ _ _ _ _ _ DB.out.d (by have := HFB.out; omega)).mono ?_)
          rintro e w6 ⟨v6, rfl, ho, hb⟩
          obtain ⟨A6, c6, rfl⟩ := Kd.R_slice ho
          have C6 := Lib.hid (Kd.R_reads' ho).2.2
          clear ho
          have C5 := Lib.hid (Kd.C_below C5.out hb)
          have DA := Lib.hid (DA.out.below hb)
          have DB := Lib.hid (DB.out.below hb)
          have CX := Lib.hid (Kd.C_below CX.out hb)
          have BW := Lib.hid (below_step BW.out hb)
          clear hb
          clear hHeld
          go_wp2_with fail
          refine hK.out _ _ ⟨trivial, (Kd.C_string (P := Try.prog) Try.underlying22 Try.underlying5 Try.underlying9 (c := c5) C5.out)⟩ (fun hHeld => ?_)
          clear hK K
          try simp only [Act.put, List.setIfInBounds_toArray, List.set_cons_zero, List.set_cons_succ]
          refine wpAnyH_mono (S' := (fun w' => ((True) ∧ ((convert 22 9 (.slice A5 (framesL l0).length c5)).run Try.prog w' = .ok (.string (strOfNums (framesL l0))) w')) ∧ ((convert 22 9 (.slice A6 (framesL l0).length c6)).run Try.prog w' = .ok (.string (strOfNums (framesL l0))) w'))) (fun _ h => h.1) ?_
          replace hHeld := And.intro hHeld (Kd.C_string (P := Try.prog) Try.underlying22 Try.underlying5 Try.underlying9 (c := c6) C6.out)
          refine wpAnyH_take (i := 5) (oi := ({ dst := some 46, op := Go.Op.convert 22 9 (Go.Operand.tmp 45), type := 9, pos := "law.go:116", after := #[{ on := 4, ground := Go.Ground.data }], guard := none } : Oper)) (v := ?_) rfl (by kernel_rfl) (by kernel_rfl) (by kernel_rfl) (fun _ _ _ h => h) (Or.inl ⟨by rfl, ?_⟩) (by assumption) ?_
          rotate_left
          · (intro w' hSw; try dsimp only at hSw)
            obtain ⟨⟨s0, s1⟩, s2⟩ := hSw
            go_simp <;> with_reducible rfl
          try simp only [Act.put, List.setIfInBounds_toArray, List.set_cons_zero, List.set_cons_succ]
          refine wpAnyH_take (i := 6) (oi := ({ dst := some 47, op := Go.Op.binOp Go.BinOp.eql 9 (Go.Operand.tmp 43) (Go.Operand.tmp 46) 9, type := 4, pos := "law.go:116", after := #[{ on := 2, ground := Go.Ground.data }, { on := 5, ground := Go.Ground.data }], guard := none } : Oper)) (v := ?_) rfl (by kernel_rfl) (by kernel_rfl) (by kernel_rfl) (fun _ _ _ h => h) (Or.inl ⟨by rfl, ?_⟩) (by assumption) ?_
          rotate_left
          · (intro w' hSw; try dsimp only at hSw)
            obtain ⟨⟨s0, s1⟩, s2⟩ := hSw
            go_simp <;> with_reducible rfl
          try simp only [Act.put, List.setIfInBounds_toArray, List.set_cons_zero, List.set_cons_succ]
          refine wpAnyH_take (i := 7) (oi := ({ dst := some 48, op := Go.Op.move (Go.Operand.tmp 47), type := 4, pos := "law.go:116", after := #[{ on := 6, ground := Go.Ground.data }, { on := 4, ground := Go.Ground.chain }], guard := none } : Oper)) (v := ?_) rfl (by kernel_rfl) (by kernel_rfl) (by kernel_rfl) (fun _ _ _ h => h) (Or.inl ⟨by rfl, ?_⟩) (by assumption) ?_
          rotate_left
          · (intro w' hSw; try dsimp only at hSw)
            obtain ⟨⟨s0, s1⟩, s2⟩ := hSw
            go_simp <;> with_reducible rfl
          try simp only [Act.put, List.setIfInBounds_toArray, List.set_cons_zero, List.set_cons_succ]
          refine wpAnyH_take (i := 8) (oi := ({ dst := some 49, op := Go.Op.move (Go.Operand.tmp 7), type := 33, pos := "law.go:116", after := #[{ on := 7, ground := Go.Ground.guard }], guard := some (7, true) } : Oper)) (v := ?_) rfl (by kernel_rfl) (by kernel_rfl) (by kernel_rfl) (fun _ _ _ h => h) (Or.inl ⟨by rfl, ?_⟩) (by assumption) ?_
          rotate_left
          · (intro w' hSw; try dsimp only at hSw)
            obtain ⟨⟨s0, s1⟩, s2⟩ := hSw
            go_simp <;> with_reducible rfl
          try simp only [Act.put, List.setIfInBounds_toArray, List.set_cons_zero, List.set_cons_succ]
          refine wpAnyH_take (i := 9) (oi := ({ dst := some 50, op := Go.Op.move (Go.Operand.tmp 0), type := 33, pos := "law.go:116", after := #[{ on := 7, ground := Go.Ground.guard }], guard := some (7, true) } : Oper)) (v := ?_) rfl (by kernel_rfl) (by kernel_rfl) (by kernel_rfl) (fun _ _ _ h => h) (Or.inl ⟨by rfl, ?_⟩) (by assumption) ?_
          rotate_left
          · (intro w' hSw; try dsimp only at hSw)
            obtain ⟨⟨s0, s1⟩, s2⟩ := hSw
            go_simp <;> with_reducible rfl
          try simp only [Act.put, List.setIfInBounds_toArray, List.set_cons_zero, List.set_cons_succ]
          refine wpAnyH_ready (rs := [10]) (by kernel_rfl) (by simp) ?_
          refine AllReadyH.cons (o := ({ dst := some 51, op := Go.Op.call { callee := Go.Callee.value (Go.Operand.func 27), args := #[Go.Operand.tmp 49, Go.Operand.tmp 50], argTypes := #[33, 33] }, type := 4, pos := "law.go:116", after := #[{ on := 8, ground := Go.Ground.data }, { on := 9, ground := Go.Ground.data }, { on := 7, ground := Go.Ground.chain }, { on := 7, ground := Go.Ground.guard }], guard := some (7, true) } : Oper)) rfl (fun K hK => ?_) AllReadyH.nil
          go_simp
          go_at_call 27
          (with_reducible refine (lists_same _ A0 _ c0 l0 _ CX.out (Kd.C_below HR0.out BW.out) (by have := HLL.out; omega)).mono ?_)
          rintro e w7 ⟨rfl, hq⟩
          have hb := quiet_below hq
          clear hq
          have C5 := Lib.hid (Kd.C_below C5.out hb)
          have C6 := Lib.hid (Kd.C_below C6.out hb)
          have DA := Lib.hid (DA.out.below hb)
          have DB := Lib.hid (DB.out.below hb)
          have CX := Lib.hid (Kd.C_below CX.out hb)
          have BW := Lib.hid (below_step BW.out hb)
          clear hb
          clear hHeld
          go_wp2_with fail
          refine hK.out _ _ ⟨⟨trivial, (Kd.C_string (P := Try.prog) Try.underlying22 Try.underlying5 Try.underlying9 (c := c5) C5.out)⟩, (Kd.C_string (P := Try.prog) Try.underlying22 Try.underlying5 Try.underlying9 (c := c6) C6.out)⟩ (fun hHeld => ?_)
          clear hK K
          try simp only [Act.put, List.setIfInBounds_toArray, List.set_cons_zero, List.set_cons_succ]
          refine wpAnyH_take (i := 11) (oi := ({ dst := some 52, op := Go.Op.pick (Go.Operand.tmp 48) (Go.Operand.tmp 51) (Go.Operand.const (Go.Value.bool false)), type := 4, pos := "law.go:116", after := #[{ on := 7, ground := Go.Ground.data }, { on := 10, ground := Go.Ground.data }], guard := none } : Oper)) (v := ?_) rfl (by kernel_rfl) (by kernel_rfl) (by kernel_rfl) (fun _ _ _ h => h) (Or.inl ⟨by rfl, ?_⟩) (by assumption) ?_
          rotate_left
          · (intro w' hSw; try dsimp only at hSw)
            obtain ⟨⟨s0, s1⟩, s2⟩ := hSw
            go_simp <;> with_reducible rfl
          try simp only [Act.put, List.setIfInBounds_toArray, List.set_cons_zero, List.set_cons_succ]
          refine wpAnyH_take (i := 12) (oi := ({ dst := some 53, op := Go.Op.move (Go.Operand.tmp 52), type := 4, pos := "law.go:116", after := #[{ on := 11, ground := Go.Ground.data }, { on := 10, ground := Go.Ground.chain }], guard := none } : Oper)) (v := ?_) rfl (by kernel_rfl) (by kernel_rfl) (by kernel_rfl) (fun _ _ _ h => h) (Or.inl ⟨by rfl, ?_⟩) (by assumption) ?_
          rotate_left
          · (intro w' hSw; try dsimp only at hSw)
            obtain ⟨⟨s0, s1⟩, s2⟩ := hSw
            go_simp <;> with_reducible rfl
          try simp only [Act.put, List.setIfInBounds_toArray, List.set_cons_zero, List.set_cons_succ]
          refine wpAnyH_take (i := 13) (oi := ({ dst := some 54, op := Go.Op.move (Go.Operand.tmp 8), type := 3, pos := "law.go:116", after := #[{ on := 12, ground := Go.Ground.guard }], guard := some (12, true) } : Oper)) (v := ?_) rfl (by kernel_rfl) (by kernel_rfl) (by kernel_rfl) (fun _ _ _ h => h) (Or.inl ⟨by rfl, ?_⟩) (by assumption) ?_
          rotate_left
          · (intro w' hSw; try dsimp only at hSw)
            obtain ⟨⟨s0, s1⟩, s2⟩ := hSw
            go_simp <;> with_reducible rfl
          try simp only [Act.put, List.setIfInBounds_toArray, List.set_cons_zero, List.set_cons_succ]
          refine wpAnyH_take (i := 14) (oi := ({ dst := some 55, op := Go.Op.move (Go.Operand.tmp 3), type := 24, pos := "law.go:116", after := #[{ on := 12, ground := Go.Ground.guard }], guard := some (12, true) } : Oper)) (v := ?_) rfl (by kernel_rfl) (by kernel_rfl) (by kernel_rfl) (fun _ _ _ h => h) (Or.inl ⟨by rfl, ?_⟩) (by assumption) ?_
          rotate_left
          · (intro w' hSw; try dsimp only at hSw)
            obtain ⟨⟨s0, s1⟩, s2⟩ := hSw
            go_simp <;> with_reducible rfl
          try simp only [Act.put, List.setIfInBounds_toArray, List.set_cons_zero, List.set_cons_succ]
          refine wpAnyH_ready (rs := [15]) (by kernel_rfl) (by simp) ?_
          refine AllReadyH.cons (o := ({ dst := some 56, op := Go.Op.call { callee := Go.Callee.value (Go.Operand.func 29), args := #[Go.Operand.tmp 55], argTypes := #[24] }, type := 3, pos := "law.go:116", after := #[{ on := 14, ground := Go.Ground.data }, { on := 12, ground := Go.Ground.chain }, { on := 12, ground := Go.Ground.guard }], guard := some (12, true) } : Oper)) rfl (fun K hK => ?_) AllReadyH.nil
          go_simp
          go_at_call 29
          (with_reducible refine (size_calls _ _ _ _ _ _ _ DA.out.d).mono ?_)
          rintro e w8 ⟨rfl, rfl⟩
          clear hHeld
          go_wp2_with fail
          refine hK.out _ _ ⟨⟨trivial, (Kd.C_string (P := Try.prog) Try.underlying22 Try.underlying5 Try.underlying9 (c := c5) C5.out)⟩, (Kd.C_string (P := Try.prog) Try.underlying22 Try.underlying5 Try.underlying9 (c := c6) C6.out)⟩ (fun hHeld => ?_)
          clear hK K
          try simp only [Act.put, List.setIfInBounds_toArray, List.set_cons_zero, List.set_cons_succ]
          refine wpAnyH_take (i := 16) (oi := ({ dst := some 57, op := Go.Op.binOp Go.BinOp.eql 3 (Go.Operand.tmp 54) (Go.Operand.tmp 56) 3, type := 4, pos := "law.go:116", after := #[{ on := 13, ground := Go.Ground.data }, { on := 15, ground := Go.Ground.data }, { on := 12, ground := Go.Ground.guard }], guard := some (12, true) } : Oper)) (v := ?_) rfl (by kernel_rfl) (by kernel_rfl) (by kernel_rfl) (fun _ _ _ h => h) (Or.inl ⟨by rfl, ?_⟩) (by assumption) ?_
          rotate_left
          · (intro w' hSw; try dsimp only at hSw)
            obtain ⟨⟨s0, s1⟩, s2⟩ := hSw
            go_simp <;> with_reducible rfl
          try simp only [Act.put, List.setIfInBounds_toArray, List.set_cons_zero, List.set_cons_succ]
          refine wpAnyH_take (i := 17) (oi := ({ dst := some 58, op := Go.Op.pick (Go.Operand.tmp 53) (Go.Operand.tmp 57) (Go.Operand.const (Go.Value.bool false)), type := 4, pos := "law.go:116", after := #[{ on := 12, ground := Go.Ground.data }, { on := 16, ground := Go.Ground.data }], guard := none } : Oper)) (v := ?_) rfl (by kernel_rfl) (by kernel_rfl) (by kernel_rfl) (fun _ _ _ h => h) (Or.inl ⟨by rfl, ?_⟩) (by assumption) ?_
          rotate_left
          · (intro w' hSw; try dsimp only at hSw)
            obtain ⟨⟨s0, s1⟩, s2⟩ := hSw
            go_simp <;> with_reducible rfl
          try simp only [Act.put, List.setIfInBounds_toArray, List.set_cons_zero, List.set_cons_succ]
          refine wpAnyH_take (i := 18) (oi := ({ dst := some 2, op := Go.Op.assign (Go.Operand.tmp 58), type := 4, pos := "law.go:116", after := #[{ on := 17, ground := Go.Ground.data }, { on := 15, ground := Go.Ground.chain }, { on := 0, ground := Go.Ground.phase }, { on := 1, ground := Go.Ground.phase }, { on := 2, ground := Go.Ground.phase }, { on := 3, ground := Go.Ground.phase }, { on := 4, ground := Go.Ground.phase }, { on := 5, ground := Go.Ground.phase }, { on := 6, ground := Go.Ground.phase }, { on := 7, ground := Go.Ground.phase }, { on := 8, ground := Go.Ground.phase }, { on := 9, ground := Go.Ground.phase }, { on := 10, ground := Go.Ground.phase }, { on := 11, ground := Go.Ground.phase }, { on := 12, ground := Go.Ground.phase }, { on := 13, ground := Go.Ground.phase }, { on := 14, ground := Go.Ground.phase }, { on := 15, ground := Go.Ground.phase }, { on := 16, ground := Go.Ground.phase }, { on := 17, ground := Go.Ground.phase }], guard := none } : Oper)) (v := ?_) rfl (by kernel_rfl) (by kernel_rfl) (by kernel_rfl) (fun _ _ _ h => h) (Or.inl ⟨by rfl, ?_⟩) (by assumption) ?_
          rotate_left
          · (intro w' hSw; try dsimp only at hSw)
            obtain ⟨⟨s0, s1⟩, s2⟩ := hSw
            go_simp <;> with_reducible rfl
          try simp only [Act.put, List.setIfInBounds_toArray, List.set_cons_zero, List.set_cons_succ]
          refine wpAnyH_done (by kernel_rfl) ?_ _
          refine NoPanic.normal ?_
          go_wp2
          go_ret
          exact ⟨rfl, BW.out⟩
  · have HM := Lib.hid hm
    have HLONG : Hid (16384 < (rd_L1 l0 (m : Int)).length) := Lib.hid (by omega)
    have HPRE := Lib.hid hpre
    clear hm hlong hpre
    go_enter Try.func11, Try.ntmps11
    go_wp2_with (first | (go_at_call 33; (with_reducible refine (alive13_calls _).mono ?_); rintro e w1 ⟨rfl, hb1⟩) | (go_at_call 15; have hbx := hb1; (with_reducible refine (new_dk _).mono ?_); rintro e w2 ⟨rfl, ha2, hb2⟩; have HB2 := Lib.hid (below_step hbx hb2); have HZ := Lib.hid hbx.size; clear hb1 hbx) | (go_at_call 15; have hax := ha2; (with_reducible refine (new_dk _).mono ?_); rintro e w3 ⟨rfl, hbk, hb3⟩; have HA := Lib.hid (hax.below hb3); have HBK := Lib.hid hbk; have HB3 := Lib.hid (below_step HB2.out hb3); have HZ2 := Lib.hid HB2.out.size; have HAP : Hid (∀ k, Own w2.heap.size (.slice none 0 0) k → ¬ Own w1.heap.size (.slice none 0 0) k) := Lib.hid (apart_new (hax.own _ (.inl rfl)).2); clear ha2 hax hbk hb3 hb2) | (go_at_call 22; (with_reducible refine (dk_write HA.out A0 c0 l0 (par_C HR0.out HB3.out HA.out HZ.out) (by have := HLL.out; omega) m (Nat.le_of_lt HM.out) HPRE.out (fun _ => HLONG.out) (Nat.lt_of_le_of_lt (framesL_take_le _ _) (by have := HFB.out; omega)) 5 [] (fun _ => ⟨rfl, rfl⟩) (fun h => absurd h (Nat.ne_of_lt HM.out)) (fun h => absurd h (Nat.ne_of_lt HM.out))).mono ?_); rintro e w4 ⟨rfl, va, ha4, hs4⟩; have HB4 := Lib.hid (hs4.t.below HB3.out (fun k hk => Nat.le_trans HZ.out (HA.out.own k hk).1)); clear hs4) | (go_at_call 29; (with_reducible refine (size_calls _ _ _ _ _ _ _ ha4.d).mono ?_); rintro e w5 ⟨rfl, rfl⟩))
    go_ret
    exact ⟨rfl, HB4.out⟩
end Go.Proofs.Ytfdpbdaekfdnjaa.X
/- Disk and journal calls by what they touch: Flush, Crash, Recover. -/
namespace Go.Proofs.Ytfdpbdaekfdnjaa.X
open Go.RowKit Go.Proofs.YtfdpbdaekfdnjaaW.PrintWords Go.Proofs.YtfdpbdaekfdnjaaW.PrintLast Go.Proofs.YtfdpbdaekfdnjaaW.PrintMore
set_option linter.unusedVariables false
set_option linter.unusedSimpArgs false
theorem Touch.own {W W' : World} {g : Nat} (v : Value) (h : Touch (· = g) W W') : Touch (Own g v) W W' := ⟨h.os, h.tape, h.output, h.size, fun k hk hn => h.block k hk (fun e => hn (.inl e))⟩
theorem dk_flush {W : World} {base g : Nat} {v : Value} {xs : List Int} {sure : Nat} {room : Int} (h : Dk W base g v xs sure room) :
    Calls Try.prog 17 #[.pointer (some ⟨g, 0, none⟩)] W fun e w' => e = .returned (.int .i64 ((xs.length : Int) - sure)) ∧ Dk w' base g v xs xs.length room ∧ Step W w' g v v := by
  refine (flush_calls W base g v xs sure room h.d h.hs).mono ?_
  rintro e w' ⟨rfl, hd, ht⟩
  exact ⟨rfl, ⟨hd, Nat.le_refl _, h.r0, h.r1, h.hx⟩, ⟨ht.own v, .inl rfl⟩⟩
theorem dk_crash {W : World} {base g : Nat} {v : Value} {xs : List Int} {sure : Nat} {room : Int} (h : Dk W base g v xs sure room) (keep : Int) (m : Nat) (hm : sure + keepN keep xs.length sure = m) :
    Calls Try.prog 18 #[.pointer (some ⟨g, 0, none⟩), .int .i64 keep] W fun e w' => e = .returned (.tuple #[]) ∧ ∃ v', Dk w' base g v' (xs.take m) m room ∧ Step W w' g v v' := by
  have hk := keepN_le keep xs.length sure h.hs
  refine (crash_calls W base g v xs sure room keep h.d h.hs).mono ?_
  rintro e w' ⟨rfl, v1, hd1, ht, hat⟩
  rw [hm] at hd1 hk
  have hx := h.hx
  exact ⟨rfl, v1, ⟨hd1, by rw [List.length_take]; omega, h.r0, h.r1, by rw [List.length_take]; omega⟩, ⟨ht.own v, .inl hat⟩⟩
set_option maxRecDepth 100000 in
set_option maxHeartbeats 40000000 in
theorem dk_recover {W : World} {base g : Nat} {v : Value} {xs : List Int} {sure : Nat} {room : Int} (h : Dk W base g v xs sure room) (hO : Octets xs) (hE : scanEnd xs ≤ xs.length) :
    Calls Try.prog 26 #[.pointer (some ⟨g, 0, none⟩)] W fun e w' => ∃ A c v' Z, e = .returned (.tuple #[.slice A (scanL xs).length c, .int .i64 0]) ∧ (scanL xs).length ≤ c ∧ Kd.F (Kd.slice 5 (Kd.int .u8)) w' (fun k => Z ≤ k) A (scanL xs).length (scanL xs) ∧ (∀ k, Own g v' k → k < Z) ∧
      Dk w' base g v' (xs.take (scanEnd xs)) (scanEnd xs) room ∧ Step W w' g v v' := by
  have hx0 := h.hx
  have hr1 := h.r1
  have HO := Lib.hid hO
  have HE := Lib.hid hE
  have HX : Hid (xs.length ≤ 262144) := Lib.hid (by omega)
  have hx1 : Hid ((0 : Int) ≤ (scanEnd xs : Int) ∧ (scanEnd xs : Int) ≤ xs.length) := Lib.hid ⟨by omega, by omega⟩
  clear hO hE hr1
  go_enter Try.func26, Try.ntmps26
  go_wp2_with (first | (go_at_call 16; refine (dk_append h none 0 [] (Kd.C_nil _ _) 0 xs (fun hh => absurd hh (by simp only [List.length_nil]; omega)) (fun _ => ⟨rfl, by simp⟩)).mono ?_; rintro e w1 ⟨rfl, v1, h1, hs1⟩; have H1 := Lib.hid h1; have S1 := Lib.hid hs1; clear h1 hs1) | (go_at_call 19; (with_reducible refine (read_calls _ _ _ _ _ _ _ H1.out.d (by have := HX.out; omega)).mono ?_); rintro e w2 ⟨v2, rfl, ho, hb⟩; obtain ⟨A2, c2, rfl⟩ := Kd.R_slice ho; have C2 := Lib.hid (Kd.R_reads' ho).2.2; have N2 := Lib.hid (Kd.R_reads' ho).2.1; have B2 := Lib.hid hb; clear ho hb) | (go_at_call 31; (with_reducible refine (scan_calls A2 c2 xs _ C2.out N2.out HO.out (by have := HX.out; omega)).mono ?_); rintro e w3 ⟨v3, rfl, hR3, hb3⟩; obtain ⟨A3, c3, rfl⟩ := Kd.R_slice hR3; have R3 := Lib.hid hR3; have B3 := Lib.hid hb3; have H3 := Lib.hid ((H1.out.below B2.out).below hb3); clear hR3 hb3) | (go_at_call 28; (with_reducible refine (cut_calls _ _ _ _ _ _ _ (scanEnd xs : Int) H3.out.d).mono ?_); rintro e w4 ⟨_, h4⟩; obtain ⟨rfl, v4, hd4, ht4, ha4⟩ := h4 hx1.out))
  go_ret2
  have hg : ∀ k, Own g v1 k → k < w2.heap.size := fun k hk => Nat.lt_of_lt_of_le (H1.out.own k hk).2 B2.out.size
  rw [Int.toNat_natCast] at hd4
  refine ⟨A3, c3, v4, w2.heap.size, rfl, (Kd.R_reads' R3.out).2.1, ?_, fun k hk => ?_, ⟨hd4, ?_, H1.out.r0, H1.out.r1, ?_⟩, ?_⟩
  · refine Kd.F_step (Kd.F_mono (Kd.R_F (Kd.R_bound R3.out)) (fun k hk => hk.2.1)) (fun k hk hlt => ht4.block k hlt (fun e => ?_))
    have := hg k (.inl e)
    omega
  · rcases hk with hk | hk
    · exact hg k (.inl hk)
    · exact hg k (.inr (ha4 ▸ hk))
  · rw [List.length_take]; have := HE.out; omega
  · rw [List.length_take]; have := HE.out; omega
  · exact (((S1.out.below B2.out).below B3.out)).trans ⟨ht4.own v1, .inl ha4⟩
/-- Rows in blocks of one stretch, beside a disk. -/
def Beside (Z Z2 g : Nat) (v : Value) : Prop := ∀ k, Own g v k → ¬ (Z ≤ k ∧ k < Z2)
theorem Beside.step {Z Z2 g : Nat} {v v' : Value} {W W' : World} (h : Beside Z Z2 g v) (hs : Step W W' g v v') (hz : Z2 ≤ W.heap.size) : Beside Z Z2 g v' := fun k hk => by
  rcases hk with hk | hk
  · exact h k (.inl hk)
  · rcases hs.at_ with e | ⟨b, e, hb⟩
    · exact h k (.inr (e ▸ hk))
    · rw [e] at hk
      obtain rfl := Option.some.inj hk
      omega
theorem F_beside {Z Z2 g : Nat} {v : Value} {W W' : World} {A : Option Addr} {n : Nat} {xs : List (List Int)} (hF : Kd.F (Kd.slice 5 (Kd.int .u8)) W (fun k => Z ≤ k ∧ k < Z2) A n xs) (h : Beside Z Z2 g v) (ht : Touch (Own g v) W W') : Kd.F (Kd.slice 5 (Kd.int .u8)) W' (fun k => Z ≤ k ∧ k < Z2) A n xs :=
  Kd.F_step hF (fun k hk hlt => ht.block k hlt (fun ho => h k ho hk))
end Go.Proofs.Ytfdpbdaekfdnjaa.X
-- Written by a program of this session (a turn of the kit's print with contracts by hand). Not trusted: Lean checks it.
namespace Go.Proofs.Ytfdpbdaekfdnjaa.X
open Go.RowKit Go.Proofs.YtfdpbdaekfdnjaaW.PrintWords Go.Proofs.YtfdpbdaekfdnjaaW.PrintLast Go.Proofs.YtfdpbdaekfdnjaaW.PrintMore
attribute [local go_sem] max2_int min2_int max_two min_two max_three min_three max_four min_four   -- for this text's walks alone
set_option linter.unusedVariables false
set_option linter.unusedSimpArgs false

/-! ### mootref01_Put: function 34 -/
def mootref01_Put.l0 : Nat → Int → Int → List Int → Int → Option (List Int)
  | 0, _, _, _, _ => none
  | k + 1, x0, x1, x5, x6 => if x6 < x1 then (if 0 ≤ (IntKind.u64.wrap (wrap64 (8 * (wrap64 ((wrap64 (x1 - 1)) - x6))))) then (if x5.length < 140737488355328 then (mootref01_Put.l0 k x0 x1 (x5 ++ [(shr .u64 (IntKind.u64.wrap (x0)) (IntKind.u64.wrap (wrap64 (8 * (wrap64 ((wrap64 (x1 - 1)) - x6)))))) % 256]) (wrap64 (x6 + 1))) else (none)) else (none)) else (some x5)
def mootref01_Put.f (k : Nat) (a0 : Int) (a1 : Int) : Option (List Int) := mootref01_Put.l0 k a0 (mn (mx a1 0) 8) ([] : List Int) 0
theorem mootref01_Put.mono_l : ∀ k, (∀ y0 y1 y2 y3, LeO (mootref01_Put.l0 k y0 y1 y2 y3) (mootref01_Put.l0 (k + 1) y0 y1 y2 y3))
  | 0 => fun _ _ _ _ r h => by simp [mootref01_Put.l0] at h
  | k + 1 => by
    have ih0 := mootref01_Put.mono_l k
    · intro y0 y1 y2 y3
      unfold mootref01_Put.l0
      repeat' first
      | (with_reducible exact ih0 _ _ _ _)
      | (with_reducible exact LeO.refl _)
      | (with_reducible exact LeO.none _)
      | (with_reducible refine LeO.ite ?_ ?_)
      | (with_reducible refine LeO.bind ?_ (fun _ => ?_))
      | exact ih0 _ _ _ _
      | exact LeO.none _
      | refine LeO.ite ?_ ?_
      | refine LeO.bind ?_ (fun _ => ?_)
theorem mootref01_Put.mono : ∀ a0 a1 k, LeO (mootref01_Put.f k a0 a1) (mootref01_Put.f (k + 1) a0 a1) := by
  intro a0 a1 k
  have ih0 := mootref01_Put.mono_l k
  unfold mootref01_Put.f
  repeat' first
      | (with_reducible exact ih0 _ _ _ _)
      | (with_reducible exact LeO.refl _)
      | (with_reducible exact LeO.none _)
      | (with_reducible refine LeO.ite ?_ ?_)
      | (with_reducible refine LeO.bind ?_ (fun _ => ?_))
      | exact ih0 _ _ _ _
      | exact LeO.none _
      | refine LeO.ite ?_ ?_
      | refine LeO.bind ?_ (fun _ => ?_)
set_option maxHeartbeats 8000000 in
set_option maxRecDepth 100000 in
theorem mootref01_Put.calls (k : Nat) (a0 : Int) (a1 : Int) (r : List Int) (w : World) (h : mootref01_Put.f k a0 a1 = some r) :
    Calls Try.prog 34 #[.int .i64 a0, .int .i64 a1] w fun e w' => ∃ v0_ : Value, e = .returned (v0_) ∧ Kd.R (Kd.int .u8) 5 w' w.heap.size (fun _ => True) v0_ r ∧ Below w.heap.size w w' := by
  have HB := Aside0.mk (Below.refl w.heap.size w)
  have H : (mootref01_Put.l0 k a0 (mn (mx a1 0) 8) ([] : List Int) 0) = some r := h
  clear h
  obtain ⟨ji3, hji3⟩ : ∃ j_ : Int, (mx a1 0) = j_ := ⟨_, rfl⟩
  replace H : (mootref01_Put.l0 k a0 (mn (ji3) 8) ([] : List Int) 0) = some r := by first | (rw [hji3] at H; exact H) | (simp only [hji3] at H ⊢; exact H)
  (try (have hji3l : 0 ≤ ji3 := by (rw [← hji3]; unfold mx; (repeat' split) <;> omega)))
  (try (have hji3m : 0 ≤ ji3 := by omega))
  have hji3_ : (if a1 < 0 then 0 else a1) = ji3 := hji3
  obtain ⟨ji4, hji4⟩ : ∃ j_ : Int, (mn (ji3) 8) = j_ := ⟨_, rfl⟩
  replace H : (mootref01_Put.l0 k a0 ji4 ([] : List Int) 0) = some r := by first | (rw [hji4] at H; exact H) | (simp only [hji4] at H ⊢; exact H)
  have hji4_ : (if 8 < (ji3) then 8 else (ji3)) = ji4 := hji4
  have H' := Aside0.mk H
  clear H
  go_enter Try.func34, Try.ntmps34
  go_wp2
  go_loopg [5, 6] k (fun kq v5 v6 w' => ∃ (x5_1 : List Int) (x6_1 : Int), v6 = .int .i64 x6_1 ∧ Aside0 (mootref01_Put.l0 kq a0 ji4 x5_1 x6_1 = some r) ∧ Aside0 (kq ≤ k) ∧ Aside0 (Kd.R (Kd.int .u8) 5 w' w.heap.size (fun _ => True) v5 x5_1) ∧ Aside0 (Below w.heap.size w w'))
  case atStart => exact ⟨(([] : List Int)), (0), (by first | rfl | (simp; done) | (simp [*]; done)), H', ⟨Nat.le_refl _⟩, ⟨by first | exact Kd.R_nil _ _ _ _ _ | exact Kd.N_nil _ _ _ _ _ | exact Kd.V_nil _ _ _ _ _ | exact Kd.Q_nil _ _ _ _ _ | exact Kd.S_nil _ _ _ _ _⟩, ⟨by repeat (first | (with_reducible first | exact HB.out | apply below_alloc | apply pw_below_drewN | apply below_drew1) | exact HB.out)⟩⟩
  case round =>
    clear H'
    clear hji4_ hji4 hji3_ hji3
    try clear p2
    try clear c3
    obtain ⟨x5_1, x6_1, rfl, HA, HK1, HO_5, HB⟩ := hrel
    cases gk with
    | zero => exact absurd HA.out (by simp [mootref01_Put.l0])
    | succ k1 =>
      have H := HA.out
      clear HA
      simp only [mootref01_Put.l0] at H
      by_cases c5 : x6_1 < ji4
      · rw [if_pos c5] at H
        have c5b0 : decide (x6_1 < ji4) = true := decide_eq_true c5
        clear c5
        obtain ⟨ji6, hji6⟩ : ∃ j_ : Int, (IntKind.u64.wrap (wrap64 (8 * (wrap64 ((wrap64 (ji4 - 1)) - x6_1))))) = j_ := ⟨_, rfl⟩
        replace H : (if 0 ≤ (ji6) then (if x5_1.length < 140737488355328 then (mootref01_Put.l0 k1 a0 ji4 (x5_1 ++ [(shr .u64 (IntKind.u64.wrap (a0)) (ji6)) % 256]) (wrap64 (x6_1 + 1))) else (none)) else (none)) = some r := by first | (rw [hji6] at H; exact H) | (simp only [hji6] at H ⊢; exact H)
        by_cases c7 : 0 ≤ (ji6)
        · rw [if_pos c7] at H
          have c7b0 := eq_true c7
          have c7b1 : decide (0 ≤ (ji6)) = true := decide_eq_true c7
          clear c7
          obtain ⟨ji8, hji8⟩ : ∃ j_ : Int, (shr .u64 (IntKind.u64.wrap (a0)) (ji6)) = j_ := ⟨_, rfl⟩
          replace H : (if x5_1.length < 140737488355328 then (mootref01_Put.l0 k1 a0 ji4 (x5_1 ++ [(ji8) % 256]) (wrap64 (x6_1 + 1))) else (none)) = some r := by first | (rw [hji8] at H; exact H) | (simp only [hji8] at H ⊢; exact H)
          have hji8_ : ((IntKind.u64.wrap (a0)) / 2 ^ min (ji6).toNat 64) = ji8 := hji8
          have hji8z : (ji6) ≤ 64 → ((IntKind.u64.wrap (a0)) / 2 ^ (ji6).toNat) = ji8 := shr_small hji8
          by_cases c9 : x5_1.length < 140737488355328
          · rw [if_pos c9] at H
            have LMc9 := Aside0.mk c9
            clear c9
            obtain ⟨y155, hy155⟩ : ∃ y_ : List Int, y_ = (x5_1 ++ [(ji8) % 256]) := ⟨_, rfl⟩
            replace H : (mootref01_Put.l0 k1 a0 ji4 y155 (wrap64 (x6_1 + 1))) = some r := by first | (rw [hy155]; with_reducible exact H) | (have H2_ := (Option.bind_some _ _).symm.trans H; rw [hy155]; with_reducible exact H2_) | (have H2_ := (Option.bind_some _ _).symm.trans H; with_reducible exact H2_) | with_reducible exact H | (rw [hy155]; exact H) | exact H
            have Ny155 := Aside0.mk hy155
            clear hy155
            have H' := Aside0.mk H
            clear H
            go_wp2_with (first | ((with_reducible refine gate_builtin (b := .append) (xs := #[.tmp 15, .tmp 26]) rfl ?_); at_builtin; refine Kd.R_append (Kd.int .u8) (w0 := w) w.heap.size rfl (.tmp 15) (.tmp 26) 22 5 (.int .u8 0) 1 rfl Try.underlying22 info5 rfl (by decide) (by omega) u5 x5_1 ((ji8) % 256) [.int .u8 ((ji8) % 256)] (fun _ => True) (fun _ => False) rfl rfl ?aP (fun _ hk => hk.elim) ?aF ?aO ?aB ?aS ?aL ?_; (case aP => exact rfl); (case aB => exact (by repeat (first | (with_reducible first | exact HB.out | apply below_alloc | apply pw_below_drewN | apply below_drew1) | exact HB.out))); (case aF => exact (fun _ _ => trivial)); (case aO => exact (by (with_reducible repeat (first | apply Kd.R_alloc | apply Kd.R_drewN | apply Kd.R_drew)); exact HO_5.out)); (case aS => exact (below_size (by repeat (first | (with_reducible first | exact HB.out | apply below_alloc | apply pw_below_drewN | apply below_drew1) | exact HB.out)))); (case aL => have := LMc9.out; omega); intro v156 w10 ho hb hg hat; rw [← Ny155.out] at ho; have n0_ := Aside0.mk (hb); have n1_ := Aside0.mk (ho); clear HB; clear HO_5; have HB := n0_; have HO157 := n1_; clear n0_ n1_; clear ho hb hg hat))
            go_roundg k1
            case measure => have := HK1.out; omega
            case rel => exact ⟨(y155), (wrap64 (x6_1 + 1)), (by first | rfl | (simp; done) | (simp [*]; done)), H', ⟨by have := HK1.out; omega⟩, ⟨by (with_reducible repeat (first | apply Kd.R_alloc | apply Kd.R_drewN | apply Kd.R_drew)); exact HO157.out⟩, ⟨by repeat (first | (with_reducible first | exact HB.out | apply below_alloc | apply pw_below_drewN | apply below_drew1) | exact HB.out)⟩⟩
          · rw [if_neg c9] at H
            exact absurd H (by simp)
        · rw [if_neg c7] at H
          exact absurd H (by simp)
      · rw [if_neg c5] at H
        have c5b0 : decide (x6_1 < ji4) = false := decide_eq_false c5
        clear c5
        obtain rfl := Option.some.inj H
        go_wp2
        go_ret
        exact ⟨_, by first | rfl | (simp [errW_none, errW_some] <;> rfl) | (simp only [← hji3, ← hji4]; first | rfl | (simp [errW_none, errW_some] <;> rfl)) | (simp [*, errW_none, errW_some] <;> rfl), by (with_reducible repeat (first | apply Kd.R_alloc | apply Kd.R_drewN | apply Kd.R_drew)); exact HO_5.out, by repeat (first | (with_reducible first | exact HB.out | apply below_alloc | apply pw_below_drewN | apply below_drew1) | exact HB.out)⟩

end Go.Proofs.Ytfdpbdaekfdnjaa.X
-- Written by a program of this session (a turn of the kit's print with contracts by hand). Not trusted: Lean checks it.
namespace Go.Proofs.Ytfdpbdaekfdnjaa.X
open Go.RowKit Go.Proofs.YtfdpbdaekfdnjaaW.PrintWords Go.Proofs.YtfdpbdaekfdnjaaW.PrintLast Go.Proofs.YtfdpbdaekfdnjaaW.PrintMore
attribute [local go_sem] max2_int min2_int max_two min_two max_three min_three max_four min_four   -- for this text's walks alone
set_option linter.unusedVariables false
set_option linter.unusedSimpArgs false

/-! ### mootlaw30_record: function 41 -/
def mootlaw30_record.f (k : Nat) (a0 : Int) (a1 : Int) : Option (List Int) := (mootref01_Put.f k a0 6).bind fun t194 => (if ([] : List Int).length + t194.length < 140737488355328 then ((some (([] : List Int) ++ t194 : List Int)).bind fun y197 => ((mootref01_Put.f k a1 6).bind fun t200 => (if y197.length + t200.length < 140737488355328 then (some (y197 ++ t200)) else (none)))) else (none))
theorem mootlaw30_record.mono : ∀ a0 a1 k, LeO (mootlaw30_record.f k a0 a1) (mootlaw30_record.f (k + 1) a0 a1) := by
  intro a0 a1 k
  unfold mootlaw30_record.f
  repeat' first
      | (with_reducible exact mootref01_Put.mono _ _ _)
      | (with_reducible exact LeO.refl _)
      | (with_reducible exact LeO.none _)
      | (with_reducible refine LeO.ite ?_ ?_)
      | (with_reducible refine LeO.bind ?_ (fun _ => ?_))
      | exact mootref01_Put.mono _ _ _
      | exact LeO.none _
      | refine LeO.ite ?_ ?_
      | refine LeO.bind ?_ (fun _ => ?_)
set_option maxHeartbeats 8000000 in
set_option maxRecDepth 100000 in
theorem mootlaw30_record.calls (k : Nat) (a0 : Int) (a1 : Int) (r : List Int) (w : World) (h : mootlaw30_record.f k a0 a1 = some r) :
    Calls Try.prog 41 #[.int .i64 a0, .int .i64 a1] w fun e w' => ∃ v0_ : Value, e = .returned (v0_) ∧ Kd.R (Kd.int .u8) 5 w' w.heap.size (fun _ => True) v0_ r ∧ Below w.heap.size w w' := by
  have HB := Aside0.mk (Below.refl w.heap.size w)
  have H : ((mootref01_Put.f k a0 6).bind fun t194 => (if ([] : List Int).length + t194.length < 140737488355328 then ((some (([] : List Int) ++ t194 : List Int)).bind fun y197 => ((mootref01_Put.f k a1 6).bind fun t200 => (if y197.length + t200.length < 140737488355328 then (some (y197 ++ t200)) else (none)))) else (none))) = some r := h
  clear h
  replace H := Option.bind_eq_some_iff.mp H
  obtain ⟨t194, A30, H⟩ := H
  replace H : (if ([] : List Int).length + t194.length < 140737488355328 then ((some (([] : List Int) ++ t194 : List Int)).bind fun y197 => ((mootref01_Put.f k a1 6).bind fun t200 => (if y197.length + t200.length < 140737488355328 then (some (y197 ++ t200)) else (none)))) else (none)) = some r := H
  have A3 := Aside0.mk A30
  clear A30
  by_cases c4 : ([] : List Int).length + t194.length < 140737488355328
  · rw [if_pos c4] at H
    have LMc4 := Aside0.mk c4
    clear c4
    obtain ⟨y197, hy197⟩ : ∃ y_ : List Int, y_ = (([] : List Int) ++ t194) := ⟨_, rfl⟩
    replace H : ((mootref01_Put.f k a1 6).bind fun t200 => (if y197.length + t200.length < 140737488355328 then (some (y197 ++ t200)) else (none))) = some r := by first | (rw [hy197]; with_reducible exact H) | (have H2_ := (Option.bind_some _ _).symm.trans H; rw [hy197]; with_reducible exact H2_) | (have H2_ := (Option.bind_some _ _).symm.trans H; with_reducible exact H2_) | with_reducible exact H | (rw [hy197]; exact H) | exact H
    have Ny197 := Aside0.mk hy197
    clear hy197
    replace H := Option.bind_eq_some_iff.mp H
    obtain ⟨t200, A50, H⟩ := H
    replace H : (if y197.length + t200.length < 140737488355328 then (some (y197 ++ t200)) else (none)) = some r := H
    have A5 := Aside0.mk A50
    clear A50
    by_cases c6 : y197.length + t200.length < 140737488355328
    · rw [if_pos c6] at H
      have LMc6 := Aside0.mk c6
      clear c6
      obtain ⟨y203, hy203⟩ : ∃ y_ : List Int, y_ = (y197 ++ t200) := ⟨_, rfl⟩
      replace H : (some y203) = some r := by first | (rw [hy203]; with_reducible exact H) | (have H2_ := (Option.bind_some _ _).symm.trans H; rw [hy203]; with_reducible exact H2_) | (have H2_ := (Option.bind_some _ _).symm.trans H; with_reducible exact H2_) | with_reducible exact H | (rw [hy203]; exact H) | exact H
      have Ny203 := Aside0.mk hy203
      clear hy203
      obtain rfl := Option.some.inj H
      go_enter Try.func41, Try.ntmps41
      go_wp2_with (first | ((with_reducible refine gate_callee (f := 34) rfl ?_); refine goesL_ (some 8) rfl rfl Try.func34 (by kernel_rfl) rfl #[.int .i64 a0, .int .i64 6] rfl (by (try simp only [List.map_toArray, List.map_cons, List.map_nil]); first | done | rfl | (simp only [List.length_drop, List.length_take]; rfl)) ?_; (with_reducible refine (mootref01_Put.calls k a0 6 t194 _ A3.out).mono ?_); rintro e w7 ⟨v195, rfl, ho0, hb⟩; refine ⟨_, rfl, ?_⟩; have n0_ := Aside0.mk (Kd.R_lower ho0 (below_size (by repeat (first | (with_reducible first | exact HB.out | apply below_alloc | apply pw_below_drewN | apply below_drew1) | exact HB.out)))); have n1_ := Aside0.mk (below_step (by repeat (first | (with_reducible first | exact HB.out | apply below_alloc | apply pw_below_drewN | apply below_drew1) | exact HB.out)) hb); clear HB; have HO196 := n0_; have HB := n1_; clear n0_ n1_; (try clear hb); (try clear hb2); (try clear hk); (try clear hi); (try clear ho0); obtain ⟨Ao9, co9, eo9⟩ := Kd.R_slice HO196.out; subst eo9) | ((with_reducible refine gate_builtin (b := .append) (xs := #[.tmp 6, .tmp 8]) rfl ?_); at_builtin; refine Kd.R_append_rows (Kd.int .u8) (w0 := w) w.heap.size rfl (.tmp 6) (.tmp 8) 22 5 (.int .u8 0) 1 rfl Try.underlying22 info5 rfl (by decide) (by omega) (.slice none 0 0) ([] : List Int) t194 _ _ _ (fun k_ => some k_ ≠ (.slice Ao9 t194.length co9 : Value).ownBlock) (fun _ => False) rfl rfl ?aO ?aR (fun _ _ h => h) (fun _ h => h.elim) ?aF ?aB ?aS ?aL ?_; (case aR => repeat (first | exact (Kd.R_reads' HO196.out).2.2 | (with_reducible refine Kd.C_alloc ?_ _) | (with_reducible refine Kd.C_drewN ?_ _) | (with_reducible refine Kd.C_drew ?_))); (case aB => exact (by repeat (first | (with_reducible first | exact HB.out | apply below_alloc | apply pw_below_drewN | apply below_drew1) | exact HB.out))); (case aF => exact (fun k_ hk => Kd.fresh' (Kd.R_lt (by (with_reducible repeat (first | apply Kd.R_alloc | apply Kd.R_drewN | apply Kd.R_drew)); exact HO196.out)) k_ hk)); (case aO => exact ((Kd.R_nil _ _ _ _ (fun k_ => some k_ ≠ (.slice Ao9 t194.length co9 : Value).ownBlock)))); (case aS => exact (below_size (by repeat (first | (with_reducible first | exact HB.out | apply below_alloc | apply pw_below_drewN | apply below_drew1) | exact HB.out)))); (case aL => have := LMc4.out; omega); intro v198 w8 ho hb hg hat; rw [← Ny197.out] at ho; have n0_ := Aside0.mk (Kd.R_after (Kd.R_apart_nil (by (with_reducible repeat (first | apply Kd.R_alloc | apply Kd.R_drewN | apply Kd.R_drew)); exact HO196.out)) hg hat); have n1_ := Aside0.mk (hb); have n2_ := Aside0.mk (ho); clear HO196; clear HB; have HO196 := n0_; have HB := n1_; have HO199 := n2_; clear n0_ n1_ n2_; clear ho hb hg hat) | ((with_reducible refine gate_callee (f := 34) rfl ?_); refine goesL_ (some 12) rfl rfl Try.func34 (by kernel_rfl) rfl #[.int .i64 a1, .int .i64 6] rfl (by (try simp only [List.map_toArray, List.map_cons, List.map_nil]); first | done | rfl | (simp only [List.length_drop, List.length_take]; rfl)) ?_; (with_reducible refine (mootref01_Put.calls k a1 6 t200 _ A5.out).mono ?_); rintro e w10 ⟨v201, rfl, ho0, hb⟩; refine ⟨_, rfl, ?_⟩; have n0_ := Aside0.mk (Kd.R_elder' (by (with_reducible repeat (first | apply Kd.R_alloc | apply Kd.R_drewN | apply Kd.R_drew)); exact HO196.out) (Kd.R_base ho0) hb); have n1_ := Aside0.mk (Kd.R_elder' (by (with_reducible repeat (first | apply Kd.R_alloc | apply Kd.R_drewN | apply Kd.R_drew)); exact HO199.out) (Kd.R_base ho0) hb); have n2_ := Aside0.mk (Kd.R_lower (Kd.R_new' (Kd.R_new' ho0 (Kd.R_lt (by (with_reducible repeat (first | apply Kd.R_alloc | apply Kd.R_drewN | apply Kd.R_drew)); exact HO196.out))) (Kd.R_lt (by (with_reducible repeat (first | apply Kd.R_alloc | apply Kd.R_drewN | apply Kd.R_drew)); exact HO199.out))) (below_size (by repeat (first | (with_reducible first | exact HB.out | apply below_alloc | apply pw_below_drewN | apply below_drew1) | exact HB.out)))); have n3_ := Aside0.mk (below_step (by repeat (first | (with_reducible first | exact HB.out | apply below_alloc | apply pw_below_drewN | apply below_drew1) | exact HB.out)) hb); clear HO196; clear HO199; clear HB; have HO196 := n0_; have HO199 := n1_; have HO202 := n2_; have HB := n3_; clear n0_ n1_ n2_ n3_; (try clear hb); (try clear hb2); (try clear hk); (try clear hi); (try clear ho0); obtain ⟨Ao12, co12, eo12⟩ := Kd.R_slice HO202.out; subst eo12) | ((with_reducible refine gate_builtin (b := .append) (xs := #[.tmp 10, .tmp 12]) rfl ?_); at_builtin; refine Kd.R_append_rows (Kd.int .u8) (w0 := w) w.heap.size rfl (.tmp 10) (.tmp 12) 22 5 (.int .u8 0) 1 rfl Try.underlying22 info5 rfl (by decide) (by omega) v198 y197 t200 _ _ _ (fun k_ => some k_ ≠ (.slice Ao9 t194.length co9 : Value).ownBlock ∧ some k_ ≠ (.slice Ao12 t200.length co12 : Value).ownBlock) (fun _ => False) rfl rfl ?aO ?aR (fun _ _ h => h) (fun _ h => h.elim) ?aF ?aB ?aS ?aL ?_; (case aR => repeat (first | exact (Kd.R_reads' HO202.out).2.2 | (with_reducible refine Kd.C_alloc ?_ _) | (with_reducible refine Kd.C_drewN ?_ _) | (with_reducible refine Kd.C_drew ?_))); (case aB => exact (by repeat (first | (with_reducible first | exact HB.out | apply below_alloc | apply pw_below_drewN | apply below_drew1) | exact HB.out))); (case aF => exact (fun k_ hk => ⟨Kd.fresh' (Kd.R_lt (by (with_reducible repeat (first | apply Kd.R_alloc | apply Kd.R_drewN | apply Kd.R_drew)); exact HO196.out)) k_ hk, Kd.fresh' (Kd.R_lt (by (with_reducible repeat (first | apply Kd.R_alloc | apply Kd.R_drewN | apply Kd.R_drew)); exact HO202.out)) k_ hk⟩)); (case aO => exact (by (with_reducible repeat (first | apply Kd.R_alloc | apply Kd.R_drewN | apply Kd.R_drew)); exact HO199.out)); (case aS => exact (below_size (by repeat (first | (with_reducible first | exact HB.out | apply below_alloc | apply pw_below_drewN | apply below_drew1) | exact HB.out)))); (case aL => have := LMc6.out; omega); intro v204 w11 ho hb hg hat; rw [← Ny203.out] at ho; have n0_ := Aside0.mk (Kd.R_after (ok := (fun k_ => some k_ ≠ (.slice Ao12 t200.length co12 : Value).ownBlock)) (by (with_reducible repeat (first | apply Kd.R_alloc | apply Kd.R_drewN | apply Kd.R_drew)); exact Kd.R_mono HO196.out (fun _ hk => ⟨hk.2, hk.1.2⟩)) hg hat); have n1_ := Aside0.mk (Kd.R_after (ok := (fun k_ => some k_ ≠ (.slice Ao9 t194.length co9 : Value).ownBlock)) (by (with_reducible repeat (first | apply Kd.R_alloc | apply Kd.R_drewN | apply Kd.R_drew)); exact Kd.R_mono HO202.out (fun _ hk => ⟨hk.1.2, hk.2⟩)) hg hat); have n2_ := Aside0.mk (hb); have n3_ := Aside0.mk (ho); clear HO196; clear HO202; clear HB; clear HO199; have HO196 := n0_; have HO202 := n1_; have HB := n2_; have HO205 := n3_; clear n0_ n1_ n2_ n3_; clear ho hb hg hat))
      go_ret
      exact ⟨_, by first | rfl | (simp [errW_none, errW_some] <;> rfl) | (simp [*, errW_none, errW_some] <;> rfl), by (with_reducible repeat (first | apply Kd.R_alloc | apply Kd.R_drewN | apply Kd.R_drew)); exact Kd.R_mono HO205.out (fun _ hk => trivial), by repeat (first | (with_reducible first | exact HB.out | apply below_alloc | apply pw_below_drewN | apply below_drew1) | exact HB.out)⟩
    · rw [if_neg c6] at H
      exact absurd H (by simp)
  · rw [if_neg c4] at H
    exact absurd H (by simp)

end Go.Proofs.Ytfdpbdaekfdnjaa.X
-- Written by a program of this session (a turn of the kit's print with contracts by hand). Not trusted: Lean checks it.
namespace Go.Proofs.Ytfdpbdaekfdnjaa.X
open Go.RowKit Go.Proofs.YtfdpbdaekfdnjaaW.PrintWords Go.Proofs.YtfdpbdaekfdnjaaW.PrintLast Go.Proofs.YtfdpbdaekfdnjaaW.PrintMore
attribute [local go_sem] max2_int min2_int max_two min_two max_three min_three max_four min_four   -- for this text's walks alone
set_option linter.unusedVariables false
set_option linter.unusedSimpArgs false

/-! ### compact_size: function 53 -/
def compact_size.l0 : Nat → Int → List (List Int) → Int → Int → Option (Int)
  | 0, _, _, _, _ => none
  | k + 1, x3, x6, x7, x8 => if x8 < x7 then (if 0 ≤ x8 then (if x8 < (x6.length : Int) then (compact_size.l0 k (wrap64 (x3 + (wrap64 (3 + ((rd_L1 x6 x8).length : Int))))) x6 x7 (wrap64 (x8 + 1))) else (none)) else (none)) else (some x3)
def compact_size.f (k : Nat) (l0 : List (List Int)) : Option (Int) := compact_size.l0 k 0 l0 (l0.length : Int) 0
theorem compact_size.mono_l : ∀ k, (∀ y0 y1 y2 y3, LeO (compact_size.l0 k y0 y1 y2 y3) (compact_size.l0 (k + 1) y0 y1 y2 y3))
  | 0 => fun _ _ _ _ r h => by simp [compact_size.l0] at h
  | k + 1 => by
    have ih0 := compact_size.mono_l k
    · intro y0 y1 y2 y3
      unfold compact_size.l0
      repeat' first
      | (with_reducible exact ih0 _ _ _ _)
      | (with_reducible exact LeO.refl _)
      | (with_reducible exact LeO.none _)
      | (with_reducible refine LeO.ite ?_ ?_)
      | (with_reducible refine LeO.bind ?_ (fun _ => ?_))
      | exact ih0 _ _ _ _
      | exact LeO.none _
      | refine LeO.ite ?_ ?_
      | refine LeO.bind ?_ (fun _ => ?_)
theorem compact_size.mono : ∀ a0 k, LeO (compact_size.f k a0) (compact_size.f (k + 1) a0) := by
  intro a0 k
  have ih0 := compact_size.mono_l k
  unfold compact_size.f
  repeat' first
      | (with_reducible exact ih0 _ _ _ _)
      | (with_reducible exact LeO.refl _)
      | (with_reducible exact LeO.none _)
      | (with_reducible refine LeO.ite ?_ ?_)
      | (with_reducible refine LeO.bind ?_ (fun _ => ?_))
      | exact ih0 _ _ _ _
      | exact LeO.none _
      | refine LeO.ite ?_ ?_
      | refine LeO.bind ?_ (fun _ => ?_)
set_option maxHeartbeats 8000000 in
set_option maxRecDepth 100000 in
theorem compact_size.calls (k : Nat) (A0 : Option Addr) (c0 : Nat) (l0 : List (List Int)) (r : Int) (w : World) (hr0 : Kd.C (Kd.slice 5 (Kd.int .u8)) w A0 l0.length l0) (hc0 : l0.length ≤ c0) (h : compact_size.f k l0 = some r) :
    Calls Try.prog 53 #[.slice A0 l0.length c0] w fun e w' => e = .returned (.int .i64 r) ∧ Drawn0 w w' := by
  have HR0 := Aside0.mk hr0
  have HC0 := Aside0.mk hc0
  clear hr0 hc0
  have H : (compact_size.l0 k 0 l0 (l0.length : Int) 0) = some r := h
  clear h
  have H' := Aside0.mk H
  clear H
  go_enter Try.func53, Try.ntmps53
  go_wp2
  go_loopg [3, 8] k (fun kq v3 v8 w' => ∃ (x3_1 : Int) (x8_1 : Int), v3 = .int .i64 x3_1 ∧ v8 = .int .i64 x8_1 ∧ Aside0 (compact_size.l0 kq x3_1 l0 (l0.length : Int) x8_1 = some r) ∧ Aside0 (kq ≤ k) ∧ Drawn0 w w')
  case atStart => exact ⟨(0), (0), (by first | rfl | (simp; done) | (simp [*]; done)), (by first | rfl | (simp; done) | (simp [*]; done)), H', ⟨Nat.le_refl _⟩, by repeat (first | exact Drawn0.refl _ | apply Drawn0.step)⟩
  case round =>
    clear H'
    obtain ⟨x3_1, x8_1, rfl, rfl, HA, HK1, ⟨m1, rfl⟩⟩ := hrel
    cases gk with
    | zero => exact absurd HA.out (by simp [compact_size.l0])
    | succ k1 =>
      have H := HA.out
      clear HA
      simp only [compact_size.l0] at H
      by_cases c2 : x8_1 < (l0.length : Int)
      · rw [if_pos c2] at H
        have c2b0 : decide (x8_1 < (l0.length : Int)) = true := decide_eq_true c2
        clear c2
        by_cases c3 : 0 ≤ x8_1
        · rw [if_pos c3] at H
          have c3b0 : decide (0 ≤ x8_1) = true := decide_eq_true c3
          clear c3
          by_cases c4 : x8_1 < (l0.length : Int)
          · rw [if_pos c4] at H
            have c4b0 : decide (x8_1 < (l0.length : Int)) = true := decide_eq_true c4
            clear c4
            have H' := Aside0.mk H
            clear H
            have p259 : 0 ≤ (x8_1 : Int) := of_decide_eq_true (by first | (with_reducible assumption) | assumption)
            have q259 : x8_1 < (l0.length : Int) := of_decide_eq_true (by first | (with_reducible assumption) | assumption)
            obtain ⟨ad259, A259_0, c259_0, e259, hx259_0, hl259_0, hi259_0⟩ := at_L1 HR0.out x8_1 p259 q259
            cases e259
            have HR259_0 := Aside0.mk hi259_0
            have HC259_0 := Aside0.mk hl259_0
            clear hi259_0 hl259_0
            replace p259 := eq_true p259
            replace q259 := eq_true q259
            go_wp2
            go_roundg k1
            case measure => have := HK1.out; omega
            case rel => exact ⟨(wrap64 (x3_1 + (wrap64 (3 + ((rd_L1 l0 x8_1).length : Int))))), (wrap64 (x8_1 + 1)), (by first | rfl | (simp; done) | (simp [*]; done)), (by first | rfl | (simp; done) | (simp [*]; done)), H', ⟨by have := HK1.out; omega⟩, by repeat (first | exact Drawn0.refl _ | apply Drawn0.step)⟩
          · rw [if_neg c4] at H
            exact absurd H (by simp)
        · rw [if_neg c3] at H
          exact absurd H (by simp)
      · rw [if_neg c2] at H
        have c2b0 : decide (x8_1 < (l0.length : Int)) = false := decide_eq_false c2
        clear c2
        obtain rfl := Option.some.inj H
        go_wp2
        go_ret
        exact ⟨by first | rfl | (simp; done) | (simp [*]; done), by repeat (first | exact Drawn0.refl _ | apply Drawn0.step)⟩

end Go.Proofs.Ytfdpbdaekfdnjaa.X
/- mootlaw30.alive: of two views the last counts. And what Gain comes to. -/
namespace Go.Proofs.Ytfdpbdaekfdnjaa.X
open Go.RowKit Go.Proofs.YtfdpbdaekfdnjaaW.PrintWords Go.Proofs.YtfdpbdaekfdnjaaW.PrintLast Go.Proofs.YtfdpbdaekfdnjaaW.PrintMore
set_option linter.unusedVariables false
set_option linter.unusedSimpArgs false

theorem two_C {W : World} {K : Nat} {A A2 : Option Addr} {c c2 : Nat} {x y : List Int} (hk : W.cell? ⟨K, 0, none⟩ = some (.slice A x.length c)) (hk2 : W.cell? ⟨K, 1, none⟩ = some (.slice A2 y.length c2)) (hc : x.length ≤ c) (hC : Kd.C (Kd.int .u8) W A x.length x) (hc2 : y.length ≤ c2) (hC2 : Kd.C (Kd.int .u8) W A2 y.length y) : Kd.C (Kd.slice 5 (Kd.int .u8)) W (some ⟨K, 0, none⟩) 2 [x, y] := by
  refine ⟨rfl, by omega, fun _ => ⟨_, rfl, fun j p hj => ?_⟩⟩
  rcases j with _ | _ | j
  · obtain rfl : x = p := by simpa using hj
    refine ⟨[.slice A x.length c], rfl, ⟨A, c, rfl, hc, hC⟩, fun i u hu => ?_⟩
    rcases i with _ | i
    · obtain rfl : Value.slice A x.length c = u := by simpa using hu
      rw [show ((⟨K, 0, none⟩ : Addr).add (0 * (Kd.slice 5 (Kd.int .u8)).sz + 0)) = ⟨K, 0, none⟩ by simp [Addr.add]]
      exact hk
    · simp at hu
  · obtain rfl : y = p := by simpa using hj
    refine ⟨[.slice A2 y.length c2], rfl, ⟨A2, c2, rfl, hc2, hC2⟩, fun i u hu => ?_⟩
    rcases i with _ | i
    · obtain rfl : Value.slice A2 y.length c2 = u := by simpa using hu
      rw [show ((⟨K, 0, none⟩ : Addr).add ((0 + 1) * (Kd.slice 5 (Kd.int .u8)).sz + 0)) = ⟨K, 1, none⟩ by rw [show (Kd.slice 5 (Kd.int .u8)).sz = 1 from rfl]; simp [Addr.add]]
      exact hk2
    · simp at hu
  · simp at hj
theorem rec3 : mootlaw30_record.f 9 1 3 = some [0, 0, 0, 0, 0, 1, 0, 0, 0, 0, 0, 3] := by decide +kernel
theorem rec4 : mootlaw30_record.f 9 1 4 = some [0, 0, 0, 0, 0, 1, 0, 0, 0, 0, 0, 4] := by decide +kernel
theorem keep34 : keepL [[0, 0, 0, 0, 0, 1, 0, 0, 0, 0, 0, 3], [0, 0, 0, 0, 0, 1, 0, 0, 0, 0, 0, 4]] = [[0, 0, 0, 0, 0, 1, 0, 0, 0, 0, 0, 4]] := by decide +kernel
theorem rec34 : ∀ x ∈ [[(0 : Int), 0, 0, 0, 0, 1, 0, 0, 0, 0, 0, 3], [0, 0, 0, 0, 0, 1, 0, 0, 0, 0, 0, 4]], Octets x ∧ x.length ≤ 140737488355328 := by decide +kernel
set_option maxRecDepth 100000 in
set_option maxHeartbeats 4000000 in
theorem alive30_calls (w : World) : Calls Try.prog 21 #[] w fun e w' => e = .returned (.bool true) ∧ Below w.heap.size w w' := by
  obtain ⟨r3, hr3⟩ : ∃ r3, [(0 : Int), 0, 0, 0, 0, 1, 0, 0, 0, 0, 0, 3] = r3 := ⟨_, rfl⟩
  obtain ⟨r4, hr4⟩ : ∃ r4, [(0 : Int), 0, 0, 0, 0, 1, 0, 0, 0, 0, 0, 4] = r4 := ⟨_, rfl⟩
  have h3 := rec3
  have h4 := rec4
  have hk := keep34
  have hO := rec34
  rw [hr3] at h3
  rw [hr4] at h4
  rw [hr3, hr4] at hk hO
  have H3 := Lib.hid h3
  have H4 := Lib.hid h4
  have HKL := Lib.hid hk
  have HO := Lib.hid hO
  clear h3 h4 hk hO hr3 hr4
  have hmix : Try.prog.follows .mixedOrders = true := by kernel_rfl
  go_enter Try.func21, Try.ntmps21
  go_upto_region 2 with (first | (go_at_call 41; (with_reducible refine (mootlaw30_record.calls 9 1 3 r3 _ H3.out).mono ?_); rintro e w1 ⟨v1, rfl, hR1, hb1⟩; obtain ⟨A1, c1, rfl⟩ := Kd.R_slice hR1; have R1 := Lib.hid hR1; have B1 := Lib.hid hb1; clear hR1 hb1 H3) | (go_at_call 41; (with_reducible refine (mootlaw30_record.calls 9 1 4 r4 _ H4.out).mono ?_); rintro e w2 ⟨v2, rfl, hR2, hb2⟩; obtain ⟨A2, c2, rfl⟩ := Kd.R_slice hR2; have R2 := Lib.hid hR2; have B2 := Lib.hid hb2; clear hR2 hb2) | (go_at_call 35; go_must (refine (keep_calls (some ⟨w2.heap.size, 0, none⟩) 2 [r3, r4] _ (two_C ((blk_cell (blk_new w2 (.cells #[.slice A1 r3.length c1, .slice A2 r4.length c2] 22)) 0).trans rfl) ((blk_cell (blk_new w2 (.cells #[.slice A1 r3.length c1, .slice A2 r4.length c2] 22)) 1).trans rfl) (Kd.R_reads' R1.out).2.1 (Kd.C_below (Kd.C_below (Kd.R_reads' R1.out).2.2 B2.out) (below_alloc (Below.refl _ _) _)) (Kd.R_reads' R2.out).2.1 (Kd.C_below (Kd.R_reads' R2.out).2.2 (below_alloc (Below.refl _ _) _))) (by simp) HO.out (by simp)).mono ?_; rintro e w3 ⟨v3, rfl, hR3, hb3⟩; rw [HKL.out] at hR3; obtain ⟨A3, c3, rfl⟩ := Kd.R_slice hR3; have R3 := Lib.hid (Kd.R_reads' hR3).2.2; have B3 := Lib.hid (below_step (below_alloc (below_step B1.out B2.out) _) hb3); clear hR3 hb3)))
  obtain ⟨ad3, A5, c5, rfl, x0, hlc5, hC5⟩ := at_L1 R3.out 0 (by omega) (by simp)
  have hrd : rd_L1 [r4] 0 = r4 := rfl
  rw [hrd] at x0 hlc5 hC5
  rw [show (0 : Int).toNat = 0 from rfl] at x0
  have C5 := Lib.hid hC5
  have s5 : (convert 22 9 (.slice A5 r4.length c5)).run Try.prog w3.drew = .ok (.string (strOfNums r4)) w3.drew := Kd.C_string (P := Try.prog) Try.underlying22 Try.underlying5 Try.underlying9 (c := c5) (Kd.C_drew hC5)
  clear hC5 hrd hlc5 R1 R2 B1 B2 HO HKL R3
  obtain ⟨sx, hsx⟩ : ∃ sx, strOfNums r4 = sx := ⟨_, rfl⟩
  rw [hsx] at s5
  have HSX := Lib.hid hsx
  clear hsx
  have ha0 : ad3.add 0 = ad3 := by simp [Addr.add]
  rw [ha0] at x0
  have x1 : w3.drew.cell? ad3 = some (.slice A5 r4.length c5) := x0
  clear ha0 x0
  go_region_with (go_at_call 41; go_must (refine (mootlaw30_record.calls 9 1 4 r4 _ H4.out).mono ?_; rintro e w4 ⟨v4, rfl, hR4, hb4⟩; obtain ⟨A4, c4, rfl⟩ := Kd.R_slice hR4; have C4 := Lib.hid (Kd.R_reads' hR4).2.2; have B4 := Lib.hid (below_step (below_drew B3.out) hb4); have s4 : (convert 22 9 (.slice A4 r4.length c4)).run Try.prog w4 = .ok (.string sx) w4 := (by rw [← HSX.out]; exact Kd.C_string (P := Try.prog) Try.underlying22 Try.underlying5 Try.underlying9 (c := c4) C4.out); have s6 : (convert 22 9 (.slice A5 r4.length c5)).run Try.prog w4 = .ok (.string sx) w4 := (by rw [← HSX.out]; exact Kd.C_string (P := Try.prog) Try.underlying22 Try.underlying5 Try.underlying9 (c := c5) (Kd.C_below (Kd.C_drew C5.out) hb4)); have x2 : w4.cell? ad3 = some (.slice A5 r4.length c5) := (hb4.cell (World.block_lt_of_cell? _ _ x1)).trans x1; clear hR4 hb4))
  all_goals go_wp2
  all_goals go_ret
  all_goals exact ⟨rfl, B4.out⟩
set_option maxRecDepth 100000 in
set_option maxHeartbeats 4000000 in
theorem gain_calls (A : Option Addr) (c : Nat) (l : List (List Int)) (n m : Int) (w : World) (hC : Kd.C (Kd.slice 5 (Kd.int .u8)) w A l.length l) (hc : l.length ≤ c) (hO : ∀ x ∈ l, Octets x ∧ x.length ≤ 140737488355328) (hl : l.length ≤ 1000000000) (k : Nat) (hn : compact_size.f k l = some n) (hm : compact_size.f k (keepL l) = some m) :
    Calls Try.prog 38 #[.slice A l.length c] w fun e w' => e = .returned (.int .i64 (wrap64 (n - m))) ∧ Below w.heap.size w w' := by
  have HC := Lib.hid hC
  have HO := Lib.hid hO
  have HN := Lib.hid hn
  have HM := Lib.hid hm
  clear hC hO hn hm
  go_enter Try.func38, Try.ntmps38
  go_wp2_with (first | (go_at_call 53; (with_reducible refine (compact_size.calls k A c l n _ HC.out hc HN.out).mono ?_); rintro e w1 ⟨rfl, ⟨nd, rfl⟩⟩; clear HN) | (go_at_call 35; go_must (refine (keep_calls A c l _ (Kd.C_drewN HC.out _) hc HO.out hl).mono ?_; rintro e w2 ⟨v2, rfl, hR2, hb2⟩; obtain ⟨A2, c2, rfl⟩ := Kd.R_slice hR2; have R2 := Lib.hid (Kd.R_reads' hR2).2; have B2 := Lib.hid hb2; clear hR2 hb2)) | (go_at_call 53; (with_reducible refine (compact_size.calls k A2 c2 (keepL l) m _ R2.out.2 R2.out.1 HM.out).mono ?_); rintro e w3 ⟨rfl, ⟨nd3, rfl⟩⟩))
  go_ret
  exact ⟨rfl, pw_below_drewN (below_step (pw_below_drewN (Below.refl _ _) _) B2.out) _⟩
end Go.Proofs.Ytfdpbdaekfdnjaa.X
-- Written by a program of this session (a turn of the kit's print with contracts by hand). Not trusted: Lean checks it.
namespace Go.Proofs.Ytfdpbdaekfdnjaa.X
open Go.RowKit Go.Proofs.YtfdpbdaekfdnjaaW.PrintWords Go.Proofs.YtfdpbdaekfdnjaaW.PrintLast Go.Proofs.YtfdpbdaekfdnjaaW.PrintMore
attribute [local go_sem] max2_int min2_int max_two min_two max_three min_three max_four min_four   -- for this text's walks alone
set_option linter.unusedVariables false
set_option linter.unusedSimpArgs false

/-! ### mootref01_Get: function 45 -/
def mootref01_Get.l0 : Nat → List Int → Int → Int → Option (Int)
  | 0, _, _, _ => none
  | k + 1, x0, x3, x4 => if x4 < (x0.length : Int) then (if 0 ≤ x4 then (mootref01_Get.l0 k x0 (Int.tmod (IntKind.u64.wrap ((IntKind.u64.wrap (x3 * 256)) + (IntKind.u64.wrap (rd x0 x4)))) 4611686018427387904) (wrap64 (x4 + 1))) else (none)) else (some (wrap64 (x3)))
def mootref01_Get.f (k : Nat) (l0 : List Int) : Option (Int) := mootref01_Get.l0 k l0 0 0
theorem mootref01_Get.mono_l : ∀ k, (∀ y0 y1 y2, LeO (mootref01_Get.l0 k y0 y1 y2) (mootref01_Get.l0 (k + 1) y0 y1 y2))
  | 0 => fun _ _ _ r h => by simp [mootref01_Get.l0] at h
  | k + 1 => by
    have ih0 := mootref01_Get.mono_l k
    · intro y0 y1 y2
      unfold mootref01_Get.l0
      repeat' first
      | (with_reducible exact ih0 _ _ _)
      | (with_reducible exact LeO.refl _)
      | (with_reducible exact LeO.none _)
      | (with_reducible refine LeO.ite ?_ ?_)
      | (with_reducible refine LeO.bind ?_ (fun _ => ?_))
      | exact ih0 _ _ _
      | exact LeO.none _
      | refine LeO.ite ?_ ?_
      | refine LeO.bind ?_ (fun _ => ?_)
theorem mootref01_Get.mono : ∀ a0 k, LeO (mootref01_Get.f k a0) (mootref01_Get.f (k + 1) a0) := by
  intro a0 k
  have ih0 := mootref01_Get.mono_l k
  unfold mootref01_Get.f
  repeat' first
      | (with_reducible exact ih0 _ _ _)
      | (with_reducible exact LeO.refl _)
      | (with_reducible exact LeO.none _)
      | (with_reducible refine LeO.ite ?_ ?_)
      | (with_reducible refine LeO.bind ?_ (fun _ => ?_))
      | exact ih0 _ _ _
      | exact LeO.none _
      | refine LeO.ite ?_ ?_
      | refine LeO.bind ?_ (fun _ => ?_)
set_option maxHeartbeats 8000000 in
set_option maxRecDepth 100000 in
theorem mootref01_Get.calls (k : Nat) (A0 : Option Addr) (c0 : Nat) (l0 : List Int) (r : Int) (w : World) (hr0 : Kd.C (Kd.int .u8) w A0 l0.length l0) (hc0 : l0.length ≤ c0) (h : mootref01_Get.f k l0 = some r) :
    Calls Try.prog 45 #[.slice A0 l0.length c0] w fun e w' => e = .returned (.int .i64 r) ∧ Drawn0 w w' := by
  have HR0 := Aside0.mk hr0
  have HC0 := Aside0.mk hc0
  clear hr0 hc0
  have H : (mootref01_Get.l0 k l0 0 0) = some r := h
  clear h
  have H' := Aside0.mk H
  clear H
  go_enter Try.func45, Try.ntmps45
  go_wp2
  go_loopg [3, 4] k (fun kq v3 v4 w' => ∃ (x3_1 : Int) (x4_1 : Int), v3 = .int .u64 x3_1 ∧ v4 = .int .i64 x4_1 ∧ Aside0 (mootref01_Get.l0 kq l0 x3_1 x4_1 = some r) ∧ Aside0 (kq ≤ k) ∧ Drawn0 w w')
  case atStart => exact ⟨(0), (0), (by first | rfl | (simp; done) | (simp [*]; done)), (by first | rfl | (simp; done) | (simp [*]; done)), H', ⟨Nat.le_refl _⟩, by repeat (first | exact Drawn0.refl _ | apply Drawn0.step)⟩
  case round =>
    clear H'
    obtain ⟨x3_1, x4_1, rfl, rfl, HA, HK1, ⟨m1, rfl⟩⟩ := hrel
    cases gk with
    | zero => exact absurd HA.out (by simp [mootref01_Get.l0])
    | succ k1 =>
      have H := HA.out
      clear HA
      simp only [mootref01_Get.l0] at H
      by_cases c2 : x4_1 < (l0.length : Int)
      · rw [if_pos c2] at H
        have c2b0 : decide (x4_1 < (l0.length : Int)) = true := decide_eq_true c2
        clear c2
        by_cases c3 : 0 ≤ x4_1
        · rw [if_pos c3] at H
          have c3b0 : decide (0 ≤ x4_1) = true := decide_eq_true c3
          clear c3
          have H' := Aside0.mk H
          clear H
          have p133 : 0 ≤ (x4_1 : Int) := of_decide_eq_true (by first | (with_reducible assumption) | assumption)
          have q133 : x4_1 < (l0.length : Int) := of_decide_eq_true (by first | (with_reducible assumption) | assumption)
          obtain ⟨ad133, e133, hx133_0⟩ := Kd.at_int HR0.out x4_1 p133 q133
          cases e133
          replace p133 := eq_true p133
          replace q133 := eq_true q133
          go_wp2
          go_roundg k1
          case measure => have := HK1.out; omega
          case rel => exact ⟨(Int.tmod (IntKind.u64.wrap ((IntKind.u64.wrap (x3_1 * 256)) + (IntKind.u64.wrap (rd l0 x4_1)))) 4611686018427387904), (wrap64 (x4_1 + 1)), (by first | rfl | (simp; done) | (simp [*]; done)), (by first | rfl | (simp; done) | (simp [*]; done)), H', ⟨by have := HK1.out; omega⟩, by repeat (first | exact Drawn0.refl _ | apply Drawn0.step)⟩
        · rw [if_neg c3] at H
          exact absurd H (by simp)
      · rw [if_neg c2] at H
        have c2b0 : decide (x4_1 < (l0.length : Int)) = false := decide_eq_false c2
        clear c2
        obtain rfl := Option.some.inj H
        go_wp2
        go_ret
        exact ⟨by first | rfl | (simp; done) | (simp [*]; done), by repeat (first | exact Drawn0.refl _ | apply Drawn0.step)⟩

end Go.Proofs.Ytfdpbdaekfdnjaa.X
/- The law's own scan of octets, and numbers of the reference. -/
namespace Go.Proofs.Ytfdpbdaekfdnjaa.X
open Go.RowKit Go.Proofs.YtfdpbdaekfdnjaaW.PrintWords Go.Proofs.YtfdpbdaekfdnjaaW.PrintLast Go.Proofs.YtfdpbdaekfdnjaaW.PrintMore
set_option linter.unusedVariables false
set_option linter.unusedSimpArgs false
theorem refget_l0 (l : List Int) (hl : Octets l) (hm : l.length < 4611686018427387904) (d : Nat) : ∀ (k i : Nat) (acc u : Int), 0 ≤ u → u < 18446744073709551616 → acc = u % 4611686018427387904 → i + d = l.length → d < k →
    mootref01_Get.l0 k l acc (i : Int) = some (getF u (l.drop i) % 4611686018427387904) := by
  induction d with
  | zero =>
    intro k i acc u h0 h1 ha hd hk
    obtain ⟨k, rfl⟩ : ∃ m, k = m + 1 := ⟨k - 1, by omega⟩
    rw [mootref01_Get.l0, if_neg (by omega), List.drop_of_length_le (by omega)]
    simp only [getF, List.foldl_nil, Option.some.injEq]
    unfold wrap64
    omega
  | succ d ih =>
    intro k i acc u h0 h1 ha hd hk
    obtain ⟨k, rfl⟩ : ∃ m, k = m + 1 := ⟨k - 1, by omega⟩
    have hi : i < l.length := by omega
    have hr := hl _ (List.getElem_mem hi)
    have e3 : wrap64 ((i : Int) + 1) = ((i + 1 : Nat) : Int) := by rw [wrap64_id _ (by omega) (by omega)]; rfl
    rw [mootref01_Get.l0, if_pos (by omega), if_pos (by omega), e3, rd_at l i hi, List.drop_eq_getElem_cons hi]
    rw [show getF u (l[i] :: l.drop (i + 1)) = getF ((u * 256 + l[i]) % 18446744073709551616) (l.drop (i + 1)) from rfl]
    refine ih k (i + 1) _ _ (by omega) (by omega) ?_ (by omega) (by omega)
    rw [IntKind.wrap_u64, IntKind.wrap_u64, IntKind.wrap_u64]
    generalize l[i] = c at hr ⊢
    rw [Int.tmod_eq_emod_of_nonneg (by omega)]
    omega
theorem refget_f (l : List Int) (hl : Octets l) (hm : l.length < 4611686018427387904) (k : Nat) (hk : l.length < k) : mootref01_Get.f k l = some (getF 0 l % 4611686018427387904) := by
  have := refget_l0 l hl hm l.length k 0 0 0 (by omega) (by omega) (by omega) (by omega) hk
  simpa [mootref01_Get.f] using this
theorem refget_cut {W : World} {A : Option Addr} {c : Nat} {b : List Int} (hC : Kd.C (Kd.int .u8) W A b.length b) (hc : b.length ≤ c) (hO : Octets b) (at_ : Nat) (h : at_ + 3 ≤ b.length) (m : Nat) (hm : lenAt b at_ = (m : Int)) :
    Calls Try.prog 45 #[cutV A c at_ 3] W fun e w' => e = .returned (.int .i64 (m : Int)) ∧ Drawn0 W w' := by
  have hl : ((b.take (at_ + 3)).drop at_).length = 3 := by rw [List.length_drop, List.length_take]; omega
  have := mootref01_Get.calls 4 (cutA A c at_) (c - at_) ((b.take (at_ + 3)).drop at_) (lenAt b at_) W (by rw [hl]; exact cut_C hC hc at_ 3 h) (by omega) (refget_f _ (octets_cut b hO _ _) (by omega) 4 (by omega))
  rw [hl, hm] at this
  exact this
theorem piece_FK {w W : World} {A : Option Addr} {c : Nat} {b : List Int} (hC : Kd.C (Kd.int .u8) w A b.length b) (hB : Below w.heap.size w W) (hc : b.length ≤ c) (lo n : Nat) (h : lo + n ≤ b.length) :
    Kd.FK (Kd.slice 5 (Kd.int .u8)) W (fun k => k < w.heap.size) (pieceL b (lo, n)) [.slice (cutA A c lo) n (c - lo)] := by
  have hl : (pieceL b (lo, n)).length = n := by simp only [pieceL, List.length_drop, List.length_take]; omega
  have hF := Kd.F_mid (lo := lo) (hi := lo + n) (Kd.F_below (Kd.C_F (Kd.heap_int .u8) hC) hB) (by omega) h hc
  have := Kd.FK_slice_mk (e := 5) (d := Kd.int .u8) (W := W) (ok := fun k => k < w.heap.size) (A := cutA A c lo) (c := c - lo) (l := pieceL b (lo, n)) (by rw [hl]; omega) hF
  rw [hl] at this
  exact this
theorem N_base {W : World} {base : Nat} {ok : Nat → Prop} {v : Value} {rows : List (List Int)} (h : Kd.N (Kd.slice 5 (Kd.int .u8)) 22 W base ok v rows) : ∀ k, v.ownBlock = some k → base ≤ k := by
  obtain ⟨_, rs, _, hR, _⟩ := h
  obtain ⟨inner, ho⟩ := Kd.R_own hR
  exact fun k hk => own_base ho k hk

theorem lscan_end {w W : World} {b : List Int} {d at_ : Nat} {pre : List (Piece b)} {v : Value} (he : pre.map (·.1) = scanN b (b.length + 1) 0) (hc : CameF b d at_ pre) (hN : Kd.N (Kd.slice 5 (Kd.int .u8)) 22 W w.heap.size (fun _ => True) v (pre.map (fun x => pieceL b x.1))) (hB : Below w.heap.size w W) :
    ∃ A1 c1, Ending.returned (.tuple #[v, .int .i64 (at_ : Int)]) = .returned (.tuple #[.slice A1 (scanL b).length c1, .int .i64 (scanEnd b : Int)]) ∧ Kd.C (Kd.slice 5 (Kd.int .u8)) W A1 (scanL b).length (scanL b) ∧ Below w.heap.size w W := by
  have e1 : pre.map (fun x => pieceL b x.1) = scanL b := by rw [scanL, ← he, List.map_map]; rfl
  have e2 : at_ = scanEnd b := by
    have := hc.2.2.2.2
    rw [scanEnd, ← he, endN, ← this, List.getLast?_map, Option.map_map]
    rfl
  rw [e1] at hN
  obtain ⟨A1, c1, rfl⟩ := Kd.N_slice hN
  exact ⟨A1, c1, by rw [e2], (Kd.N_reads' hN).2.2, hB⟩

set_option maxRecDepth 100000 in
set_option maxHeartbeats 40000000 in
theorem lscan_calls (A : Option Addr) (c : Nat) (b : List Int) (w : World) (hC : Kd.C (Kd.int .u8) w A b.length b) (hc : b.length ≤ c) (hO : Octets b) (hlen : b.length ≤ 100000000000) :
    Calls Try.prog 32 #[.slice A b.length c] w fun e w' => ∃ A1 c1, e = .returned (.tuple #[.slice A1 (scanL b).length c1, .int .i64 (scanEnd b : Int)]) ∧ Kd.C (Kd.slice 5 (Kd.int .u8)) w' A1 (scanL b).length (scanL b) ∧ Below w.heap.size w w' := by
  have HC := Lib.hid hC
  have HO := Lib.hid hO
  clear hC hO
  go_enter Try.func32, Try.ntmps32
  go_wp2
  go_loopg [4, 5] (b.length + 1) (fun kq v4 v5 w' => ∃ (d at_ : Nat) (pre : List (Piece b)), v5 = .int .i64 (at_ : Int) ∧ Hid (kq = d + 1) ∧ Hid (CameF b (d + 1) at_ pre) ∧ Hid (Kd.N (Kd.slice 5 (Kd.int .u8)) 22 w' w.heap.size (fun _ => True) v4 (pre.map (fun x => pieceL b x.1))) ∧ Hid (Below w.heap.size w w'))
  case atStart => exact ⟨b.length, 0, [], rfl, Lib.hid rfl, Lib.hid (CameF.start b), Lib.hid (Kd.N_nil _ _ _ _ _), Lib.hid (Below.refl _ _)⟩
  case round =>
    obtain ⟨d, at_, pre, rfl, hk8, hcame, hN, hB⟩ := hrel
    have hle := hcame.out.2.2.1
    have e1 : wrap64 ((b.length : Int) - (at_ : Int)) = (b.length : Int) - at_ := wrap64_id _ (by omega) (by omega)
    by_cases h3 : at_ + 3 ≤ b.length
    · have c1 : decide ((b.length : Int) - (at_ : Int) ≥ 3) = true := decide_eq_true (by omega)
      have c2 : decide (3 ≤ (b.length : Int) - (at_ : Int)) = true := decide_eq_true (by omega)
      have e2 : wrap64 ((at_ : Int) + 3) = (at_ : Int) + 3 := wrap64_id _ (by omega) (by omega)
      have hcut := cut_run A b.length c at_ 3 h3 hc (at_ : Int) ((at_ : Int) + 3) rfl (by omega)
      obtain ⟨m, hm⟩ := Int.eq_ofNat_of_zero_le (lenAt_nonneg b at_)
      have hmn : (lenAt b at_).toNat = m := by rw [hm]; rfl
      have HM := Lib.hid hm
      have HMN := Lib.hid hmn
      clear hm hmn
      by_cases h4 : 16384 < m
      · have c3 : decide ((m : Int) > 16384) = true := decide_eq_true (by omega)
        have c4 : decide (16384 < (m : Int)) = true := decide_eq_true (by omega)
        have c5 : decide (16384 < m) = true := decide_eq_true h4
        have hen := hcame.out.end2 (.inl (by rw [HMN.out]; exact h4))
        have HEN := Lib.hid hen
        clear hen h4
        go_wp2_with (go_at_call 45; (with_reducible refine (refget_cut (Kd.C_below HC.out hB.out) hc HO.out at_ h3 m HM.out).mono ?_); rintro e w1 ⟨rfl, ⟨nd, rfl⟩⟩)
        go_ret2
        exact lscan_end HEN.out hcame.out (Kd.N_drewN hN.out nd) (pw_below_drewN hB.out nd)
      · have c3 : decide ((m : Int) > 16384) = false := decide_eq_false (by omega)
        have c4 : decide (16384 < (m : Int)) = false := decide_eq_false (by omega)
        have c5 : decide (16384 < m) = false := decide_eq_false h4
        have e3 : wrap64 ((b.length : Int) - (at_ : Int) - 3) = (b.length : Int) - at_ - 3 := wrap64_id _ (by omega) (by omega)
        by_cases h5 : b.length < at_ + 3 + m
        · have c6 : decide ((m : Int) > (b.length : Int) - at_ - 3) = true := decide_eq_true (by omega)
          have c7 : decide ((b.length : Int) - at_ - 3 < (m : Int)) = true := decide_eq_true (by omega)
          have hen := hcame.out.end2 (.inr (by rw [HMN.out]; exact h5))
          have HEN := Lib.hid hen
          clear hen h4 h5
          go_wp2_with (go_at_call 45; (with_reducible refine (refget_cut (Kd.C_below HC.out hB.out) hc HO.out at_ h3 m HM.out).mono ?_); rintro e w1 ⟨rfl, ⟨nd, rfl⟩⟩)
          go_ret2
          exact lscan_end HEN.out hcame.out (Kd.N_drewN hN.out nd) (pw_below_drewN hB.out nd)
        · have c6 : decide ((m : Int) > (b.length : Int) - at_ - 3) = false := decide_eq_false (by omega)
          have c7 : decide ((b.length : Int) - at_ - 3 < (m : Int)) = false := decide_eq_false (by omega)
          have hx : at_ + 3 + m ≤ b.length := by omega
          have e4 : wrap64 ((at_ : Int) + 3 + (m : Int)) = (at_ : Int) + 3 + (m : Int) := wrap64_id _ (by omega) (by omega)
          have hcut2 := cut_run A b.length c (at_ + 3) m hx hc ((at_ : Int) + 3) ((at_ : Int) + 3 + (m : Int)) (by omega) (by omega)
          simp only [cutV] at hcut2
          have e8 : (((at_ + 3 + m : Nat)) : Int) = (at_ : Int) + 3 + (m : Int) := by omega
          have E8 := Lib.hid e8
          have hst := hcame.out.step hx HMN.out (by omega) hx
          have hrl : (pre.map (fun x => pieceL b x.1)).length + 1 ≤ 1000000000000 := by rw [List.length_map]; have := hcame.out.2.2.2.1; omega
          have HRL := Lib.hid hrl
          have HST := Lib.hid hst
          have HX := Lib.hid hx
          clear hst h4 h5 e8 hrl
          go_wp2_with (first | (go_at_call 45; (with_reducible refine (refget_cut (Kd.C_below HC.out hB.out) hc HO.out at_ h3 m HM.out).mono ?_); rintro e w1 ⟨rfl, ⟨nd, rfl⟩⟩) | ((with_reducible refine gate_builtin (b := .append) (xs := #[.tmp 31, .tmp 40]) rfl ?_); at_builtin; refine Kd.N_append (Kd.slice 5 (Kd.int .u8)) (w0 := w) w.heap.size rfl (.tmp 31) (.tmp 40) 33 22 (.slice none 0 0) 24 rfl Try.underlying33 info22 rfl (by decide) (by decide) u4 (pre.map (fun x => pieceL b x.1)) (pieceL b (at_ + 3, m)) [.slice (cutA A c (at_ + 3)) m (c - (at_ + 3))] (fun _ => True) (fun k => k < w.heap.size) rfl rfl (piece_FK HC.out (pw_below_drewN hB.out nd) hc (at_ + 3) m HX.out) (fun k hk => ⟨trivial, fun e => by have := N_base hN.out k e.symm; omega⟩) (fun _ _ => trivial) (Kd.N_drewN hN.out nd) (pw_below_drewN hB.out nd) (below_size (pw_below_drewN hB.out nd)) ?aL ?_; (case aL => have := HRL.out; omega); intro v9 w3 ho hb hg hat; have HN3 := Lib.hid ho; have HB3 := Lib.hid hb; clear ho hb hg hat))
          obtain ⟨d1, rfl⟩ : ∃ d1, d = d1 + 1 := ⟨d - 1, by have := HST.out.2.1; have := HST.out.2.2.1; omega⟩
          obtain ⟨k1, rfl⟩ : ∃ k1, gk = k1 + 1 := ⟨gk - 1, by have := hk8.out; omega⟩
          go_roundg k1
          case measure => omega
          case rel => exact ⟨d1, _, _, congrArg (Value.int .i64) E8.out.symm, Lib.hid (by have := hk8.out; omega), Lib.hid HST.out, Lib.hid (by rw [List.map_append]; exact HN3.out), Lib.hid HB3.out⟩
    · have c1 : decide ((b.length : Int) - (at_ : Int) ≥ 3) = false := decide_eq_false (by omega)
      have c2 : decide (3 ≤ (b.length : Int) - (at_ : Int)) = false := decide_eq_false (by omega)
      have hen := hcame.out.end1 h3
      have HEN := Lib.hid hen
      clear hen h3
      go_wp2
      go_ret2
      exact lscan_end HEN.out hcame.out hN.out hB.out
end Go.Proofs.Ytfdpbdaekfdnjaa.X
/- The law's own kind of a record, by the page's reader. -/
namespace Go.Proofs.Ytfdpbdaekfdnjaa.X
open Go.RowKit Go.Proofs.YtfdpbdaekfdnjaaW.PrintWords Go.Proofs.YtfdpbdaekfdnjaaW.PrintLast Go.Proofs.YtfdpbdaekfdnjaaW.PrintMore
set_option linter.unusedVariables false
set_option linter.unusedSimpArgs false

theorem put2 {W : World} {g : Nat} {c0 c1 : Value} (hg : W.heap[g]? = some (.cells #[c0, c1] 81 (0, 0))) (x0 x1 : Value) :
    ((W.setCell ⟨g, 0, none⟩ x0).setCell ⟨g, 1, none⟩ x1).heap[g]? = some (.cells #[x0, x1] 81 (0, 0)) := blk_put (blk_put hg 0 x0 rfl) 1 x1 rfl
/-- The error of a record's first number. -/
def errN (b : List Int) : Int := if b.length < 6 then 8 else if 7 < getF 0 (b.take 6) % 4611686018427387904 then 4 else 0
theorem errN_kind {b : List Int} (h : errN b ≠ 0) : kindN b = 0 := by
  unfold errN at h
  unfold kindN
  by_cases h1 : b.length < 6
  · rw [if_pos h1]
  · rw [if_neg h1] at h ⊢
    by_cases h2 : 7 < getF 0 (b.take 6) % 4611686018427387904
    · rw [if_pos h2]
    · rw [if_neg h2] at h; exact absurd rfl h
set_option maxRecDepth 100000 in
set_option maxHeartbeats 4000000 in
theorem getnum_calls (A : Option Addr) (c : Nat) (b : List Int) (w : World) (hC : Kd.C (Kd.int .u8) w A b.length b) (hc : b.length ≤ c) (hO : Octets b) (hl : b.length ≤ 140737488355328) :
    Calls Try.prog 52 #[.agg #[.slice A b.length c, .int .i64 0], .int .i64 7] w fun e w' => (∃ A2 n2 c2, e = .returned (.tuple #[.int .i64 (kindN b : Int), .agg #[.slice A2 n2 c2, .int .i64 (errN b)]])) ∧ Below w.heap.size w w' := by
  have HC := Lib.hid hC
  clear hC
  by_cases hn : b.length < 6
  · have hk : kindN b = 0 := by rw [kindN, if_pos hn]
    have d0 : decide ((b.length : Int) < 6) = true := decide_eq_true (by omega)
    have d1 : decide (b.length < 6) = true := decide_eq_true hn
    have he : errN b = 8 := by rw [errN, if_pos hn]
    rw [hk, he]
    clear hO hl hn hk he
    go_enter Try.func52, Try.ntmps52
    go_wp2
    have g2 : ((w.alloc (.cells #[.slice A b.length c, .int .i64 0] 81)).alloc (.cells #[.slice none 0 0, .int .i64 8] 81)).heap[w.heap.size + 1]? = some (.cells #[.slice none 0 0, .int .i64 8] 81 (0, 0)) := by
      have := blk_new (w.alloc (.cells #[.slice A b.length c, .int .i64 0] 81)) (.cells #[.slice none 0 0, .int .i64 8] 81)
      rwa [World.size_alloc] at this
    refine bodyPost_ret (results_tc rfl _ _ (w.heap.size + 1) 81 _ (0, 0) _ rfl g2 Try.underlying81 rfl (by kernel_rfl)) rfl ?_
    exact ⟨⟨none, 0, 0, rfl⟩, below_alloc (below_alloc (Below.refl _ _) _) _⟩
  · obtain ⟨w0, hw0⟩ : ∃ w0, (w.alloc (.cells #[.slice A b.length c, .int .i64 0] 81)).alloc (.cells #[.slice none 0 0, .int .i64 0] 81) = w0 := ⟨_, rfl⟩
    have hB0 : Below w.heap.size w w0 := by rw [← hw0]; exact below_alloc (below_alloc (Below.refl _ _) _) _
    have b1 : w0.heap[w.heap.size]? = some (.cells #[.slice A b.length c, .int .i64 0] 81 (0, 0)) := by rw [← hw0]; exact blk_alloc (blk_new _ _) _
    have b2 : w0.heap[w.heap.size + 1]? = some (.cells #[.slice none 0 0, .int .i64 0] 81 (0, 0)) := by
      rw [← hw0]
      have := blk_new (w.alloc (.cells #[.slice A b.length c, .int .i64 0] 81)) (.cells #[.slice none 0 0, .int .i64 0] 81)
      rwa [World.size_alloc] at this
    have d0 : decide ((b.length : Int) < 6) = false := decide_eq_false (by omega)
    have d1 : decide (b.length < 6) = false := decide_eq_false hn
    have hl6 : (b.take 6).length = 6 := by rw [List.length_take]; omega
    obtain ⟨q, hq⟩ : ∃ q, b.take 6 = q := ⟨_, rfl⟩
    rw [hq] at hl6
    obtain ⟨x, hx⟩ : ∃ x, getF 0 q % 4611686018427387904 = x := ⟨_, rfl⟩
    have hx0 : 0 ≤ x := by rw [← hx]; omega
    have hOq : Octets q := by rw [← hq]; exact fun z hz => hO z (List.mem_of_mem_take hz)
    have hg0 : mootref01_Get.f 7 q = some x := by rw [refget_f q hOq (by omega) 7 (by omega), hx]
    have hk : kindN b = if 7 < x then 0 else x.toNat := by rw [kindN, if_neg hn, hq, hx]
    have he : errN b = if 7 < x then 4 else 0 := by rw [errN, if_neg hn, hq, hx]
    have hcall : ∀ n, Calls Try.prog 45 #[.slice A 6 c] (w0.drewN n) fun e w' => e = .returned (.int .i64 x) ∧ Drawn0 (w0.drewN n) w' := fun n => by
      have hCq : Kd.C (Kd.int .u8) (w0.drewN n) A q.length q := by rw [← hq]; exact Kd.C_take (Kd.C_drewN (Kd.C_below HC.out hB0) n) (by omega)
      have := mootref01_Get.calls 7 A c q x _ hCq (by omega) hg0
      rwa [hl6] at this
    have HCALL := Lib.hid hcall
    have hcut := cut_to (P := Try.prog) 22 5 .i64 Try.underlying22 (info_parts info5).choose_spec.1 A b.length c (6 : Int) (by omega) (by omega) hc
    have hfrom : ∃ A6 n6 c6, ∀ W : World, (Instr.slice 22 (.slice A b.length c) (some (.int .i64 6)) none none).run Try.prog W = .ok (.slice A6 n6 c6) W := by
      obtain ⟨i0, hi0, _, hsz0, _⟩ := info_parts info5
      exact ⟨_, _, _, cut_from (P := Try.prog) 22 5 .i64 Try.underlying22 hi0 1 hsz0 A b.length c 6 (by omega) (by omega)⟩
    obtain ⟨A6, n6, c6, hfrom⟩ := hfrom
    rw [show (6 : Int).toNat = 6 from rfl] at hcut
    have f1 := blk_cell b1 0
    have f1b := blk_cell b1 1
    have HB1 := Lib.hid b1
    have HB2 := Lib.hid b2
    have HB0 := Lib.hid hB0
    have hcall0 := hcall 0
    have HX0 := Lib.hid hx0
    clear hOq hg0 hq hx hl6 hO hn hcall b1 hx0
    have f2 := blk_cell b2 0
    have f3 := blk_cell b2 1
    have r2 := blk_frozen b2 0
    have r3 := blk_frozen b2 1
    clear b2
    by_cases h7 : 7 < x
    · have e1 : kindN b = 0 := by rw [hk, if_pos h7]
      rw [e1, he, if_pos h7]
      have p1 : decide (x > 7) = true := decide_eq_true h7
      have p2 : decide (7 < x) = true := decide_eq_true h7
      clear hk he e1 h7
      by_cases hbig : 1099511627776 < x
      · have p3 : decide (x > 1099511627776) = true := decide_eq_true hbig
        have p4 : decide (1099511627776 < x) = true := decide_eq_true hbig
        clear hbig
        go_enter Try.func52, Try.ntmps52
        go_wp2_with (first | (rw [hw0]) | (go_at_call 45; go_must (refine hcall0.mono ?_; rintro e w2 ⟨rfl, ⟨nd, rfl⟩⟩)))
        have g2 := put2 (W := w0.drewN nd) HB2.out (.slice none 0 0) (.int .i64 4)
        refine bodyPost_ret (results_tc rfl _ _ (w.heap.size + 1) 81 _ (0, 0) _ rfl g2 Try.underlying81 rfl (by kernel_rfl)) rfl ?_
        exact ⟨⟨none, 0, 0, rfl⟩, below_set (below_set (pw_below_drewN HB0.out _) (by omega)) (by omega)⟩
      · have p3 : decide (x > 1099511627776) = false := decide_eq_false hbig
        have p4 : decide (1099511627776 < x) = false := decide_eq_false hbig
        clear hbig
        go_enter Try.func52, Try.ntmps52
        go_wp2_with (first | (rw [hw0]) | (go_at_call 45; go_must (refine hcall0.mono ?_; rintro e w2 ⟨rfl, ⟨nd, rfl⟩⟩)))
        have g2 := put2 (W := w0.drewN nd) HB2.out (.slice none 0 0) (.int .i64 4)
        refine bodyPost_ret (results_tc rfl _ _ (w.heap.size + 1) 81 _ (0, 0) _ rfl g2 Try.underlying81 rfl (by kernel_rfl)) rfl ?_
        exact ⟨⟨none, 0, 0, rfl⟩, below_set (below_set (pw_below_drewN HB0.out _) (by omega)) (by omega)⟩
    · have e1 : ((kindN b : Nat) : Int) = x := by have := HX0.out; rw [hk, if_neg h7]; omega
      rw [e1, he, if_neg h7]
      have p1 : decide (x > 7) = false := decide_eq_false h7
      have p2 : decide (7 < x) = false := decide_eq_false h7
      have p3 : decide (x > 1099511627776) = false := decide_eq_false (by omega)
      have p4 : decide (1099511627776 < x) = false := decide_eq_false (by omega)
      clear hk he e1 h7
      go_enter Try.func52, Try.ntmps52
      go_wp2_with (first | (rw [hw0]) | (go_at_call 45; go_must (refine hcall0.mono ?_; rintro e w2 ⟨rfl, ⟨nd, rfl⟩⟩)))
      go_region
      all_goals go_wp2
      all_goals (have g2 := put2 (W := w0.drewN nd) HB2.out (.slice A6 n6 c6) (.int .i64 0))
      all_goals (refine bodyPost_ret (results_tc rfl _ _ (w.heap.size + 1) 81 _ (0, 0) _ rfl g2 Try.underlying81 rfl (by kernel_rfl)) rfl ?_)
      all_goals (exact ⟨⟨A6, n6, c6, rfl⟩, below_set (below_set (pw_below_drewN HB0.out _) (by omega)) (by omega)⟩)
set_option maxRecDepth 100000 in
set_option maxHeartbeats 4000000 in
theorem rkind_calls (A : Option Addr) (c : Nat) (b : List Int) (w : World) (hC : Kd.C (Kd.int .u8) w A b.length b) (hc : b.length ≤ c) (hO : Octets b) (hl : b.length ≤ 140737488355328) :
    Calls Try.prog 37 #[.slice A b.length c] w fun e w' => e = .returned (.int .i64 (kindN b : Int)) ∧ Below w.heap.size w w' := by
  have hg := getnum_calls A c b w hC hc hO hl
  have hek := @errN_kind b
  obtain ⟨x, hx⟩ : ∃ x, errN b = x := ⟨_, rfl⟩
  obtain ⟨k, hk⟩ : ∃ k, kindN b = k := ⟨_, rfl⟩
  rw [hx] at hg hek
  rw [hk] at hg hek ⊢
  have HG := Lib.hid hg
  clear hC hc hO hl hx hk hg
  by_cases h0 : x = 0
  · subst h0
    clear hek
    go_enter Try.func37, Try.ntmps37
    go_wp2_with (go_at_call 52; go_must (refine HG.out.mono ?_; rintro e w1 ⟨⟨A2, n2, c2, rfl⟩, hb⟩; have HB := Lib.hid hb; clear hb))
    go_ret
    exact ⟨rfl, by repeat (first | exact HB.out | apply below_alloc)⟩
  · have hk0 : k = 0 := hek h0
    subst hk0
    have n1 : (x = 0) = False := eq_false h0
    have n2 : (x == 0) = false := beq_eq_false_iff_ne.mpr h0
    clear hek
    go_enter Try.func37, Try.ntmps37
    go_wp2_with (go_at_call 52; go_must (refine HG.out.mono ?_; rintro e w1 ⟨⟨A2, n2, c2, rfl⟩, hb⟩; have HB := Lib.hid hb; clear hb))
    go_ret
    exact ⟨rfl, by repeat (first | exact HB.out | apply below_alloc)⟩
def mootlaw30_kind.f (l0 : List Int) : Option Int := if Octets l0 ∧ l0.length ≤ 140737488355328 then some (kindN l0 : Int) else none
theorem mootlaw30_kind.calls (A0 : Option Addr) (c0 : Nat) (l0 : List Int) (r : Int) (w : World) (hr0 : Kd.C (Kd.int .u8) w A0 l0.length l0) (hc0 : l0.length ≤ c0) (h : mootlaw30_kind.f l0 = some r) :
    Calls Try.prog 37 #[.slice A0 l0.length c0] w fun e w' => e = .returned (.int .i64 r) ∧ Below w.heap.size w w' := by
  unfold mootlaw30_kind.f at h
  split at h
  · rename_i hc
    obtain rfl := Option.some.inj h
    exact rkind_calls A0 c0 l0 w hr0 hc0 hc.1 hc.2
  · cases h
end Go.Proofs.Ytfdpbdaekfdnjaa.X
/- The law's own kept: what counts, by the page. -/
namespace Go.Proofs.Ytfdpbdaekfdnjaa.X
open Go.RowKit Go.Proofs.YtfdpbdaekfdnjaaW.PrintWords Go.Proofs.YtfdpbdaekfdnjaaW.PrintLast Go.Proofs.YtfdpbdaekfdnjaaW.PrintMore
set_option linter.unusedVariables false
set_option linter.unusedSimpArgs false

theorem getD_at {l : List (List Int)} {m : Nat} (h : m < l.length) : l.getD m [] = l[m] := by rw [List.getD_eq_getElem?_getD, List.getElem?_eq_getElem h, Option.getD_some]
theorem later_iff (l : List (List Int)) (i k : Nat) : (∀ x ∈ l.drop (i + 1), kindN x ≠ k) ↔ ∀ m, i < m → m < l.length → kindN (l.getD m []) ≠ k := by
  constructor
  · intro h m h1 h2
    rw [getD_at h2]
    refine h _ ?_
    rw [List.mem_iff_getElem]
    exact ⟨m - (i + 1), by rw [List.length_drop]; omega, by rw [List.getElem_drop]; congr 1; omega⟩
  · intro h x hx
    obtain ⟨j, hj, rfl⟩ := List.mem_iff_getElem.1 hx
    rw [List.length_drop] at hj
    have := h (i + 1 + j) (by omega) (by omega)
    rw [getD_at (by omega)] at this
    rw [List.getElem_drop]
    exact this
theorem ahead_iff (l : List (List Int)) (i : Nat) (b : List Int) (hi : i ≤ l.length) : b ∉ l.take i ↔ ∀ m, m < i → l.getD m [] ≠ b := by
  constructor
  · intro h m h1 e
    rw [getD_at (by omega)] at e
    refine h ?_
    rw [List.mem_iff_getElem]
    exact ⟨m, by rw [List.length_take]; omega, by rw [List.getElem_take]; exact e⟩
  · intro h hb
    obtain ⟨j, hj, e⟩ := List.mem_iff_getElem.1 hb
    rw [List.length_take] at hj
    rw [List.getElem_take] at e
    refine h j (by omega) ?_
    rw [getD_at (by omega)]
    exact e
/-- Does the record at i count? -/
def CountsAt (l : List (List Int)) (i : Nat) : Prop := kindN (l.getD i []) ≠ 0 ∧ (∀ m, i < m → m < l.length → (kindN (l.getD i []) = 6 ∨ kindN (l.getD m []) ≠ kindN (l.getD i []))) ∧ ∀ m, m < i → (kindN (l.getD i []) ≠ 6 ∨ l.getD m [] ≠ l.getD i [])
/-- What the outer loop keeps. -/
structure KeptI (P : Nat → Prop) (w : World) (l : List (List Int)) (i : Nat) (v : Value) (out : List (List Int)) (W : World) : Prop where
  row : Kd.N (Kd.slice 5 (Kd.int .u8)) 22 W w.heap.size (fun k => P k ∨ w.heap.size ≤ k) v out
  below : Below w.heap.size w W
  len : out.length ≤ i
  left : out ++ keptR (l.take i) (l.drop i) = keptR [] l
theorem KeptI.on {P : Nat → Prop} {w : World} {l : List (List Int)} {i : Nat} {v : Value} {out : List (List Int)} {W W1 : World} (h : KeptI P w l i v out W) (hb : Below W.heap.size W W1) : KeptI P w l i v out W1 :=
  ⟨Kd.N_below h.row hb, below_step h.below hb, h.len, h.left⟩
theorem kept_next (l : List (List Int)) (i : Nat) (hi : i < l.length) : keptR (l.take i) (l.drop i) = if kindN (l.getD i []) ≠ 0 ∧ (kindN (l.getD i []) = 6 ∨ ∀ x ∈ l.drop (i + 1), kindN x ≠ kindN (l.getD i [])) ∧ (kindN (l.getD i []) ≠ 6 ∨ l.getD i [] ∉ l.take i) then l.getD i [] :: keptR (l.take (i + 1)) (l.drop (i + 1)) else keptR (l.take (i + 1)) (l.drop (i + 1)) := by
  rw [List.drop_eq_getElem_cons hi, keptR, ← getD_at hi, List.take_succ_eq_append_getElem hi, ← getD_at hi]
theorem counts_iff (l : List (List Int)) (i : Nat) (hi : i < l.length) : CountsAt l i ↔ kindN (l.getD i []) ≠ 0 ∧ (kindN (l.getD i []) = 6 ∨ ∀ x ∈ l.drop (i + 1), kindN x ≠ kindN (l.getD i [])) ∧ (kindN (l.getD i []) ≠ 6 ∨ l.getD i [] ∉ l.take i) := by
  rw [later_iff, ahead_iff _ _ _ (Nat.le_of_lt hi), CountsAt]
  generalize hb : l.getD i [] = b
  generalize hk : kindN b = k
  by_cases h6 : k = 6
  · simp [h6]
  · simp [h6]
theorem KeptI.skip {P : Nat → Prop} {w : World} {l : List (List Int)} {i : Nat} {v : Value} {out : List (List Int)} {W : World} (h : KeptI P w l i v out W) (hi : i < l.length) (hn : ¬ CountsAt l i) : KeptI P w l (i + 1) v out W := by
  refine ⟨h.row, h.below, Nat.le_succ_of_le h.len, ?_⟩
  have h1 := h.left
  rwa [kept_next l i hi, if_neg (fun hc => hn ((counts_iff l i hi).2 hc))] at h1
theorem KeptI.push {P : Nat → Prop} {w : World} {l : List (List Int)} {i : Nat} {v v1 : Value} {out : List (List Int)} {W W1 : World} (h : KeptI P w l i v out W) (hi : i < l.length) (hc : CountsAt l i) (hN : Kd.N (Kd.slice 5 (Kd.int .u8)) 22 W1 w.heap.size (fun k => P k ∨ w.heap.size ≤ k) v1 (out ++ [l.getD i []])) (hB : Below w.heap.size w W1) : KeptI P w l (i + 1) v1 (out ++ [l.getD i []]) W1 := by
  refine ⟨hN, hB, by simp; exact h.len, ?_⟩
  have h1 := h.left
  rw [kept_next l i hi, if_pos ((counts_iff l i hi).1 hc)] at h1
  rw [List.append_assoc]
  exact h1
set_option maxRecDepth 100000 in
set_option maxHeartbeats 40000000 in
theorem kept_callsF (P : Nat → Prop) (A : Option Addr) (c : Nat) (l : List (List Int)) (w : World) (hF : Kd.F (Kd.slice 5 (Kd.int .u8)) w P A l.length l) (hc : l.length ≤ c) (hO : ∀ x ∈ l, Octets x ∧ x.length ≤ 140737488355328) (hl : l.length ≤ 1000000000) :
    Calls Try.prog 24 #[.slice A l.length c] w fun e w' => ∃ A1 c1, e = .returned (.slice A1 (keptR [] l).length c1) ∧ (keptR [] l).length ≤ c1 ∧ Kd.F (Kd.slice 5 (Kd.int .u8)) w' (fun k => P k ∨ w.heap.size ≤ k) A1 (keptR [] l).length (keptR [] l) ∧ Below w.heap.size w w' := by
  have HC := Lib.hid (Kd.F_now hF)
  have HF := Lib.hid (Kd.F_bound hF)
  have HO := Lib.hid hO
  have HLL := Lib.hid hl
  clear hF hO
  go_enter Try.func24, Try.ntmps24
  go_wp2
  go_loopg [3, 4] (l.length + 1) (fun kq v3 v4 w' => ∃ (i : Nat) (out : List (List Int)), v4 = .int .i64 (i : Int) ∧ Hid (i ≤ l.length ∧ kq + i = l.length + 1) ∧ Hid (KeptI P w l i v3 out w'))
  case atStart => exact ⟨0, [], rfl, Lib.hid ⟨Nat.zero_le _, rfl⟩, Lib.hid ⟨Kd.N_nil _ _ _ _ _, Below.refl _ _, Nat.zero_le _, rfl⟩⟩
  case round =>
    obtain ⟨i, out, rfl, hi, hI⟩ := hrel
    by_cases ci : i < l.length
    · have c1 : decide ((i : Int) < (l.length : Int)) = true := decide_eq_true (by omega)
      have c2 : decide (i < l.length) = true := decide_eq_true ci
      obtain ⟨K1, rfl⟩ : ∃ k1, gk = k1 + 1 := ⟨gk - 1, by have := hi.out; omega⟩
      obtain ⟨ad, cc, rfl, hcl, hFK, hcc, _⟩ := Kd.F_get HF.out ([] : List Int) (i : Int) (by omega) (by omega)
      obtain ⟨A2, c3, rfl, hlc, hFe⟩ := Kd.FK_slice_open hFK
      have x0 := hcc 0 _ rfl
      rw [Int.toNat_natCast, show Kd.sz (Kd.slice 5 (Kd.int .u8)) = 1 from rfl, Nat.mul_one, Nat.add_zero] at x0
      rw [Int.toNat_natCast] at hlc hFe
      have hCx := Kd.F_now hFe
      clear hFK hcc hcl
      have x1 : wr.cell? (ad.add i) = some (.slice A2 (l.getD i []).length c3) := hI.out.below.cell (World.block_lt_of_cell? w _ x0) |>.trans x0
      have hox := HO.out (l.getD i []) (by rw [getD_at ci]; exact List.getElem_mem ci)
      obtain ⟨b, hb⟩ : ∃ b, l.getD i [] = b := ⟨_, rfl⟩
      obtain ⟨k, hk⟩ : ∃ k, kindN b = k := ⟨_, rfl⟩
      rw [hb] at x0 x1 hlc hCx hox hFe
      have HFE := Lib.hid hFe
      have HX0 := Lib.hid x0
      have HLC := Lib.hid hlc
      have HCX := Lib.hid hCx
      have HOX := Lib.hid hox
      have HB := Lib.hid hb
      have HK := Lib.hid hk
      have HCI := Lib.hid ci
      have p0 : (0 ≤ (i : Int)) = True := eq_true (by omega)
      have p1 : ((i : Int) < (l.length : Int)) = True := eq_true (by omega)
      have p2 : (i < l.length) = True := eq_true ci
      have e1 : wrap64 ((i : Int) + 1) = ((i + 1 : Nat) : Int) := by rw [wrap64_id _ (by omega) (by omega)]; rfl
      have E1 := Lib.hid e1
      clear hlc hCx hox hb hk ci x0 hFe e1
      go_wp2_with (go_at_call 37; go_must (refine (rkind_calls A2 c3 b _ (Kd.C_below HCX.out hI.out.below) HLC.out HOX.out.1 HOX.out.2).mono ?_; rw [HK.out]; rintro e w1 ⟨rfl, hb1⟩; have I1 := Lib.hid (hI.out.on hb1); clear hb1 x1))
      clear hI
      go_loopg [6, 7] (l.length + 1) (fun kq v6 v7 w' => ∃ (is : Bool) (n : Nat), v6 = .bool is ∧ v7 = .int .i64 (n : Int) ∧ Hid (i < n ∧ n ≤ l.length ∧ kq + n = l.length + 1 + (i + 1)) ∧ Hid (KeptI P w l i u3 out w') ∧ Hid (is = true ↔ k ≠ 0 ∧ ∀ m, i < m → m < n → (k = 6 ∨ kindN (l.getD m []) ≠ k)))
      case atStart => exact ⟨_, i + 1, rfl, congrArg (Value.int .i64) E1.out, Lib.hid ⟨Nat.lt_succ_self _, HCI.out, rfl⟩, I1, Lib.hid (by
        constructor
        · intro h
          refine ⟨fun e => ?_, fun m h1 h2 => by omega⟩
          subst e
          simp at h
        · rintro ⟨h, _⟩
          simpa using h)⟩
      case round =>
        clear I1
        obtain ⟨is, n, rfl, rfl, hn, hI, hs⟩ := hrel
        by_cases cn : n < l.length
        · have d1 : decide ((n : Int) < (l.length : Int)) = true := decide_eq_true (by omega)
          have d2 : decide (n < l.length) = true := decide_eq_true cn
          have q0 : (0 ≤ (n : Int)) = True := eq_true (by omega)
          have q1 : ((n : Int) < (l.length : Int)) = True := eq_true (by omega)
          have q2 : (n < l.length) = True := eq_true cn
          obtain ⟨K2, rfl⟩ : ∃ k1, gk = k1 + 1 := ⟨gk - 1, by have := hn.out; omega⟩
          have HN2 : Hid (i < n + 1 ∧ n + 1 ≤ l.length ∧ K2 + (n + 1) = l.length + 1 + (i + 1)) := Lib.hid (by have := hn.out; omega)
          cases is
          · clear cn
            go_wp2
            go_roundg K2
            case measure => omega
            case rel => exact ⟨false, n + 1, rfl, congrArg (Value.int .i64) (by have := hn.out; have := HLL.out; unfold wrap64; omega), HN2, hI, Lib.hid ⟨fun h => (by cases h), fun h => hs.out.2 ⟨h.1, fun m h1 h2 => h.2 m h1 (by omega)⟩⟩⟩
          · by_cases h6 : k = 6
            · subst h6
              clear cn
              go_wp2
              go_roundg K2
              case measure => omega
              case rel => exact ⟨true, n + 1, rfl, congrArg (Value.int .i64) (by have := hn.out; have := HLL.out; unfold wrap64; omega), HN2, hI, Lib.hid ⟨fun _ => ⟨by decide, fun m _ _ => .inl (by first | trivial | rfl)⟩, fun _ => rfl⟩⟩
            · have n6 : ((k : Int) = 6) = False := eq_false (by omega)
              have m6 : ((k : Int) == 6) = false := beq_eq_false_iff_ne.mpr (by omega)
              have m7 : (k = 6) = False := eq_false h6
              obtain ⟨ad2, A4, c4, e_, y0, ylc, yC⟩ := at_L1 HC.out (n : Int) (by omega) (by omega)
              injection e_ with e_
              subst e_
              rw [Int.toNat_natCast] at y0
              have yrd : rd_L1 l (n : Int) = l.getD n [] := by unfold rd_L1; rw [Int.toNat_natCast]
              rw [yrd] at y0 ylc yC
              have y1 : wr.cell? (ad.add n) = some (.slice A4 (l.getD n []).length c4) := (hI.out.below.cell (World.block_lt_of_cell? w _ y0)).trans y0
              have yox := HO.out (l.getD n []) (by rw [getD_at (by omega)]; exact List.getElem_mem _)
              obtain ⟨y, hy⟩ : ∃ y, l.getD n [] = y := ⟨_, rfl⟩
              rw [hy] at y0 y1 ylc yC yox
              have HYC := Lib.hid yC
              have HYL := Lib.hid ylc
              have HYO := Lib.hid yox
              have HY := Lib.hid hy
              obtain ⟨kd, hkd⟩ : ∃ kd, kindN y = kd := ⟨_, rfl⟩
              have HKD := Lib.hid hkd
              have H6 := Lib.hid h6
              clear yC ylc yox hy hkd cn y0 yrd h6
              by_cases hkk : kd = k
              · subst hkk
                go_wp2_with (go_at_call 37; go_must (refine (rkind_calls A4 c4 y _ (Kd.C_below HYC.out hI.out.below) HYL.out HYO.out.1 HYO.out.2).mono ?_; rw [HKD.out]; rintro e w2 ⟨rfl, hb2⟩; have I2 := Lib.hid (hI.out.on hb2); clear hb2 y1))
                go_roundg K2
                case measure => omega
                case rel => exact ⟨false, n + 1, rfl, congrArg (Value.int .i64) (by have := hn.out; have := HLL.out; unfold wrap64; omega), HN2, I2, Lib.hid ⟨fun h => (by cases h), fun h => absurd (by rw [HY.out]; exact HKD.out) ((h.2 n (by have := hn.out; omega) (by omega)).resolve_left H6.out)⟩⟩
              · have n8 : ((kd : Int) = (k : Int)) = False := eq_false (by omega)
                have m8 : ((kd : Int) == (k : Int)) = false := beq_eq_false_iff_ne.mpr (by omega)
                have m9 : (kd = k) = False := eq_false hkk
                have HKK := Lib.hid hkk
                clear hkk
                go_wp2_with (go_at_call 37; go_must (refine (rkind_calls A4 c4 y _ (Kd.C_below HYC.out hI.out.below) HYL.out HYO.out.1 HYO.out.2).mono ?_; rw [HKD.out]; rintro e w2 ⟨rfl, hb2⟩; have I2 := Lib.hid (hI.out.on hb2); clear hb2 y1))
                go_roundg K2
                case measure => omega
                case rel => exact ⟨true, n + 1, (by first | rfl | exact congrArg Value.bool (by rw [bne, m8]; rfl)), congrArg (Value.int .i64) (by have := hn.out; have := HLL.out; unfold wrap64; omega), HN2, I2, Lib.hid ⟨fun _ => ⟨(hs.out.1 (by first | trivial | rfl)).1, fun m h1 h2 => by
                  rcases Nat.lt_or_ge m n with h | h
                  · exact (hs.out.1 (by first | trivial | rfl)).2 m h1 h
                  · have : m = n := by omega
                    subst this
                    exact .inr (by rw [HY.out, HKD.out]; exact HKK.out)⟩, fun _ => rfl⟩⟩
        · have d1 : decide ((n : Int) < (l.length : Int)) = false := decide_eq_false (by omega)
          have d2 : decide (n < l.length) = false := decide_eq_false cn
          have hs2 : is = true ↔ k ≠ 0 ∧ ∀ m, i < m → m < l.length → (k = 6 ∨ kindN (l.getD m []) ≠ k) := by
            have h1 := hs.out
            have h2 := hn.out
            rwa [show n = l.length by omega] at h1
          have HS2 := Lib.hid hs2
          clear hs2 hs cn
          go_wp2
          go_loopg [6, 8] (l.length + 1) (fun kq v6 v8 w' => ∃ (is2 : Bool) (n : Nat), v6 = .bool is2 ∧ v8 = .int .i64 (n : Int) ∧ Hid (n ≤ i ∧ kq + n = l.length + 1) ∧ Hid (KeptI P w l i u3 out w') ∧ Hid (is2 = true ↔ is = true ∧ ∀ m, m < n → (k ≠ 6 ∨ l.getD m [] ≠ b)))
          case atStart => exact ⟨is, 0, rfl, rfl, Lib.hid ⟨Nat.zero_le _, rfl⟩, hI, Lib.hid ⟨fun h => ⟨h, fun m hm => absurd hm (Nat.not_lt_zero _)⟩, fun h => h.1⟩⟩
          case round =>
            clear hI d1 d2 hn
            obtain ⟨is2, n, rfl, rfl, hn, hI, hs⟩ := hrel
            have x1 : wr.cell? (ad.add i) = some (.slice A2 b.length c3) := (hI.out.below.cell (World.block_lt_of_cell? w _ HX0.out)).trans HX0.out
            by_cases cn : n < i
            · have d1 : decide ((n : Int) < (i : Int)) = true := decide_eq_true (by omega)
              have d2 : decide (n < i) = true := decide_eq_true cn
              have hci := HCI.out
              have q0 : (0 ≤ (n : Int)) = True := eq_true (by omega)
              have q1 : ((n : Int) < (l.length : Int)) = True := eq_true (by omega)
              have q2 : (n < l.length) = True := eq_true (by omega)
              obtain ⟨K3, rfl⟩ : ∃ k1, gk = k1 + 1 := ⟨gk - 1, by have := hn.out; omega⟩
              have HN2 : Hid (n + 1 ≤ i ∧ K3 + (n + 1) = l.length + 1) := Lib.hid (by have := hn.out; omega)
              cases is2
              · clear cn hci
                go_wp2
                (try go_quiet (fail))
                (try go_wp2)
                go_roundg K3
                case measure => omega
                case rel => exact ⟨false, n + 1, rfl, congrArg (Value.int .i64) (by have := hn.out; have := HLL.out; unfold wrap64; omega), HN2, Lib.hid (hI.out.on (pw_below_drewN (Below.refl _ _) _)), Lib.hid ⟨fun h => (by cases h), fun h => hs.out.2 ⟨h.1, fun m h1 => h.2 m (by omega)⟩⟩⟩
              · by_cases h6 : k = 6
                · subst h6
                  obtain ⟨ad2, A4, c4, e_, y0, ylc, yC⟩ := at_L1 HC.out (n : Int) (by omega) (by omega)
                  injection e_ with e_
                  subst e_
                  rw [Int.toNat_natCast] at y0
                  have yrd : rd_L1 l (n : Int) = l.getD n [] := by unfold rd_L1; rw [Int.toNat_natCast]
                  rw [yrd] at y0 ylc yC
                  have y1 : wr.cell? (ad.add n) = some (.slice A4 (l.getD n []).length c4) := (hI.out.below.cell (World.block_lt_of_cell? w _ y0)).trans y0
                  have yox := HO.out (l.getD n []) (by rw [getD_at (by omega)]; exact List.getElem_mem _)
                  obtain ⟨y, hy⟩ : ∃ y, l.getD n [] = y := ⟨_, rfl⟩
                  rw [hy] at y0 y1 ylc yC yox
                  have s0 : ∀ k, (convert 22 9 (.slice A4 y.length c4)).run Try.prog (wr.drewN k) = .ok (.string (strOfNums y)) (wr.drewN k) := fun k => Kd.C_string (P := Try.prog) Try.underlying22 Try.underlying5 Try.underlying9 (c := c4) (Kd.C_drewN (Kd.C_below yC hI.out.below) k)
                  have s1 : ∀ k, (convert 22 9 (.slice A2 b.length c3)).run Try.prog (wr.drewN k) = .ok (.string (strOfNums b)) (wr.drewN k) := fun k => Kd.C_string (P := Try.prog) Try.underlying22 Try.underlying5 Try.underlying9 (c := c3) (Kd.C_drewN (Kd.C_below HCX.out hI.out.below) k)
                  have hse := str_beq yox.1 HOX.out.1
                  obtain ⟨sy, hsy⟩ : ∃ sy, strOfNums y = sy := ⟨_, rfl⟩
                  obtain ⟨sb, hsb⟩ : ∃ sb, strOfNums b = sb := ⟨_, rfl⟩
                  rw [hsy, hsb] at hse
                  rw [hsy] at s0
                  rw [hsb] at s1
                  have HY := Lib.hid hy
                  clear yC ylc yox hy cn y0 yrd hsy hsb hci
                  by_cases hyb : y = b
                  · have t1 : (sy.toList == sb.toList) = true := by rw [hse]; exact decide_eq_true hyb
                    have t2 : (sy.toList != sb.toList) = false := by rw [bne, t1]; rfl
                    have HYB := Lib.hid hyb
                    clear hyb hse
                    go_wp2
                    go_quiet (fail)
                    go_wp2
                    go_roundg K3
                    case measure => omega
                    case rel => exact ⟨false, n + 1, (by first | rfl | rw [t2] | (simp only [t1, t2]; rfl)), congrArg (Value.int .i64) (by have := hn.out; have := HLL.out; unfold wrap64; omega), HN2, Lib.hid (hI.out.on (pw_below_drewN (Below.refl _ _) _)), Lib.hid ⟨fun h => (by cases h), fun h => absurd (by rw [HY.out]; exact HYB.out) ((h.2 n (Nat.lt_succ_self _)).resolve_left (fun h => h (by first | trivial | rfl)))⟩⟩
                  · have t1 : (sy.toList == sb.toList) = false := by rw [hse]; exact decide_eq_false hyb
                    have t2 : (sy.toList != sb.toList) = true := by rw [bne, t1]; rfl
                    have HYB := Lib.hid hyb
                    clear hyb hse
                    go_wp2
                    go_quiet (fail)
                    go_wp2
                    go_roundg K3
                    case measure => omega
                    case rel => exact ⟨true, n + 1, (by first | rfl | rw [t2] | (simp only [t1, t2]; rfl)), congrArg (Value.int .i64) (by have := hn.out; have := HLL.out; unfold wrap64; omega), HN2, Lib.hid (hI.out.on (pw_below_drewN (Below.refl _ _) _)), Lib.hid ⟨fun _ => ⟨(hs.out.1 (by first | trivial | rfl)).1, fun m h1 => by
                      rcases Nat.lt_or_ge m n with h | h
                      · exact (hs.out.1 (by first | trivial | rfl)).2 m h
                      · have : m = n := by omega
                        subst this
                        exact .inr (by rw [HY.out]; exact HYB.out)⟩, fun _ => rfl⟩⟩
                · have n6 : ((k : Int) = 6) = False := eq_false (by omega)
                  have m6 : ((k : Int) == 6) = false := beq_eq_false_iff_ne.mpr (by omega)
                  have m7 : (k = 6) = False := eq_false h6
                  have H6 := Lib.hid h6
                  clear cn h6 hci
                  go_wp2
                  (try go_quiet (fail))
                  (try go_wp2)
                  go_roundg K3
                  case measure => omega
                  case rel => exact ⟨true, n + 1, rfl, congrArg (Value.int .i64) (by have := hn.out; have := HLL.out; unfold wrap64; omega), HN2, Lib.hid (hI.out.on (pw_below_drewN (Below.refl _ _) _)), Lib.hid ⟨fun _ => ⟨(hs.out.1 (by first | trivial | rfl)).1, fun m h1 => .inl H6.out⟩, fun _ => rfl⟩⟩
            · have d1 : decide ((n : Int) < (i : Int)) = false := decide_eq_false (by omega)
              have d2 : decide (n < i) = false := decide_eq_false cn
              have hcnt : is2 = true ↔ CountsAt l i := by
                have h1 := hs.out
                have h2 := hn.out
                rw [show n = i by omega, HS2.out] at h1
                rw [h1, CountsAt, HB.out, HK.out]
                exact ⟨fun h => ⟨h.1.1, h.1.2, h.2⟩, fun h => ⟨⟨h.1, h.2.1⟩, h.2.2⟩⟩
              have HCNT := Lib.hid hcnt
              clear hcnt hs cn HS2
              cases is2
              · go_wp2
                have I9 := Lib.hid (hI.out.skip HCI.out (fun h => by have := HCNT.out.2 h; cases this))
                go_roundg K1
                case measure => omega
                case rel => exact ⟨i + 1, out, congrArg (Value.int .i64) E1.out, Lib.hid ⟨HCI.out, by have := hi.out; omega⟩, I9⟩
              · have hcc := HCNT.out.1 (by first | trivial | rfl)
                have HCC := Lib.hid hcc
                clear hcc
                go_wp2_with ((with_reducible refine gate_builtin (b := .append) (xs := #[.tmp 68, .tmp 73]) rfl ?_); at_builtin; go_must (refine Kd.N_append (Kd.slice 5 (Kd.int .u8)) (w0 := w) w.heap.size rfl (.tmp 68) (.tmp 73) 33 22 (.slice none 0 0) 24 rfl Try.underlying33 info22 rfl (by decide) (by decide) u3 out b [.slice A2 b.length c3] (fun k => P k ∨ w.heap.size ≤ k) (fun k => P k ∧ k < w.heap.size) rfl rfl (Kd.FK_slice_mk HLC.out (Kd.F_below HFE.out hI.out.below)) (fun k hk => ⟨.inl hk.1, fun e => by have := Kd.N_base hI.out.row k e.symm; have := hk.2; omega⟩) (fun k hk => .inr (Nat.le_trans hI.out.below.size hk)) hI.out.row hI.out.below hI.out.below.size (by have := hI.out.len; have := HCI.out; omega) ?_; intro v9 w9 ho hb hg hat; have I9 := Lib.hid (hI.out.push HCI.out HCC.out (by rw [HB.out]; exact ho) hb); clear ho hb hg hat))
                go_roundg K1
                case measure => omega
                case rel => exact ⟨i + 1, _, congrArg (Value.int .i64) E1.out, Lib.hid ⟨HCI.out, by have := hi.out; omega⟩, I9⟩
    · have hil : i = l.length := by have := hi.out; omega
      have c1 : decide ((i : Int) < (l.length : Int)) = false := decide_eq_false (by omega)
      have c2 : decide (i < l.length) = false := decide_eq_false ci
      have he : out = keptR [] l := by
        have := hI.out.left
        rwa [hil, List.drop_length, keptR, List.append_nil] at this
      have HE := Lib.hid he
      clear he hil ci hi
      obtain ⟨A1, c3, rfl⟩ := Kd.N_slice hI.out.row
      go_wp2
      go_ret
      exact ⟨A1, c3, by rw [← HE.out]; rfl, by rw [← HE.out]; exact (Kd.N_reads' hI.out.row).2.1, by rw [← HE.out]; exact Kd.N_F hI.out.row, hI.out.below⟩
theorem kept_calls (A : Option Addr) (c : Nat) (l : List (List Int)) (w : World) (hC : Kd.C (Kd.slice 5 (Kd.int .u8)) w A l.length l) (hc : l.length ≤ c) (hO : ∀ x ∈ l, Octets x ∧ x.length ≤ 140737488355328) (hl : l.length ≤ 1000000000) :
    Calls Try.prog 24 #[.slice A l.length c] w fun e w' => ∃ A1 c1, e = .returned (.slice A1 (keptR [] l).length c1) ∧ (keptR [] l).length ≤ c1 ∧ Kd.C (Kd.slice 5 (Kd.int .u8)) w' A1 (keptR [] l).length (keptR [] l) ∧ Below w.heap.size w w' := by
  refine (kept_callsF _ A c l w (Kd.C_F (Kd.heap_slice 5 (Kd.heap_int .u8)) hC) hc hO hl).mono ?_
  rintro e w' ⟨A1, c1, h1, h2, h3, h4⟩
  exact ⟨A1, c1, h1, h2, Kd.F_now h3, h4⟩
end Go.Proofs.Ytfdpbdaekfdnjaa.X
-- Written by a program of this session (a turn of the kit's print with contracts by hand). Not trusted: Lean checks it.
namespace Go.Proofs.Ytfdpbdaekfdnjaa.X
open Go.RowKit Go.Proofs.YtfdpbdaekfdnjaaW.PrintWords Go.Proofs.YtfdpbdaekfdnjaaW.PrintLast Go.Proofs.YtfdpbdaekfdnjaaW.PrintMore
attribute [local go_sem] max2_int min2_int max_two min_two max_three min_three max_four min_four   -- for this text's walks alone
set_option linter.unusedVariables false
set_option linter.unusedSimpArgs false

/-! ### mootlaw30_size: function 25 -/
def mootlaw30_size.l0 : Nat → List (List Int) → Int → Int → Option (Int)
  | 0, _, _, _ => none
  | k + 1, x0, x3, x4 => if x4 < (x0.length : Int) then (if 0 ≤ x4 then (mootlaw30_size.l0 k x0 (wrap64 ((wrap64 (x3 + 3)) + ((rd_L1 x0 x4).length : Int))) (wrap64 (x4 + 1))) else (none)) else (some x3)
def mootlaw30_size.f (k : Nat) (l0 : List (List Int)) : Option (Int) := mootlaw30_size.l0 k l0 0 0
theorem mootlaw30_size.mono_l : ∀ k, (∀ y0 y1 y2, LeO (mootlaw30_size.l0 k y0 y1 y2) (mootlaw30_size.l0 (k + 1) y0 y1 y2))
  | 0 => fun _ _ _ r h => by simp [mootlaw30_size.l0] at h
  | k + 1 => by
    have ih0 := mootlaw30_size.mono_l k
    · intro y0 y1 y2
      unfold mootlaw30_size.l0
      repeat' first
      | (with_reducible exact ih0 _ _ _)
      | (with_reducible exact LeO.refl _)
      | (with_reducible exact LeO.none _)
      | (with_reducible refine LeO.ite ?_ ?_)
      | (with_reducible refine LeO.bind ?_ (fun _ => ?_))
      | exact ih0 _ _ _
      | exact LeO.none _
      | refine LeO.ite ?_ ?_
      | refine LeO.bind ?_ (fun _ => ?_)
theorem mootlaw30_size.mono : ∀ a0 k, LeO (mootlaw30_size.f k a0) (mootlaw30_size.f (k + 1) a0) := by
  intro a0 k
  have ih0 := mootlaw30_size.mono_l k
  unfold mootlaw30_size.f
  repeat' first
      | (with_reducible exact ih0 _ _ _)
      | (with_reducible exact LeO.refl _)
      | (with_reducible exact LeO.none _)
      | (with_reducible refine LeO.ite ?_ ?_)
      | (with_reducible refine LeO.bind ?_ (fun _ => ?_))
      | exact ih0 _ _ _
      | exact LeO.none _
      | refine LeO.ite ?_ ?_
      | refine LeO.bind ?_ (fun _ => ?_)
set_option maxHeartbeats 8000000 in
set_option maxRecDepth 100000 in
theorem mootlaw30_size.calls (k : Nat) (A0 : Option Addr) (c0 : Nat) (l0 : List (List Int)) (r : Int) (w : World) (hr0 : Kd.C (Kd.slice 5 (Kd.int .u8)) w A0 l0.length l0) (hc0 : l0.length ≤ c0) (h : mootlaw30_size.f k l0 = some r) :
    Calls Try.prog 25 #[.slice A0 l0.length c0] w fun e w' => e = .returned (.int .i64 r) ∧ Drawn0 w w' := by
  have HR0 := Aside0.mk hr0
  have HC0 := Aside0.mk hc0
  clear hr0 hc0
  have H : (mootlaw30_size.l0 k l0 0 0) = some r := h
  clear h
  have H' := Aside0.mk H
  clear H
  go_enter Try.func25, Try.ntmps25
  go_wp2
  go_loopg [3, 4] k (fun kq v3 v4 w' => ∃ (x3_1 : Int) (x4_1 : Int), v3 = .int .i64 x3_1 ∧ v4 = .int .i64 x4_1 ∧ Aside0 (mootlaw30_size.l0 kq l0 x3_1 x4_1 = some r) ∧ Aside0 (kq ≤ k) ∧ Drawn0 w w')
  case atStart => exact ⟨(0), (0), (by first | rfl | (simp; done) | (simp [*]; done)), (by first | rfl | (simp; done) | (simp [*]; done)), H', ⟨Nat.le_refl _⟩, by repeat (first | exact Drawn0.refl _ | apply Drawn0.step)⟩
  case round =>
    clear H'
    obtain ⟨x3_1, x4_1, rfl, rfl, HA, HK1, ⟨m1, rfl⟩⟩ := hrel
    cases gk with
    | zero => exact absurd HA.out (by simp [mootlaw30_size.l0])
    | succ k1 =>
      have H := HA.out
      clear HA
      simp only [mootlaw30_size.l0] at H
      by_cases c2 : x4_1 < (l0.length : Int)
      · rw [if_pos c2] at H
        have c2b0 : decide (x4_1 < (l0.length : Int)) = true := decide_eq_true c2
        clear c2
        by_cases c3 : 0 ≤ x4_1
        · rw [if_pos c3] at H
          have c3b0 : decide (0 ≤ x4_1) = true := decide_eq_true c3
          clear c3
          have H' := Aside0.mk H
          clear H
          have p243 : 0 ≤ (x4_1 : Int) := of_decide_eq_true (by first | (with_reducible assumption) | assumption)
          have q243 : x4_1 < (l0.length : Int) := of_decide_eq_true (by first | (with_reducible assumption) | assumption)
          obtain ⟨ad243, A243_0, c243_0, e243, hx243_0, hl243_0, hi243_0⟩ := at_L1 HR0.out x4_1 p243 q243
          cases e243
          have HR243_0 := Aside0.mk hi243_0
          have HC243_0 := Aside0.mk hl243_0
          clear hi243_0 hl243_0
          replace p243 := eq_true p243
          replace q243 := eq_true q243
          go_wp2
          go_roundg k1
          case measure => have := HK1.out; omega
          case rel => exact ⟨(wrap64 ((wrap64 (x3_1 + 3)) + ((rd_L1 l0 x4_1).length : Int))), (wrap64 (x4_1 + 1)), (by first | rfl | (simp; done) | (simp [*]; done)), (by first | rfl | (simp; done) | (simp [*]; done)), H', ⟨by have := HK1.out; omega⟩, by repeat (first | exact Drawn0.refl _ | apply Drawn0.step)⟩
        · rw [if_neg c3] at H
          exact absurd H (by simp)
      · rw [if_neg c2] at H
        have c2b0 : decide (x4_1 < (l0.length : Int)) = false := decide_eq_false c2
        clear c2
        obtain rfl := Option.some.inj H
        go_wp2
        go_ret
        exact ⟨by first | rfl | (simp; done) | (simp [*]; done), by repeat (first | exact Drawn0.refl _ | apply Drawn0.step)⟩

end Go.Proofs.Ytfdpbdaekfdnjaa.X
/- The law CompactKeeps: its body's contract. -/
namespace Go.Proofs.Ytfdpbdaekfdnjaa.X
open Go.RowKit Go.Proofs.YtfdpbdaekfdnjaaW.PrintWords Go.Proofs.YtfdpbdaekfdnjaaW.PrintLast Go.Proofs.YtfdpbdaekfdnjaaW.PrintMore
set_option linter.unusedVariables false
set_option linter.unusedSimpArgs false

/-- How many octets frames of records have. -/
def sizeL (l : List (List Int)) : Nat := (l.map (fun b => 3 + b.length)).sum
theorem sizeL_le (l : List (List Int)) (h : ∀ x ∈ l, x.length ≤ 140737488355328) : sizeL l ≤ l.length * 140737488355331 := by
  induction l with
  | nil => simp [sizeL]
  | cons b l ih =>
    have h1 := ih (fun x hx => h x (List.mem_cons_of_mem _ hx))
    have h2 := h b List.mem_cons_self
    simp only [sizeL, List.map_cons, List.sum_cons, List.length_cons] at h1 ⊢
    omega
theorem rd_L1_at {l : List (List Int)} {i : Nat} (h : i < l.length) : rd_L1 l (i : Int) = l[i] := by unfold rd_L1; rw [Int.toNat_natCast]; exact getD_at h
theorem csize_l0 (l : List (List Int)) (hb : sizeL l ≤ 4611686018427387904) (hn : l.length ≤ 1000000000) : ∀ (d k i : Nat), i + d = l.length → d < k → compact_size.l0 k (sizeL (l.take i) : Int) l (l.length : Int) (i : Int) = some (sizeL l : Int)
  | 0, k, i, hd, hk => by
    obtain ⟨k, rfl⟩ : ∃ m, k = m + 1 := ⟨k - 1, by omega⟩
    rw [compact_size.l0, if_neg (by omega), show i = l.length by omega, List.take_length]
  | d + 1, k, i, hd, hk => by
    obtain ⟨k, rfl⟩ : ∃ m, k = m + 1 := ⟨k - 1, by omega⟩
    have hi : i < l.length := by omega
    have hs : sizeL (l.take (i + 1)) = sizeL (l.take i) + (3 + l[i].length) := by
      rw [sizeL, sizeL, List.take_succ_eq_append_getElem hi, List.map_append, List.sum_append]
      simp
    have hle : sizeL (l.take (i + 1)) ≤ sizeL l := by
      have h1 : sizeL l = sizeL (l.take (i + 1)) + sizeL (l.drop (i + 1)) := by
        simp only [sizeL]
        rw [← List.sum_append, ← List.map_append, List.take_append_drop]
      omega
    rw [compact_size.l0, if_pos (by omega), if_pos (by omega), if_pos (by omega), rd_L1_at hi, wrap64_id (3 + _) (by omega) (by omega), wrap64_id ((i : Int) + 1) (by omega) (by omega), wrap64_id _ (by omega) (by omega)]
    have := csize_l0 l hb hn d k (i + 1) (by omega) (by omega)
    rw [hs] at this
    exact this
theorem csize_f (l : List (List Int)) (hb : sizeL l ≤ 4611686018427387904) (hn : l.length ≤ 1000000000) (k : Nat) (hk : l.length < k) : compact_size.f k l = some (sizeL l : Int) := by
  have := csize_l0 l hb hn l.length k 0 (by omega) hk
  simpa [compact_size.f, sizeL] using this
theorem lsize_l0 (l : List (List Int)) (hb : sizeL l ≤ 4611686018427387904) (hn : l.length ≤ 1000000000) : ∀ (d k i : Nat), i + d = l.length → d < k → mootlaw30_size.l0 k l (sizeL (l.take i) : Int) (i : Int) = some (sizeL l : Int)
  | 0, k, i, hd, hk => by
    obtain ⟨k, rfl⟩ : ∃ m, k = m + 1 := ⟨k - 1, by omega⟩
    rw [mootlaw30_size.l0, if_neg (by omega), show i = l.length by omega, List.take_length]
  | d + 1, k, i, hd, hk => by
    obtain ⟨k, rfl⟩ : ∃ m, k = m + 1 := ⟨k - 1, by omega⟩
    have hi : i < l.length := by omega
    have hs : sizeL (l.take (i + 1)) = sizeL (l.take i) + (3 + l[i].length) := by
      rw [sizeL, sizeL, List.take_succ_eq_append_getElem hi, List.map_append, List.sum_append]
      simp
    have hle : sizeL (l.take (i + 1)) ≤ sizeL l := by
      have h1 : sizeL l = sizeL (l.take (i + 1)) + sizeL (l.drop (i + 1)) := by
        simp only [sizeL]
        rw [← List.sum_append, ← List.map_append, List.take_append_drop]
      omega
    rw [mootlaw30_size.l0, if_pos (by omega), if_pos (by omega), rd_L1_at hi, wrap64_id (_ + 3) (by omega) (by omega), wrap64_id ((i : Int) + 1) (by omega) (by omega), wrap64_id _ (by omega) (by omega)]
    have := lsize_l0 l hb hn d k (i + 1) (by omega) (by omega)
    rw [hs] at this
    rw [show ((sizeL (l.take i) : Nat) : Int) + 3 + (l[i].length : Int) = ((sizeL (l.take i) + (3 + l[i].length) : Nat) : Int) by omega]
    exact this
theorem lsize_f (l : List (List Int)) (hb : sizeL l ≤ 4611686018427387904) (hn : l.length ≤ 1000000000) (k : Nat) (hk : l.length < k) : mootlaw30_size.f k l = some (sizeL l : Int) := by
  have := lsize_l0 l hb hn l.length k 0 (by omega) hk
  simpa [mootlaw30_size.f, sizeL] using this
theorem keep_len (l : List (List Int)) : (keepL l).length ≤ l.length := (keep_sub l).length_le
theorem keep_all {l : List (List Int)} (hO : ∀ x ∈ l, Octets x ∧ x.length ≤ 140737488355328) : ∀ x ∈ keepL l, Octets x ∧ x.length ≤ 140737488355328 := fun x hx => hO x (keep_mem hx)
theorem take60 (A : Option Addr) (l : List (List Int)) (c : Nat) (h : 60 < l.length) (hc : l.length ≤ c) : ∀ W : World, (Instr.slice 33 (.slice A l.length c) none (some (.int .i64 60)) none).run Try.prog W = .ok (.slice A 60 c) W := by
  have hcut := cut_to (P := Try.prog) 33 22 .i64 Try.underlying33 (info_parts info22).choose_spec.1 A l.length c (60 : Int) (by omega) (by omega) hc
  exact hcut
def mootlaw30_CompactKeeps.f (l0 : List (List Int)) (l1 : List Int) : Option Bool := if (∀ x ∈ l0, Octets x ∧ x.length ≤ 140737488355328) ∧ Octets l1 ∧ l1.length ≤ 140737488355328 then some true else none
set_option maxRecDepth 100000 in
set_option maxHeartbeats 40000000 in
theorem mootlaw30_CompactKeeps.calls (A0 : Option Addr) (c0 : Nat) (l0 : List (List Int)) (A1 : Option Addr) (c1 : Nat) (l1 : List Int) (r : Bool) (w : World) (hr0 : Kd.C (Kd.slice 5 (Kd.int .u8)) w A0 l0.length l0) (hc0 : l0.length ≤ c0) (hr1 : Kd.C (Kd.int .u8) w A1 l1.length l1) (hc1 : l1.length ≤ c1) (h : mootlaw30_CompactKeeps.f l0 l1 = some r) :
    Calls Try.prog 10 #[.slice A0 l0.length c0, .slice A1 l1.length c1] w fun e w' => e = .returned (.bool r) ∧ Below w.heap.size w w' := by
  unfold mootlaw30_CompactKeeps.f at h
  split at h
  · rename_i hcond
    obtain rfl := Option.some.inj h
    clear h
    obtain ⟨hO, hO1, hl1⟩ := hcond
    have HC1 := Lib.hid hr1
    have HO1 := Lib.hid hO1
    have HL1 := Lib.hid hl1
    have HLC1 := Lib.hid hc1
    by_cases h60 : 60 < l0.length
    · have hcut := take60 A0 l0 c0 h60 hc0
      have d1 : decide ((l0.length : Int) > 60) = true := decide_eq_true (by omega)
      have d2 : decide (60 < (l0.length : Int)) = true := decide_eq_true (by omega)
      have d3 : decide (60 < l0.length) = true := decide_eq_true h60
      obtain ⟨l, hl⟩ : ∃ l, l0.take 60 = l := ⟨_, rfl⟩
      have hll : l.length = 60 := by rw [← hl, List.length_take]; omega
      have hC : Kd.C (Kd.slice 5 (Kd.int .u8)) w A0 60 l := by
        have := Kd.C_take (m := 60) hr0 (by omega)
        rwa [hl, hll] at this
      have hOl : ∀ x ∈ l, Octets x ∧ x.length ≤ 140737488355328 := fun x hx => hO x (by rw [← hl] at hx; exact List.mem_of_mem_take hx)
      have hcl : 60 ≤ c0 := by omega
      clear hr0 hO h60 hl hr1 hO1 hl1 hc1
      obtain ⟨N, hN⟩ : ∃ N, l.length = N := ⟨_, rfl⟩
      have hcut2 : ∀ W : World, (Instr.slice 33 (.slice A0 l0.length c0) none (some (.int .i64 60)) none).run Try.prog W = .ok (.slice A0 l.length c0) W := by rw [hll]; exact hcut
      rw [← hll] at hC hcl
      clear hcut
      have hle : l.length ≤ 60 := by omega
      clear hll hN
      have hkl := keep_len l
      have HC := Lib.hid hC
      have HOL := Lib.hid hOl
      have HCL := Lib.hid hcl
      have hs1 := sizeL_le l (fun x hx => (hOl x hx).2)
      have hs2 := sizeL_le (keepL l) (fun x hx => (keep_all hOl x hx).2)
      have hn1 := csize_f l (by omega) (by omega) 61 (by omega)
      have hn2 := csize_f (keepL l) (by omega) (by omega) 61 (by omega)
      have hn3 := lsize_f l (by omega) (by omega) 61 (by omega)
      have hn4 := lsize_f (keepL l) (by omega) (by omega) 61 (by omega)
      have hag := keep_again l
      obtain ⟨S1, hS1⟩ : ∃ s : Int, (sizeL l : Int) = s := ⟨_, rfl⟩
      obtain ⟨S2, hS2⟩ : ∃ s : Int, (sizeL (keepL l) : Int) = s := ⟨_, rfl⟩
      obtain ⟨G, hG⟩ : ∃ G, wrap64 (S1 - S2) = G := ⟨_, rfl⟩
      rw [hS1] at hn1 hn3
      rw [hS2] at hn2 hn4
      have hkk := keep_kept l
      obtain ⟨m, hm⟩ : ∃ m, keepL l = m := ⟨_, rfl⟩
      rw [hm] at hn2 hn4 hag hkk hkl
      have hOm : ∀ x ∈ m, Octets x ∧ x.length ≤ 140737488355328 := by rw [← hm]; exact keep_all hOl
      have HN1 := Lib.hid hn1
      have HN2 : Hid (compact_size.f 61 (keepL l) = some S2) := Lib.hid (by rw [hm]; exact hn2)
      have HN3 := Lib.hid hn3
      have HN4 := Lib.hid hn4
      have HAG := Lib.hid hag
      have HKK := Lib.hid hkk
      have HM := Lib.hid hm
      have HOM := Lib.hid hOm
      have HKL := Lib.hid hkl
      have HLE := Lib.hid hle
      clear hC hOl hcl hs1 hs2 hn1 hn2 hn3 hn4 hag hS1 hS2 hkk hm hOm hkl hle
      go_enter Try.func10, Try.ntmps10
      go_wp2_with (first | (go_at_call 21; (with_reducible refine (alive30_calls _).mono ?_); rintro e w1 ⟨rfl, hb⟩; have B := Lib.hid hb; clear hb) | (go_at_call 24; go_must (refine (kept_calls A0 c0 l _ (Kd.C_below HC.out B.out) HCL.out HOL.out (by have := HLE.out; omega)).mono ?_; rintro e w2 ⟨A2, c2, rfl, hlc2, hC2, hb2⟩; rw [← HKK.out] at hlc2 hC2; rw [← HKK.out]; have B2 := Lib.hid (below_step B.out hb2); have C2 := Lib.hid hC2; have LC2 := Lib.hid hlc2; clear hb2 hC2 hlc2 B)) | (go_at_call 35; (with_reducible refine (keep_calls A0 c0 l _ (Kd.C_below HC.out B2.out) HCL.out HOL.out (by have := HLE.out; omega)).mono ?_; rintro e w3 ⟨v3, rfl, hR3, hb3⟩; rw [HM.out] at hR3; obtain ⟨A3, c3, rfl⟩ := Kd.R_slice hR3; have C3 := Lib.hid (Kd.R_reads' hR3).2.2; have LC3 := Lib.hid (Kd.R_reads' hR3).2.1; have D2 := Lib.hid (Kd.C_below C2.out hb3); have B3 := Lib.hid (below_step B2.out hb3); clear hb3 hR3 C2 B2)) | (go_at_call 36; go_must (refine (kind_calls A1 c1 l1 _ (Kd.C_below HC1.out B3.out) HLC1.out HO1.out HL1.out).mono ?_; rintro e w4 ⟨rfl, hb4⟩; have C4 := Lib.hid (Kd.C_below C3.out hb4); have D4 := Lib.hid (Kd.C_below D2.out hb4); have B4 := Lib.hid (below_step B3.out hb4); clear hb4 C3 D2 B3)) | (go_at_call 37; go_must (refine (rkind_calls A1 c1 l1 _ (Kd.C_below HC1.out B4.out) HLC1.out HO1.out HL1.out).mono ?_; rintro e w5 ⟨rfl, hb5⟩; have C5 := Lib.hid (Kd.C_below C4.out hb5); have D5 := Lib.hid (Kd.C_below D4.out hb5); have B5 := Lib.hid (below_step B4.out hb5); clear hb5 C4 D4 B4)) | (go_at_call 27; (with_reducible refine (lists_same A3 A2 c3 c2 m _ C5.out D5.out (by have := HLE.out; have := HKL.out; omega)).mono ?_; rintro e w6 ⟨rfl, ⟨n6, rfl⟩⟩; have C6 := Lib.hid (Kd.C_drewN C5.out n6); have D6 := Lib.hid (Kd.C_drewN D5.out n6); have B6 := Lib.hid (pw_below_drewN B5.out n6); clear C5 D5 B5)) | (go_at_call 38; go_must (refine (gain_calls A0 c0 l S1 S2 _ (Kd.C_below HC.out B6.out) HCL.out HOL.out (by have := HLE.out; omega) 61 HN1.out HN2.out).mono ?_; rintro e w7 ⟨rfl, hb7⟩; have C7 := Lib.hid (Kd.C_below C6.out hb7); have D7 := Lib.hid (Kd.C_below D6.out hb7); have B7 := Lib.hid (below_step B6.out hb7); clear hb7 C6 D6 B6)) | (go_at_call 25; (with_reducible refine (mootlaw30_size.calls 61 A0 c0 l S1 _ (Kd.C_below HC.out B7.out) HCL.out HN3.out).mono ?_; rintro e w8 ⟨rfl, ⟨n8, rfl⟩⟩; have C8 := Lib.hid (Kd.C_drewN C7.out n8); have D8 := Lib.hid (Kd.C_drewN D7.out n8); have B8 := Lib.hid (pw_below_drewN B7.out n8))) | (go_at_call 25; go_must (refine (mootlaw30_size.calls 61 A2 c2 m S2 _ D8.out LC2.out HN4.out).mono ?_; rintro e w9 ⟨rfl, ⟨n9, rfl⟩⟩; have C9 := Lib.hid (Kd.C_drewN C7.out (n8 + n9)); have D9 := Lib.hid (Kd.C_drewN D7.out (n8 + n9)); have B9 := Lib.hid (pw_below_drewN B7.out (n8 + n9)); clear C8 D8 B8 C7 D7 B7)) | (go_at_call 35; go_must (refine (keep_calls A3 c3 m _ C9.out LC3.out HOM.out (by have := HLE.out; have := HKL.out; omega)).mono ?_; rintro e wa ⟨va, rfl, hRa, hba⟩; rw [HAG.out] at hRa; obtain ⟨A4, c4, rfl⟩ := Kd.R_slice hRa; have Ca := Lib.hid (Kd.R_reads' hRa).2.2; have Da := Lib.hid (Kd.C_below D9.out hba); have Ba := Lib.hid (below_step B9.out hba); clear hba hRa C9 D9 B9)) | (go_at_call 27; go_must (refine (lists_same A4 A2 c4 c2 m _ Ca.out Da.out (by have := HLE.out; have := HKL.out; omega)).mono ?_; rintro e wb ⟨rfl, ⟨nb, rfl⟩⟩)))
      go_ret
      exact ⟨rfl, pw_below_drewN Ba.out _⟩
    · have d1 : decide ((l0.length : Int) > 60) = false := decide_eq_false (by omega)
      have d2 : decide (60 < (l0.length : Int)) = false := decide_eq_false (by omega)
      have d3 : decide (60 < l0.length) = false := decide_eq_false h60
      have hle : l0.length ≤ 60 := by omega
      obtain ⟨l, rfl⟩ : ∃ l, l = l0 := ⟨_, rfl⟩
      have hC := hr0
      have hOl := hO
      have hcl := hc0
      clear hr0 hO h60 hr1 hO1 hl1 hc1 hc0
      have hkl := keep_len l
      have HC := Lib.hid hC
      have HOL := Lib.hid hOl
      have HCL := Lib.hid hcl
      have hs1 := sizeL_le l (fun x hx => (hOl x hx).2)
      have hs2 := sizeL_le (keepL l) (fun x hx => (keep_all hOl x hx).2)
      have hn1 := csize_f l (by omega) (by omega) 61 (by omega)
      have hn2 := csize_f (keepL l) (by omega) (by omega) 61 (by omega)
      have hn3 := lsize_f l (by omega) (by omega) 61 (by omega)
      have hn4 := lsize_f (keepL l) (by omega) (by omega) 61 (by omega)
      have hag := keep_again l
      obtain ⟨S1, hS1⟩ : ∃ s : Int, (sizeL l : Int) = s := ⟨_, rfl⟩
      obtain ⟨S2, hS2⟩ : ∃ s : Int, (sizeL (keepL l) : Int) = s := ⟨_, rfl⟩
      obtain ⟨G, hG⟩ : ∃ G, wrap64 (S1 - S2) = G := ⟨_, rfl⟩
      rw [hS1] at hn1 hn3
      rw [hS2] at hn2 hn4
      have hkk := keep_kept l
      obtain ⟨m, hm⟩ : ∃ m, keepL l = m := ⟨_, rfl⟩
      rw [hm] at hn2 hn4 hag hkk hkl
      have hOm : ∀ x ∈ m, Octets x ∧ x.length ≤ 140737488355328 := by rw [← hm]; exact keep_all hOl
      have HN1 := Lib.hid hn1
      have HN2 : Hid (compact_size.f 61 (keepL l) = some S2) := Lib.hid (by rw [hm]; exact hn2)
      have HN3 := Lib.hid hn3
      have HN4 := Lib.hid hn4
      have HAG := Lib.hid hag
      have HKK := Lib.hid hkk
      have HM := Lib.hid hm
      have HOM := Lib.hid hOm
      have HKL := Lib.hid hkl
      have HLE := Lib.hid hle
      clear hC hOl hcl hs1 hs2 hn1 hn2 hn3 hn4 hag hS1 hS2 hkk hm hOm hkl hle
      go_enter Try.func10, Try.ntmps10
      go_wp2_with (first | (go_at_call 21; (with_reducible refine (alive30_calls _).mono ?_); rintro e w1 ⟨rfl, hb⟩; have B := Lib.hid hb; clear hb) | (go_at_call 24; go_must (refine (kept_calls A0 c0 l _ (Kd.C_below HC.out B.out) HCL.out HOL.out (by have := HLE.out; omega)).mono ?_; rintro e w2 ⟨A2, c2, rfl, hlc2, hC2, hb2⟩; rw [← HKK.out] at hlc2 hC2; rw [← HKK.out]; have B2 := Lib.hid (below_step B.out hb2); have C2 := Lib.hid hC2; have LC2 := Lib.hid hlc2; clear hb2 hC2 hlc2 B)) | (go_at_call 35; (with_reducible refine (keep_calls A0 c0 l _ (Kd.C_below HC.out B2.out) HCL.out HOL.out (by have := HLE.out; omega)).mono ?_; rintro e w3 ⟨v3, rfl, hR3, hb3⟩; rw [HM.out] at hR3; obtain ⟨A3, c3, rfl⟩ := Kd.R_slice hR3; have C3 := Lib.hid (Kd.R_reads' hR3).2.2; have LC3 := Lib.hid (Kd.R_reads' hR3).2.1; have D2 := Lib.hid (Kd.C_below C2.out hb3); have B3 := Lib.hid (below_step B2.out hb3); clear hb3 hR3 C2 B2)) | (go_at_call 36; go_must (refine (kind_calls A1 c1 l1 _ (Kd.C_below HC1.out B3.out) HLC1.out HO1.out HL1.out).mono ?_; rintro e w4 ⟨rfl, hb4⟩; have C4 := Lib.hid (Kd.C_below C3.out hb4); have D4 := Lib.hid (Kd.C_below D2.out hb4); have B4 := Lib.hid (below_step B3.out hb4); clear hb4 C3 D2 B3)) | (go_at_call 37; go_must (refine (rkind_calls A1 c1 l1 _ (Kd.C_below HC1.out B4.out) HLC1.out HO1.out HL1.out).mono ?_; rintro e w5 ⟨rfl, hb5⟩; have C5 := Lib.hid (Kd.C_below C4.out hb5); have D5 := Lib.hid (Kd.C_below D4.out hb5); have B5 := Lib.hid (below_step B4.out hb5); clear hb5 C4 D4 B4)) | (go_at_call 27; (with_reducible refine (lists_same A3 A2 c3 c2 m _ C5.out D5.out (by have := HLE.out; have := HKL.out; omega)).mono ?_; rintro e w6 ⟨rfl, ⟨n6, rfl⟩⟩; have C6 := Lib.hid (Kd.C_drewN C5.out n6); have D6 := Lib.hid (Kd.C_drewN D5.out n6); have B6 := Lib.hid (pw_below_drewN B5.out n6); clear C5 D5 B5)) | (go_at_call 38; go_must (refine (gain_calls A0 c0 l S1 S2 _ (Kd.C_below HC.out B6.out) HCL.out HOL.out (by have := HLE.out; omega) 61 HN1.out HN2.out).mono ?_; rintro e w7 ⟨rfl, hb7⟩; have C7 := Lib.hid (Kd.C_below C6.out hb7); have D7 := Lib.hid (Kd.C_below D6.out hb7); have B7 := Lib.hid (below_step B6.out hb7); clear hb7 C6 D6 B6)) | (go_at_call 25; (with_reducible refine (mootlaw30_size.calls 61 A0 c0 l S1 _ (Kd.C_below HC.out B7.out) HCL.out HN3.out).mono ?_; rintro e w8 ⟨rfl, ⟨n8, rfl⟩⟩; have C8 := Lib.hid (Kd.C_drewN C7.out n8); have D8 := Lib.hid (Kd.C_drewN D7.out n8); have B8 := Lib.hid (pw_below_drewN B7.out n8))) | (go_at_call 25; go_must (refine (mootlaw30_size.calls 61 A2 c2 m S2 _ D8.out LC2.out HN4.out).mono ?_; rintro e w9 ⟨rfl, ⟨n9, rfl⟩⟩; have C9 := Lib.hid (Kd.C_drewN C7.out (n8 + n9)); have D9 := Lib.hid (Kd.C_drewN D7.out (n8 + n9)); have B9 := Lib.hid (pw_below_drewN B7.out (n8 + n9)); clear C8 D8 B8 C7 D7 B7)) | (go_at_call 35; go_must (refine (keep_calls A3 c3 m _ C9.out LC3.out HOM.out (by have := HLE.out; have := HKL.out; omega)).mono ?_; rintro e wa ⟨va, rfl, hRa, hba⟩; rw [HAG.out] at hRa; obtain ⟨A4, c4, rfl⟩ := Kd.R_slice hRa; have Ca := Lib.hid (Kd.R_reads' hRa).2.2; have Da := Lib.hid (Kd.C_below D9.out hba); have Ba := Lib.hid (below_step B9.out hba); clear hba hRa C9 D9 B9)) | (go_at_call 27; go_must (refine (lists_same A4 A2 c4 c2 m _ Ca.out Da.out (by have := HLE.out; have := HKL.out; omega)).mono ?_; rintro e wb ⟨rfl, ⟨nb, rfl⟩⟩)))
      go_ret
      exact ⟨rfl, pw_below_drewN Ba.out _⟩
  · cases h
end Go.Proofs.Ytfdpbdaekfdnjaa.X
/- compact.Rewrite: a disk with what counts of another one. -/
namespace Go.Proofs.Ytfdpbdaekfdnjaa.X
open Go.RowKit Go.Proofs.YtfdpbdaekfdnjaaW.PrintWords Go.Proofs.YtfdpbdaekfdnjaaW.PrintLast Go.Proofs.YtfdpbdaekfdnjaaW.PrintMore
set_option linter.unusedVariables false
set_option linter.unusedSimpArgs false

theorem frames_bound (p : List (List Int)) (h : ∀ x ∈ p, x.length ≤ 16384) : (framesL p).length ≤ p.length * 16387 := by
  induction p with
  | nil => simp [framesL_nil]
  | cons b p ih =>
    have h1 := ih (fun x hx => h x (List.mem_cons_of_mem _ hx))
    have h2 := h b List.mem_cons_self
    rw [framesL_cons, List.length_append, frameL_len, List.length_cons]
    omega
theorem frames_size (p : List (List Int)) : (framesL p).length = sizeL p := by
  induction p with
  | nil => rfl
  | cons b p ih =>
    rw [framesL_cons, List.length_append, frameL_len, ih]
    simp [sizeL]
theorem rd_some {l : List (List Int)} {i : Nat} (h : i < l.length) : rd_L1 l (i : Int) ∈ l := by rw [rd_L1_at h]; exact List.getElem_mem h
/-- What a write of few records comes to, on a disk of any room. -/
theorem write_few (xs : List Int) (room : Int) (l : List (List Int)) (hl : l.length ≤ 60) :
    ∃ (e0 : Int) (zs : List Int), ((e0 = 0 ∧ zs = xs ++ framesL l ∧ (∀ x ∈ l, x.length ≤ 16384) ∧ (xs.length : Int) + (framesL l).length ≤ room) ∨ e0 = 5 ∨ e0 = 17) ∧
      ∀ (W : World) (base g : Nat) (v : Value) (sure : Nat), Dk W base g v xs sure room → ∀ (A : Option Addr) (c : Nat), (∀ W1, Touch (Own g v) W W1 → Kd.C (Kd.slice 5 (Kd.int .u8)) W1 A l.length l) →
        Calls Try.prog 22 #[.pointer (some ⟨g, 0, none⟩), .slice A l.length c] W fun e w' => e = .returned (.int .i64 e0) ∧ ∃ v', Dk w' base g v' zs sure room ∧ Step W w' g v v' := by
  have hl4 : l.length ≤ 4611686018427387904 := by omega
  rcases first_long (fun i => (rd_L1 l (i : Int)).length ≤ 16384) (fun i => Nat.lt_or_ge 16384 (rd_L1 l (i : Int)).length |>.symm.imp (fun h => h) (fun h => by omega)) l.length with hall | ⟨m, hm, hlong, hpre⟩
  · have hb := frames_bound l (rd_all hall)
    have hf : (framesL (l.take l.length)).length < 140737488355328 := by rw [List.take_length]; omega
    by_cases hroom : room < (xs.length : Int) + (framesL l).length
    · exact ⟨17, xs, .inr (.inr rfl), fun W base g v sure h A c hC => dk_write h A c l hC hl4 l.length (Nat.le_refl _) hall (fun h => absurd h (Nat.lt_irrefl _)) hf 17 xs (fun h => absurd h (Nat.lt_irrefl _)) (fun _ _ => ⟨rfl, rfl⟩) (fun _ h => absurd h (by omega))⟩
    · exact ⟨0, xs ++ framesL l, .inl ⟨rfl, rfl, rd_all hall, by omega⟩, fun W base g v sure h A c hC => dk_write h A c l hC hl4 l.length (Nat.le_refl _) hall (fun h => absurd h (Nat.lt_irrefl _)) hf 0 (xs ++ framesL l) (fun h => absurd h (Nat.lt_irrefl _)) (fun _ h => absurd h (by omega)) (fun _ _ => ⟨rfl, rfl⟩)⟩
  · have hb := frames_bound (l.take m) (fun x hx => by
      obtain ⟨j, hj, rfl⟩ := List.mem_iff_getElem.1 hx
      rw [List.length_take] at hj
      rw [List.getElem_take]
      have := hpre j (by omega)
      rwa [rd_L1_at (by omega)] at this)
    rw [List.length_take] at hb
    exact ⟨5, xs, .inr (.inl rfl), fun W base g v sure h A c hC => dk_write h A c l hC hl4 m (Nat.le_of_lt hm) hpre (fun _ => by omega) (by omega) 5 xs (fun _ => ⟨rfl, rfl⟩) (fun h => absurd h (Nat.ne_of_lt hm)) (fun h => absurd h (Nat.ne_of_lt hm))⟩
/-- A write of few records that are short, to a disk that has nothing: it fits or it does not. -/
theorem write_short (room : Int) (l : List (List Int)) (hl : l.length ≤ 60) (hs : ∀ x ∈ l, x.length ≤ 16384) (e0 : Int) (zs : List Int) (hno : room < (framesL l).length → e0 = 17 ∧ zs = []) (hyes : ((framesL l).length : Int) ≤ room → e0 = 0 ∧ zs = framesL l)
    {W : World} {base g : Nat} {v : Value} {sure : Nat} (h : Dk W base g v [] sure room) (A : Option Addr) (c : Nat) (hC : ∀ W1, Touch (Own g v) W W1 → Kd.C (Kd.slice 5 (Kd.int .u8)) W1 A l.length l) :
    Calls Try.prog 22 #[.pointer (some ⟨g, 0, none⟩), .slice A l.length c] W fun e w' => e = .returned (.int .i64 e0) ∧ ∃ v', Dk w' base g v' zs sure room ∧ Step W w' g v v' := by
  have hb := frames_bound l hs
  exact dk_write h A c l hC (by omega) l.length (Nat.le_refl _) (fun i hi => hs _ (rd_some hi)) (fun h => absurd h (Nat.lt_irrefl _)) (by rw [List.take_length]; omega) e0 zs (fun h => absurd h (Nat.lt_irrefl _)) (fun _ h => hno (by simpa using h)) (fun _ h => by simpa using hyes (by simpa using h))
theorem dead_rewrite (W : World) (p : Option Addr) (h : Dead W p) (n : Int) : Calls Try.prog 23 #[.pointer p, .int .i64 n] W fun e w' => e = .returned (.tuple #[.pointer none, .int .i64 9]) ∧ W = w' := by
  go_enter Try.func23, Try.ntmps23
  go_wp2_with (go_at_call 16; (with_reducible refine (dead_append _ _ h _).mono ?_); rintro e w' ⟨rfl, rfl⟩)
  go_ret2
  exact ⟨rfl, rfl⟩
theorem new_room (W : World) (rm r2 : Int) (hr : mn (mx rm 0) 262144 = r2) (h0 : 0 ≤ r2) (h1 : r2 ≤ 262144) : Calls Try.prog 15 #[.int .i64 rm] W fun e w' => e = .returned (.pointer (some ⟨W.heap.size, 0, none⟩)) ∧ Dk w' W.heap.size W.heap.size (.slice none 0 0) [] 0 r2 ∧ Below W.heap.size W w' := by
  refine (new_calls W rm r2 hr).mono ?_
  rintro e w' ⟨rfl, hd, hb⟩
  exact ⟨rfl, ⟨hd, Nat.le_refl _, h0, h1, by simpa using h0⟩, hb⟩
theorem own_ne_new {W : World} {base g g2 : Nat} {v : Value} {xs : List Int} {sure : Nat} {room : Int} (h : Dk W base g v xs sure room) (hg : W.heap.size ≤ g2) : ∀ k, Own g v k → ¬ Own g2 (.slice none 0 0) k := fun k hk ho => by
  have h1 := (h.own k hk).2
  rcases ho with rfl | ho
  · omega
  · simp [Value.ownBlock] at ho
/-- A step of another disk, of blocks that are new. -/
theorem Step.far {W W1 W2 : World} {g g2 : Nat} {v v1 u u1 : Value} (h : Step W W1 g v v1) (k : Step W1 W2 g2 u u1) (hn : ∀ i, Own g2 u i → W.heap.size ≤ i) : Step W W2 g v v1 :=
  ⟨⟨k.t.os.trans h.t.os, k.t.tape.trans h.t.tape, k.t.output.trans h.t.output, Nat.le_trans h.t.size k.t.size, fun i hi ho => (k.t.block i (Nat.lt_of_lt_of_le hi h.t.size) (fun h2 => by have := hn i h2; omega)).trans (h.t.block i hi ho)⟩, h.at_⟩
set_option maxRecDepth 100000 in
set_option maxHeartbeats 40000000 in
theorem rewrite_calls {W : World} {base g : Nat} {v : Value} {sure : Nat} {room : Int} (l : List (List Int)) (h : Dk W base g v (framesL l) sure room) (hO : ∀ x ∈ l, Octets x) (hs : ∀ x ∈ l, x.length ≤ 16384) (hl : l.length ≤ 60) (rm r2 : Int) (hr : mn (mx rm 0) 262144 = r2) (h0 : 0 ≤ r2) (h1 : r2 ≤ 262144) :
    Calls Try.prog 23 #[.pointer (some ⟨g, 0, none⟩), .int .i64 rm] W fun e w' => (∃ v', Dk w' base g v' (framesL l) sure room ∧ Step W w' g v v') ∧
      ((r2 < (framesL (keepL l)).length → e = .returned (.tuple #[.pointer none, .int .i64 17])) ∧ (((framesL (keepL l)).length : Int) ≤ r2 → ∃ g2 v2, e = .returned (.tuple #[.pointer (some ⟨g2, 0, none⟩), .int .i64 0]) ∧ W.heap.size ≤ g2 ∧ (∀ k, Own g2 v2 k → W.heap.size ≤ k) ∧ Dk w' W.heap.size g2 v2 (framesL (keepL l)) (framesL (keepL l)).length r2)) := by
  have hx0 := h.hx
  have hr1 := h.r1
  have hb := frames_bound l hs
  obtain ⟨hsc, hse⟩ := scan_all l hs
  have hkO : ∀ x ∈ l, Octets x ∧ x.length ≤ 140737488355328 := fun x hx => ⟨hO x hx, by have := hs x hx; omega⟩
  have hkl := keep_len l
  have hks : ∀ x ∈ keepL l, x.length ≤ 16384 := fun x hx => hs x (keep_mem hx)
  have HX0 := Lib.hid hx0
  have HB : Hid ((framesL l).length ≤ 100000000000) := Lib.hid (by omega)
  have HFO := Lib.hid (frames_octets l hO)
  have HSC := Lib.hid hsc
  have HKO := Lib.hid hkO
  have HL := Lib.hid hl
  have HR := Lib.hid hr
  have HR0 := Lib.hid h0
  have HR1 := Lib.hid h1
  have H := Lib.hid h
  by_cases c : r2 < (framesL (keepL l)).length
  · have hwr : ∀ (W : World) (base g : Nat) (v : Value) (sure : Nat), Dk W base g v [] sure r2 → ∀ (A : Option Addr) (c : Nat), (∀ W1, Touch (Own g v) W W1 → Kd.C (Kd.slice 5 (Kd.int .u8)) W1 A (keepL l).length (keepL l)) →
        Calls Try.prog 22 #[.pointer (some ⟨g, 0, none⟩), .slice A (keepL l).length c] W fun e w' => e = .returned (.int .i64 17) ∧ ∃ v', Dk w' base g v' [] sure r2 ∧ Step W w' g v v' := fun W base g v sure h A c' hC => write_short r2 (keepL l) (by omega) hks 17 [] (fun _ => ⟨rfl, rfl⟩) (fun h => absurd h (by omega)) h A c' hC
    have HWR := Lib.hid hwr
    have HC := Lib.hid c
    clear hwr hks hkl hkO hsc hse hb hr1 hx0 h hO hs hl hr h0 h1 c
    go_enter Try.func23, Try.ntmps23
    go_wp2_with (first | (go_at_call 16; go_must (refine (dk_append H.out none 0 [] (Kd.C_nil _ _) 0 (framesL l) (fun hh => absurd hh (by have := HX0.out; simp only [List.length_nil]; omega)) (fun _ => ⟨rfl, by simp⟩)).mono ?_; rintro e w1 ⟨rfl, v1, h1, hs1⟩; have H1 := Lib.hid h1; have S1 := Lib.hid hs1; clear h1 hs1)) | (go_at_call 19; go_must ((with_reducible refine (read_calls _ _ _ _ _ _ _ H1.out.d (by have := HB.out; omega)).mono ?_); rintro e w2 ⟨v2, rfl, ho, hb2⟩; obtain ⟨A2, c2, rfl⟩ := Kd.R_slice ho; have C2 := Lib.hid (Kd.R_reads' ho).2.2; have N2 := Lib.hid (Kd.R_reads' ho).2.1; have B2 := Lib.hid hb2; clear ho hb2)) | (go_at_call 31; go_must ((with_reducible refine (scan_calls A2 c2 (framesL l) _ C2.out N2.out HFO.out (by have := HB.out; omega)).mono ?_); rintro e w3 ⟨v3, rfl, hR3, hb3⟩; rw [HSC.out] at hR3; obtain ⟨A3, c3, rfl⟩ := Kd.R_slice hR3; have C3 := Lib.hid (Kd.R_reads' hR3).2.2; have N3 := Lib.hid (Kd.R_reads' hR3).2.1; have B3 := Lib.hid hb3; clear hR3 hb3)) | (go_at_call 15; go_must ((with_reducible refine (new_room _ rm r2 HR.out HR0.out HR1.out).mono ?_); rintro e w4 ⟨rfl, hd4, hb4⟩; have D4 := Lib.hid hd4; have B4 := Lib.hid hb4; clear hd4 hb4)) | (go_at_call 35; go_must (refine (keep_calls A3 c3 l _ (Kd.C_below C3.out B4.out) N3.out HKO.out (by have := HL.out; omega)).mono ?_; rintro e w5 ⟨v5, rfl, hR5, hb5⟩; obtain ⟨A5, c5, rfl⟩ := Kd.R_slice hR5; have F5 := Lib.hid (Kd.F_mono (Kd.R_F (Kd.R_bound hR5)) (fun k hk => hk.2.1)); have D5 := Lib.hid (D4.out.below hb5); have B5 := Lib.hid hb5; have L4 := Lib.hid (blk_lt D4.out.d.blk); clear hR5 hb5)) | (go_at_call 22; go_must (refine (HWR.out _ _ _ _ _ D5.out A5 c5 (fun W1 ht => Kd.F_now (Kd.F_step F5.out (fun k hk hlt => ht.block k hlt (fun ho => by have := L4.out; rcases ho with rfl | ho; exact absurd hk (by omega); simp [Value.ownBlock] at ho))))).mono ?_; rintro e w6 ⟨rfl, v6, hd6, hs6⟩; have D6 := Lib.hid hd6; have S6 := Lib.hid hs6; clear hd6 hs6)))
    go_ret2
    have hL3 : W.heap.size ≤ w3.heap.size := Nat.le_trans S1.out.t.size (Nat.le_trans B2.out.size B3.out.size)
    have H3 := (H1.out.below B2.out).below B3.out
    have hnew : ∀ k, Own w3.heap.size (.slice none 0 0) k → W.heap.size ≤ k := fun k hk => by
      rcases hk with rfl | hk
      · exact hL3
      · simp [Value.ownBlock] at hk
    refine ⟨⟨v1, Dk.beside ((H3.below B4.out).below B5.out) S6.out (own_ne_new H3 (Nat.le_refl _)), Step.far ((((S1.out.below B2.out).below B3.out).below B4.out).below B5.out) S6.out hnew⟩, fun _ => rfl, fun hh => absurd hh (by have := HC.out; omega)⟩
  · have hwr : ∀ (W : World) (base g : Nat) (v : Value) (sure : Nat), Dk W base g v [] sure r2 → ∀ (A : Option Addr) (c : Nat), (∀ W1, Touch (Own g v) W W1 → Kd.C (Kd.slice 5 (Kd.int .u8)) W1 A (keepL l).length (keepL l)) →
        Calls Try.prog 22 #[.pointer (some ⟨g, 0, none⟩), .slice A (keepL l).length c] W fun e w' => e = .returned (.int .i64 0) ∧ ∃ v', Dk w' base g v' (framesL (keepL l)) sure r2 ∧ Step W w' g v v' := fun W base g v sure h A c' hC => write_short r2 (keepL l) (by omega) hks 0 (framesL (keepL l)) (fun h => absurd h (by omega)) (fun _ => ⟨rfl, rfl⟩) h A c' hC
    have HWR := Lib.hid hwr
    have HC := Lib.hid c
    clear hwr hks hkl hkO hsc hse hb hr1 hx0 h hO hs hl hr h0 h1 c
    go_enter Try.func23, Try.ntmps23
    go_wp2_with (first | (go_at_call 16; go_must (refine (dk_append H.out none 0 [] (Kd.C_nil _ _) 0 (framesL l) (fun hh => absurd hh (by have := HX0.out; simp only [List.length_nil]; omega)) (fun _ => ⟨rfl, by simp⟩)).mono ?_; rintro e w1 ⟨rfl, v1, h1, hs1⟩; have H1 := Lib.hid h1; have S1 := Lib.hid hs1; clear h1 hs1)) | (go_at_call 19; go_must ((with_reducible refine (read_calls _ _ _ _ _ _ _ H1.out.d (by have := HB.out; omega)).mono ?_); rintro e w2 ⟨v2, rfl, ho, hb2⟩; obtain ⟨A2, c2, rfl⟩ := Kd.R_slice ho; have C2 := Lib.hid (Kd.R_reads' ho).2.2; have N2 := Lib.hid (Kd.R_reads' ho).2.1; have B2 := Lib.hid hb2; clear ho hb2)) | (go_at_call 31; go_must ((with_reducible refine (scan_calls A2 c2 (framesL l) _ C2.out N2.out HFO.out (by have := HB.out; omega)).mono ?_); rintro e w3 ⟨v3, rfl, hR3, hb3⟩; rw [HSC.out] at hR3; obtain ⟨A3, c3, rfl⟩ := Kd.R_slice hR3; have C3 := Lib.hid (Kd.R_reads' hR3).2.2; have N3 := Lib.hid (Kd.R_reads' hR3).2.1; have B3 := Lib.hid hb3; clear hR3 hb3)) | (go_at_call 15; go_must ((with_reducible refine (new_room _ rm r2 HR.out HR0.out HR1.out).mono ?_); rintro e w4 ⟨rfl, hd4, hb4⟩; have D4 := Lib.hid hd4; have B4 := Lib.hid hb4; clear hd4 hb4)) | (go_at_call 35; go_must (refine (keep_calls A3 c3 l _ (Kd.C_below C3.out B4.out) N3.out HKO.out (by have := HL.out; omega)).mono ?_; rintro e w5 ⟨v5, rfl, hR5, hb5⟩; obtain ⟨A5, c5, rfl⟩ := Kd.R_slice hR5; have F5 := Lib.hid (Kd.F_mono (Kd.R_F (Kd.R_bound hR5)) (fun k hk => hk.2.1)); have D5 := Lib.hid (D4.out.below hb5); have B5 := Lib.hid hb5; have L4 := Lib.hid (blk_lt D4.out.d.blk); clear hR5 hb5)) | (go_at_call 22; go_must (refine (HWR.out _ _ _ _ _ D5.out A5 c5 (fun W1 ht => Kd.F_now (Kd.F_step F5.out (fun k hk hlt => ht.block k hlt (fun ho => by have := L4.out; rcases ho with rfl | ho; exact absurd hk (by omega); simp [Value.ownBlock] at ho))))).mono ?_; rintro e w6 ⟨rfl, v6, hd6, hs6⟩; have D6 := Lib.hid hd6; have S6 := Lib.hid hs6; clear hd6 hs6)) | (go_at_call 17; go_must ((with_reducible refine (dk_flush D6.out).mono ?_); rintro e w7 ⟨rfl, hd7, hs7⟩; have D7 := Lib.hid hd7; have S7 := Lib.hid hs7; clear hd7 hs7)))
    go_ret2
    have hL3 : W.heap.size ≤ w3.heap.size := Nat.le_trans S1.out.t.size (Nat.le_trans B2.out.size B3.out.size)
    have H3 := (H1.out.below B2.out).below B3.out
    have hnew : ∀ k, Own w3.heap.size (.slice none 0 0) k → W.heap.size ≤ k := fun k hk => by
      rcases hk with rfl | hk
      · exact hL3
      · simp [Value.ownBlock] at hk
    have hnew6 : ∀ k, Own w3.heap.size v6 k → w3.heap.size ≤ k := fun k hk => by
      rcases hk with rfl | hk
      · exact Nat.le_refl _
      · rcases S6.out.at_ with e | ⟨b, e, hle⟩
        · rw [e] at hk; simp [Value.ownBlock] at hk
        · rw [e] at hk
          obtain rfl := Option.some.inj hk
          have := L4.out
          have := B5.out.size
          omega
    have H6 := Dk.beside ((H3.below B4.out).below B5.out) S6.out (own_ne_new H3 (Nat.le_refl _))
    have hap : ∀ k, Own g v1 k → ¬ Own w3.heap.size v6 k := fun k hk ho => by
      have := (H3.own k hk).2
      have := hnew6 k ho
      omega
    refine ⟨⟨v1, Dk.beside H6 S7.out hap, Step.far (Step.far ((((S1.out.below B2.out).below B3.out).below B4.out).below B5.out) S6.out hnew) S7.out (fun k hk => Nat.le_trans hL3 (hnew6 k hk))⟩, fun hh => absurd hh (by have := HC.out; omega), fun _ => ⟨w3.heap.size, v6, rfl, hL3, fun k hk => Nat.le_trans hL3 (hnew6 k hk), ?_⟩⟩
    have h7 := D7.out
    exact ⟨⟨h7.d.blk, h7.d.row.lower hL3, hL3, h7.d.ne⟩, h7.hs, h7.r0, h7.r1, h7.hx⟩
end Go.Proofs.Ytfdpbdaekfdnjaa.X
/- The law CompactRewrites: its body's contract. -/
namespace Go.Proofs.Ytfdpbdaekfdnjaa.X
open Go.RowKit Go.Proofs.YtfdpbdaekfdnjaaW.PrintWords Go.Proofs.YtfdpbdaekfdnjaaW.PrintLast Go.Proofs.YtfdpbdaekfdnjaaW.PrintMore
set_option linter.unusedVariables false
set_option linter.unusedSimpArgs false

theorem take40 (A : Option Addr) (l : List (List Int)) (c : Nat) (h : 40 < l.length) (hc : l.length ≤ c) : ∀ W : World, (Instr.slice 33 (.slice A l.length c) none (some (.int .i64 40)) none).run Try.prog W = .ok (.slice A 40 c) W := by
  have hcut := cut_to (P := Try.prog) 33 22 .i64 Try.underlying33 (info_parts info22).choose_spec.1 A l.length c (40 : Int) (by omega) (by omega) hc
  exact hcut
theorem dead_none (W : World) : Dead W none := Or.inl rfl
theorem room_of (a : Int) : ∃ M r2 : Int, (if a < 0 then (0 : Int) else a) = M ∧ (if 262144 < M then (262144 : Int) else M) = r2 ∧ mn (mx a 0) 262144 = r2 ∧ 0 ≤ r2 ∧ r2 ≤ 262144 := by
  refine ⟨_, _, rfl, rfl, ?_, ?_, ?_⟩
  · unfold mn mx; (repeat' split) <;> omega
  · (repeat' split) <;> omega
  · (repeat' split) <;> omega
def mootlaw30_CompactRewrites.f (l0 : List (List Int)) (a1 : Int) : Option Bool := if (∀ x ∈ l0, Octets x ∧ x.length ≤ 140737488355328) then some true else none
set_option maxRecDepth 100000 in
set_option maxHeartbeats 40000000 in
theorem mootlaw30_CompactRewrites.calls (A0 : Option Addr) (c0 : Nat) (l0 : List (List Int)) (a1 : Int) (r : Bool) (w : World) (hr0 : Kd.C (Kd.slice 5 (Kd.int .u8)) w A0 l0.length l0) (hc0 : l0.length ≤ c0) (h : mootlaw30_CompactRewrites.f l0 a1 = some r) :
    Calls Try.prog 5 #[.slice A0 l0.length c0, .int .i64 a1] w fun e w' => e = .returned (.bool r) ∧ Below w.heap.size w w' := by
  unfold mootlaw30_CompactRewrites.f at h
  split at h
  · rename_i hO
    obtain rfl := Option.some.inj h
    clear h
    obtain ⟨M, r2, hM1, hM2, hr, hr0', hr1'⟩ := room_of a1
    have HR := Lib.hid hr
    have HR0 := Lib.hid hr0'
    have HR1 := Lib.hid hr1'
    clear hr0' hr1' hr
    by_cases h40 : 40 < l0.length
    · have hcut := take40 A0 l0 c0 h40 hc0
      have d1 : decide ((l0.length : Int) > 40) = true := decide_eq_true (by omega)
      have d2 : decide (40 < (l0.length : Int)) = true := decide_eq_true (by omega)
      have d3 : decide (40 < l0.length) = true := decide_eq_true h40
      obtain ⟨l, hl⟩ : ∃ l, l0.take 40 = l := ⟨_, rfl⟩
      have hll : l.length = 40 := by rw [← hl, List.length_take]; omega
      have hC : Kd.C (Kd.slice 5 (Kd.int .u8)) w A0 40 l := by
        have := Kd.C_take (m := 40) hr0 (by omega)
        rwa [hl, hll] at this
      have hOl : ∀ x ∈ l, Octets x ∧ x.length ≤ 140737488355328 := fun x hx => hO x (by rw [← hl] at hx; exact List.mem_of_mem_take hx)
      have hcl : 40 ≤ c0 := by omega
      have hcut2 : ∀ W : World, (Instr.slice 33 (.slice A0 l0.length c0) none (some (.int .i64 40)) none).run Try.prog W = .ok (.slice A0 l.length c0) W := by rw [hll]; exact hcut
      clear hr0 hO h40 hl
      rw [← hll] at hC hcl
      clear hcut
      have hle : l.length ≤ 40 := by omega
      clear hll
      have hkl := keep_len l
      have hkk := keep_kept l
      have HC := Lib.hid hC
      have HOL := Lib.hid hOl
      have HCL := Lib.hid hcl
      have HLE := Lib.hid hle
      have hlF : ∀ W, Below w.heap.size w W → Kd.F (Kd.slice 5 (Kd.int .u8)) W (fun k => k < w.heap.size) A0 l.length l := fun W hb => Kd.F_step (Kd.C_F (Kd.heap_slice 5 (Kd.heap_int .u8)) HC.out) (fun k hk _ => hb.block k hk)
      have LF := Lib.hid hlF
      obtain ⟨e0, zs, hcase, hw⟩ := write_few [] 262144 l (by omega)
      have HW := Lib.hid hw
      clear hw hlF hC hcl
      rcases hcase with ⟨rfl, hzs, hs, hfit⟩ | rfl | rfl
      · rw [List.nil_append] at hzs
        subst hzs
        have hfb := frames_bound l hs
        have hks : ∀ x ∈ keepL l, x.length ≤ 16384 := fun x hx => hs x (keep_mem hx)
        have hkO : ∀ x ∈ keepL l, Octets x := fun x hx => (hOl x (keep_mem hx)).1
        have hsize := frames_size (keepL l)
        have hs2 := sizeL_le (keepL l) (fun x hx => (keep_all hOl x hx).2)
        have hn := lsize_f (keepL l) (by omega) (by omega) 61 (by omega)
        have hsc := scan_all (keepL l) hks
        have hfo := frames_octets (keepL l) hkO
        have hfb2 := frames_bound (keepL l) hks
        obtain ⟨m, hm⟩ : ∃ m, keepL l = m := ⟨_, rfl⟩
        obtain ⟨fm, hfm⟩ : ∃ fm, framesL m = fm := ⟨_, rfl⟩
        obtain ⟨T, hT⟩ : ∃ T : Int, (sizeL m : Int) = T := ⟨_, rfl⟩
        obtain ⟨sw, hsw⟩ : ∃ sw, strOfNums (framesL l) = sw := ⟨_, rfl⟩
        rw [hm, hT] at hn
        rw [hm] at hsc hfo hkl hkk hsize hfb2
        rw [hfm] at hsc hfo hsize hfb2
        have hTf : ((fm.length : Nat) : Int) = T := by rw [← hT, hsize]
        have HN := Lib.hid hn
        have HSC := Lib.hid hsc
        have HFO := Lib.hid hfo
        have HKL := Lib.hid hkl
        have HKK := Lib.hid hkk
        have HTF := Lib.hid hTf
        have SW := Lib.hid hsw
        have HM := Lib.hid hm
        have HFM := Lib.hid hfm
        have FB : Hid ((framesL l).length ≤ 100000000000) := Lib.hid (by omega)
        have FM : Hid (fm.length ≤ 100000000000) := Lib.hid (by omega)
        have HOC : Hid (∀ x ∈ l, Octets x) := Lib.hid (fun x hx => (hOl x hx).1)
        have HS := Lib.hid hs
        have HOL := Lib.hid hOl
        clear hfb hks hkO hsize hs2 hn hsc hfo hfb2 hm hfm hT hsw hTf hs hOl hkk hkl hle hfit
        by_cases c : r2 < T
        · have e1 : decide (T > r2) = true := decide_eq_true c
          have e2 : decide (r2 < T) = true := decide_eq_true c
          have CC := Lib.hid c
          clear c
          go_enter Try.func5, Try.ntmps5
          go_wp2_with (first | (go_at_call 21; go_must ((with_reducible refine (alive30_calls _).mono ?_); rintro e w1 ⟨rfl, hb⟩; have B1 := Lib.hid hb; clear hb)) | (go_at_call 15; go_must ((with_reducible refine (new_dk _).mono ?_); rintro e w2 ⟨rfl, hd2, hb2⟩; have D2 := Lib.hid hd2; have B2 := Lib.hid (below_step B1.out hb2); clear hd2 hb2)) | (go_at_call 22; go_must (refine (HW.out _ _ _ _ _ D2.out A0 c0 (par_C HC.out B2.out D2.out B1.out.size)).mono ?_; rintro e w3 ⟨rfl, v3, hd3, hs3⟩; have D3 := Lib.hid hd3; have B3 := Lib.hid (hs3.t.below B2.out (fun k hk => Nat.le_trans B1.out.size (D2.out.own k hk).1)); clear hd3 hs3)) | (go_at_call 19; ((with_reducible refine (read_calls _ _ _ _ _ _ _ D3.out.d (by have := FB.out; omega)).mono ?_); rintro e w4 ⟨v4, rfl, ho, hb4⟩; obtain ⟨A4, c4, rfl⟩ := Kd.R_slice ho; have s4 := Kd.C_string (P := Try.prog) (src := 22) (dst := 9) Try.underlying22 Try.underlying5 Try.underlying9 (c := c4) (Kd.R_reads' ho).2.2; rw [SW.out] at s4; have D4 := Lib.hid (D3.out.below hb4); have B4 := Lib.hid (below_step B3.out hb4); clear ho hb4 D3 B3)) | (go_at_call 23; go_must (refine (rewrite_calls l D4.out HOC.out HS.out (by have := HLE.out; omega) a1 r2 HR.out HR0.out HR1.out).mono ?_; rintro e w5 ⟨⟨v5, hd5, hs5⟩, hfull, _⟩; obtain rfl := hfull (by rw [HM.out, HFM.out, HTF.out]; exact CC.out); have D5 := Lib.hid hd5; have B5 := Lib.hid (hs5.t.below B4.out (fun k hk => Nat.le_trans B1.out.size (D4.out.own k hk).1)); have Z45 := Lib.hid B4.out.size; clear hd5 hs5 s4)) | (go_at_call 24; go_must (refine (kept_callsF (fun k => k < w.heap.size) A0 c0 l _ (LF.out _ B5.out) HCL.out HOL.out (by have := HLE.out; omega)).mono ?_; rintro e w6 ⟨A6, c6, rfl, hlc6, hF6, hb6⟩; rw [← HKK.out] at hlc6 hF6; rw [← HKK.out]; have F6 := Lib.hid hF6; have LC6 := Lib.hid hlc6; have D6 := Lib.hid (D5.out.below hb6); have B6 := Lib.hid (below_step B5.out hb6); clear hF6 hlc6 hb6)) | (go_at_call 19; ((with_reducible refine (read_calls _ _ _ _ _ _ _ D6.out.d (by have := FB.out; omega)).mono ?_); rintro e w7 ⟨v7, rfl, ho, hb7⟩; obtain ⟨A7, c7, rfl⟩ := Kd.R_slice ho; have s7 := Kd.C_string (P := Try.prog) (src := 22) (dst := 9) Try.underlying22 Try.underlying5 Try.underlying9 (c := c7) (Kd.R_reads' ho).2.2; rw [SW.out] at s7; have F7 := Lib.hid (Kd.F_below F6.out hb7); have B7 := Lib.hid (below_step B6.out hb7); clear ho hb7)) | (go_at_call 25; go_must (refine (mootlaw30_size.calls 61 A6 c6 m T _ (Kd.F_now F7.out) LC6.out HN.out).mono ?_; rintro e w8 ⟨rfl, ⟨n8, rfl⟩⟩)))
          go_ret
          exact ⟨rfl, pw_below_drewN B7.out _⟩
        · have e1 : decide (T > r2) = false := decide_eq_false (by omega)
          have e2 : decide (r2 < T) = false := decide_eq_false c
          have CC : Hid (T ≤ r2) := Lib.hid (by omega)
          clear c
          go_enter Try.func5, Try.ntmps5
          go_wp2_with (first | (go_at_call 21; go_must ((with_reducible refine (alive30_calls _).mono ?_); rintro e w1 ⟨rfl, hb⟩; have B1 := Lib.hid hb; clear hb)) | (go_at_call 15; go_must ((with_reducible refine (new_dk _).mono ?_); rintro e w2 ⟨rfl, hd2, hb2⟩; have D2 := Lib.hid hd2; have B2 := Lib.hid (below_step B1.out hb2); clear hd2 hb2)) | (go_at_call 22; go_must (refine (HW.out _ _ _ _ _ D2.out A0 c0 (par_C HC.out B2.out D2.out B1.out.size)).mono ?_; rintro e w3 ⟨rfl, v3, hd3, hs3⟩; have D3 := Lib.hid hd3; have B3 := Lib.hid (hs3.t.below B2.out (fun k hk => Nat.le_trans B1.out.size (D2.out.own k hk).1)); clear hd3 hs3)) | (go_at_call 19; ((with_reducible refine (read_calls _ _ _ _ _ _ _ D3.out.d (by have := FB.out; omega)).mono ?_); rintro e w4 ⟨v4, rfl, ho, hb4⟩; obtain ⟨A4, c4, rfl⟩ := Kd.R_slice ho; have s4 := Kd.C_string (P := Try.prog) (src := 22) (dst := 9) Try.underlying22 Try.underlying5 Try.underlying9 (c := c4) (Kd.R_reads' ho).2.2; rw [SW.out] at s4; have D4 := Lib.hid (D3.out.below hb4); have B4 := Lib.hid (below_step B3.out hb4); clear ho hb4 D3 B3)) | (go_at_call 23; (with_reducible refine (rewrite_calls l D4.out HOC.out HS.out (by have := HLE.out; omega) a1 r2 HR.out HR0.out HR1.out).mono ?_; rintro e w5 ⟨⟨v5, hd5, hs5⟩, _, hfits⟩; obtain ⟨g2, v2, rfl, hg2, hown, hdn⟩ := hfits (by rw [HM.out, HFM.out, HTF.out]; exact CC.out); rw [HM.out, HFM.out] at hdn; have N5 := Lib.hid hdn; have OWN := Lib.hid hown; clear hg2 hown hdn; have D5 := Lib.hid hd5; have B5 := Lib.hid (hs5.t.below B4.out (fun k hk => Nat.le_trans B1.out.size (D4.out.own k hk).1)); have Z45 := Lib.hid B4.out.size; clear hd5 hs5 s4)) | (go_at_call 24; go_must (refine (kept_callsF (fun k => k < w.heap.size) A0 c0 l _ (LF.out _ B5.out) HCL.out HOL.out (by have := HLE.out; omega)).mono ?_; rintro e w6 ⟨A6, c6, rfl, hlc6, hF6, hb6⟩; rw [← HKK.out] at hlc6 hF6; rw [← HKK.out]; have F6 := Lib.hid hF6; have LC6 := Lib.hid hlc6; have D6 := Lib.hid (D5.out.below hb6); have B6 := Lib.hid (below_step B5.out hb6); have N6 := Lib.hid (N5.out.below hb6); clear hF6 hlc6 hb6)) | (go_at_call 19; ((with_reducible refine (read_calls _ _ _ _ _ _ _ D6.out.d (by have := FB.out; omega)).mono ?_); rintro e w7 ⟨v7, rfl, ho, hb7⟩; obtain ⟨A7, c7, rfl⟩ := Kd.R_slice ho; have s7 := Kd.C_string (P := Try.prog) (src := 22) (dst := 9) Try.underlying22 Try.underlying5 Try.underlying9 (c := c7) (Kd.R_reads' ho).2.2; rw [SW.out] at s7; have F7 := Lib.hid (Kd.F_below F6.out hb7); have B7 := Lib.hid (below_step B6.out hb7); have N7 := Lib.hid (N6.out.below hb7); clear ho hb7)) | (go_at_call 25; go_must (refine (mootlaw30_size.calls 61 A6 c6 m T _ (Kd.F_now F7.out) LC6.out HN.out).mono ?_; rintro e w8 ⟨rfl, ⟨n8, rfl⟩⟩)) | (go_at_call 26; go_must ((with_reducible refine (dk_recover (N7.out.below (pw_below_drewN (Below.refl _ _) n8)) HFO.out (by rw [HSC.out.2]; exact Nat.le_refl _)).mono ?_); rintro e w9 ⟨A9, c9, v9, Z, rfl, hlc9, hF9, hlt9, hd9, hs9⟩; rw [HSC.out.1] at hlc9 hF9; rw [HSC.out.1]; rw [HSC.out.2, List.take_length] at hd9; have F9 := Lib.hid (Kd.F_now hF9); have N9 := Lib.hid hd9; have W9 := Lib.hid (Kd.F_now (Kd.F_step (Kd.F_drewN F7.out n8) (fun k hk hlt => hs9.t.block k hlt (fun ho => by have h1 := OWN.out k ho; have h2 := (N5.out.own k ho).2; have h3 := Z45.out; rcases hk with hk | hk <;> omega)))); have B9 := Lib.hid (hs9.t.below (pw_below_drewN B7.out n8) (fun k hk => Nat.le_trans Z45.out (OWN.out k hk))); clear hF9 hd9 hs9 hlt9 hlc9)) | (go_at_call 23; go_must ((with_reducible refine (dead_rewrite _ none (dead_none _) a1).mono ?_); rintro e wa ⟨rfl, rfl⟩)) | (go_at_call 27; go_must ((with_reducible refine (lists_same A9 A6 c9 c6 m _ F9.out W9.out (by have := HLE.out; have := HKL.out; omega)).mono ?_); rintro e wb ⟨rfl, ⟨nb, rfl⟩⟩; have N10 := Lib.hid (N9.out.below (pw_below_drewN (Below.refl _ _) nb)))) | (go_at_call 20; go_must ((with_reducible refine (loose_calls _ _ _ _ _ _ _ N10.out.d (Nat.le_refl _)).mono ?_); rintro e wc ⟨rfl, ⟨nc, rfl⟩⟩; rw [show ((fm.length : Int) - fm.length) = 0 by omega])))
          go_ret
          exact ⟨rfl, pw_below_drewN B9.out _⟩
      · clear hOl hle hkl hkk
        go_enter Try.func5, Try.ntmps5
        go_wp2_with (first | (go_at_call 21; go_must ((with_reducible refine (alive30_calls _).mono ?_); rintro e w1 ⟨rfl, hb⟩; have B1 := Lib.hid hb; clear hb)) | (go_at_call 15; go_must ((with_reducible refine (new_dk _).mono ?_); rintro e w2 ⟨rfl, hd2, hb2⟩; have D2 := Lib.hid hd2; have B2 := Lib.hid (below_step B1.out hb2); clear hd2 hb2)) | (go_at_call 22; go_must (refine (HW.out _ _ _ _ _ D2.out A0 c0 (par_C HC.out B2.out D2.out B1.out.size)).mono ?_; rintro e w3 ⟨rfl, v3, hd3, hs3⟩; have D3 := Lib.hid hd3; have B3 := Lib.hid (hs3.t.below B2.out (fun k hk => Nat.le_trans B1.out.size (D2.out.own k hk).1)); clear hd3 hs3)))
        go_ret
        exact ⟨rfl, B3.out⟩
      · clear hOl hle hkl hkk
        go_enter Try.func5, Try.ntmps5
        go_wp2_with (first | (go_at_call 21; go_must ((with_reducible refine (alive30_calls _).mono ?_); rintro e w1 ⟨rfl, hb⟩; have B1 := Lib.hid hb; clear hb)) | (go_at_call 15; go_must ((with_reducible refine (new_dk _).mono ?_); rintro e w2 ⟨rfl, hd2, hb2⟩; have D2 := Lib.hid hd2; have B2 := Lib.hid (below_step B1.out hb2); clear hd2 hb2)) | (go_at_call 22; go_must (refine (HW.out _ _ _ _ _ D2.out A0 c0 (par_C HC.out B2.out D2.out B1.out.size)).mono ?_; rintro e w3 ⟨rfl, v3, hd3, hs3⟩; have D3 := Lib.hid hd3; have B3 := Lib.hid (hs3.t.below B2.out (fun k hk => Nat.le_trans B1.out.size (D2.out.own k hk).1)); clear hd3 hs3)))
        go_ret
        exact ⟨rfl, B3.out⟩
    · have d1 : decide ((l0.length : Int) > 40) = false := decide_eq_false (by omega)
      have d2 : decide (40 < (l0.length : Int)) = false := decide_eq_false (by omega)
      have d3 : decide (40 < l0.length) = false := decide_eq_false h40
      have hle : l0.length ≤ 40 := by omega
      obtain ⟨l, rfl⟩ : ∃ l, l = l0 := ⟨_, rfl⟩
      have hC := hr0
      have hOl := hO
      have hcl := hc0
      clear hr0 hO h40 hc0
      have hkl := keep_len l
      have hkk := keep_kept l
      have HC := Lib.hid hC
      have HOL := Lib.hid hOl
      have HCL := Lib.hid hcl
      have HLE := Lib.hid hle
      have hlF : ∀ W, Below w.heap.size w W → Kd.F (Kd.slice 5 (Kd.int .u8)) W (fun k => k < w.heap.size) A0 l.length l := fun W hb => Kd.F_step (Kd.C_F (Kd.heap_slice 5 (Kd.heap_int .u8)) HC.out) (fun k hk _ => hb.block k hk)
      have LF := Lib.hid hlF
      obtain ⟨e0, zs, hcase, hw⟩ := write_few [] 262144 l (by omega)
      have HW := Lib.hid hw
      clear hw hlF hC hcl
      rcases hcase with ⟨rfl, hzs, hs, hfit⟩ | rfl | rfl
      · rw [List.nil_append] at hzs
        subst hzs
        have hfb := frames_bound l hs
        have hks : ∀ x ∈ keepL l, x.length ≤ 16384 := fun x hx => hs x (keep_mem hx)
        have hkO : ∀ x ∈ keepL l, Octets x := fun x hx => (hOl x (keep_mem hx)).1
        have hsize := frames_size (keepL l)
        have hs2 := sizeL_le (keepL l) (fun x hx => (keep_all hOl x hx).2)
        have hn := lsize_f (keepL l) (by omega) (by omega) 61 (by omega)
        have hsc := scan_all (keepL l) hks
        have hfo := frames_octets (keepL l) hkO
        have hfb2 := frames_bound (keepL l) hks
        obtain ⟨m, hm⟩ : ∃ m, keepL l = m := ⟨_, rfl⟩
        obtain ⟨fm, hfm⟩ : ∃ fm, framesL m = fm := ⟨_, rfl⟩
        obtain ⟨T, hT⟩ : ∃ T : Int, (sizeL m : Int) = T := ⟨_, rfl⟩
        obtain ⟨sw, hsw⟩ : ∃ sw, strOfNums (framesL l) = sw := ⟨_, rfl⟩
        rw [hm, hT] at hn
        rw [hm] at hsc hfo hkl hkk hsize hfb2
        rw [hfm] at hsc hfo hsize hfb2
        have hTf : ((fm.length : Nat) : Int) = T := by rw [← hT, hsize]
        have HN := Lib.hid hn
        have HSC := Lib.hid hsc
        have HFO := Lib.hid hfo
        have HKL := Lib.hid hkl
        have HKK := Lib.hid hkk
        have HTF := Lib.hid hTf
        have SW := Lib.hid hsw
        have HM := Lib.hid hm
        have HFM := Lib.hid hfm
        have FB : Hid ((framesL l).length ≤ 100000000000) := Lib.hid (by omega)
        have FM : Hid (fm.length ≤ 100000000000) := Lib.hid (by omega)
        have HOC : Hid (∀ x ∈ l, Octets x) := Lib.hid (fun x hx => (hOl x hx).1)
        have HS := Lib.hid hs
        have HOL := Lib.hid hOl
        clear hfb hks hkO hsize hs2 hn hsc hfo hfb2 hm hfm hT hsw hTf hs hOl hkk hkl hle hfit
        by_cases c : r2 < T
        · have e1 : decide (T > r2) = true := decide_eq_true c
          have e2 : decide (r2 < T) = true := decide_eq_true c
          have CC := Lib.hid c
          clear c
          go_enter Try.func5, Try.ntmps5
          go_wp2_with (first | (go_at_call 21; go_must ((with_reducible refine (alive30_calls _).mono ?_); rintro e w1 ⟨rfl, hb⟩; have B1 := Lib.hid hb; clear hb)) | (go_at_call 15; go_must ((with_reducible refine (new_dk _).mono ?_); rintro e w2 ⟨rfl, hd2, hb2⟩; have D2 := Lib.hid hd2; have B2 := Lib.hid (below_step B1.out hb2); clear hd2 hb2)) | (go_at_call 22; go_must (refine (HW.out _ _ _ _ _ D2.out A0 c0 (par_C HC.out B2.out D2.out B1.out.size)).mono ?_; rintro e w3 ⟨rfl, v3, hd3, hs3⟩; have D3 := Lib.hid hd3; have B3 := Lib.hid (hs3.t.below B2.out (fun k hk => Nat.le_trans B1.out.size (D2.out.own k hk).1)); clear hd3 hs3)) | (go_at_call 19; ((with_reducible refine (read_calls _ _ _ _ _ _ _ D3.out.d (by have := FB.out; omega)).mono ?_); rintro e w4 ⟨v4, rfl, ho, hb4⟩; obtain ⟨A4, c4, rfl⟩ := Kd.R_slice ho; have s4 := Kd.C_string (P := Try.prog) (src := 22) (dst := 9) Try.underlying22 Try.underlying5 Try.underlying9 (c := c4) (Kd.R_reads' ho).2.2; rw [SW.out] at s4; have D4 := Lib.hid (D3.out.below hb4); have B4 := Lib.hid (below_step B3.out hb4); clear ho hb4 D3 B3)) | (go_at_call 23; go_must (refine (rewrite_calls l D4.out HOC.out HS.out (by have := HLE.out; omega) a1 r2 HR.out HR0.out HR1.out).mono ?_; rintro e w5 ⟨⟨v5, hd5, hs5⟩, hfull, _⟩; obtain rfl := hfull (by rw [HM.out, HFM.out, HTF.out]; exact CC.out); have D5 := Lib.hid hd5; have B5 := Lib.hid (hs5.t.below B4.out (fun k hk => Nat.le_trans B1.out.size (D4.out.own k hk).1)); have Z45 := Lib.hid B4.out.size; clear hd5 hs5 s4)) | (go_at_call 24; go_must (refine (kept_callsF (fun k => k < w.heap.size) A0 c0 l _ (LF.out _ B5.out) HCL.out HOL.out (by have := HLE.out; omega)).mono ?_; rintro e w6 ⟨A6, c6, rfl, hlc6, hF6, hb6⟩; rw [← HKK.out] at hlc6 hF6; rw [← HKK.out]; have F6 := Lib.hid hF6; have LC6 := Lib.hid hlc6; have D6 := Lib.hid (D5.out.below hb6); have B6 := Lib.hid (below_step B5.out hb6); clear hF6 hlc6 hb6)) | (go_at_call 19; ((with_reducible refine (read_calls _ _ _ _ _ _ _ D6.out.d (by have := FB.out; omega)).mono ?_); rintro e w7 ⟨v7, rfl, ho, hb7⟩; obtain ⟨A7, c7, rfl⟩ := Kd.R_slice ho; have s7 := Kd.C_string (P := Try.prog) (src := 22) (dst := 9) Try.underlying22 Try.underlying5 Try.underlying9 (c := c7) (Kd.R_reads' ho).2.2; rw [SW.out] at s7; have F7 := Lib.hid (Kd.F_below F6.out hb7); have B7 := Lib.hid (below_step B6.out hb7); clear ho hb7)) | (go_at_call 25; go_must (refine (mootlaw30_size.calls 61 A6 c6 m T _ (Kd.F_now F7.out) LC6.out HN.out).mono ?_; rintro e w8 ⟨rfl, ⟨n8, rfl⟩⟩)))
          go_ret
          exact ⟨rfl, pw_below_drewN B7.out _⟩
        · have e1 : decide (T > r2) = false := decide_eq_false (by omega)
          have e2 : decide (r2 < T) = false := decide_eq_false c
          have CC : Hid (T ≤ r2) := Lib.hid (by omega)
          clear c
          go_enter Try.func5, Try.ntmps5
          go_wp2_with (first | (go_at_call 21; go_must ((with_reducible refine (alive30_calls _).mono ?_); rintro e w1 ⟨rfl, hb⟩; have B1 := Lib.hid hb; clear hb)) | (go_at_call 15; go_must ((with_reducible refine (new_dk _).mono ?_); rintro e w2 ⟨rfl, hd2, hb2⟩; have D2 := Lib.hid hd2; have B2 := Lib.hid (below_step B1.out hb2); clear hd2 hb2)) | (go_at_call 22; go_must (refine (HW.out _ _ _ _ _ D2.out A0 c0 (par_C HC.out B2.out D2.out B1.out.size)).mono ?_; rintro e w3 ⟨rfl, v3, hd3, hs3⟩; have D3 := Lib.hid hd3; have B3 := Lib.hid (hs3.t.below B2.out (fun k hk => Nat.le_trans B1.out.size (D2.out.own k hk).1)); clear hd3 hs3)) | (go_at_call 19; ((with_reducible refine (read_calls _ _ _ _ _ _ _ D3.out.d (by have := FB.out; omega)).mono ?_); rintro e w4 ⟨v4, rfl, ho, hb4⟩; obtain ⟨A4, c4, rfl⟩ := Kd.R_slice ho; have s4 := Kd.C_string (P := Try.prog) (src := 22) (dst := 9) Try.underlying22 Try.underlying5 Try.underlying9 (c := c4) (Kd.R_reads' ho).2.2; rw [SW.out] at s4; have D4 := Lib.hid (D3.out.below hb4); have B4 := Lib.hid (below_step B3.out hb4); clear ho hb4 D3 B3)) | (go_at_call 23; (with_reducible refine (rewrite_calls l D4.out HOC.out HS.out (by have := HLE.out; omega) a1 r2 HR.out HR0.out HR1.out).mono ?_; rintro e w5 ⟨⟨v5, hd5, hs5⟩, _, hfits⟩; obtain ⟨g2, v2, rfl, hg2, hown, hdn⟩ := hfits (by rw [HM.out, HFM.out, HTF.out]; exact CC.out); rw [HM.out, HFM.out] at hdn; have N5 := Lib.hid hdn; have OWN := Lib.hid hown; clear hg2 hown hdn; have D5 := Lib.hid hd5; have B5 := Lib.hid (hs5.t.below B4.out (fun k hk => Nat.le_trans B1.out.size (D4.out.own k hk).1)); have Z45 := Lib.hid B4.out.size; clear hd5 hs5 s4)) | (go_at_call 24; go_must (refine (kept_callsF (fun k => k < w.heap.size) A0 c0 l _ (LF.out _ B5.out) HCL.out HOL.out (by have := HLE.out; omega)).mono ?_; rintro e w6 ⟨A6, c6, rfl, hlc6, hF6, hb6⟩; rw [← HKK.out] at hlc6 hF6; rw [← HKK.out]; have F6 := Lib.hid hF6; have LC6 := Lib.hid hlc6; have D6 := Lib.hid (D5.out.below hb6); have B6 := Lib.hid (below_step B5.out hb6); have N6 := Lib.hid (N5.out.below hb6); clear hF6 hlc6 hb6)) | (go_at_call 19; ((with_reducible refine (read_calls _ _ _ _ _ _ _ D6.out.d (by have := FB.out; omega)).mono ?_); rintro e w7 ⟨v7, rfl, ho, hb7⟩; obtain ⟨A7, c7, rfl⟩ := Kd.R_slice ho; have s7 := Kd.C_string (P := Try.prog) (src := 22) (dst := 9) Try.underlying22 Try.underlying5 Try.underlying9 (c := c7) (Kd.R_reads' ho).2.2; rw [SW.out] at s7; have F7 := Lib.hid (Kd.F_below F6.out hb7); have B7 := Lib.hid (below_step B6.out hb7); have N7 := Lib.hid (N6.out.below hb7); clear ho hb7)) | (go_at_call 25; go_must (refine (mootlaw30_size.calls 61 A6 c6 m T _ (Kd.F_now F7.out) LC6.out HN.out).mono ?_; rintro e w8 ⟨rfl, ⟨n8, rfl⟩⟩)) | (go_at_call 26; go_must ((with_reducible refine (dk_recover (N7.out.below (pw_below_drewN (Below.refl _ _) n8)) HFO.out (by rw [HSC.out.2]; exact Nat.le_refl _)).mono ?_); rintro e w9 ⟨A9, c9, v9, Z, rfl, hlc9, hF9, hlt9, hd9, hs9⟩; rw [HSC.out.1] at hlc9 hF9; rw [HSC.out.1]; rw [HSC.out.2, List.take_length] at hd9; have F9 := Lib.hid (Kd.F_now hF9); have N9 := Lib.hid hd9; have W9 := Lib.hid (Kd.F_now (Kd.F_step (Kd.F_drewN F7.out n8) (fun k hk hlt => hs9.t.block k hlt (fun ho => by have h1 := OWN.out k ho; have h2 := (N5.out.own k ho).2; have h3 := Z45.out; rcases hk with hk | hk <;> omega)))); have B9 := Lib.hid (hs9.t.below (pw_below_drewN B7.out n8) (fun k hk => Nat.le_trans Z45.out (OWN.out k hk))); clear hF9 hd9 hs9 hlt9 hlc9)) | (go_at_call 23; go_must ((with_reducible refine (dead_rewrite _ none (dead_none _) a1).mono ?_); rintro e wa ⟨rfl, rfl⟩)) | (go_at_call 27; go_must ((with_reducible refine (lists_same A9 A6 c9 c6 m _ F9.out W9.out (by have := HLE.out; have := HKL.out; omega)).mono ?_); rintro e wb ⟨rfl, ⟨nb, rfl⟩⟩; have N10 := Lib.hid (N9.out.below (pw_below_drewN (Below.refl _ _) nb)))) | (go_at_call 20; go_must ((with_reducible refine (loose_calls _ _ _ _ _ _ _ N10.out.d (Nat.le_refl _)).mono ?_); rintro e wc ⟨rfl, ⟨nc, rfl⟩⟩; rw [show ((fm.length : Int) - fm.length) = 0 by omega])))
          go_ret
          exact ⟨rfl, pw_below_drewN B9.out _⟩
      · clear hOl hle hkl hkk
        go_enter Try.func5, Try.ntmps5
        go_wp2_with (first | (go_at_call 21; go_must ((with_reducible refine (alive30_calls _).mono ?_); rintro e w1 ⟨rfl, hb⟩; have B1 := Lib.hid hb; clear hb)) | (go_at_call 15; go_must ((with_reducible refine (new_dk _).mono ?_); rintro e w2 ⟨rfl, hd2, hb2⟩; have D2 := Lib.hid hd2; have B2 := Lib.hid (below_step B1.out hb2); clear hd2 hb2)) | (go_at_call 22; go_must (refine (HW.out _ _ _ _ _ D2.out A0 c0 (par_C HC.out B2.out D2.out B1.out.size)).mono ?_; rintro e w3 ⟨rfl, v3, hd3, hs3⟩; have D3 := Lib.hid hd3; have B3 := Lib.hid (hs3.t.below B2.out (fun k hk => Nat.le_trans B1.out.size (D2.out.own k hk).1)); clear hd3 hs3)))
        go_ret
        exact ⟨rfl, B3.out⟩
      · clear hOl hle hkl hkk
        go_enter Try.func5, Try.ntmps5
        go_wp2_with (first | (go_at_call 21; go_must ((with_reducible refine (alive30_calls _).mono ?_); rintro e w1 ⟨rfl, hb⟩; have B1 := Lib.hid hb; clear hb)) | (go_at_call 15; go_must ((with_reducible refine (new_dk _).mono ?_); rintro e w2 ⟨rfl, hd2, hb2⟩; have D2 := Lib.hid hd2; have B2 := Lib.hid (below_step B1.out hb2); clear hd2 hb2)) | (go_at_call 22; go_must (refine (HW.out _ _ _ _ _ D2.out A0 c0 (par_C HC.out B2.out D2.out B1.out.size)).mono ?_; rintro e w3 ⟨rfl, v3, hd3, hs3⟩; have D3 := Lib.hid hd3; have B3 := Lib.hid (hs3.t.below B2.out (fun k hk => Nat.le_trans B1.out.size (D2.out.own k hk).1)); clear hd3 hs3)))
        go_ret
        exact ⟨rfl, B3.out⟩
  · cases h
end Go.Proofs.Ytfdpbdaekfdnjaa.X
/- Arguments opened: what reads as data of a kind stands in memory as the print's words say it. -/
namespace Go.Proofs.Ytfdpbdaekfdnjaa.X
open Go.ChangeShapes Go.WideShapes Go.Deep
open Go.RowKit Go.Proofs.YtfdpbdaekfdnjaaW.PrintWords Go.Proofs.YtfdpbdaekfdnjaaW.PrintLast Go.Proofs.YtfdpbdaekfdnjaaW.PrintMore
set_option linter.unusedVariables false
set_option linter.unusedSimpArgs false

section
variable {H : Type} {enc : TypeId × Value → H} {P : Program} {w : World}

/-- What reads as data of type t is of kind d: some x, well formed, whose measure is at most the datum's bulk. -/
def Opens {α : Type} (enc : TypeId × Value → H) (P : Program) (w : World) (t : TypeId) (d : Kd α) (wf : α → Prop) (μ : α → Nat) : Prop :=
  ∀ (n : Nat) (cs : List Value) (y : DataW H × List MemPlace), DataW.trod enc P w 0 (fun _ => true) true n t cs = some y → ∃ x, d.K w x cs ∧ wf x ∧ μ x ≤ Rows.uptoBulk y.1

theorem Opens.int {t : TypeId} {k : IntKind} (hu : P.underlying t = some (.int k)) : Opens enc P w t (Kd.int k) (fun x => (Lit.int k x).wf = true) (fun _ => 1) := fun n cs y h => by
  obtain ⟨x, rfl, rfl, hw⟩ := DataW.trod_int hu h
  exact ⟨x, rfl, hw, by simp [Rows.uptoBulk]⟩
theorem Opens.bool {t : TypeId} (hu : P.underlying t = some .bool) : Opens enc P w t Kd.bool (fun _ => True) (fun _ => 1) := fun n cs y h => by
  obtain ⟨x, rfl, rfl⟩ := DataW.trod_bool hu h
  exact ⟨x, rfl, trivial, by simp [Rows.uptoBulk]⟩
theorem Opens.string {t : TypeId} (hu : P.underlying t = some .string) : Opens enc P w t Kd.string (fun _ => True) (fun s => s.size + 1) := fun n cs y h => by
  obtain ⟨x, rfl, rfl, hw⟩ := DataW.trod_string hu h
  exact ⟨x, rfl, trivial, by simp [Rows.uptoBulk]⟩

def sumM {α : Type} (μ : α → Nat) : List α → Nat
  | [] => 0
  | x :: l => μ x + sumM μ l
theorem sumM_append {α : Type} (μ : α → Nat) (l r : List α) : sumM μ (l ++ r) = sumM μ l + sumM μ r := by
  induction l with
  | nil => simp [sumM]
  | cons x l ih => simp only [List.cons_append, sumM, ih]; omega
theorem sumM_mem {α : Type} (μ : α → Nat) {l : List α} {x : α} (h : x ∈ l) : μ x ≤ sumM μ l := by
  induction l with
  | nil => cases h
  | cons y l ih =>
    simp only [sumM]
    rcases List.mem_cons.1 h with rfl | h
    · omega
    · have := ih h; omega
theorem sumM_len {α : Type} (μ : α → Nat) (hμ : ∀ x, 1 ≤ μ x) (l : List α) : l.length ≤ sumM μ l := by
  induction l with
  | nil => simp [sumM]
  | cons x l ih => have := hμ x; simp only [sumM, List.length_cons]; omega
theorem bulkAll_append (l r : List (DataW H)) : Rows.uptoBulkAll (l ++ r) = Rows.uptoBulkAll l + Rows.uptoBulkAll r := by
  induction l with
  | nil => simp [Rows.uptoBulkAll]
  | cons x l ih => simp only [List.cons_append, Rows.uptoBulkAll, ih]; omega
theorem sumM_range {α : Type} (μ : α → Nat) (X : Nat → α) (D : Nat → DataW H) : ∀ n, (∀ i, i < n → μ (X i) ≤ Rows.uptoBulk (D i)) → sumM μ ((List.range n).map X) ≤ Rows.uptoBulkAll ((List.range n).map D)
  | 0, _ => by simp [sumM]
  | n + 1, h => by
    have ih := sumM_range μ X D n (fun i hi => h i (by omega))
    have := h n (by omega)
    rw [List.range_succ, List.map_append, List.map_append, sumM_append, bulkAll_append]
    simp only [List.map_cons, List.map_nil, sumM, Rows.uptoBulkAll]
    omega

theorem Opens.slice {α : Type} [Inhabited α] {t e : TypeId} {d : Kd α} {wf : α → Prop} {μ : α → Nat} (ht : P.underlying t = some (.slice e)) (hsz : P.cellsOf e = d.sz) (h : Opens enc P w e d wf μ) :
    Opens enc P w t (Kd.slice e d) (fun xs => ∀ x ∈ xs, wf x) (fun xs => sumM μ xs + 1) := fun n cs y hy => by
  rcases open_slice ht hy with ⟨rfl, rfl⟩ | ⟨a, len, cap, m, n', D, Pl, rfl, _, hl, hm, hmm, rfl, hi⟩
  · exact ⟨[], ⟨none, 0, rfl, Nat.le_refl _, Kd.C_nil d w⟩, (fun x hx => by cases hx), by simp [Rows.uptoBulk, sumM]⟩
  · have hm' : m = cap := by simpa using hmm
    subst hm'
    obtain ⟨X, hX⟩ := choose_lt (α := α) (p := fun i x => ∃ cs', w.cells? 0 (a.add (i * P.cellsOf e)) (P.cellsOf e) = some cs' ∧ d.K w x cs' ∧ wf x ∧ μ x ≤ Rows.uptoBulk (D i)) (fun i hlt => by
      obtain ⟨cs', h1, h2⟩ := hi i hlt
      obtain ⟨x, k1, k2, k3⟩ := h n' cs' _ h2
      exact ⟨x, cs', h1, k1, k2, k3⟩)
    have hm63 : m ≤ 9223372036854775807 := by simpa [maxLen] using hm
    refine ⟨(List.range len).map X, ⟨some a, m, by simp, by simpa using hl, by simp, by simp; omega, fun _ => ⟨a, rfl, fun j p hj => ?_⟩⟩, ?_, ?_⟩
    · have hjl : j < len := by have := (List.getElem?_eq_some_iff.1 hj).1; simpa using this
      have hp : p = X j := by simpa [hjl] using hj.symm
      subst hp
      obtain ⟨cs', h1, k1, _, _⟩ := hX j (by omega)
      obtain ⟨_, hlen, hc⟩ := World.cells?_some h1
      rw [hsz] at hlen hc
      refine ⟨cs', hlen, k1, fun i u hu => ?_⟩
      have hil : i < d.sz := by have := (List.getElem?_eq_some_iff.1 hu).1; omega
      rw [← Go.Deep.add_add, hc i hil]
      exact hu
    · intro x hx
      obtain ⟨i, hi', rfl⟩ := List.mem_map.1 hx
      obtain ⟨_, _, _, k2, _⟩ := hX i (by have := List.mem_range.1 hi'; omega)
      exact k2
    · have := sumM_range μ X D len (fun i hi' => by obtain ⟨_, _, _, _, k3⟩ := hX i (by omega); exact k3)
      simp only [Rows.uptoBulk]
      omega

/-- A top argument that is a slice. -/
theorem Opens.arg_slice {α : Type} {t e : TypeId} {d : Kd α} {wf : List α → Prop} {μ : List α → Nat} {a : Option Addr} {len cap : Nat} {D : DataW H} {ps : List MemPlace}
    (h : Opens enc P w t (Kd.slice e d) wf μ) (ht : DataW.Trod enc P w 0 (fun _ => true) true t (.slice a len cap) D ps) : ∃ xs, len = xs.length ∧ len ≤ cap ∧ d.C w a xs.length xs ∧ wf xs ∧ μ xs ≤ Rows.uptoBulk D := by
  obtain ⟨fuel, hf⟩ := ht
  obtain ⟨xs, ⟨A, c, he, hc, hC⟩, h2, h3⟩ := h fuel _ _ hf
  simp [Value.cells] at he
  obtain ⟨rfl, rfl, rfl⟩ := he
  exact ⟨xs, rfl, hc, hC, h2, h3⟩
/-- .. and no longer than its weight allows. -/
theorem sized_any {t e : TypeId} {a : Option Addr} {len cap : Nat} {d : DataW H} {ps : List MemPlace} {ts : List TypeId} {ds : List (DataW H)} {j : Nat}
    (hsz : (DataW.weightsEach P ts ds).all (· ≤ reachBytes) = true) (ht : ts[j]? = some t) (hd : ds[j]? = some d) (hu : P.underlying t = some (.slice e)) {B : Nat} (hB : P.bytesOf e = B)
    (h : DataW.Trod enc P w 0 (fun _ => true) true t (.slice a len cap) d ps) : cap * B ≤ 140737488351232 := by
  obtain ⟨fuel, hf⟩ := h
  rcases open_slice hu hf with ⟨hcs, _⟩ | ⟨a', len', cap', m, n', D, Pl, hcs, _, hl, hm, hmm, hx, _⟩
  · simp [Value.cells] at hcs
    obtain ⟨rfl, rfl, rfl⟩ := hcs
    simp
  · simp [Value.cells] at hcs
    obtain ⟨rfl, rfl, rfl⟩ := hcs
    have hm' : m = cap := by simpa using hmm
    subst hm'
    simp only [Prod.mk.injEq] at hx
    obtain ⟨rfl, _⟩ := hx
    have z := sized_slice hsz ht hd hu
    rw [hB] at z
    have e1 : ((List.range len).map D).length + ((List.range (m - len)).map fun j => D (len + j)).length = m := by simp; omega
    rw [e1] at z
    exact z
end
end Go.Proofs.Ytfdpbdaekfdnjaa.X
/- The law DiskLasts, walked: what was flushed is there behind a crash. -/
namespace Go.Proofs.Ytfdpbdaekfdnjaa.X
open Go.RowKit Go.Proofs.YtfdpbdaekfdnjaaW.PrintWords Go.Proofs.YtfdpbdaekfdnjaaW.PrintLast Go.Proofs.YtfdpbdaekfdnjaaW.PrintMore
set_option linter.unusedVariables false
set_option linter.unusedSimpArgs false
theorem str_append (a b : List Int) : strOfNums a ++ strOfNums b = strOfNums (a ++ b) := by
  apply ByteArray.ext
  rw [ByteArray.data_append]
  unfold strOfNums
  simp
theorem str_take (xs : List Int) (k : Nat) : ((strOfNums xs).extract 0 k) = strOfNums (xs.take k) := by
  apply ByteArray.ext
  rw [ByteArray.data_extract]
  unfold strOfNums
  simp [List.map_take]
def mootlaw12_DiskLasts.f (l0 l1 : List Int) (a2 : Int) : Option Bool := if l0.length ≤ 140737488351232 ∧ l1.length ≤ 140737488351232 then some true else none
set_option maxRecDepth 100000 in
set_option maxHeartbeats 4000000 in
theorem mootlaw12_DiskLasts.calls (A0 : Option Addr) (c0 : Nat) (l0 : List Int) (A1 : Option Addr) (c1 : Nat) (l1 : List Int) (a2 : Int) (r : Bool) (w : World) (hr0 : Kd.C (Kd.int .u8) w A0 l0.length l0) (hc0 : l0.length ≤ c0) (hr1 : Kd.C (Kd.int .u8) w A1 l1.length l1) (hc1 : l1.length ≤ c1) (h : mootlaw12_DiskLasts.f l0 l1 a2 = some r) :
    Calls Try.prog 3 #[.slice A0 l0.length c0, .slice A1 l1.length c1, .int .i64 a2] w fun e w' => e = .returned (.bool r) ∧ Below w.heap.size w w' := by
  unfold mootlaw12_DiskLasts.f at h
  by_cases hs : l0.length ≤ 140737488351232 ∧ l1.length ≤ 140737488351232
  · rw [if_pos hs] at h
    obtain rfl := Option.some.inj h
    obtain ⟨hs0, hs1⟩ := hs
    clear h
    have e0 : wrap64 ((l0.length : Int) + l1.length) = (l0.length : Int) + l1.length := by unfold wrap64; omega
    go_enter Try.func3, Try.ntmps3
    by_cases hc : 1000 < l0.length + l1.length
    · have b0 : decide ((1000 : Int) < (l0.length : Int) + l1.length) = true := decide_eq_true (by omega)
      go_wp2_with (first | (go_at_call 14; go_must ((with_reducible refine (alive12_calls _).mono ?_); rintro e w1 ⟨rfl, hb⟩)))
      go_ret
      exact ⟨rfl, hb⟩
    · have b0 : decide ((1000 : Int) < (l0.length : Int) + l1.length) = false := decide_eq_false (by omega)
      obtain ⟨m, hm⟩ : ∃ m, l0.length + keepN a2 (l0 ++ l1).length l0.length = m := ⟨_, rfl⟩
      have hk := keepN_le a2 (l0 ++ l1).length l0.length (by simp)
      obtain ⟨t, ht⟩ : ∃ t, (l0 ++ l1).take m = t := ⟨_, rfl⟩
      have HT := Lib.hid ht
      have HM := Lib.hid hm
      have HC := Lib.hid hc
      have HK := Lib.hid hk
      have hlen : l0.length ≤ t.length ∧ t.length ≤ l0.length + l1.length ∧ t.length = m := by
        have := HT.out
        have := HM.out
        have := HK.out
        rw [← HT.out, List.length_take]
        simp only [List.length_append] at *
        omega
      have hx : ((strOfNums l0 ++ strOfNums l1).extract 0 (strOfNums t).size).toList = (strOfNums t).toList := by
        rw [str_append, str_take, strOfNums_size, hlen.2.2, HT.out]
      have hlz : (((t.length : Int) - m) == 0) = true := beq_iff_eq.mpr (by omega)
      have HX := Lib.hid hx
      have HLEN := Lib.hid hlen
      have HLZ := Lib.hid hlz
      clear hx hlen hlz
      have HR0 := Lib.hid hr0
      have HR1 := Lib.hid hr1
      have hlim : (9223372036854775807 < (strOfNums l0).size + (strOfNums l1).size) = False := eq_false (by rw [strOfNums_size, strOfNums_size]; omega)
      clear ht hm hc hk hr0 hr1
      go_wp2_with (first | (go_at_call 14; go_must ((with_reducible refine (alive12_calls _).mono ?_); rintro e w1 ⟨rfl, hb⟩)) | (go_at_call 15; (with_reducible refine (DS.new hb 1000 1000 (by decide)).mono ?_); rintro e w2 ⟨rfl, h2⟩; clear hb) | (go_at_call 16; (with_reducible refine (DS.append h2 A0 c0 l0 (Kd.C_below HR0.out h2.below) 0 l0 (fun h => absurd h (by have := HC.out; simp only [List.length_nil]; omega)) (fun h => ⟨rfl, by simp⟩)).mono ?_); rintro e w3 ⟨rfl, h3⟩; clear h2) | (go_at_call 17; (with_reducible refine h3.flush.mono ?_); rintro e w4 ⟨rfl, h4⟩; clear h3) | (go_at_call 16; (with_reducible refine (DS.append h4 A1 c1 l1 (Kd.C_below HR1.out h4.below) 0 (l0 ++ l1) (fun h => absurd h (by have := HC.out; omega)) (fun h => ⟨rfl, rfl⟩)).mono ?_); rintro e w5 ⟨rfl, h5⟩; clear h4) | (go_at_call 18; (with_reducible refine (h5.crash a2 m HM.out).mono ?_); rintro e w6 ⟨rfl, h6⟩; rw [HT.out] at h6; clear h5; have s0 := Kd.C_string (P := Try.prog) Try.underlying22 Try.underlying5 Try.underlying9 (c := c0) (Kd.C_below HR0.out h6.below); have s1 := Kd.C_string (P := Try.prog) Try.underlying22 Try.underlying5 Try.underlying9 (c := c1) (Kd.C_below HR1.out h6.below)) | (go_at_call 19; (with_reducible refine h6.read.mono ?_); rintro e w7 ⟨Ar, cr, rfl, hcr, hCr, h7, _⟩; have s2 := Kd.C_string (P := Try.prog) Try.underlying22 Try.underlying5 Try.underlying9 (c := cr) hCr; clear h6) | (go_at_call 20; (with_reducible refine h7.loose.mono ?_); rintro e w8 ⟨rfl, h8, _⟩))
      all_goals go_ret
      all_goals first | exact ⟨rfl, h8.below⟩ | exact ⟨congrArg (fun b => Ending.returned (.bool b)) HLZ.out, h8.below⟩ | (exfalso; have := HLEN.out; first | (exact absurd HX.out ‹_›) | (simp only [strOfNums_size] at *; omega))
  · rw [if_neg hs] at h
    cases h
end Go.Proofs.Ytfdpbdaekfdnjaa.X
/- The struct of type 45 (Op), as the print words a struct; and DS's calls that tell more. -/
namespace Go.Proofs.Ytfdpbdaekfdnjaa.X
open Go.RowKit Go.Proofs.YtfdpbdaekfdnjaaW.PrintWords Go.Proofs.YtfdpbdaekfdnjaaW.PrintLast Go.Proofs.YtfdpbdaekfdnjaaW.PrintMore
set_option linter.unusedVariables false
set_option linter.unusedSimpArgs false
structure S45 where
  f0 : Int
  f1 : Int
  f2 : List Int
def z45 : S45 := ⟨(0 : Int), (0 : Int), ([] : List Int)⟩
def k45 : Kd S45 := Kd.iso (Kd.pair (Kd.int .i64) (Kd.pair (Kd.int .i64) (Kd.slice 5 (Kd.int .u8)))) (fun x : S45 => (x.f0, x.f1, x.f2))
theorem k45_open {w : World} {x : S45} {cs : List Value} (h : k45.K w x cs) : ∃ A2 c2, cs = [.int .i64 x.f0, .int .i64 x.f1, .slice A2 x.f2.length c2] ∧ x.f2.length ≤ c2 ∧ (Kd.int .u8).C w A2 x.f2.length x.f2 := by
  obtain ⟨_, _, rfl, rfl, ⟨_, _, rfl, rfl, ⟨A3, c3, rfl, l3, g3⟩⟩⟩ := h
  exact ⟨A3, c3, rfl, l3, g3⟩
theorem k45_mk (w : World) (x : S45) {A2 : Option Addr} {c2 : Nat} (l2 : x.f2.length ≤ c2) (g2 : (Kd.int .u8).C w A2 x.f2.length x.f2) : k45.K w x [.int .i64 x.f0, .int .i64 x.f1, .slice A2 x.f2.length c2] := ⟨[.int .i64 x.f0], [.int .i64 x.f1, .slice A2 x.f2.length c2], rfl, rfl, ⟨[.int .i64 x.f1], [.slice A2 x.f2.length c2], rfl, rfl, ⟨A2, c2, rfl, l2, g2⟩⟩⟩
def rd_T45 (xs : List S45) (i : Int) : S45 := xs.getD i.toNat z45
theorem at_T45 {w : World} {A : Option Addr} {n : Nat} {xs : List S45} (h : Kd.C k45 w A n xs) (i : Int) (h0 : 0 ≤ i) (h1 : i < n) : ∃ ad A2 c2, A = some ad ∧ w.cell? (ad.add (i.toNat * 3)) = some (.int .i64 (rd_T45 xs i).f0) ∧ w.cell? ⟨(ad.add (i.toNat * 3)).block, (ad.add (i.toNat * 3)).off + 1, none⟩ = some (.int .i64 (rd_T45 xs i).f1) ∧ w.cell? ⟨(ad.add (i.toNat * 3)).block, (ad.add (i.toNat * 3)).off + 2, none⟩ = some (.slice A2 (rd_T45 xs i).f2.length c2) ∧ (rd_T45 xs i).f2.length ≤ c2 ∧ (Kd.int .u8).C w A2 (rd_T45 xs i).f2.length (rd_T45 xs i).f2 := by
  obtain ⟨ad, c, e, _, hK, hc0⟩ := Kd.C_get h z45 i h0 h1
  have hc : ∀ j u, c[j]? = some u → w.cell? (ad.add (i.toNat * 3 + j)) = some u := hc0
  obtain ⟨A2, c2, rfl, l2, g2⟩ := k45_open hK
  exact ⟨ad, A2, c2, e, hc 0 _ rfl, by rw [← add_field _ _ 1 (by omega)]; exact hc 1 _ rfl, by rw [← add_field _ _ 2 (by omega)]; exact hc 2 _ rfl, l2, g2⟩
theorem i45 : (Try.prog.info? 45).map (fun i => (i.zero, i.size)) = some (some (.agg #[.int .i64 0, .int .i64 0, .slice none 0 0]), 3) := by kernel_rfl
theorem s45 : (Try.prog.info? 45).map (·.size) = some 3 := by kernel_rfl
theorem one45 (a b : Int) (A : Option Addr) (n c : Nat) : #[Value.int .i64 a, .int .i64 b, .slice A n c].all (·.oneCell') = true := by simp [Value.oneCell']
theorem DS.crash2 {w W : World} {g : Nat} {xs : List Int} {sure : Nat} {room : Int} (h : DS w W g xs sure room) (keep : Int) (m : Nat) (hm : sure + keepN keep xs.length sure = m) :
    Calls Try.prog 18 #[.pointer (some ⟨g, 0, none⟩), .int .i64 keep] W fun e w' => e = .returned (.tuple #[]) ∧ DS w w' g (xs.take m) m room ∧ Touch (· = g) W w' := by
  obtain ⟨v, hd⟩ := h.d
  have hk := keepN_le keep xs.length sure h.hs
  refine (crash_calls W w.heap.size g v xs sure room keep hd h.hs).mono ?_
  rintro e w' ⟨rfl, v1, hd1, ht, _⟩
  rw [hm] at hd1 hk
  have hx := h.hx
  exact ⟨rfl, ⟨⟨v1, hd1⟩, ht.below h.below (fun k hk => by rw [hk]; exact hd.ge), by rw [List.length_take]; omega, h.r0, h.r1, by rw [List.length_take]; omega⟩, ht⟩
theorem DS.cut_no {w W : World} {g : Nat} {xs : List Int} {sure : Nat} {room : Int} (h : DS w W g xs sure room) (n : Int) (hn : ¬ (0 ≤ n ∧ n ≤ xs.length)) :
    Calls Try.prog 28 #[.pointer (some ⟨g, 0, none⟩), .int .i64 n] W fun e w' => e = .returned (.int .i64 4) ∧ DS w w' g xs sure room := by
  obtain ⟨v, hd⟩ := h.d
  refine (cut_calls W w.heap.size g v xs sure room n hd).mono ?_
  rintro e w' ⟨h1, _⟩
  obtain ⟨rfl, rfl⟩ := h1 hn
  exact ⟨rfl, h⟩
theorem DS.cut_yes {w W : World} {g : Nat} {xs : List Int} {sure : Nat} {room : Int} (h : DS w W g xs sure room) (n : Nat) (hn : n ≤ xs.length) :
    Calls Try.prog 28 #[.pointer (some ⟨g, 0, none⟩), .int .i64 (n : Int)] W fun e w' => e = .returned (.int .i64 0) ∧ DS w w' g (xs.take n) n room := by
  obtain ⟨v, hd⟩ := h.d
  refine (cut_calls W w.heap.size g v xs sure room n hd).mono ?_
  rintro e w' ⟨_, h2⟩
  obtain ⟨rfl, v1, hd1, ht, _⟩ := h2 ⟨by omega, by omega⟩
  rw [Int.toNat_natCast] at hd1
  have hx := h.hx
  exact ⟨rfl, ⟨v1, hd1⟩, ht.below h.below (fun k hk => by rw [hk]; exact hd.ge), by rw [List.length_take]; omega, h.r0, h.r1, by rw [List.length_take]; omega⟩
end Go.Proofs.Ytfdpbdaekfdnjaa.X
/- A list of Ops opened, with the bound that its weights give to each text in it. -/
namespace Go.Proofs.Ytfdpbdaekfdnjaa.X
open Go.ChangeShapes Go.WideShapes Go.Deep
open Go.RowKit Go.Proofs.YtfdpbdaekfdnjaaW.PrintWords Go.Proofs.YtfdpbdaekfdnjaaW.PrintLast Go.Proofs.YtfdpbdaekfdnjaaW.PrintMore
set_option linter.unusedVariables false
set_option linter.unusedSimpArgs false
section
variable {H : Type} {enc : TypeId × Value → H} {P : Program} {w : World}
/-- What reads as data of type t, no part of which weighs more than an address reaches, is of kind d. -/
def OpensW {α : Type} (enc : TypeId × Value → H) (P : Program) (w : World) (t : TypeId) (d : Kd α) (wf : α → Prop) : Prop :=
  ∀ (n : Nat) (cs : List Value) (y : DataW H × List MemPlace), DataW.trod enc P w 0 (fun _ => true) true n t cs = some y → (∀ m ∈ y.1.weights P t, m ≤ reachBytes) → ∃ x, d.K w x cs ∧ wf x
theorem weightsAll_mem {e : TypeId} {d : DataW H} {m : Nat} : ∀ {l : List (DataW H)}, d ∈ l → m ∈ d.weights P e → m ∈ DataW.weightsAll P e l
  | x :: l, hd, hm => by
    simp only [DataW.weightsAll, List.mem_append]
    rcases List.mem_cons.1 hd with rfl | h
    · exact Or.inl hm
    · exact Or.inr (weightsAll_mem h hm)
theorem OpensW.slice {α : Type} [Inhabited α] {t e : TypeId} {d : Kd α} {wf : α → Prop} (ht : P.underlying t = some (.slice e)) (hsz : P.cellsOf e = d.sz) (h : OpensW enc P w e d wf) :
    OpensW enc P w t (Kd.slice e d) (fun xs => ∀ x ∈ xs, wf x) := fun n cs y hy hw => by
  rcases open_slice ht hy with ⟨rfl, rfl⟩ | ⟨a, len, cap, m, n', D, Pl, rfl, _, hl, hm, hmm, rfl, hi⟩
  · exact ⟨[], ⟨none, 0, rfl, Nat.le_refl _, Kd.C_nil d w⟩, (fun x hx => by cases hx)⟩
  · have hm' : m = cap := by simpa using hmm
    subst hm'
    obtain ⟨X, hX⟩ := choose_lt (α := α) (n := len) (p := fun i x => ∃ cs', w.cells? 0 (a.add (i * P.cellsOf e)) (P.cellsOf e) = some cs' ∧ d.K w x cs' ∧ wf x) (fun i hlt => by
      obtain ⟨cs', h1, h2⟩ := hi i (by omega)
      obtain ⟨x, k1, k2⟩ := h n' cs' _ h2 (fun q hq => hw q (by
        simp only [DataW.weights, ht, List.mem_cons, List.mem_append]
        exact Or.inr (Or.inl (weightsAll_mem (List.mem_map.2 ⟨i, List.mem_range.2 hlt, rfl⟩) hq))))
      exact ⟨x, cs', h1, k1, k2⟩)
    have hm63 : m ≤ 9223372036854775807 := by simpa [maxLen] using hm
    refine ⟨(List.range len).map X, ⟨some a, m, by simp, by simpa using hl, by simp, by simp; omega, fun _ => ⟨a, rfl, fun j p hj => ?_⟩⟩, ?_⟩
    · have hjl : j < len := by have := (List.getElem?_eq_some_iff.1 hj).1; simpa using this
      have hp : p = X j := by simpa [hjl] using hj.symm
      subst hp
      obtain ⟨cs', h1, k1, _⟩ := hX j hjl
      obtain ⟨_, hlen, hc⟩ := World.cells?_some h1
      rw [hsz] at hlen hc
      refine ⟨cs', hlen, k1, fun i u hu => ?_⟩
      have hil : i < d.sz := by have := (List.getElem?_eq_some_iff.1 hu).1; omega
      rw [← Go.Deep.add_add, hc i hil]
      exact hu
    · intro x hx
      obtain ⟨i, hi', rfl⟩ := List.mem_map.1 hx
      obtain ⟨_, _, _, k2⟩ := hX i (List.mem_range.1 hi')
      exact k2
theorem OpensW.arg_slice {α : Type} {t e : TypeId} {d : Kd α} {wf : List α → Prop} {a : Option Addr} {len cap : Nat} {D : DataW H} {ps : List MemPlace} {ts : List TypeId} {ds : List (DataW H)} {j : Nat}
    (h : OpensW enc P w t (Kd.slice e d) wf) (hsz : (DataW.weightsEach P ts ds).all (· ≤ reachBytes) = true) (hj : ts[j]? = some t) (hd : ds[j]? = some D) (ht : DataW.Trod enc P w 0 (fun _ => true) true t (.slice a len cap) D ps) : ∃ xs, len = xs.length ∧ len ≤ cap ∧ d.C w a xs.length xs ∧ wf xs ∧ True := by
  obtain ⟨fuel, hf⟩ := ht
  obtain ⟨xs, ⟨A, c, he, hc, hC⟩, h2⟩ := h fuel _ _ hf (fun m hm => by
    have := List.all_eq_true.1 hsz _ (DataW.weights_mem_each hj hd m hm)
    simpa using this)
  simp [Value.cells] at he
  obtain ⟨rfl, rfl, rfl⟩ := he
  exact ⟨xs, rfl, hc, hC, h2, trivial⟩
end
instance : Inhabited S45 := ⟨z45⟩
theorem OpensW.T45 {H : Type} {enc : TypeId × Value → H} {w : World} : OpensW enc Try.prog w 45 k45 (fun x => x.f2.length ≤ 140737488351232) := fun n cs y h hwt => by
  obtain ⟨xs, m, _, hy, hlen, hxl, hg⟩ := DataW.trod_struct Try.underlying45 h
  have hcs : cs.length = 3 := hlen.trans (by kernel_rfl)
  match cs, hcs with
  | [c0, c1, c2], _ =>
  match xs, hxl with
  | [y0, y1, y2], _ =>
    have g0 : DataW.trod enc Try.prog w 0 (fun _ => true) true m 3 (([c0, c1, c2].drop 0).take (Try.prog.cellsOf 3)) = some y0 := hg 0 _ rfl
    rw [show Try.prog.cellsOf 3 = 1 from by kernel_rfl] at g0
    have g1 : DataW.trod enc Try.prog w 0 (fun _ => true) true m 3 (([c0, c1, c2].drop 1).take (Try.prog.cellsOf 3)) = some y1 := hg 1 _ rfl
    rw [show Try.prog.cellsOf 3 = 1 from by kernel_rfl] at g1
    have g2 : DataW.trod enc Try.prog w 0 (fun _ => true) true m 22 (([c0, c1, c2].drop 2).take (Try.prog.cellsOf 22)) = some y2 := hg 2 _ rfl
    rw [show Try.prog.cellsOf 22 = 1 from by kernel_rfl] at g2
    obtain ⟨x0, q0, w0, m0⟩ := (Opens.int Try.underlying3) _ [c0] _ g0
    obtain ⟨x1, q1, w1, m1⟩ := (Opens.int Try.underlying3) _ [c1] _ g1
    obtain ⟨x2, q2, w2, m2⟩ := (Opens.slice Try.underlying22 (by kernel_rfl) (Opens.int Try.underlying5)) _ [c2] _ g2
    have u0 : [c0] = [.int .i64 x0] := q0
    simp only [List.cons.injEq, and_true] at u0
    subst u0
    have u1 : [c1] = [.int .i64 x1] := q1
    simp only [List.cons.injEq, and_true] at u1
    subst u1
    obtain ⟨A2, p2, u2, lq2, gq2⟩ := q2
    simp only [List.cons.injEq, and_true] at u2
    subst u2
    refine ⟨⟨x0, x1, x2⟩, k45_mk w ⟨x0, x1, x2⟩ lq2 gq2, ?_⟩
    subst hy
    have hall : (DataW.weightsEach Try.prog [3, 3, 22] [y0.1, y1.1, y2.1]).all (· ≤ reachBytes) = true := by
      refine List.all_eq_true.2 fun q hq => ?_
      have := hwt q (by simpa [DataW.weights, Try.underlying45] using hq)
      simpa using this
    have := sized_any (enc := enc) (w := w) (P := Try.prog) (a := A2) (len := x2.length) (cap := p2) (d := y2.1) (ps := y2.2) hall (j := 2) (t := 22) rfl rfl Try.underlying22 (B := 1) (by kernel_rfl) ⟨m, g2⟩
    show x2.length ≤ 140737488351232
    have lq : x2.length ≤ p2 := lq2
    omega
end Go.Proofs.Ytfdpbdaekfdnjaa.X
/- A list of rows opened, with the bound that its weights give to each row in it. -/
namespace Go.Proofs.Ytfdpbdaekfdnjaa.X
open Go.ChangeShapes Go.WideShapes Go.Deep
open Go.RowKit Go.Proofs.YtfdpbdaekfdnjaaW.PrintWords Go.Proofs.YtfdpbdaekfdnjaaW.PrintLast Go.Proofs.YtfdpbdaekfdnjaaW.PrintMore
set_option linter.unusedVariables false
set_option linter.unusedSimpArgs false
theorem OpensW.T22 {H : Type} {enc : TypeId × Value → H} {w : World} : OpensW enc Try.prog w 22 (Kd.slice 5 (Kd.int .u8)) (fun x => (∀ z ∈ x, (Lit.int .u8 z).wf = true) ∧ x.length ≤ 140737488351232) := fun n cs y h hwt => by
  obtain ⟨x2, q2, w2, m2⟩ := (Opens.slice Try.underlying22 (by kernel_rfl) (Opens.int Try.underlying5)) _ cs _ h
  obtain ⟨A2, p2, u2, lq2, gq2⟩ := q2
  subst u2
  refine ⟨x2, ⟨A2, p2, rfl, lq2, gq2⟩, w2, ?_⟩
  have hall : (DataW.weightsEach Try.prog [22] [y.1]).all (· ≤ reachBytes) = true := by
    refine List.all_eq_true.2 fun q hq => ?_
    have := hwt q (by simpa [DataW.weightsEach] using hq)
    simpa using this
  have := sized_any (enc := enc) (w := w) (P := Try.prog) (a := A2) (len := x2.length) (cap := p2) (d := y.1) (ps := y.2) hall (j := 0) (t := 22) rfl rfl Try.underlying22 (B := 1) (by kernel_rfl) ⟨n, h⟩
  omega
end Go.Proofs.Ytfdpbdaekfdnjaa.X
/- The law CompactRewrites over lists. No condition but those of the types and of what an address reaches. -/
namespace Go.Proofs.Ytfdpbdaekfdnjaa.Pure
open Go.RowKit Go.Proofs.Ytfdpbdaekfdnjaa.X
set_option linter.unusedVariables false
theorem CompactRewrites (l0 : List (List Int)) (a1 : Int) (w0 : ∀ x ∈ l0, (∀ z ∈ x, (Lit.int .u8 z).wf = true) ∧ x.length ≤ 140737488351232) (z0 : l0.length * 24 ≤ 140737488351232) (w1 : (Lit.int .i64 a1).wf = true) : mootlaw30_CompactRewrites.f l0 a1 = some true := by
  unfold mootlaw30_CompactRewrites.f
  rw [if_pos (fun x hx => ⟨fun z hz => by
    have := (w0 x hx).1 z hz
    simp [Lit.wf, IntKind.min, IntKind.max, IntKind.signed, IntKind.bits] at this
    omega, by have := (w0 x hx).2; omega⟩)]
end Go.Proofs.Ytfdpbdaekfdnjaa.Pure
