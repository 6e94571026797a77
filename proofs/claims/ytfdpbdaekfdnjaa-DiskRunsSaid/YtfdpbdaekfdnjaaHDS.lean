/- One disk that a call has made: each call on it, as the laws use it. -/
import Derived.Test.YtfdpbdaekfdnjaaHConv
namespace Go.Proofs.Ytfdpbdaekfdnjaa.X
open Go.RowKit Go.Proofs.YtfdpbdaekfdnjaaW.PrintWords Go.Proofs.YtfdpbdaekfdnjaaW.PrintLast Go.Proofs.YtfdpbdaekfdnjaaW.PrintMore
set_option linter.unusedVariables false
set_option linter.unusedSimpArgs false

structure DS (w W : World) (g : Nat) (xs : List Int) (sure : Nat) (room : Int) : Prop where
  d : ∃ v, DiskAt W w.heap.size g v xs sure room
  below : Below w.heap.size w W
  hs : sure ≤ xs.length
  r0 : 0 ≤ room
  r1 : room ≤ 262144
  hx : (xs.length : Int) ≤ room
theorem DS.step {w W W1 : World} {g : Nat} {xs : List Int} {sure : Nat} {room : Int} (h : DS w W g xs sure room) (hb : Below W.heap.size W W1) : DS w W1 g xs sure room := by
  obtain ⟨v, hd⟩ := h.d
  exact ⟨⟨v, hd.below hb⟩, below_step h.below hb, h.hs, h.r0, h.r1, h.hx⟩
theorem DS.drawn {w W W1 : World} {g : Nat} {xs : List Int} {sure : Nat} {room : Int} (h : DS w W g xs sure room) (hd : Drawn0 W W1) : DS w W1 g xs sure room := by
  obtain ⟨n, rfl⟩ := hd
  exact h.step (pw_below_drewN (Below.refl _ _) n)
theorem DS.new {w W : World} (hB : Below w.heap.size w W) (room r : Int) (hr : mn (mx room 0) 262144 = r) :
    Calls Try.prog 15 #[.int .i64 room] W fun e w' => e = .returned (.pointer (some ⟨W.heap.size, 0, none⟩)) ∧ DS w w' W.heap.size [] 0 r := by
  refine (new_calls W room r hr).mono ?_
  rintro e w' ⟨rfl, hd, hb⟩
  refine ⟨rfl, ⟨_, hd.blk, hd.row.lower hB.size, hB.size, hd.ne⟩, below_step hB hb, Nat.le_refl _, ?_, ?_, ?_⟩ <;> (rw [← hr]; unfold mn mx; (repeat' split) <;> first | omega | (simp; done) | (simp; omega))
theorem DS.append {w W : World} {g : Nat} {xs : List Int} {sure : Nat} {room : Int} (h : DS w W g xs sure room) (A1 : Option Addr) (c1 : Nat) (ys : List Int) (hC : Kd.C (Kd.int .u8) W A1 ys.length ys) (e0 : Int) (zs : List Int)
    (hno : room < (xs.length : Int) + ys.length → e0 = 17 ∧ zs = xs) (hyes : (xs.length : Int) + ys.length ≤ room → e0 = 0 ∧ zs = xs ++ ys) :
    Calls Try.prog 16 #[.pointer (some ⟨g, 0, none⟩), .slice A1 ys.length c1] W fun e w' => e = .returned (.int .i64 e0) ∧ DS w w' g zs sure room := by
  obtain ⟨v, hd⟩ := h.d
  refine (append_calls W w.heap.size g v xs sure room A1 c1 ys hd hC h.r0 (by have := h.r1; omega) h.hx).mono ?_
  rintro e w' ⟨h1, h2⟩
  by_cases c : room < (xs.length : Int) + ys.length
  · obtain ⟨rfl, rfl⟩ := hno c
    obtain ⟨rfl, hd1⟩ := h1 c
    exact ⟨rfl, h.drawn hd1⟩
  · obtain ⟨rfl, rfl⟩ := hyes (by omega)
    obtain ⟨rfl, v1, hd1, ht, _⟩ := h2 (by omega)
    refine ⟨rfl, ⟨v1, hd1⟩, ht.below h.below (fun k hk => ?_), by have := h.hs; rw [List.length_append]; omega, h.r0, h.r1, by rw [List.length_append]; omega⟩
    rcases hk with rfl | hk
    · exact hd.ge
    · exact (hd.row.lt k hk).1
theorem DS.flush {w W : World} {g : Nat} {xs : List Int} {sure : Nat} {room : Int} (h : DS w W g xs sure room) :
    Calls Try.prog 17 #[.pointer (some ⟨g, 0, none⟩)] W fun e w' => e = .returned (.int .i64 ((xs.length : Int) - sure)) ∧ DS w w' g xs xs.length room := by
  obtain ⟨v, hd⟩ := h.d
  refine (flush_calls W w.heap.size g v xs sure room hd h.hs).mono ?_
  rintro e w' ⟨rfl, hd1, ht⟩
  exact ⟨rfl, ⟨v, hd1⟩, ht.below h.below (fun k hk => by rw [hk]; exact hd.ge), Nat.le_refl _, h.r0, h.r1, h.hx⟩
theorem DS.crash {w W : World} {g : Nat} {xs : List Int} {sure : Nat} {room : Int} (h : DS w W g xs sure room) (keep : Int) (m : Nat) (hm : sure + keepN keep xs.length sure = m) :
    Calls Try.prog 18 #[.pointer (some ⟨g, 0, none⟩), .int .i64 keep] W fun e w' => e = .returned (.tuple #[]) ∧ DS w w' g (xs.take m) m room := by
  obtain ⟨v, hd⟩ := h.d
  have hk := keepN_le keep xs.length sure h.hs
  refine (crash_calls W w.heap.size g v xs sure room keep hd h.hs).mono ?_
  rintro e w' ⟨rfl, v1, hd1, ht, _⟩
  rw [hm] at hd1 hk
  have hx := h.hx
  exact ⟨rfl, ⟨v1, hd1⟩, ht.below h.below (fun k hk => by rw [hk]; exact hd.ge), by rw [List.length_take]; omega, h.r0, h.r1, by rw [List.length_take]; omega⟩
theorem DS.read {w W : World} {g : Nat} {xs : List Int} {sure : Nat} {room : Int} (h : DS w W g xs sure room) :
    Calls Try.prog 19 #[.pointer (some ⟨g, 0, none⟩)] W fun e w' => ∃ A c, e = .returned (.slice A xs.length c) ∧ xs.length ≤ c ∧ Kd.C (Kd.int .u8) w' A xs.length xs ∧ DS w w' g xs sure room ∧ Below W.heap.size W w' := by
  obtain ⟨v, hd⟩ := h.d
  refine (read_calls W w.heap.size g v xs sure room hd (by have := h.hx; have := h.r1; omega)).mono ?_
  rintro e w' ⟨v1, rfl, hR, hb⟩
  obtain ⟨A, c, rfl⟩ := Kd.R_slice hR
  exact ⟨A, c, rfl, (Kd.R_reads' hR).2.1, (Kd.R_reads' hR).2.2, h.step hb, hb⟩
theorem DS.loose {w W : World} {g : Nat} {xs : List Int} {sure : Nat} {room : Int} (h : DS w W g xs sure room) :
    Calls Try.prog 20 #[.pointer (some ⟨g, 0, none⟩)] W fun e w' => e = .returned (.int .i64 ((xs.length : Int) - sure)) ∧ DS w w' g xs sure room ∧ Drawn0 W w' := by
  obtain ⟨v, hd⟩ := h.d
  refine (loose_calls W w.heap.size g v xs sure room hd h.hs).mono ?_
  rintro e w' ⟨rfl, hdr⟩
  exact ⟨rfl, h.drawn hdr, hdr⟩
theorem DS.size {w W : World} {g : Nat} {xs : List Int} {sure : Nat} {room : Int} (h : DS w W g xs sure room) :
    Calls Try.prog 29 #[.pointer (some ⟨g, 0, none⟩)] W fun e w' => e = .returned (.int .i64 xs.length) ∧ W = w' := by
  obtain ⟨v, hd⟩ := h.d
  exact size_calls W w.heap.size g v xs sure room hd
set_option maxRecDepth 100000 in
set_option maxHeartbeats 4000000 in
theorem alive12_calls (w : World) : Calls Try.prog 14 #[] w fun e w' => e = .returned (.bool true) ∧ Below w.heap.size w w' := by
  obtain ⟨p, hp⟩ : ∃ p : List Int, p = [97, 98] := ⟨_, rfl⟩
  obtain ⟨q, hq⟩ : ∃ q : List Int, q = [99, 100] := ⟨_, rfl⟩
  have HP := Lib.hid hp
  have HQ := Lib.hid hq
  obtain ⟨t, ht⟩ : ∃ t, (p ++ q).take 3 = t := ⟨_, rfl⟩
  have hts : strOfNums t = ⟨#[97, 98, 99]⟩ := by rw [← ht, hp, hq]; decide +kernel
  have hpl : p.length = 2 := by rw [hp]; rfl
  have hql : q.length = 2 := by rw [hq]; rfl
  have hm : p.length + keepN 1 (p ++ q).length p.length = 3 := by rw [hp, hq]; decide +kernel
  have hf : ((p.length : Int) - ((0 : Nat) : Int)) = 2 := by rw [hpl]; rfl
  have HT := Lib.hid ht
  have HPL := Lib.hid hpl
  have HQL := Lib.hid hql
  have HM := Lib.hid hm
  have HF := Lib.hid hf
  clear hp hq ht hpl hql hm hf
  go_enter Try.func14, Try.ntmps14
  go_wp2_with (first | (go_at_call 15; go_must ((with_reducible refine (DS.new (Below.refl _ w) 9 9 (by decide)).mono ?_); rintro e w1 ⟨rfl, h1⟩)) | ((with_reducible refine gate_dst (N := 7) rfl ?_); refine Kd.R_lit (Kd.int .u8) _ 5 ?hg (N := 7) ?hd (xs := ([97, 98] : List Int)) (inner := [.int .u8 97, .int .u8 98]) (ok := fun _ => True) (okp := fun _ => True) ?hr ?hp (fun _ hk => hk) trivial (Below.refl _ _) (Nat.le_refl _) (by simp) ?_; (case hd => rfl); (case hg => rfl); (case hr => first | (go_simp; done) | (go_simp; rfl)); (case hp => exact (Reps.one (show Kd.M (Kd.int .u8) _ _ _ 97 [.int .u8 97] from rfl) (Reps.one (show Kd.M (Kd.int .u8) _ _ _ 98 [.int .u8 98] from rfl) (Reps.none _ _)))); intro v7 w2 ho hb hg_ hnew_; clear hg_ hnew_; rw [← HP.out] at ho; obtain ⟨g, cap, cur, rfl, hgb, hgh, hcap, hC⟩ := lit_block ho (by rw [HP.out]; decide); clear ho) | ((with_reducible refine gate_dst (N := 8) rfl ?_); go_must (refine conv_ev rfl (N := 8) rfl 22 5 (.tmp 7) rfl Try.underlying22 Try.underlying5 g _ _ rfl cur hgh ?_; intro w3 hM; have h3 := h1.step (hM.below _ hb hgb); have C3 := hM.row hC; clear hM hb hgb hgh hC hcap)) | (go_at_call 16; (with_reducible refine (DS.append h3 _ _ p C3 0 p (fun h => absurd h (by have := HPL.out; simp only [List.length_nil]; omega)) (fun h => ⟨rfl, by simp⟩)).mono ?_); rintro e w4 ⟨rfl, h4⟩; clear h3 C3) | (go_at_call 17; have hfl := h4.flush; rw [HF.out] at hfl; (with_reducible refine hfl.mono ?_); rintro e w5 ⟨rfl, h5⟩; clear hfl h4) | ((with_reducible refine gate_dst (N := 13) rfl ?_); refine Kd.R_lit (Kd.int .u8) _ 5 ?hg (N := 13) ?hd (xs := ([99, 100] : List Int)) (inner := [.int .u8 99, .int .u8 100]) (ok := fun _ => True) (okp := fun _ => True) ?hr ?hp (fun _ hk => hk) trivial (Below.refl _ _) (Nat.le_refl _) (by simp) ?_; (case hd => rfl); (case hg => rfl); (case hr => first | (go_simp; done) | (go_simp; rfl)); (case hp => exact (Reps.one (show Kd.M (Kd.int .u8) _ _ _ 99 [.int .u8 99] from rfl) (Reps.one (show Kd.M (Kd.int .u8) _ _ _ 100 [.int .u8 100] from rfl) (Reps.none _ _)))); intro v13 w6 ho hb hg_ hnew_; clear hg_ hnew_; rw [← HQ.out] at ho; obtain ⟨g, cap, cur, rfl, hgb, hgh, hcap, hC⟩ := lit_block ho (by rw [HQ.out]; decide); clear ho) | ((with_reducible refine gate_dst (N := 14) rfl ?_); go_must (refine conv_ev rfl (N := 14) rfl 22 5 (.tmp 13) rfl Try.underlying22 Try.underlying5 g _ _ rfl cur hgh ?_; intro w7 hM; have h7 := h5.step (hM.below _ hb hgb); have C7 := hM.row hC; clear hM hb hgb hgh hC hcap h5)) | (go_at_call 16; (with_reducible refine (DS.append h7 _ _ q C7 0 (p ++ q) (fun h => absurd h (by have := HPL.out; have := HQL.out; omega)) (fun h => ⟨rfl, rfl⟩)).mono ?_); rintro e w8 ⟨rfl, h8⟩; clear h7 C7) | (go_at_call 18; (with_reducible refine (h8.crash 1 3 HM.out).mono ?_); rintro e w9 ⟨rfl, h9⟩; rw [HT.out] at h9) | (go_at_call 19; (with_reducible refine h9.read.mono ?_); rintro e w10 ⟨Ar, cr, rfl, hcr, hCr, h10, _⟩; have hcv := Kd.C_string (P := Try.prog) Try.underlying22 Try.underlying5 Try.underlying9 (c := cr) hCr; rw [hts] at hcv))
  go_ret
  exact ⟨rfl, h10.below⟩
end Go.Proofs.Ytfdpbdaekfdnjaa.X
