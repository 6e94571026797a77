/- The struct of type 45 (Op), as the print words a struct; and DS's calls that tell more. -/
import Derived.Test.YtfdpbdaekfdnjaaHDS
import Derived.Test.YtfdpbdaekfdnjaaHLasts
namespace Go.Proofs.Ytfdpbdaekfdnjaa.X
open Go.RowKit Go.Proofs.YtfdpbdaekfdnjaaW.PrintWords Go.Proofs.YtfdpbdaekfdnjaaW.PrintLast Go.Proofs.YtfdpbdaekfdnjaaW.PrintMore
set_option linter.unusedVariables false
set_option linter.unusedSimpArgs false
structure S45 where
  f0 : Int
  f1 : Int
  f2 : List Int
def z45 : S45 := ⟨(0 : Int), (0 : Int), ([] : List Int)⟩
def k45 : Kd S45 := Kd.iso (Kd.pair (Kd.int .i64) (Kd.pair (Kd.int .i64) (Kd.slice 5 (Kd.int .u8)))) (fun x : S45 => (x.f0, x.f1, x.f2))
theorem k45_open {w : World} {x : S45} {cs : List Value} (h : k45.K w x cs) : ∃ A2 c2, cs = [.int .i64 x.f0, .int .i64 x.f1, .slice A2 x.f2.length c2] ∧ x.f2.length ≤ c2 ∧ (Kd.int .u8).C w A2 x.f2.length x.f2 := by
  obtain ⟨_, _, rfl, rfl, ⟨_, _, rfl, rfl, ⟨A3, c3, rfl, l3, g3⟩⟩⟩ := h
  exact ⟨A3, c3, rfl, l3, g3⟩
theorem k45_mk (w : World) (x : S45) {A2 : Option Addr} {c2 : Nat} (l2 : x.f2.length ≤ c2) (g2 : (Kd.int .u8).C w A2 x.f2.length x.f2) : k45.K w x [.int .i64 x.f0, .int .i64 x.f1, .slice A2 x.f2.length c2] := ⟨[.int .i64 x.f0], [.int .i64 x.f1, .slice A2 x.f2.length c2], rfl, rfl, ⟨[.int .i64 x.f1], [.slice A2 x.f2.length c2], rfl, rfl, ⟨A2, c2, rfl, l2, g2⟩⟩⟩
def rd_T45 (xs : List S45) (i : Int) : S45 := xs.getD i.toNat z45
theorem at_T45 {w : World} {A : Option Addr} {n : Nat} {xs : List S45} (h : Kd.C k45 w A n xs) (i : Int) (h0 : 0 ≤ i) (h1 : i < n) : ∃ ad A2 c2, A = some ad ∧ w.cell? (ad.add (i.toNat * 3)) = some (.int .i64 (rd_T45 xs i).f0) ∧ w.cell? ⟨(ad.add (i.toNat * 3)).block, (ad.add (i.toNat * 3)).off + 1, none⟩ = some (.int .i64 (rd_T45 xs i).f1) ∧ w.cell? ⟨(ad.add (i.toNat * 3)).block, (ad.add (i.toNat * 3)).off + 2, none⟩ = some (.slice A2 (rd_T45 xs i).f2.length c2) ∧ (rd_T45 xs i).f2.length ≤ c2 ∧ (Kd.int .u8).C w A2 (rd_T45 xs i).f2.length (rd_T45 xs i).f2 := by
  obtain ⟨ad, c, e, _, hK, hc0⟩ := Kd.C_get h z45 i h0 h1
  have hc : ∀ j u, c[j]? = some u → w.cell? (ad.add (i.toNat * 3 + j)) = some u := hc0
  obtain ⟨A2, c2, rfl, l2, g2⟩ := k45_open hK
  exact ⟨ad, A2, c2, e, hc 0 _ rfl, by rw [← add_field _ _ 1 (by omega)]; exact hc 1 _ rfl, by rw [← add_field _ _ 2 (by omega)]; exact hc 2 _ rfl, l2, g2⟩
theorem i45 : (Try.prog.info? 45).map (fun i => (i.zero, i.size)) = some (some (.agg #[.int .i64 0, .int .i64 0, .slice none 0 0]), 3) := by kernel_rfl
theorem s45 : (Try.prog.info? 45).map (·.size) = some 3 := by kernel_rfl
theorem one45 (a b : Int) (A : Option Addr) (n c : Nat) : #[Value.int .i64 a, .int .i64 b, .slice A n c].all (·.oneCell') = true := by simp [Value.oneCell']
theorem DS.crash2 {w W : World} {g : Nat} {xs : List Int} {sure : Nat} {room : Int} (h : DS w W g xs sure room) (keep : Int) (m : Nat) (hm : sure + keepN keep xs.length sure = m) :
    Calls Try.prog 18 #[.pointer (some ⟨g, 0, none⟩), .int .i64 keep] W fun e w' => e = .returned (.tuple #[]) ∧ DS w w' g (xs.take m) m room ∧ Touch (· = g) W w' := by
  obtain ⟨v, hd⟩ := h.d
  have hk := keepN_le keep xs.length sure h.hs
  refine (crash_calls W w.heap.size g v xs sure room keep hd h.hs).mono ?_
  rintro e w' ⟨rfl, v1, hd1, ht, _⟩
  rw [hm] at hd1 hk
  have hx := h.hx
  exact ⟨rfl, ⟨⟨v1, hd1⟩, ht.below h.below (fun k hk => by rw [hk]; exact hd.ge), by rw [List.length_take]; omega, h.r0, h.r1, by rw [List.length_take]; omega⟩, ht⟩
theorem DS.cut_no {w W : World} {g : Nat} {xs : List Int} {sure : Nat} {room : Int} (h : DS w W g xs sure room) (n : Int) (hn : ¬ (0 ≤ n ∧ n ≤ xs.length)) :
    Calls Try.prog 28 #[.pointer (some ⟨g, 0, none⟩), .int .i64 n] W fun e w' => e = .returned (.int .i64 4) ∧ DS w w' g xs sure room := by
  obtain ⟨v, hd⟩ := h.d
  refine (cut_calls W w.heap.size g v xs sure room n hd).mono ?_
  rintro e w' ⟨h1, _⟩
  obtain ⟨rfl, rfl⟩ := h1 hn
  exact ⟨rfl, h⟩
theorem DS.cut_yes {w W : World} {g : Nat} {xs : List Int} {sure : Nat} {room : Int} (h : DS w W g xs sure room) (n : Nat) (hn : n ≤ xs.length) :
    Calls Try.prog 28 #[.pointer (some ⟨g, 0, none⟩), .int .i64 (n : Int)] W fun e w' => e = .returned (.int .i64 0) ∧ DS w w' g (xs.take n) n room := by
  obtain ⟨v, hd⟩ := h.d
  refine (cut_calls W w.heap.size g v xs sure room n hd).mono ?_
  rintro e w' ⟨_, h2⟩
  obtain ⟨rfl, v1, hd1, ht, _⟩ := h2 ⟨by omega, by omega⟩
  rw [Int.toNat_natCast] at hd1
  have hx := h.hx
  exact ⟨rfl, ⟨v1, hd1⟩, ht.below h.below (fun k hk => by rw [hk]; exact hd.ge), by rw [List.length_take]; omega, h.r0, h.r1, by rw [List.length_take]; omega⟩
end Go.Proofs.Ytfdpbdaekfdnjaa.X
