/- Texts of this session joined into one: X0, HArr, HCloneB, XF44, XF40, HMailF, HTo, XF27, XF41, XF26, XF29, XF30, XF25, QNet, HTakeM, HNetTake, HConv, HAlive24. -/
import Derived.Test.YtccabdgfjcjpoaaProg
import Derived.Below
import Derived.Deep.Draws
import Derived.Deep.AppendLies
import Derived.Maps.AppendAt
import Derived.OwnWalk
import Derived.Laws.BytesArg
import Derived.Laws.MakeOwn
import Derived.Laws.OwnMore
import Derived.Deep.OwnRows
import Derived.Tactics
import Derived.Lib.ConvBytes
import Derived.Laws.Slices
import Derived.WalkKit
import Derived.KernelRfl
import Derived.RowKit3
import Derived.Deep.LoopGhost
import Derived.Deep.QuietTactic
import Derived.BigQuiet
import Derived.WideLaws
import Derived.Deep.DeepCutAuto
import Derived.Deep.CutBlock
import Derived.Deep.RegionHeld3
import Derived.Laws.Rows
import Derived.Lib.AppendStr
import Derived.ArgAppend
import Derived.Laws.IdiomCopy
import Derived.OrdersHeld
import Derived.Laws.BitsLemmas
import Derived.RowKit
import Derived.Test.YtccabdgfjcjpoaaWWords
import Derived.Test.YtccabdgfjcjpoaaWLast
import Derived.Test.YtccabdgfjcjpoaaWTab
import Derived.Test.YtccabdgfjcjpoaaWFour
import Derived.Test.YtccabdgfjcjpoaaWQPut
import Derived.Test.YtccabdgfjcjpoaaWApart
import Derived.Test.YtccabdgfjcjpoaaWArr
import Derived.Test.YtccabdgfjcjpoaaWZeros
import Derived.Test.YtccabdgfjcjpoaaWFoot
import Derived.Test.YtccabdgfjcjpoaaWKept
import Derived.Test.YtccabdgfjcjpoaaWShare
import Derived.Test.YtccabdgfjcjpoaaWN
import Derived.Test.YtccabdgfjcjpoaaWFootNe
import Derived.Test.YtccabdgfjcjpoaaWAt
import Derived.Test.YtccabdgfjcjpoaaWEqStruct
import Derived.Test.YtccabdgfjcjpoaaWRepsOne
import Derived.Test.YtccabdgfjcjpoaaWInv
import Derived.Test.YtccabdgfjcjpoaaWInvWords
import Derived.Test.YtccabdgfjcjpoaaWGuard
import Derived.Test.YtccabdgfjcjpoaaWNEv
import Derived.Test.YtccabdgfjcjpoaaWMore
import Derived.Deep.MidRow
import Derived.Deep.WholeRow
import Derived.Deep.DeepMust
import Derived.Lib.Hide
import Derived.WalkSpells
import Derived.Lib.SliceRun
import Derived.StillTailTactics
-- Written by a program of this session (a turn of the kit's print with contracts by hand). Not trusted: Lean checks it.
namespace Go.Proofs.Ytccabdgfjcjpoaa.X
open Go.RowKit Go.Proofs.YtccabdgfjcjpoaaW.PrintWords Go.Proofs.YtccabdgfjcjpoaaW.PrintLast Go.Proofs.YtccabdgfjcjpoaaW.PrintMore
attribute [local go_sem] max2_int min2_int max_two min_two max_three min_three max_four min_four   -- for this text's walks alone
set_option linter.unusedVariables false
set_option linter.unusedSimpArgs false



def errW : Option Int → Value
  | none => .nilIface
  | some c => .iface 0 (.int .i64 c)
theorem errW_none : errW none = .nilIface := rfl
theorem errW_some (c : Int) : errW (some c) = .iface 0 (.int .i64 c) := rfl

theorem info3 : (Try.prog.info? 3).map (fun i => (i.zero, i.size, i.bytes)) = some (some (.int .i64 0), 1, 8) := by kernel_rfl
theorem info5 : (Try.prog.info? 5).map (fun i => (i.zero, i.size, i.bytes)) = some (some (.int .u8 0), 1, 1) := by kernel_rfl
theorem info27 : (Try.prog.info? 27).map (fun i => (i.zero, i.size, i.bytes)) = some (some (.agg #[(.int .i64 0), (.int .i64 0), (.int .i64 0), (.int .i64 0), (.string ⟨#[]⟩)]), 5, 48) := by kernel_rfl
theorem info52 : (Try.prog.info? 52).map (fun i => (i.zero, i.size, i.bytes)) = some (some (.agg #[(.int .i64 0), (.int .i64 0)]), 2, 16) := by kernel_rfl
theorem info54 : (Try.prog.info? 54).map (fun i => (i.zero, i.size, i.bytes)) = some (some (.slice none 0 0), 1, 24) := by kernel_rfl
theorem info56 : (Try.prog.info? 56).map (fun i => (i.zero, i.size, i.bytes)) = some (some (.agg #[(.int .i64 0), (.int .i64 0), (.int .i64 0), (.slice none 0 0)]), 4, 48) := by kernel_rfl
-- the values' own types
/-! #### struct type 27 -/
structure S27 where
  f0 : Int
  f1 : Int
  f2 : Int
  f3 : Int
  f4 : ByteArray
def z27 : S27 := ⟨(0 : Int), (0 : Int), (0 : Int), (0 : Int), (⟨#[]⟩ : ByteArray)⟩
def k27 : Kd S27 := Kd.iso (Kd.pair (Kd.int .i64) (Kd.pair (Kd.int .i64) (Kd.pair (Kd.int .i64) (Kd.pair (Kd.int .i64) Kd.string)))) (fun x : S27 => (x.f0, x.f1, x.f2, x.f3, x.f4))
theorem k27_open {w : World} {x : S27} {cs : List Value} (h : k27.K w x cs) : cs = [.int .i64 x.f0, .int .i64 x.f1, .int .i64 x.f2, .int .i64 x.f3, .string x.f4] := by
  obtain ⟨_, _, rfl, rfl, ⟨_, _, rfl, rfl, ⟨_, _, rfl, rfl, ⟨_, _, rfl, rfl, rfl⟩⟩⟩⟩ := h
  exact rfl
theorem k27_openM {w : World} {base : Nat} {ok : Nat → Prop} {x : S27} {cs : List Value} (h : k27.M w base ok x cs) : cs = [.int .i64 x.f0, .int .i64 x.f1, .int .i64 x.f2, .int .i64 x.f3, .string x.f4] := by
  obtain ⟨_, _, rfl, rfl, ⟨_, _, rfl, rfl, ⟨_, _, rfl, rfl, ⟨_, _, rfl, rfl, rfl⟩⟩⟩⟩ := h
  exact rfl
theorem k27_mk (w : World) (x : S27)  : k27.K w x [.int .i64 x.f0, .int .i64 x.f1, .int .i64 x.f2, .int .i64 x.f3, .string x.f4] := ⟨[.int .i64 x.f0], [.int .i64 x.f1, .int .i64 x.f2, .int .i64 x.f3, .string x.f4], rfl, rfl, ⟨[.int .i64 x.f1], [.int .i64 x.f2, .int .i64 x.f3, .string x.f4], rfl, rfl, ⟨[.int .i64 x.f2], [.int .i64 x.f3, .string x.f4], rfl, rfl, ⟨[.int .i64 x.f3], [.string x.f4], rfl, rfl, rfl⟩⟩⟩⟩
theorem k27_mkM (w : World) (base : Nat) (ok : Nat → Prop) (x : S27)  : k27.M w base ok x [.int .i64 x.f0, .int .i64 x.f1, .int .i64 x.f2, .int .i64 x.f3, .string x.f4] := ⟨[.int .i64 x.f0], [.int .i64 x.f1, .int .i64 x.f2, .int .i64 x.f3, .string x.f4], rfl, rfl, ⟨[.int .i64 x.f1], [.int .i64 x.f2, .int .i64 x.f3, .string x.f4], rfl, rfl, ⟨[.int .i64 x.f2], [.int .i64 x.f3, .string x.f4], rfl, rfl, ⟨[.int .i64 x.f3], [.string x.f4], rfl, rfl, rfl⟩⟩⟩⟩
theorem k27_mkF (W : World) (ok : Nat → Prop) (x : S27) : Kd.FK k27 W ok x [.int .i64 x.f0, .int .i64 x.f1, .int .i64 x.f2, .int .i64 x.f3, .string x.f4] := fun W2 _ => k27_mk W2 x
def rd_T27 (xs : List S27) (i : Int) : S27 := xs.getD i.toNat z27
theorem at_T27 {w : World} {A : Option Addr} {n : Nat} {xs : List S27} (h : Kd.C k27 w A n xs) (i : Int) (h0 : 0 ≤ i) (h1 : i < n) : ∃ ad , A = some ad ∧ w.cell? (ad.add (i.toNat * 5)) = some (.int .i64 (rd_T27 xs i).f0) ∧ w.cell? ⟨(ad.add (i.toNat * 5)).block, (ad.add (i.toNat * 5)).off + 1, none⟩ = some (.int .i64 (rd_T27 xs i).f1) ∧ w.cell? ⟨(ad.add (i.toNat * 5)).block, (ad.add (i.toNat * 5)).off + 2, none⟩ = some (.int .i64 (rd_T27 xs i).f2) ∧ w.cell? ⟨(ad.add (i.toNat * 5)).block, (ad.add (i.toNat * 5)).off + 3, none⟩ = some (.int .i64 (rd_T27 xs i).f3) ∧ w.cell? ⟨(ad.add (i.toNat * 5)).block, (ad.add (i.toNat * 5)).off + 4, none⟩ = some (.string (rd_T27 xs i).f4) := by
  obtain ⟨ad, c, e, _, hK, hc0⟩ := Kd.C_get h z27 i h0 h1
  have hc : ∀ j u, c[j]? = some u → w.cell? (ad.add (i.toNat * 5 + j)) = some u := hc0
  obtain rfl := k27_open hK
  exact ⟨ad, e, hc 0 _ rfl, by rw [← add_field _ _ 1 (by omega)]; exact hc 1 _ rfl, by rw [← add_field _ _ 2 (by omega)]; exact hc 2 _ rfl, by rw [← add_field _ _ 3 (by omega)]; exact hc 3 _ rfl, by rw [← add_field _ _ 4 (by omega)]; exact hc 4 _ rfl⟩

def rd_L3 (xs : List (List S27)) (i : Int) : (List S27) := xs.getD i.toNat ([] : List S27)
theorem at_L3 {w : World} {A : Option Addr} {n : Nat} {xs : List (List S27)} (h : Kd.C (Kd.slice 27 k27) w A n xs) (i : Int) (h0 : 0 ≤ i) (h1 : i < n) : ∃ ad A0 c0, A = some ad ∧ w.cell? (ad.add i.toNat) = some (.slice A0 (rd_L3 xs i).length c0) ∧ (rd_L3 xs i).length ≤ c0 ∧ k27.C w A0 (rd_L3 xs i).length (rd_L3 xs i) := by
  obtain ⟨ad, c, e, _, hK, hc0⟩ := Kd.C_get h ([] : List S27) i h0 h1
  have hc : ∀ j u, c[j]? = some u → w.cell? (ad.add (i.toNat * 1 + j)) = some u := hc0
  obtain ⟨A0, c0, rfl, l0, g0⟩ := hK
  exact ⟨ad, A0, c0, e, by have hq := hc 0 _ rfl; rwa [Nat.mul_one, Nat.add_zero] at hq, l0, g0⟩

/-! #### struct type 52 -/
structure S52 where
  f0 : Int
  f1 : Int
def z52 : S52 := ⟨(0 : Int), (0 : Int)⟩
def k52 : Kd S52 := Kd.iso (Kd.pair (Kd.int .i64) (Kd.int .i64)) (fun x : S52 => (x.f0, x.f1))
theorem k52_open {w : World} {x : S52} {cs : List Value} (h : k52.K w x cs) : cs = [.int .i64 x.f0, .int .i64 x.f1] := by
  obtain ⟨_, _, rfl, rfl, rfl⟩ := h
  exact rfl
theorem k52_openM {w : World} {base : Nat} {ok : Nat → Prop} {x : S52} {cs : List Value} (h : k52.M w base ok x cs) : cs = [.int .i64 x.f0, .int .i64 x.f1] := by
  obtain ⟨_, _, rfl, rfl, rfl⟩ := h
  exact rfl
theorem k52_mk (w : World) (x : S52)  : k52.K w x [.int .i64 x.f0, .int .i64 x.f1] := ⟨[.int .i64 x.f0], [.int .i64 x.f1], rfl, rfl, rfl⟩
theorem k52_mkM (w : World) (base : Nat) (ok : Nat → Prop) (x : S52)  : k52.M w base ok x [.int .i64 x.f0, .int .i64 x.f1] := ⟨[.int .i64 x.f0], [.int .i64 x.f1], rfl, rfl, rfl⟩
theorem k52_mkF (W : World) (ok : Nat → Prop) (x : S52) : Kd.FK k52 W ok x [.int .i64 x.f0, .int .i64 x.f1] := fun W2 _ => k52_mk W2 x
def rd_T52 (xs : List S52) (i : Int) : S52 := xs.getD i.toNat z52
theorem at_T52 {w : World} {A : Option Addr} {n : Nat} {xs : List S52} (h : Kd.C k52 w A n xs) (i : Int) (h0 : 0 ≤ i) (h1 : i < n) : ∃ ad , A = some ad ∧ w.cell? (ad.add (i.toNat * 2)) = some (.int .i64 (rd_T52 xs i).f0) ∧ w.cell? ⟨(ad.add (i.toNat * 2)).block, (ad.add (i.toNat * 2)).off + 1, none⟩ = some (.int .i64 (rd_T52 xs i).f1) := by
  obtain ⟨ad, c, e, _, hK, hc0⟩ := Kd.C_get h z52 i h0 h1
  have hc : ∀ j u, c[j]? = some u → w.cell? (ad.add (i.toNat * 2 + j)) = some u := hc0
  obtain rfl := k52_open hK
  exact ⟨ad, e, hc 0 _ rfl, by rw [← add_field _ _ 1 (by omega)]; exact hc 1 _ rfl⟩

def rd_L6 (xs : List (List S52)) (i : Int) : (List S52) := xs.getD i.toNat ([] : List S52)
theorem at_L6 {w : World} {A : Option Addr} {n : Nat} {xs : List (List S52)} (h : Kd.C (Kd.slice 52 k52) w A n xs) (i : Int) (h0 : 0 ≤ i) (h1 : i < n) : ∃ ad A0 c0, A = some ad ∧ w.cell? (ad.add i.toNat) = some (.slice A0 (rd_L6 xs i).length c0) ∧ (rd_L6 xs i).length ≤ c0 ∧ k52.C w A0 (rd_L6 xs i).length (rd_L6 xs i) := by
  obtain ⟨ad, c, e, _, hK, hc0⟩ := Kd.C_get h ([] : List S52) i h0 h1
  have hc : ∀ j u, c[j]? = some u → w.cell? (ad.add (i.toNat * 1 + j)) = some u := hc0
  obtain ⟨A0, c0, rfl, l0, g0⟩ := hK
  exact ⟨ad, A0, c0, e, by have hq := hc 0 _ rfl; rwa [Nat.mul_one, Nat.add_zero] at hq, l0, g0⟩

/-! #### struct type 30 -/
structure S30 where
  f0 : Int
  f1 : Int
  f2 : ByteArray
def z30 : S30 := ⟨(0 : Int), (0 : Int), (⟨#[]⟩ : ByteArray)⟩
def k30 : Kd S30 := Kd.iso (Kd.pair (Kd.int .i64) (Kd.pair (Kd.int .i64) Kd.string)) (fun x : S30 => (x.f0, x.f1, x.f2))
theorem k30_open {w : World} {x : S30} {cs : List Value} (h : k30.K w x cs) : cs = [.int .i64 x.f0, .int .i64 x.f1, .string x.f2] := by
  obtain ⟨_, _, rfl, rfl, ⟨_, _, rfl, rfl, rfl⟩⟩ := h
  exact rfl
theorem k30_openM {w : World} {base : Nat} {ok : Nat → Prop} {x : S30} {cs : List Value} (h : k30.M w base ok x cs) : cs = [.int .i64 x.f0, .int .i64 x.f1, .string x.f2] := by
  obtain ⟨_, _, rfl, rfl, ⟨_, _, rfl, rfl, rfl⟩⟩ := h
  exact rfl
theorem k30_mk (w : World) (x : S30)  : k30.K w x [.int .i64 x.f0, .int .i64 x.f1, .string x.f2] := ⟨[.int .i64 x.f0], [.int .i64 x.f1, .string x.f2], rfl, rfl, ⟨[.int .i64 x.f1], [.string x.f2], rfl, rfl, rfl⟩⟩
theorem k30_mkM (w : World) (base : Nat) (ok : Nat → Prop) (x : S30)  : k30.M w base ok x [.int .i64 x.f0, .int .i64 x.f1, .string x.f2] := ⟨[.int .i64 x.f0], [.int .i64 x.f1, .string x.f2], rfl, rfl, ⟨[.int .i64 x.f1], [.string x.f2], rfl, rfl, rfl⟩⟩
theorem k30_mkF (W : World) (ok : Nat → Prop) (x : S30) : Kd.FK k30 W ok x [.int .i64 x.f0, .int .i64 x.f1, .string x.f2] := fun W2 _ => k30_mk W2 x
def rd_T30 (xs : List S30) (i : Int) : S30 := xs.getD i.toNat z30
theorem at_T30 {w : World} {A : Option Addr} {n : Nat} {xs : List S30} (h : Kd.C k30 w A n xs) (i : Int) (h0 : 0 ≤ i) (h1 : i < n) : ∃ ad , A = some ad ∧ w.cell? (ad.add (i.toNat * 3)) = some (.int .i64 (rd_T30 xs i).f0) ∧ w.cell? ⟨(ad.add (i.toNat * 3)).block, (ad.add (i.toNat * 3)).off + 1, none⟩ = some (.int .i64 (rd_T30 xs i).f1) ∧ w.cell? ⟨(ad.add (i.toNat * 3)).block, (ad.add (i.toNat * 3)).off + 2, none⟩ = some (.string (rd_T30 xs i).f2) := by
  obtain ⟨ad, c, e, _, hK, hc0⟩ := Kd.C_get h z30 i h0 h1
  have hc : ∀ j u, c[j]? = some u → w.cell? (ad.add (i.toNat * 3 + j)) = some u := hc0
  obtain rfl := k30_open hK
  exact ⟨ad, e, hc 0 _ rfl, by rw [← add_field _ _ 1 (by omega)]; exact hc 1 _ rfl, by rw [← add_field _ _ 2 (by omega)]; exact hc 2 _ rfl⟩

/-! #### struct type 32 -/
structure S32 where
  f0 : S30
  f1 : Int
  f2 : Int
def z32 : S32 := ⟨z30, (0 : Int), (0 : Int)⟩
def k32 : Kd S32 := Kd.iso (Kd.pair k30 (Kd.pair (Kd.int .i64) (Kd.int .i64))) (fun x : S32 => (x.f0, x.f1, x.f2))
theorem k32_open {w : World} {x : S32} {cs : List Value} (h : k32.K w x cs) : cs = [.int .i64 x.f0.f0, .int .i64 x.f0.f1, .string x.f0.f2, .int .i64 x.f1, .int .i64 x.f2] := by
  obtain ⟨_, _, rfl, s0, ⟨_, _, rfl, rfl, rfl⟩⟩ := h
  obtain rfl := k30_open s0
  exact rfl
theorem k32_openM {w : World} {base : Nat} {ok : Nat → Prop} {x : S32} {cs : List Value} (h : k32.M w base ok x cs) : cs = [.int .i64 x.f0.f0, .int .i64 x.f0.f1, .string x.f0.f2, .int .i64 x.f1, .int .i64 x.f2] := by
  obtain ⟨_, _, rfl, s0, ⟨_, _, rfl, rfl, rfl⟩⟩ := h
  obtain rfl := k30_openM s0
  exact rfl
theorem k32_mk (w : World) (x : S32)  : k32.K w x [.int .i64 x.f0.f0, .int .i64 x.f0.f1, .string x.f0.f2, .int .i64 x.f1, .int .i64 x.f2] := ⟨[.int .i64 x.f0.f0, .int .i64 x.f0.f1, .string x.f0.f2], [.int .i64 x.f1, .int .i64 x.f2], rfl, (k30_mk w x.f0 ), ⟨[.int .i64 x.f1], [.int .i64 x.f2], rfl, rfl, rfl⟩⟩
theorem k32_mkM (w : World) (base : Nat) (ok : Nat → Prop) (x : S32)  : k32.M w base ok x [.int .i64 x.f0.f0, .int .i64 x.f0.f1, .string x.f0.f2, .int .i64 x.f1, .int .i64 x.f2] := ⟨[.int .i64 x.f0.f0, .int .i64 x.f0.f1, .string x.f0.f2], [.int .i64 x.f1, .int .i64 x.f2], rfl, (k30_mkM w base ok x.f0 ), ⟨[.int .i64 x.f1], [.int .i64 x.f2], rfl, rfl, rfl⟩⟩
theorem k32_mkF (W : World) (ok : Nat → Prop) (x : S32) : Kd.FK k32 W ok x [.int .i64 x.f0.f0, .int .i64 x.f0.f1, .string x.f0.f2, .int .i64 x.f1, .int .i64 x.f2] := fun W2 _ => k32_mk W2 x
def rd_T32 (xs : List S32) (i : Int) : S32 := xs.getD i.toNat z32
theorem at_T32 {w : World} {A : Option Addr} {n : Nat} {xs : List S32} (h : Kd.C k32 w A n xs) (i : Int) (h0 : 0 ≤ i) (h1 : i < n) : ∃ ad , A = some ad ∧ w.cell? (ad.add (i.toNat * 5)) = some (.int .i64 (rd_T32 xs i).f0.f0) ∧ w.cell? ⟨(ad.add (i.toNat * 5)).block, (ad.add (i.toNat * 5)).off + 1, none⟩ = some (.int .i64 (rd_T32 xs i).f0.f1) ∧ w.cell? ⟨(ad.add (i.toNat * 5)).block, (ad.add (i.toNat * 5)).off + 2, none⟩ = some (.string (rd_T32 xs i).f0.f2) ∧ w.cell? ⟨(ad.add (i.toNat * 5)).block, (ad.add (i.toNat * 5)).off + 3, none⟩ = some (.int .i64 (rd_T32 xs i).f1) ∧ w.cell? ⟨(ad.add (i.toNat * 5)).block, (ad.add (i.toNat * 5)).off + 4, none⟩ = some (.int .i64 (rd_T32 xs i).f2) := by
  obtain ⟨ad, c, e, _, hK, hc0⟩ := Kd.C_get h z32 i h0 h1
  have hc : ∀ j u, c[j]? = some u → w.cell? (ad.add (i.toNat * 5 + j)) = some u := hc0
  obtain rfl := k32_open hK
  exact ⟨ad, e, hc 0 _ rfl, by rw [← add_field _ _ 1 (by omega)]; exact hc 1 _ rfl, by rw [← add_field _ _ 2 (by omega)]; exact hc 2 _ rfl, by rw [← add_field _ _ 3 (by omega)]; exact hc 3 _ rfl, by rw [← add_field _ _ 4 (by omega)]; exact hc 4 _ rfl⟩

def rd_L9 (xs : List (List Int)) (i : Int) : (List Int) := xs.getD i.toNat ([] : List Int)
theorem at_L9 {w : World} {A : Option Addr} {n : Nat} {xs : List (List Int)} (h : Kd.C (Kd.slice 3 (Kd.int .i64)) w A n xs) (i : Int) (h0 : 0 ≤ i) (h1 : i < n) : ∃ ad A0 c0, A = some ad ∧ w.cell? (ad.add i.toNat) = some (.slice A0 (rd_L9 xs i).length c0) ∧ (rd_L9 xs i).length ≤ c0 ∧ (Kd.int .i64).C w A0 (rd_L9 xs i).length (rd_L9 xs i) := by
  obtain ⟨ad, c, e, _, hK, hc0⟩ := Kd.C_get h ([] : List Int) i h0 h1
  have hc : ∀ j u, c[j]? = some u → w.cell? (ad.add (i.toNat * 1 + j)) = some u := hc0
  obtain ⟨A0, c0, rfl, l0, g0⟩ := hK
  exact ⟨ad, A0, c0, e, by have hq := hc 0 _ rfl; rwa [Nat.mul_one, Nat.add_zero] at hq, l0, g0⟩

def rd_L11 (xs : List (List Int)) (i : Int) : (List Int) := xs.getD i.toNat ([] : List Int)
theorem at_L11 {w : World} {A : Option Addr} {n : Nat} {xs : List (List Int)} (h : Kd.C (Kd.slice 5 (Kd.int .u8)) w A n xs) (i : Int) (h0 : 0 ≤ i) (h1 : i < n) : ∃ ad A0 c0, A = some ad ∧ w.cell? (ad.add i.toNat) = some (.slice A0 (rd_L11 xs i).length c0) ∧ (rd_L11 xs i).length ≤ c0 ∧ (Kd.int .u8).C w A0 (rd_L11 xs i).length (rd_L11 xs i) := by
  obtain ⟨ad, c, e, _, hK, hc0⟩ := Kd.C_get h ([] : List Int) i h0 h1
  have hc : ∀ j u, c[j]? = some u → w.cell? (ad.add (i.toNat * 1 + j)) = some u := hc0
  obtain ⟨A0, c0, rfl, l0, g0⟩ := hK
  exact ⟨ad, A0, c0, e, by have hq := hc 0 _ rfl; rwa [Nat.mul_one, Nat.add_zero] at hq, l0, g0⟩

/-! #### struct type 56 -/
structure S56 where
  f0 : Int
  f1 : Int
  f2 : Int
  f3 : (List Int)
def z56 : S56 := ⟨(0 : Int), (0 : Int), (0 : Int), ([] : List Int)⟩
def k56 : Kd S56 := Kd.iso (Kd.pair (Kd.int .i64) (Kd.pair (Kd.int .i64) (Kd.pair (Kd.int .i64) (Kd.slice 5 (Kd.int .u8))))) (fun x : S56 => (x.f0, x.f1, x.f2, x.f3))
theorem k56_open {w : World} {x : S56} {cs : List Value} (h : k56.K w x cs) : ∃ A3 c3, cs = [.int .i64 x.f0, .int .i64 x.f1, .int .i64 x.f2, .slice A3 x.f3.length c3] ∧ x.f3.length ≤ c3 ∧ (Kd.int .u8).C w A3 x.f3.length x.f3 := by
  obtain ⟨_, _, rfl, rfl, ⟨_, _, rfl, rfl, ⟨_, _, rfl, rfl, ⟨A3, c3, rfl, l3, g3⟩⟩⟩⟩ := h
  exact ⟨A3, c3, rfl, l3, g3⟩
theorem k56_openM {w : World} {base : Nat} {ok : Nat → Prop} {x : S56} {cs : List Value} (h : k56.M w base ok x cs) : ∃ v3, cs = [.int .i64 x.f0, .int .i64 x.f1, .int .i64 x.f2, v3] ∧ (Kd.int .u8).R 5 w base ok v3 x.f3 := by
  obtain ⟨_, _, rfl, rfl, ⟨_, _, rfl, rfl, ⟨_, _, rfl, rfl, ⟨v3, rfl, g3⟩⟩⟩⟩ := h
  exact ⟨v3, rfl, g3⟩
theorem k56_mk (w : World) (x : S56) {A3 : Option Addr} {c3 : Nat} (l3 : x.f3.length ≤ c3) (g3 : (Kd.int .u8).C w A3 x.f3.length x.f3) : k56.K w x [.int .i64 x.f0, .int .i64 x.f1, .int .i64 x.f2, .slice A3 x.f3.length c3] := ⟨[.int .i64 x.f0], [.int .i64 x.f1, .int .i64 x.f2, .slice A3 x.f3.length c3], rfl, rfl, ⟨[.int .i64 x.f1], [.int .i64 x.f2, .slice A3 x.f3.length c3], rfl, rfl, ⟨[.int .i64 x.f2], [.slice A3 x.f3.length c3], rfl, rfl, ⟨A3, c3, rfl, l3, g3⟩⟩⟩⟩
theorem k56_mkM (w : World) (base : Nat) (ok : Nat → Prop) (x : S56) {v3 : Value} (g3 : (Kd.int .u8).R 5 w base ok v3 x.f3) : k56.M w base ok x [.int .i64 x.f0, .int .i64 x.f1, .int .i64 x.f2, v3] := ⟨[.int .i64 x.f0], [.int .i64 x.f1, .int .i64 x.f2, v3], rfl, rfl, ⟨[.int .i64 x.f1], [.int .i64 x.f2, v3], rfl, rfl, ⟨[.int .i64 x.f2], [v3], rfl, rfl, ⟨v3, rfl, g3⟩⟩⟩⟩
theorem k56_openF {W : World} {ok : Nat → Prop} {x : S56} {cs : List Value} (h : Kd.FK k56 W ok x cs) : ∃ A3 c3, cs = [.int .i64 x.f0, .int .i64 x.f1, .int .i64 x.f2, .slice A3 x.f3.length c3] ∧ x.f3.length ≤ c3 ∧ Kd.F (Kd.int .u8) W ok A3 x.f3.length x.f3 := by
  obtain ⟨A3, c3, rfl, l3, _⟩ := k56_open (Kd.FK_now h)
  exact ⟨A3, c3, rfl, l3, (fun W' hW => by obtain ⟨A3_, c3_, he, l3_, g3_⟩ := k56_open (h W' hW); injection (Option.some.inj (show some (Value.slice A3 x.f3.length c3) = some (Value.slice A3_ x.f3.length c3_) from congrArg (fun l => l[3]?) he)) with ha_ _ _; rw [ha_]; exact g3_)⟩
theorem k56_mkF (W : World) (ok : Nat → Prop) (x : S56) {A3 : Option Addr} {c3 : Nat} (l3 : x.f3.length ≤ c3) (g3 : Kd.F (Kd.int .u8) W ok A3 x.f3.length x.f3) : Kd.FK k56 W ok x [.int .i64 x.f0, .int .i64 x.f1, .int .i64 x.f2, .slice A3 x.f3.length c3] := fun W2 hW => k56_mk W2 x l3 (g3 W2 hW)
def rd_T56 (xs : List S56) (i : Int) : S56 := xs.getD i.toNat z56
theorem at_T56 {w : World} {A : Option Addr} {n : Nat} {xs : List S56} (h : Kd.C k56 w A n xs) (i : Int) (h0 : 0 ≤ i) (h1 : i < n) : ∃ ad A3 c3, A = some ad ∧ w.cell? (ad.add (i.toNat * 4)) = some (.int .i64 (rd_T56 xs i).f0) ∧ w.cell? ⟨(ad.add (i.toNat * 4)).block, (ad.add (i.toNat * 4)).off + 1, none⟩ = some (.int .i64 (rd_T56 xs i).f1) ∧ w.cell? ⟨(ad.add (i.toNat * 4)).block, (ad.add (i.toNat * 4)).off + 2, none⟩ = some (.int .i64 (rd_T56 xs i).f2) ∧ w.cell? ⟨(ad.add (i.toNat * 4)).block, (ad.add (i.toNat * 4)).off + 3, none⟩ = some (.slice A3 (rd_T56 xs i).f3.length c3) ∧ (rd_T56 xs i).f3.length ≤ c3 ∧ (Kd.int .u8).C w A3 (rd_T56 xs i).f3.length (rd_T56 xs i).f3 := by
  obtain ⟨ad, c, e, _, hK, hc0⟩ := Kd.C_get h z56 i h0 h1
  have hc : ∀ j u, c[j]? = some u → w.cell? (ad.add (i.toNat * 4 + j)) = some u := hc0
  obtain ⟨A3, c3, rfl, l3, g3⟩ := k56_open hK
  exact ⟨ad, A3, c3, e, hc 0 _ rfl, by rw [← add_field _ _ 1 (by omega)]; exact hc 1 _ rfl, by rw [← add_field _ _ 2 (by omega)]; exact hc 2 _ rfl, by rw [← add_field _ _ 3 (by omega)]; exact hc 3 _ rfl, l3, g3⟩

def rd_L13 (xs : List (List S56)) (i : Int) : (List S56) := xs.getD i.toNat ([] : List S56)
theorem at_L13 {w : World} {A : Option Addr} {n : Nat} {xs : List (List S56)} (h : Kd.C (Kd.slice 56 k56) w A n xs) (i : Int) (h0 : 0 ≤ i) (h1 : i < n) : ∃ ad A0 c0, A = some ad ∧ w.cell? (ad.add i.toNat) = some (.slice A0 (rd_L13 xs i).length c0) ∧ (rd_L13 xs i).length ≤ c0 ∧ k56.C w A0 (rd_L13 xs i).length (rd_L13 xs i) := by
  obtain ⟨ad, c, e, _, hK, hc0⟩ := Kd.C_get h ([] : List S56) i h0 h1
  have hc : ∀ j u, c[j]? = some u → w.cell? (ad.add (i.toNat * 1 + j)) = some u := hc0
  obtain ⟨A0, c0, rfl, l0, g0⟩ := hK
  exact ⟨ad, A0, c0, e, by have hq := hc 0 _ rfl; rwa [Nat.mul_one, Nat.add_zero] at hq, l0, g0⟩

end Go.Proofs.Ytccabdgfjcjpoaa.X
/- Whole structs and arrays in a block: made, stored, read. -/
namespace Go.Proofs.Ytccabdgfjcjpoaa.X
open Go.RowKit Go.Proofs.YtccabdgfjcjpoaaW.PrintWords Go.Proofs.YtccabdgfjcjpoaaW.PrintLast Go.Proofs.YtccabdgfjcjpoaaW.PrintMore
set_option linter.unusedVariables false
set_option linter.unusedSimpArgs false

/-- Another array in block g, and no other block turned. -/
structure Stored (g : Nat) (t : TypeId) (cs : Array Value) (w w1 : World) : Prop where
  at_ : w1.heap[g]? = some (.cells cs t (0, 0))
  size : w1.heap.size = w.heap.size
  far : ∀ i, i ≠ g → w1.heap[i]? = w.heap[i]?
  below : ∀ (v : World), Below v.heap.size v w → v.heap.size ≤ g → Below v.heap.size v w1
section
variable {P : Program} {ops : Array Oper} {rest : List Oper} {o : Oper} {a : Act} {Q : Exit → Act → World → Prop}
theorem setCells_stored (g : Nat) (t : TypeId) : ∀ (vs : List Value) (i : Nat) (w : World) (pre suf : List Value), w.heap[g]? = some (.cells (pre ++ suf).toArray t (0, 0)) → pre.length = i → vs.length = suf.length →
    Stored g t (pre ++ vs).toArray w (w.setCells g i vs)
  | [], i, w, pre, suf, h, hp, hl => by
    have : suf = [] := List.length_eq_zero_iff.1 (by simpa using hl.symm)
    subst this
    exact ⟨h, rfl, fun _ _ => rfl, fun v hb _ => hb⟩
  | v :: vs, i, w, pre, suf, h, hp, hl => by
    match suf, hl with
    | s :: suf, hl =>
    have h1 := blk_put (cs' := ((pre ++ [v]) ++ suf).toArray) h i v (by
      subst hp
      simp [List.set_append_right])
    have ih := setCells_stored g t vs (i + 1) (w.setCell ⟨g, i, none⟩ v) (pre ++ [v]) suf h1 (by simp [hp]) (by simpa using hl)
    rw [World.setCells]
    refine ⟨by have := ih.at_; simpa using this, ih.size.trans (World.size_setCell _ _ _), fun j hj => (ih.far j hj).trans ?_, fun u hb hg => ih.below u (by exact hb.setCell hg _) hg⟩
    exact Below.heap_setCell w ⟨g, i, none⟩ v j hj
/-- A whole array stored. -/
theorem store_ev {W : World} (hgd : o.guard = none) (hd : o.dst = none) (ty : TypeId) (x y : Operand) (ho : o.op = .store ty x y) (g : Nat) (cs cells : Array Value) (hx : a.eval x = .pointer (some ⟨g, 0, none⟩)) (hy : a.eval y = .agg cells)
    (hg : W.heap[g]? = some (.cells cs ty (0, 0))) (hs : cs.size = cells.size) (hi : (P.info? ty).map (·.size) = some cells.size) (h1 : cells.all (·.oneCell') = true)
    (h : ∀ w1, Stored g ty cells W w1 → wpList P ops Q rest a w1) : wpList P ops Q (o :: rest) a W := by
  refine wpList_store_mid hgd ty x y ho g 0 cells hx hy (fun j hj => ?_) hi h1 ?_
  · rw [Nat.zero_add, blk_cell hg, blk_frozen hg]
    exact ⟨by rw [Array.getElem?_eq_getElem (by omega)]; rfl, rfl⟩
  · rw [hd]
    have := setCells_stored g ty cells.toList 0 W [] cs.toList (by simpa using hg) rfl (by simpa using hs.symm)
    exact h _ (by simpa using this)
/-- An array of parts that are told. -/
theorem build_ev {W : World} (hgd : o.guard = none) {N : Tmp} (hd : o.dst = some N) (t : TypeId) (parts : Array (Nat × Operand)) (ho : o.op = .build t parts) (cells : Array Value) (hb : P.built t (parts.map fun (i, x) => (i, a.eval x)).toList = some cells)
    (h : wpList P ops Q rest (a.put (some N) (.agg cells)) W) : wpList P ops Q (o :: rest) a W := by
  refine wpList_build hgd t parts ho (by rw [hb]; rfl) ?_
  rw [hb, hd]
  exact h
/-- A whole array read. -/
theorem load_ev {W : World} (hgd : o.guard = none) {N : Tmp} (hd : o.dst = some N) (ty : TypeId) (x : Operand) (ho : o.op = .load ty x) (g : Nat) (cs : Array Value) (d : TypeDesc) (hx : a.eval x = .pointer (some ⟨g, 0, none⟩))
    (hg : W.heap[g]? = some (.cells cs ty (0, 0))) (hu : P.underlying ty = some d) (hd2 : d.isRow = true) (hi : (P.info? ty).map (·.size) = some cs.size)
    (h : wpList P ops Q rest (a.put (some N) (.agg cs)) W) : wpList P ops Q (o :: rest) a W := by
  refine wpList_load_mid hgd ty x ho g 0 hx cs.toList d (fun j v hv => ?_) hu hd2 (by simpa using hi) ?_
  · rw [Nat.zero_add, blk_cell hg]
    simpa using hv
  · rw [hd]
    simpa using h
end
theorem gen_world {P : Program} {c : Code} {Q : Exit → Act → World → Prop} {a : Act} {w0 w : World} (hd : Drawn0 w0 w) (h : ∀ W, Drawn0 w0 W → Code.wp P c Q a W) : Code.wp P c Q a w := h w hd
theorem run_alloc (P : Program) (t : TypeId) (cs : Array Value) (n : Nat) (h : (P.info? t).map (fun i => (i.zero, i.size)) = some (some (.agg cs), n)) (eval : Operand → Value) (o : Oper) (ho : o.op = .alloc t) (W : World) :
    (execOp eval o).run P W = .ok (.value (.pointer (some ⟨W.heap.size, 0, none⟩))) (W.alloc (.cells cs t (0, 0))) := by
  have hz := (zero_of_info h).1
  unfold execOp
  simp [ho, Instr.alloc, hz, newVar, newRow, Value.cells]
end Go.Proofs.Ytccabdgfjcjpoaa.X
/- slices.Clone of octets. -/
namespace Go.Proofs.Ytccabdgfjcjpoaa.X
open Go.RowKit Go.Proofs.YtccabdgfjcjpoaaW.PrintWords Go.Proofs.YtccabdgfjcjpoaaW.PrintLast Go.Proofs.YtccabdgfjcjpoaaW.PrintMore
set_option linter.unusedVariables false
set_option linter.unusedSimpArgs false

def slices_Clone_byte_byte.f (l0 : List Int) : Option (List Int) := if l0.length ≤ 140737488355328 then some l0 else none
set_option maxRecDepth 100000 in
set_option maxHeartbeats 4000000 in
theorem cloneB_calls (A0 : Option Addr) (c0 : Nat) (l0 : List Int) (w : World) (hr0 : Kd.C (Kd.int .u8) w A0 l0.length l0) (hc0 : l0.length ≤ c0) (hl : l0.length ≤ 140737488355328) :
    Calls Try.prog 49 #[.slice A0 l0.length c0] w fun e w' => ∃ v : Value, e = .returned v ∧ Kd.R (Kd.int .u8) 5 w' w.heap.size (fun _ => True) v l0 ∧ Below w.heap.size w w' := by
  have HR0 := Lib.hid hr0
  have HL := Lib.hid hl
  cases A0 with
  | none =>
    have h0 : l0 = [] := by
      rcases Nat.eq_zero_or_pos l0.length with h0 | h0
      · exact List.eq_nil_of_length_eq_zero h0
      · obtain ⟨ad, e, _⟩ := hr0.2.2 h0
        cases e
    subst h0
    clear hr0 hl
    have hq : ∀ W : World, (binOp .eql 54 (.slice none ([] : List Int).length c0) (.slice none 0 0)).run Try.prog W = .ok (.bool true) W := fun W => Lib.run_eql_slice_nil W 54 5 none _ _ _ _ Try.underlying54
    simp only [List.length_nil] at hq
    go_enter Try.func49, Try.ntmps49
    go_wp2
    go_ret
    exact ⟨_, rfl, Kd.R_nil _ _ _ _ _, Below.refl _ _⟩
  | some ad =>
    clear hr0 hl
    have hq : ∀ W : World, (binOp .eql 54 (.slice (some ad) l0.length c0) (.slice none 0 0)).run Try.prog W = .ok (.bool false) W := fun W => Lib.run_eql_slice_nil W 54 5 (some ad) _ _ _ _ Try.underlying54
    go_enter Try.func49, Try.ntmps49
    go_wp2_with (first | ((with_reducible refine gate_dst (N := 5) rfl ?_); refine Kd.R_lit (Kd.int .u8) _ 5 ?hg (N := 5) ?hd (xs := ([] : List Int)) (inner := []) (ok := fun _ => True) (okp := fun _ => True) ?hr ?hp (fun _ hk => hk) trivial (Below.refl _ _) (Nat.le_refl _) (by simp) ?_; (case hd => rfl); (case hg => rfl); (case hr => first | (go_simp; done) | (go_simp; rfl)); (case hp => exact Reps.none _ _); intro v5 w1 ho hb hg_ hnew_; clear hg_ hnew_) | ((with_reducible refine gate_builtin (b := .append) (xs := #[.tmp 5, .tmp 6]) rfl ?_); at_builtin; refine Kd.R_append_rows (Kd.int .u8) (w0 := w) w.heap.size rfl (.tmp 5) (.tmp 6) 54 5 _ 1 rfl Try.underlying54 info5 rfl (by decide) (by decide) v5 [] l0 (some ad) l0.length c0 (fun _ => True) (fun _ => False) rfl rfl ho (Kd.C_below HR0.out hb) (fun x cs hp => hp) (fun _ hk => hk.elim) (fun _ _ => trivial) hb hb.size (by have := HL.out; simpa using this) ?_; intro v1 w2 hR2 hb2 hg2 hat2))
    go_ret
    exact ⟨_, rfl, by simpa using hR2, hb2⟩
theorem slices_Clone_byte_byte.calls (A0 : Option Addr) (c0 : Nat) (l0 : List Int) (r : List Int) (w : World) (hr0 : Kd.C (Kd.int .u8) w A0 l0.length l0) (hc0 : l0.length ≤ c0) (h : slices_Clone_byte_byte.f l0 = some r) :
    Calls Try.prog 49 #[.slice A0 l0.length c0] w fun e w' => ∃ v0_ : Value, e = .returned (v0_) ∧ Kd.R (Kd.int .u8) 5 w' w.heap.size (fun _ => True) v0_ r ∧ Below w.heap.size w w' := by
  unfold slices_Clone_byte_byte.f at h
  by_cases hl : l0.length ≤ 140737488355328
  · rw [if_pos hl] at h
    cases h
    exact cloneB_calls A0 c0 l0 w hr0 hc0 hl
  · rw [if_neg hl] at h
    cases h
end Go.Proofs.Ytccabdgfjcjpoaa.X
-- Written by a program of this session (a turn of the kit's print with contracts by hand). Not trusted: Lean checks it.
namespace Go.Proofs.Ytccabdgfjcjpoaa.X
open Go.RowKit Go.Proofs.YtccabdgfjcjpoaaW.PrintWords Go.Proofs.YtccabdgfjcjpoaaW.PrintLast Go.Proofs.YtccabdgfjcjpoaaW.PrintMore
attribute [local go_sem] max2_int min2_int max_two min_two max_three min_three max_four min_four   -- for this text's walks alone
set_option linter.unusedVariables false
set_option linter.unusedSimpArgs false

/-! ### net_copied: function 44 -/
def net_copied.f (a0_0 : Int) (a0_1 : Int) (a0_2 : Int) (l0_3 : List Int) : Option (Int × Int × Int × List Int) := (slices_Clone_byte_byte.f l0_3).bind fun t291 => (some (a0_0, a0_1, a0_2, t291))
set_option maxHeartbeats 8000000 in
set_option maxRecDepth 100000 in
theorem net_copied.calls (a0_0 : Int) (a0_1 : Int) (a0_2 : Int) (A0_3 : Option Addr) (c0_3 : Nat) (l0_3 : List Int) (r1 : Int) (r2 : Int) (r3 : Int) (r4 : List Int) (w : World) (hr0_3 : Kd.C (Kd.int .u8) w A0_3 l0_3.length l0_3) (hc0_3 : l0_3.length ≤ c0_3) (h : net_copied.f a0_0 a0_1 a0_2 l0_3 = some (r1, r2, r3, r4)) :
    Calls Try.prog 44 #[.agg #[.int .i64 a0_0, .int .i64 a0_1, .int .i64 a0_2, .slice A0_3 l0_3.length c0_3]] w fun e w' => ∃ v3_ : Value, e = .returned (.agg #[.int .i64 r1, .int .i64 r2, .int .i64 r3, v3_]) ∧ Kd.R (Kd.int .u8) 5 w' w.heap.size (fun _ => True) v3_ r4 ∧ Below w.heap.size w w' := by
  have hu56 := Try.underlying56
  have HR0_3 := Aside0.mk hr0_3
  have HC0_3 := Aside0.mk hc0_3
  clear hr0_3 hc0_3
  have HB := Aside0.mk (Below.refl w.heap.size w)
  have H : ((slices_Clone_byte_byte.f l0_3).bind fun t291 => (some (a0_0, a0_1, a0_2, t291))) = some (r1, r2, r3, r4) := h
  clear h
  replace H := Option.bind_eq_some_iff.mp H
  obtain ⟨t291, A20, H⟩ := H
  replace H : (some (a0_0, a0_1, a0_2, t291)) = some (r1, r2, r3, r4) := H
  have A2 := Aside0.mk A20
  clear A20
  simp only [Option.some.injEq, Prod.mk.injEq] at H
  obtain ⟨rfl, rfl, rfl, rfl⟩ := H
  go_enter Try.func44, Try.ntmps44
  go_wp2_with (first | ((with_reducible refine gate_dst (N := 1) rfl ?_); refine box_event ?hg (N := 1) ?hd (cs := #[.int .i64 a0_0, .int .i64 a0_1, .int .i64 a0_2, .slice A0_3 l0_3.length c0_3]) (t := 56) ?hr ?_; (case hd => rfl); (case hg => rfl); (case hr => first | (go_simp; done) | (go_simp; rfl)); intro gb289 hg w3 hbox hb; have n0_ := Aside0.mk (below_step (by repeat (first | (with_reducible first | exact HB.out | apply below_alloc | apply pw_below_drewN | apply below_drew1) | exact HB.out)) hb); have n1_ := Aside0.mk (hbox); have n2_ := Aside0.mk ((by rw [hg]; exact (below_size (by repeat (first | (with_reducible first | exact HB.out | apply below_alloc | apply pw_below_drewN | apply below_drew1) | exact HB.out))) : w.heap.size ≤ gb289)); have n3_ := Aside0.mk ((by rw [hg]; exact (below_size (by repeat (first | (with_reducible first | exact HB.out | apply below_alloc | apply pw_below_drewN | apply below_drew1) | exact HB.out))) : w.heap.size ≤ gb289)); clear HB; have HB := n0_; have BK289 := n1_; have GW289 := n2_; have GE289 := n3_; clear n0_ n1_ n2_ n3_; clear hb hbox hg) | ((with_reducible refine gate_dst (N := 2) rfl ?_); refine box_event ?hg (N := 2) ?hd (cs := #[.int .i64 0, .int .i64 0, .int .i64 0, .slice none 0 0]) (t := 56) ?hr ?_; (case hd => rfl); (case hg => rfl); (case hr => first | (go_simp; done) | (go_simp; rfl)); intro gb290 hg w4 hbox hb; have n0_ := Aside0.mk (blk_below (g := gb289) (o := .cells #[.int .i64 a0_0, .int .i64 a0_1, .int .i64 a0_2, .slice A0_3 l0_3.length c0_3] 56 (0, 0)) (by (with_reducible repeat (first | refine blk_drewN ?_ _ | refine blk_drew ?_ | refine blk_alloc ?_ _)); exact BK289.out) hb); have n1_ := Aside0.mk (below_step (by repeat (first | (with_reducible first | exact HB.out | apply below_alloc | apply pw_below_drewN | apply below_drew1 | refine below_set ?_ GE289.out) | exact HB.out)) hb); have n2_ := Aside0.mk (hbox); have n3_ := Aside0.mk ((by rw [hg]; exact (below_size (by repeat (first | (with_reducible first | exact HB.out | apply below_alloc | apply pw_below_drewN | apply below_drew1 | refine below_set ?_ GE289.out) | exact HB.out))) : w.heap.size ≤ gb290)); have n4_ := Aside0.mk ((by rw [hg]; exact (below_size (by repeat (first | (with_reducible first | exact HB.out | apply below_alloc | apply pw_below_drewN | apply below_drew1 | refine below_set ?_ GE289.out) | exact HB.out))) : w.heap.size ≤ gb290)); have n5_ := Aside0.mk ((by rw [hg]; exact Nat.ne_of_lt (blk_lt (g := gb289) (o := .cells #[.int .i64 a0_0, .int .i64 a0_1, .int .i64 a0_2, .slice A0_3 l0_3.length c0_3] 56 (0, 0)) (by (with_reducible repeat (first | refine blk_drewN ?_ _ | refine blk_drew ?_ | refine blk_alloc ?_ _)); exact BK289.out)) : gb289 ≠ gb290)); have n6_ := Aside0.mk ((by rw [hg]; exact Nat.ne_of_gt (blk_lt (g := gb289) (o := .cells #[.int .i64 a0_0, .int .i64 a0_1, .int .i64 a0_2, .slice A0_3 l0_3.length c0_3] 56 (0, 0)) (by (with_reducible repeat (first | refine blk_drewN ?_ _ | refine blk_drew ?_ | refine blk_alloc ?_ _)); exact BK289.out)) : gb290 ≠ gb289)); clear BK289; clear HB; have BK289 := n0_; have HB := n1_; have BK290 := n2_; have GW290 := n3_; have GE290 := n4_; have NB289_290 := n5_; have NB290_289 := n6_; clear n0_ n1_ n2_ n3_ n4_ n5_ n6_; clear hb hbox hg; have hnb5 := NB289_290.out; have hnc5 := NB290_289.out; have hcz6_0 : w4.cell? ⟨gb289, 0, none⟩ = some (.int .i64 a0_0) := (blk_cell BK289.out 0).trans rfl; have hcz6_1 : w4.cell? ⟨gb289, 1, none⟩ = some (.int .i64 a0_1) := (blk_cell BK289.out 1).trans rfl; have hcz6_2 : w4.cell? ⟨gb289, 2, none⟩ = some (.int .i64 a0_2) := (blk_cell BK289.out 2).trans rfl; have hcz6_3 : w4.cell? ⟨gb289, 3, none⟩ = some (.slice A0_3 l0_3.length c0_3) := (blk_cell BK289.out 3).trans rfl; have hfz6_0 := blk_frozen BK289.out 0; have hfz6_1 := blk_frozen BK289.out 1; have hfz6_2 := blk_frozen BK289.out 2; have hfz6_3 := blk_frozen BK289.out 3) | ((with_reducible refine gate_callee (f := 49) rfl ?_); refine goesL_ (some 5) rfl rfl Try.func49 (by kernel_rfl) rfl #[.slice A0_3 l0_3.length c0_3] rfl (by (try simp only [List.map_toArray, List.map_cons, List.map_nil]); first | done | rfl | (simp only [List.length_drop, List.length_take]; rfl)) ?_; (with_reducible refine (slices_Clone_byte_byte.calls _ _ l0_3 t291 _ ?side1 ?side2 A2.out).mono ?_); (case side1 => repeat (first | exact (Kd.C_below HR0_3.out HB.out) | (with_reducible refine Kd.C_alloc ?_ _) | (with_reducible refine Kd.C_drewN ?_ _) | (with_reducible refine Kd.C_drew ?_))); (case side2 => exact HC0_3.out); rintro e w7 ⟨v292, rfl, ho0, hb⟩; refine ⟨_, rfl, ?_⟩; have n0_ := Aside0.mk (Kd.R_lower ho0 (below_size (by repeat (first | (with_reducible first | exact HB.out | apply below_alloc | apply pw_below_drewN | apply below_drew1 | refine below_set ?_ GE289.out | refine below_set ?_ GE290.out) | exact HB.out)))); have n1_ := Aside0.mk (blk_below (g := gb289) (o := .cells #[.int .i64 a0_0, .int .i64 a0_1, .int .i64 a0_2, .slice A0_3 l0_3.length c0_3] 56 (0, 0)) (by (with_reducible repeat (first | refine blk_drewN ?_ _ | refine blk_drew ?_ | refine blk_alloc ?_ _)); exact BK289.out) hb); have n2_ := Aside0.mk (blk_below (g := gb290) (o := .cells #[.int .i64 0, .int .i64 0, .int .i64 0, .slice none 0 0] 56 (0, 0)) (by (with_reducible repeat (first | refine blk_drewN ?_ _ | refine blk_drew ?_ | refine blk_alloc ?_ _)); exact BK290.out) hb); have n3_ := Aside0.mk (below_step (by repeat (first | (with_reducible first | exact HB.out | apply below_alloc | apply pw_below_drewN | apply below_drew1 | refine below_set ?_ GE289.out | refine below_set ?_ GE290.out) | exact HB.out)) hb); clear BK289; clear BK290; clear HB; have HO293 := n0_; have BK289 := n1_; have BK290 := n2_; have HB := n3_; clear n0_ n1_ n2_ n3_; (try clear hb); (try clear hb2); (try clear hk); (try clear hi); (try clear ho0); obtain ⟨Ao8, co8, eo8⟩ := Kd.R_slice HO293.out; subst eo8; have hcz9_0 : w7.cell? ⟨gb289, 0, none⟩ = some (.int .i64 a0_0) := (blk_cell BK289.out 0).trans rfl; have hcz9_1 : w7.cell? ⟨gb289, 1, none⟩ = some (.int .i64 a0_1) := (blk_cell BK289.out 1).trans rfl; have hcz9_2 : w7.cell? ⟨gb289, 2, none⟩ = some (.int .i64 a0_2) := (blk_cell BK289.out 2).trans rfl; have hcz9_3 : w7.cell? ⟨gb289, 3, none⟩ = some (.slice A0_3 l0_3.length c0_3) := (blk_cell BK289.out 3).trans rfl; have hfz9_0 := blk_frozen BK289.out 0; have hfz9_1 := blk_frozen BK289.out 1; have hfz9_2 := blk_frozen BK289.out 2; have hfz9_3 := blk_frozen BK289.out 3; have hcz10_0 : w7.cell? ⟨gb290, 0, none⟩ = some (.int .i64 0) := (blk_cell BK290.out 0).trans rfl; have hcz10_1 : w7.cell? ⟨gb290, 1, none⟩ = some (.int .i64 0) := (blk_cell BK290.out 1).trans rfl; have hcz10_2 : w7.cell? ⟨gb290, 2, none⟩ = some (.int .i64 0) := (blk_cell BK290.out 2).trans rfl; have hcz10_3 : w7.cell? ⟨gb290, 3, none⟩ = some (.slice none 0 0) := (blk_cell BK290.out 3).trans rfl; have hfz10_0 := blk_frozen BK290.out 0; have hfz10_1 := blk_frozen BK290.out 1; have hfz10_2 := blk_frozen BK290.out 2; have hfz10_3 := blk_frozen BK290.out 3))
  refine bodyPost_ret (results_cell_row rfl _ _ gb290 56 #[.int .i64 a0_0, .int .i64 a0_1, .int .i64 a0_2, .slice Ao8 t291.length co8] (0, 0) _ rfl (by (with_reducible repeat (first | refine blk_drewN ?_ _ | refine blk_drew ?_ | refine blk_alloc ?_ _)); refine blk_put (cs := #[.int .i64 a0_0, .int .i64 a0_1, .int .i64 a0_2, .slice none 0 0]) ?_ 3 _ rfl; (with_reducible repeat (first | refine blk_drewN ?_ _ | refine blk_drew ?_ | refine blk_alloc ?_ _)); refine blk_put (cs := #[.int .i64 a0_0, .int .i64 a0_1, .int .i64 0, .slice none 0 0]) ?_ 2 _ rfl; (with_reducible repeat (first | refine blk_drewN ?_ _ | refine blk_drew ?_ | refine blk_alloc ?_ _)); refine blk_put (cs := #[.int .i64 a0_0, .int .i64 0, .int .i64 0, .slice none 0 0]) ?_ 1 _ rfl; (with_reducible repeat (first | refine blk_drewN ?_ _ | refine blk_drew ?_ | refine blk_alloc ?_ _)); refine blk_put (cs := #[.int .i64 0, .int .i64 0, .int .i64 0, .slice none 0 0]) ?_ 0 _ rfl; (with_reducible repeat (first | refine blk_drewN ?_ _ | refine blk_drew ?_ | refine blk_alloc ?_ _)); refine blk_far ?_ NB290_289.out _; (with_reducible repeat (first | refine blk_drewN ?_ _ | refine blk_drew ?_ | refine blk_alloc ?_ _)); exact BK290.out) Try.underlying56 rfl (by kernel_rfl)) rfl ?_
  exact ⟨_, by first | rfl | (simp [errW_none, errW_some] <;> rfl) | (simp [*, errW_none, errW_some] <;> rfl), by (with_reducible repeat (first | apply Kd.R_alloc | apply Kd.R_drewN | apply Kd.R_drew)); exact Kd.R_mono (Kd.R_far (p := ⟨gb290, 3, none⟩) (Kd.R_far (p := ⟨gb290, 2, none⟩) (Kd.R_far (p := ⟨gb290, 1, none⟩) (Kd.R_far (p := ⟨gb290, 0, none⟩) (Kd.R_far (p := ⟨gb289, 3, none⟩) (Kd.R_types (Kd.R_types HO293.out BK289.out (by decide)) BK290.out (by decide)) (fun _ hk => hk.1.2) (.slice Ao8 t291.length co8)) (fun _ hk => hk.2) (.int .i64 a0_0)) (fun _ hk => hk.2) (.int .i64 a0_1)) (fun _ hk => hk.2) (.int .i64 a0_2)) (fun _ hk => hk.2) (.slice Ao8 t291.length co8)) (fun _ hk => trivial), by repeat (first | (with_reducible first | exact HB.out | apply below_alloc | apply pw_below_drewN | apply below_drew1 | refine below_set ?_ GE289.out | refine below_set ?_ GE290.out) | exact HB.out)⟩

end Go.Proofs.Ytccabdgfjcjpoaa.X
-- Written by a program of this session (a turn of the kit's print with contracts by hand). Not trusted: Lean checks it.
namespace Go.Proofs.Ytccabdgfjcjpoaa.X
open Go.RowKit Go.Proofs.YtccabdgfjcjpoaaW.PrintWords Go.Proofs.YtccabdgfjcjpoaaW.PrintLast Go.Proofs.YtccabdgfjcjpoaaW.PrintMore
attribute [local go_sem] max2_int min2_int max_two min_two max_three min_three max_four min_four   -- for this text's walks alone
set_option linter.unusedVariables false
set_option linter.unusedSimpArgs false

/-! ### net_list: function 40 -/
def net_list.l0 : Nat → List (S56) → List (S56) → Int → Int → Option ((List (S56)))
  | 0, _, _, _, _ => none
  | k + 1, x3, x6, x7, x8 => if x8 < x7 then (if 0 ≤ x8 then (if x8 < (x6.length : Int) then ((net_copied.f ((rd_T56 x6 x8).f0) ((rd_T56 x6 x8).f1) ((rd_T56 x6 x8).f2) ((rd_T56 x6 x8).f3)).bind fun bt296 => (if x3.length < 2932031007402 then (net_list.l0 k (x3 ++ [(⟨bt296.1, bt296.2.1, bt296.2.2.1, bt296.2.2.2⟩ : S56)]) x6 x7 (wrap64 (x8 + 1))) else (none))) else (none)) else (none)) else (some x3)
def net_list.f (k : Nat) (l0 : List (S56)) : Option ((List (S56))) := net_list.l0 k ([] : List (S56)) l0 (l0.length : Int) 0
theorem net_list.mono_l : ∀ k, (∀ y0 y1 y2 y3, LeO (net_list.l0 k y0 y1 y2 y3) (net_list.l0 (k + 1) y0 y1 y2 y3))
  | 0 => fun _ _ _ _ r h => by simp [net_list.l0] at h
  | k + 1 => by
    have ih0 := net_list.mono_l k
    · intro y0 y1 y2 y3
      unfold net_list.l0
      repeat' first
      | (with_reducible exact ih0 _ _ _ _)
      | (with_reducible exact LeO.refl _)
      | (with_reducible exact LeO.none _)
      | (with_reducible refine LeO.ite ?_ ?_)
      | (with_reducible refine LeO.bind ?_ (fun _ => ?_))
      | exact ih0 _ _ _ _
      | exact LeO.none _
      | refine LeO.ite ?_ ?_
      | refine LeO.bind ?_ (fun _ => ?_)
theorem net_list.mono : ∀ a0 k, LeO (net_list.f k a0) (net_list.f (k + 1) a0) := by
  intro a0 k
  have ih0 := net_list.mono_l k
  unfold net_list.f
  repeat' first
      | (with_reducible exact ih0 _ _ _ _)
      | (with_reducible exact LeO.refl _)
      | (with_reducible exact LeO.none _)
      | (with_reducible refine LeO.ite ?_ ?_)
      | (with_reducible refine LeO.bind ?_ (fun _ => ?_))
      | exact ih0 _ _ _ _
      | exact LeO.none _
      | refine LeO.ite ?_ ?_
      | refine LeO.bind ?_ (fun _ => ?_)
set_option maxHeartbeats 8000000 in
set_option maxRecDepth 100000 in
theorem net_list.calls (k : Nat) (A0 : Option Addr) (c0 : Nat) (l0 : List (S56)) (r : List (S56)) (w : World) (hr0 : Kd.C k56 w A0 l0.length l0) (hc0 : l0.length ≤ c0) (h : net_list.f k l0 = some r) :
    Calls Try.prog 40 #[.slice A0 l0.length c0] w fun e w' => ∃ v0_ : Value, e = .returned (v0_) ∧ Kd.S k56 56 w' w.heap.size (fun _ => True) v0_ r ∧ Below w.heap.size w w' := by
  have hu56 := Try.underlying56
  have HR0 := Aside0.mk hr0
  have HC0 := Aside0.mk hc0
  clear hr0 hc0
  have HB := Aside0.mk (Below.refl w.heap.size w)
  have H : (net_list.l0 k ([] : List (S56)) l0 (l0.length : Int) 0) = some r := h
  clear h
  have H' := Aside0.mk H
  clear H
  go_enter Try.func40, Try.ntmps40
  go_wp2
  go_loopg [3, 8] k (fun kq v3 v8 w' => ∃ (x3_1 : List (S56)) (x8_1 : Int), v8 = .int .i64 x8_1 ∧ Aside0 (net_list.l0 kq x3_1 l0 (l0.length : Int) x8_1 = some r) ∧ Aside0 (kq ≤ k) ∧ Aside0 (Kd.S k56 56 w' w.heap.size (fun _ => True) v3 x3_1) ∧ Aside0 (Below w.heap.size w w'))
  case atStart => exact ⟨(([] : List (S56))), (0), (by first | rfl | (simp; done) | (simp [*]; done)), H', ⟨Nat.le_refl _⟩, ⟨by first | exact Kd.S_nil _ _ _ _ _ | exact Kd.N_nil _ _ _ _ _ | exact Kd.V_nil _ _ _ _ _ | exact Kd.Q_nil _ _ _ _ _ | exact Kd.R_nil _ _ _ _ _⟩, ⟨by repeat (first | (with_reducible first | exact HB.out | apply below_alloc | apply pw_below_drewN | apply below_drew1) | exact HB.out)⟩⟩
  case round =>
    clear H'
    obtain ⟨x3_1, x8_1, rfl, HA, HK1, HO_3, HB⟩ := hrel
    cases gk with
    | zero => exact absurd HA.out (by simp [net_list.l0])
    | succ k1 =>
      have H := HA.out
      clear HA
      simp only [net_list.l0] at H
      by_cases c2 : x8_1 < (l0.length : Int)
      · rw [if_pos c2] at H
        have c2b0 : decide (x8_1 < (l0.length : Int)) = true := decide_eq_true c2
        clear c2
        by_cases c3 : 0 ≤ x8_1
        · rw [if_pos c3] at H
          have c3b0 : decide (0 ≤ x8_1) = true := decide_eq_true c3
          clear c3
          by_cases c4 : x8_1 < (l0.length : Int)
          · rw [if_pos c4] at H
            have c4b0 : decide (x8_1 < (l0.length : Int)) = true := decide_eq_true c4
            clear c4
            replace H := Option.bind_eq_some_iff.mp H
            obtain ⟨⟨t296, t297, t298, t299⟩, A50, H⟩ := H
            replace H : (if x3_1.length < 2932031007402 then (net_list.l0 k1 (x3_1 ++ [(⟨t296, t297, t298, t299⟩ : S56)]) l0 (l0.length : Int) (wrap64 (x8_1 + 1))) else (none)) = some r := H
            have A5 := Aside0.mk A50
            clear A50
            by_cases c6 : x3_1.length < 2932031007402
            · rw [if_pos c6] at H
              have LMc6 := Aside0.mk c6
              clear c6
              obtain ⟨y302, hy302⟩ : ∃ y_ : List (S56), y_ = (x3_1 ++ [(⟨t296, t297, t298, t299⟩ : S56)]) := ⟨_, rfl⟩
              replace H : (net_list.l0 k1 y302 l0 (l0.length : Int) (wrap64 (x8_1 + 1))) = some r := by first | (rw [hy302]; with_reducible exact H) | (have H2_ := (Option.bind_some _ _).symm.trans H; rw [hy302]; with_reducible exact H2_) | (have H2_ := (Option.bind_some _ _).symm.trans H; with_reducible exact H2_) | with_reducible exact H | (rw [hy302]; exact H) | exact H
              have Ny302 := Aside0.mk hy302
              clear hy302
              have H' := Aside0.mk H
              clear H
              have p294 : 0 ≤ (x8_1 : Int) := of_decide_eq_true (by first | (with_reducible assumption) | assumption)
              have q294 : x8_1 < (l0.length : Int) := of_decide_eq_true (by first | (with_reducible assumption) | assumption)
              obtain ⟨ad294, A294_3, c294_3, e294, hx294_0, hx294_1, hx294_2, hx294_3, hl294_3, hi294_3⟩ := at_T56 HR0.out x8_1 p294 q294
              cases e294
              replace hx294_0 := (HB.out.cell (World.block_lt_of_cell? w _ hx294_0)).trans hx294_0
              replace hx294_1 := (HB.out.cell (World.block_lt_of_cell? w _ hx294_1)).trans hx294_1
              replace hx294_2 := (HB.out.cell (World.block_lt_of_cell? w _ hx294_2)).trans hx294_2
              replace hx294_3 := (HB.out.cell (World.block_lt_of_cell? w _ hx294_3)).trans hx294_3
              have HR294_3 := Aside0.mk hi294_3
              have HC294_3 := Aside0.mk hl294_3
              clear hi294_3 hl294_3
              replace p294 := eq_true p294
              replace q294 := eq_true q294
              go_wp2_with (first | ((with_reducible refine gate_dst (N := 5) rfl ?_); refine box_event ?hg (N := 5) ?hd (cs := #[.int .i64 0, .int .i64 0, .int .i64 0, .slice none 0 0]) (t := 56) ?hr ?_; (case hd => rfl); (case hg => rfl); (case hr => first | (go_simp; done) | (go_simp; rfl)); intro gb295 hg w7 hbox hb; have n0_ := Aside0.mk (Kd.S_below (Kd.S_elderB (by (with_reducible repeat (first | apply Kd.S_alloc | apply Kd.S_drewN | apply Kd.S_drew)); exact HO_3.out) gb295 (Nat.le_of_eq hg.symm)) hb); have n1_ := Aside0.mk (below_step (by repeat (first | (with_reducible first | exact HB.out | apply below_alloc | apply pw_below_drewN | apply below_drew1) | exact HB.out)) hb); have n2_ := Aside0.mk (hbox); have n3_ := Aside0.mk ((by rw [hg]; exact (below_size (by repeat (first | (with_reducible first | exact HB.out | apply below_alloc | apply pw_below_drewN | apply below_drew1) | exact HB.out))) : w.heap.size ≤ gb295)); have n4_ := Aside0.mk ((by rw [hg]; exact (below_size (by repeat (first | (with_reducible first | exact HB.out | apply below_alloc | apply pw_below_drewN | apply below_drew1) | exact HB.out))) : w.heap.size ≤ gb295)); clear HO_3; clear HB; have HO_3 := n0_; have HB := n1_; have BK295 := n2_; have GW295 := n3_; have GE295 := n4_; clear n0_ n1_ n2_ n3_ n4_; clear hb hbox hg; have hcz8_0 : w7.cell? ⟨gb295, 0, none⟩ = some (.int .i64 0) := (blk_cell BK295.out 0).trans rfl; have hcz8_1 : w7.cell? ⟨gb295, 1, none⟩ = some (.int .i64 0) := (blk_cell BK295.out 1).trans rfl; have hcz8_2 : w7.cell? ⟨gb295, 2, none⟩ = some (.int .i64 0) := (blk_cell BK295.out 2).trans rfl; have hcz8_3 : w7.cell? ⟨gb295, 3, none⟩ = some (.slice none 0 0) := (blk_cell BK295.out 3).trans rfl; have hfz8_0 := blk_frozen BK295.out 0; have hfz8_1 := blk_frozen BK295.out 1; have hfz8_2 := blk_frozen BK295.out 2; have hfz8_3 := blk_frozen BK295.out 3) | ((with_reducible refine gate_callee (f := 44) rfl ?_); refine goesL_ (some 14) rfl rfl Try.func44 (by kernel_rfl) rfl #[.agg #[.int .i64 ((rd_T56 l0 x8_1).f0), .int .i64 ((rd_T56 l0 x8_1).f1), .int .i64 ((rd_T56 l0 x8_1).f2), .slice A294_3 ((rd_T56 l0 x8_1).f3).length c294_3]] rfl (by (try simp only [List.map_toArray, List.map_cons, List.map_nil]); first | done | rfl | (simp only [List.length_drop, List.length_take]; rfl)) ?_; (with_reducible refine (net_copied.calls ((rd_T56 l0 x8_1).f0) ((rd_T56 l0 x8_1).f1) ((rd_T56 l0 x8_1).f2) _ _ ((rd_T56 l0 x8_1).f3) t296 t297 t298 t299 _ ?side1 ?side2 A5.out).mono ?_); (case side1 => exact Kd.C_below HR294_3.out (by repeat (first | (with_reducible first | exact HB.out | apply below_alloc | apply pw_below_drewN | apply below_drew1 | refine below_set ?_ GE295.out) | exact HB.out))); (case side2 => exact HC294_3.out); rintro e w9 ⟨v300, rfl, ho0, hb⟩; refine ⟨_, rfl, ?_⟩; have n0_ := Aside0.mk (Kd.S_elder' (by (with_reducible repeat (first | apply Kd.S_alloc | apply Kd.S_drewN | apply Kd.S_drew)); exact (Kd.S_mono (Kd.S_far (p := ⟨gb295, 3, none⟩) (Kd.S_far (p := ⟨gb295, 2, none⟩) (Kd.S_far (p := ⟨gb295, 1, none⟩) (Kd.S_far (p := ⟨gb295, 0, none⟩) (Kd.S_mono HO_3.out (fun k_ hk => (⟨hk, hk.2⟩ : _ ∧ k_ ≠ gb295))) (fun _ hk => hk.2) (.int .i64 ((rd_T56 l0 x8_1).f0))) (fun _ hk => hk.2) (.int .i64 ((rd_T56 l0 x8_1).f1))) (fun _ hk => hk.2) (.int .i64 ((rd_T56 l0 x8_1).f2))) (fun _ hk => hk.2) (.slice A294_3 ((rd_T56 l0 x8_1).f3).length c294_3)) (fun _ h_ => h_.1))) (Kd.R_base ho0) hb); have n1_ := Aside0.mk (Kd.R_lower ho0 (below_size (by repeat (first | (with_reducible first | exact HB.out | apply below_alloc | apply pw_below_drewN | apply below_drew1 | refine below_set ?_ GE295.out) | exact HB.out)))); have n2_ := Aside0.mk (blk_below (g := gb295) (o := .cells #[.int .i64 ((rd_T56 l0 x8_1).f0), .int .i64 ((rd_T56 l0 x8_1).f1), .int .i64 ((rd_T56 l0 x8_1).f2), .slice A294_3 ((rd_T56 l0 x8_1).f3).length c294_3] 56 (0, 0)) (by (with_reducible repeat (first | refine blk_drewN ?_ _ | refine blk_drew ?_ | refine blk_alloc ?_ _)); refine blk_put (cs := #[.int .i64 ((rd_T56 l0 x8_1).f0), .int .i64 ((rd_T56 l0 x8_1).f1), .int .i64 ((rd_T56 l0 x8_1).f2), .slice none 0 0]) ?_ 3 _ rfl; (with_reducible repeat (first | refine blk_drewN ?_ _ | refine blk_drew ?_ | refine blk_alloc ?_ _)); refine blk_put (cs := #[.int .i64 ((rd_T56 l0 x8_1).f0), .int .i64 ((rd_T56 l0 x8_1).f1), .int .i64 0, .slice none 0 0]) ?_ 2 _ rfl; (with_reducible repeat (first | refine blk_drewN ?_ _ | refine blk_drew ?_ | refine blk_alloc ?_ _)); refine blk_put (cs := #[.int .i64 ((rd_T56 l0 x8_1).f0), .int .i64 0, .int .i64 0, .slice none 0 0]) ?_ 1 _ rfl; (with_reducible repeat (first | refine blk_drewN ?_ _ | refine blk_drew ?_ | refine blk_alloc ?_ _)); refine blk_put (cs := #[.int .i64 0, .int .i64 0, .int .i64 0, .slice none 0 0]) ?_ 0 _ rfl; (with_reducible repeat (first | refine blk_drewN ?_ _ | refine blk_drew ?_ | refine blk_alloc ?_ _)); exact BK295.out) hb); have n3_ := Aside0.mk (below_step (by repeat (first | (with_reducible first | exact HB.out | apply below_alloc | apply pw_below_drewN | apply below_drew1 | refine below_set ?_ GE295.out) | exact HB.out)) hb); clear HO_3; clear BK295; clear HB; have HO_3 := n0_; have HO301 := n1_; have BK295 := n2_; have HB := n3_; clear n0_ n1_ n2_ n3_; (try clear hb); (try clear hb2); (try clear hk); (try clear hi); (try clear ho0); obtain ⟨Ao11, co11, eo11⟩ := Kd.R_slice HO301.out; subst eo11) | ((with_reducible refine gate_builtin (b := .append) (xs := #[.tmp 12, .tmp 15]) rfl ?_); at_builtin; refine Kd.S_append k56 (w0 := w) w.heap.size rfl (.tmp 12) (.tmp 15) 53 56 (.agg #[(.int .i64 0), (.int .i64 0), (.int .i64 0), (.slice none 0 0)]) 48 rfl Try.underlying53 info56 rfl (by decide) (by omega) u3 x3_1 (⟨t296, t297, t298, t299⟩ : S56) [.int .i64 t296, .int .i64 t297, .int .i64 t298, .slice Ao11 t299.length co11] (fun k_ => k_ ≠ gb295) (fun k_ => some k_ = (.slice Ao11 t299.length co11 : Value).ownBlock) rfl rfl ?aP (fun k_ hk_ => ((Kd.R_mono (ok' := fun k_ => ((fun k_ => k_ ≠ gb295)) k_ ∧ some k_ ≠ (u3 : Value).ownBlock) (Kd.R_types (Kd.R_apart' (HO301.out) (Kd.S_typed HO_3.out) (by decide)) BK295.out (by decide)) (fun k_ hk => ⟨hk.2, hk.1.2⟩))).1 k_ hk_.symm) ?aF ?aO ?aB ?aS ?aL ?_; (case aP => exact k56_mkM _ _ _ (⟨t296, t297, t298, t299⟩ : S56) (Kd.R_mono (Kd.R_tight rfl (Kd.R_mono (ok' := fun k_ => ((fun k_ => k_ ≠ gb295)) k_ ∧ some k_ ≠ (u3 : Value).ownBlock) (Kd.R_types (Kd.R_apart' (HO301.out) (Kd.S_typed HO_3.out) (by decide)) BK295.out (by decide)) (fun k_ hk => ⟨hk.2, hk.1.2⟩))) (fun _ h_ => h_))); (case aB => exact (by repeat (first | (with_reducible first | exact HB.out | apply below_alloc | apply pw_below_drewN | apply below_drew1 | refine below_set ?_ GE295.out) | exact HB.out))); (case aF => exact (fun k_ hk => Kd.freshB (g := gb295) (o := .cells #[.int .i64 ((rd_T56 l0 x8_1).f0), .int .i64 ((rd_T56 l0 x8_1).f1), .int .i64 ((rd_T56 l0 x8_1).f2), .slice A294_3 ((rd_T56 l0 x8_1).f3).length c294_3] 56 (0, 0)) (by (with_reducible repeat (first | refine blk_drewN ?_ _ | refine blk_drew ?_ | refine blk_alloc ?_ _)); exact BK295.out) k_ hk)); (case aO => exact (by (with_reducible repeat (first | apply Kd.S_alloc | apply Kd.S_drewN | apply Kd.S_drew)); exact Kd.S_mono HO_3.out (fun k_ hk => ⟨hk.1.2, fun e_ => hk.2 e_⟩))); (case aS => exact (below_size (by repeat (first | (with_reducible first | exact HB.out | apply below_alloc | apply pw_below_drewN | apply below_drew1 | refine below_set ?_ GE295.out) | exact HB.out)))); (case aL => have := LMc6.out; omega); intro v303 w10 ho hb hg hat; rw [← Ny302.out] at ho; have n0_ := Aside0.mk (blk_grown (g := gb295) (o := .cells #[.int .i64 ((rd_T56 l0 x8_1).f0), .int .i64 ((rd_T56 l0 x8_1).f1), .int .i64 ((rd_T56 l0 x8_1).f2), .slice A294_3 ((rd_T56 l0 x8_1).f3).length c294_3] 56 (0, 0)) (by (with_reducible repeat (first | refine blk_drewN ?_ _ | refine blk_drew ?_ | refine blk_alloc ?_ _)); exact BK295.out) hg (Kd.S_away HO_3.out (fun _ hk => hk.1.2))); have n1_ := Aside0.mk (hb); have n2_ := Aside0.mk (ho); clear BK295; clear HB; clear HO_3; clear HO301; have BK295 := n0_; have HB := n1_; have HO304 := n2_; clear n0_ n1_ n2_; clear ho hb hg hat))
              go_roundg k1
              case measure => have := HK1.out; omega
              case rel => exact ⟨(y302), (wrap64 (x8_1 + 1)), (by first | rfl | (simp; done) | (simp [*]; done)), H', ⟨by have := HK1.out; omega⟩, ⟨by (with_reducible repeat (first | apply Kd.S_alloc | apply Kd.S_drewN | apply Kd.S_drew)); exact Kd.S_mono HO304.out (fun _ hk => trivial)⟩, ⟨by repeat (first | (with_reducible first | exact HB.out | apply below_alloc | apply pw_below_drewN | apply below_drew1 | refine below_set ?_ GE295.out) | exact HB.out)⟩⟩
            · rw [if_neg c6] at H
              exact absurd H (by simp)
          · rw [if_neg c4] at H
            exact absurd H (by simp)
        · rw [if_neg c3] at H
          exact absurd H (by simp)
      · rw [if_neg c2] at H
        have c2b0 : decide (x8_1 < (l0.length : Int)) = false := decide_eq_false c2
        clear c2
        obtain rfl := Option.some.inj H
        go_wp2
        go_ret
        exact ⟨_, by first | rfl | (simp [errW_none, errW_some] <;> rfl) | (simp [*, errW_none, errW_some] <;> rfl), by (with_reducible repeat (first | apply Kd.S_alloc | apply Kd.S_drewN | apply Kd.S_drew)); exact HO_3.out, by repeat (first | (with_reducible first | exact HB.out | apply below_alloc | apply pw_below_drewN | apply below_drew1) | exact HB.out)⟩

end Go.Proofs.Ytccabdgfjcjpoaa.X
/- slices.DeleteFunc over mails, in place: net.To. -/
namespace Go.Proofs.Ytccabdgfjcjpoaa.X
open Go.RowKit Go.Proofs.YtccabdgfjcjpoaaW.PrintWords Go.Proofs.YtccabdgfjcjpoaaW.PrintLast Go.Proofs.YtccabdgfjcjpoaaW.PrintMore
set_option linter.unusedVariables false
set_option linter.unusedSimpArgs false

abbrev aggM (t : S56) (A : Option Addr) (c : Nat) : Value := .agg #[.int .i64 t.f0, .int .i64 t.f1, .int .i64 t.f2, .slice A t.f3.length c]
theorem s56 : (Try.prog.info? 56).map (·.size) = some 4 := by kernel_rfl
theorem one56 (a b c : Int) (A : Option Addr) (n m : Nat) : #[Value.int .i64 a, .int .i64 b, .int .i64 c, .slice A n m].all (·.oneCell') = true := by simp [Value.oneCell']
theorem i56b : (Try.prog.info? 56).map (fun i => (i.zero, i.size)) = some (some (.agg #[.int .i64 0, .int .i64 0, .int .i64 0, .slice none 0 0]), 4) := by kernel_rfl
/-- Where the first is that fits. -/
def idxM (p : S56 → Bool) (l : List S56) : Int := match l.findIdx? p with | some i => (i : Int) | none => -1
theorem idxM_at {p : S56 → Bool} {l : List S56} {i : Nat} (hi : i < l.length) (hp : p l[i] = true) (hb : ∀ j (h : j < l.length), j < i → p l[j] = false) : idxM p l = i := by
  have : l.findIdx? p = some i := by
    rw [List.findIdx?_eq_some_iff_getElem]
    exact ⟨hi, hp, fun j hj => by simpa using hb j (by omega) hj⟩
  rw [idxM, this]
theorem idxM_none {p : S56 → Bool} {l : List S56} (hb : ∀ j (h : j < l.length), p l[j] = false) : idxM p l = -1 := by
  have : l.findIdx? p = none := by
    rw [List.findIdx?_eq_none_iff]
    intro x hx
    obtain ⟨j, hj, rfl⟩ := List.getElem_of_mem hx
    exact hb j hj
  rw [idxM, this]

set_option maxRecDepth 100000 in
set_option maxHeartbeats 4000000 in
theorem index46 (A : Option Addr) (c : Nat) (l : List S56) (cap : Value) (p : S56 → Bool) (w : World) (hr : Kd.C k56 w A l.length l) (hc : l.length ≤ c)
    (hp : ∀ (t : S56) (A : Option Addr) (c : Nat), t ∈ l → ∀ W : World, Below w.heap.size w W → Calls Try.prog 46 #[aggM t A c, cap] W fun e w' => e = .returned (.bool (p t)) ∧ Below W.heap.size W w') :
    Calls Try.prog 50 #[.slice A l.length c, .func (.func 46) #[] #[cap]] w fun e w' => e = .returned (.int .i64 (idxM p l)) ∧ Below w.heap.size w w' := by
  have HR := Lib.hid hr
  have HC := Lib.hid hc
  have HP := Lib.hid hp
  have HMX := Lib.hid (Kd.C_max hr)
  clear hr hc hp
  go_enter Try.func50, Try.ntmps50
  go_wp2
  go_loopg [8] (l.length + 1) (fun kq v8 w' => ∃ i : Nat, v8 = .int .i64 (i : Int) ∧ Hid (i ≤ l.length ∧ kq + i = l.length + 1) ∧ Hid (Below w.heap.size w w' ∧ ∀ j (h : j < l.length), j < i → p l[j] = false))
  case atStart => exact ⟨0, rfl, Lib.hid ⟨by omega, rfl⟩, Lib.hid ⟨Below.refl _ _, fun j _ h => absurd h (Nat.not_lt_zero _)⟩⟩
  case round =>
    obtain ⟨i, rfl, hi, hI⟩ := hrel
    by_cases ci : i < l.length
    · have c1 : decide ((i : Int) < (l.length : Int)) = true := decide_eq_true (by omega)
      have c2 : decide (i < l.length) = true := decide_eq_true ci
      have p0 : 0 ≤ (i : Int) := by omega
      have p1 : (i : Int) < (l.length : Int) := by omega
      obtain ⟨ad, A3, c3, e0, x0, x1, x2, x3, _, _⟩ := at_T56 (Kd.C_below HR.out hI.out.1) (i : Int) p0 p1
      cases e0
      rw [Int.toNat_natCast] at x0 x1 x2 x3
      obtain ⟨y, hy⟩ : ∃ y, rd_T56 l (i : Int) = y := ⟨_, rfl⟩
      rw [hy] at x0 x1 x2 x3
      have hyl : l[i] = y := by rw [← hy]; simp [rd_T56, List.getD_eq_getElem?_getD, ci]
      have hcall := HP.out y A3 c3 (by rw [← hyl]; exact List.getElem_mem ci) wr hI.out.1
      have HCI := Lib.hid ci
      have HY : Hid (∀ h : i < l.length, l[i]'h = y) := Lib.hid (fun _ => hyl)
      replace p0 := eq_true p0
      replace p1 := eq_true p1
      cases hb : p y
      · rw [hb] at hcall
        have HB := Lib.hid hb
        clear hy hyl ci hb
        go_wp2_with (go_at_call 46; go_must ((with_reducible refine Calls.mono hcall ?_); rintro e w2 ⟨rfl, hb2⟩))
        have hB2 := below_step hI.out.1 hb2
        have HN := Lib.hid hB2
        clear hb2 hB2 x0 x1 x2 x3 hcall
        obtain ⟨k1, rfl⟩ : ∃ k1, gk = k1 + 1 := ⟨gk - 1, by have := hi.out; omega⟩
        go_roundg k1
        case measure => omega
        case rel => exact ⟨i + 1, congrArg (Value.int .i64) (by have := hi.out; have := HMX.out; have := HCI.out; unfold wrap64; omega), Lib.hid ⟨HCI.out, by have := hi.out; omega⟩, Lib.hid ⟨HN.out, fun j h hj => by
          rcases Nat.lt_or_ge j i with h' | h'
          · exact hI.out.2 j h h'
          · have : j = i := by omega
            subst this
            rw [HY.out h]; exact HB.out⟩⟩
      · rw [hb] at hcall
        have hix : idxM p l = i := idxM_at ci (by rw [hyl]; exact hb) hI.out.2
        have HIX := Lib.hid hix
        clear hy hyl ci hb hix
        go_wp2_with (go_at_call 46; go_must ((with_reducible refine Calls.mono hcall ?_); rintro e w2 ⟨rfl, hb2⟩))
        go_ret
        exact ⟨by rw [HIX.out]; rfl, below_step hI.out.1 hb2⟩
    · have c1 : decide ((i : Int) < (l.length : Int)) = false := decide_eq_false (by omega)
      have c2 : decide (i < l.length) = false := decide_eq_false ci
      have hix : idxM p l = -1 := idxM_none (fun j h => hI.out.2 j h (by have := hi.out; omega))
      have HIX := Lib.hid hix
      clear hix ci hi
      go_wp2
      go_ret
      exact ⟨by rw [HIX.out]; rfl, hI.out.1⟩

/-- Cells stored behind a beginning. -/
theorem setCells_cur (g : Nat) (t : TypeId) : ∀ (vs : List Value) (i : Nat) (w : World) (cur : Array Value), w.heap[g]? = some (.cells cur t (0, 0)) →
    ∃ cur', (w.setCells g i vs).heap[g]? = some (.cells cur' t (0, 0)) ∧ cur'.size = cur.size ∧ (∀ m, m ≤ i → cur'.toList.take m = cur.toList.take m) ∧ (w.setCells g i vs).heap.size = w.heap.size ∧ (∀ k, k ≠ g → (w.setCells g i vs).heap[k]? = w.heap[k]?) ∧ (∀ (v : World) B, Below B v w → B ≤ g → Below B v (w.setCells g i vs))
  | [], i, w, cur, h => ⟨cur, h, rfl, fun _ _ => rfl, rfl, fun _ _ => rfl, fun _ _ hb _ => hb⟩
  | v :: vs, i, w, cur, h => by
    have h1 := blk_set h i v
    obtain ⟨cur', q1, q2, q3, q4, q5, q6⟩ := setCells_cur g t vs (i + 1) (w.setCell ⟨g, i, none⟩ v) _ h1
    rw [World.setCells]
    refine ⟨cur', q1, by rw [q2, Array.size_setIfInBounds], fun m hm => ?_, q4.trans (World.size_setCell _ _ _), fun k hk => (q5 k hk).trans (Below.heap_setCell w ⟨g, i, none⟩ v k hk), fun u B hb hg => q6 u B (by exact hb.setCell hg _) hg⟩
    rw [q3 m (by omega), Array.toList_setIfInBounds, List.take_set_of_le hm]
theorem R_prefix {W : World} {base g n cap i off : Nat} {ys : List S56} {vs : List Value} (HO : Kd.R k56 56 W base (fun _ => True) (.slice (some ⟨g, 0, none⟩) n cap) ys) (hi : i ≤ ys.length) (ho : i * 4 ≤ off) :
    Kd.R k56 56 (W.setCells g off vs) base (fun _ => True) (.slice (some ⟨g, 0, none⟩) i cap) (ys.take i) := by
  obtain ⟨hok, inner, ⟨hlen, hown⟩, hr⟩ := Kd.R_take HO hi
  rcases hown with ⟨hv, _⟩ | ⟨g', cap', cur, hv, hb, hh, hnc, hcm, hcs, ht⟩
  · cases hv
  injection hv with ha _ hc
  injection ha with ha
  injection ha with hg
  subst hg; subst hc
  obtain ⟨cur', q1, q2, q3, q4, q5, q6⟩ := setCells_cur g 56 vs off W cur hh
  have hil : (ys.take i).length = i := by rw [List.length_take]; omega
  refine ⟨hok, inner, ⟨hlen, .inr ⟨g, cap, cur', by rw [hil], hb, q1, hnc, hcm, by rw [q2]; exact hcs, ?_⟩⟩, hr.imp_ (fun x cs hm => k56.M_move (fun k hk => q5 k (fun h => hk.2 (by simp [Value.ownBlock, h]))) hm)⟩
  rw [← ht, q3]
  rw [hil]
  exact ho
section
variable {ops : Array Oper} {rest : List Oper} {o : Oper} {a : Act} {Q : Exit → Act → World → Prop}
theorem clear_ev {w0 W : World} (hgd : o.guard = none) (hd : o.dst = none) (x : Operand) (ho : o.op = .call { callee := .builtin .clear, args := #[x], argTypes := #[53] }) (base g i n cap c' m : Nat) (ys : List S56) (hx : a.eval x = .slice (some ⟨g, i * 4, none⟩) m c') (hm : i + m = n)
    (HO : Kd.R k56 56 W base (fun _ => True) (.slice (some ⟨g, 0, none⟩) n cap) ys) (HB : Below base w0 W)
    (h : ∀ w1, Kd.R k56 56 w1 base (fun _ => True) (.slice (some ⟨g, 0, none⟩) i cap) (ys.take i) → Below base w0 w1 → wpList Try.prog ops Q rest a w1) : wpList Try.prog ops Q (o :: rest) a W := by
  have hny : n = ys.length := (Kd.R_reads' HO).1
  have hbg := Kd.R_base HO g (by simp [Value.ownBlock])
  obtain ⟨vs, hvs⟩ : ∃ vs, (Builtin.zeroCells #[Value.int .i64 0, .int .i64 0, .int .i64 0, .slice none 0 0] m).toList = vs := ⟨_, rfl⟩
  have hvl : vs.length = m * 4 := by rw [← hvs, Array.length_toList, size_zeroCells]; rfl
  have hv1 : ∀ v ∈ vs, v.oneCell' = true := by
    rw [← hvs]
    intro v hv
    simp only [Builtin.zeroCells, Array.toList_map, List.mem_map] at hv
    obtain ⟨j, _, rfl⟩ := hv
    have hj : j % 4 = 0 ∨ j % 4 = 1 ∨ j % 4 = 2 ∨ j % 4 = 3 := by omega
    show (#[Value.int .i64 0, .int .i64 0, .int .i64 0, .slice none 0 0][j % 4]!).oneCell' = true
    rcases hj with h | h | h | h <;> rw [h] <;> rfl
  have HO2 := HO
  obtain ⟨_, inner, ⟨hlen, hown⟩, _⟩ := HO2
  rcases hown with ⟨hv, _⟩ | ⟨g', cap', cur, hv, hb, hh, hnc, hcm, hcs, ht⟩
  · cases hv
  injection hv with ha _ hc
  injection ha with ha
  injection ha with hg
  subst hg; subst hc
  have hsz : n * 4 ≤ cur.size := by
    rw [hcs, hny]
    exact Nat.mul_le_mul_right _ hnc
  obtain ⟨cur', q1, q2, q3, q4, q5, q6⟩ := setCells_cur g 56 vs (i * 4) W cur hh
  have hst := run_storeCells_cells (P := Try.prog) g (i * 4) vs 0 W (fun j hj => by
      rw [Nat.add_zero, blk_cell hh]
      rw [Array.getElem?_eq_getElem (by omega), Option.isSome_some]) (fun j hj => by rw [Nat.add_zero, blk_frozen hh]) hv1
  rw [Nat.add_zero] at hst
  refine wpList_plain hgd fun K hK => ?_
  have hK2 := hK a _ (h _ (R_prefix HO (by omega) (Nat.le_refl _)) (q6 w0 base HB hbg))
  obtain ⟨i56_, hi56, hz56⟩ := Option.map_eq_some_iff.1 (show (Try.prog.info? 56).map (·.zero) = some (some (.agg #[Value.int .i64 0, .int .i64 0, .int .i64 0, .slice none 0 0])) by kernel_rfl)
  have hz : (zeroValue 56).run Try.prog W = .ok (.agg #[Value.int .i64 0, .int .i64 0, .int .i64 0, .slice none 0 0]) W := by simp [zeroValue, typeInfo, hi56, hz56]
  have hu := run_underlying Try.underlying53 W
  have hrun : (Builtin.clear_ #[53] o.type #[.slice (some ⟨g, i * 4, none⟩) m c']).run Try.prog W = .ok (.tuple #[]) (W.setCells g (i * 4) vs) := by
    cases m with
    | zero =>
      have : vs = [] := List.eq_nil_of_length_eq_zero (by omega)
      subst this
      simp [Builtin.clear_, hu, World.setCells]
    | succ m =>
      simp only [Builtin.clear_, Sem.run_bind, hu, Result.andThen_ok]
      simp [hz, hu, Value.cells, hvs, hst]
  unfold Oper.wp
  have hex : (execOp a.eval o).run Try.prog W = .ok (.value (.tuple #[])) (W.setCells g (i * 4) vs) := by
    simp [execOp, ho, resolve, invoke, builtin, hx, hrun]
  rw [hex]
  simpa [Oper.upon, hd, Act.put] using hK2
end
theorem add0 (g n : Nat) : (⟨g, 0, none⟩ : Addr).add n = ⟨g, n, none⟩ := by
  simp only [Addr.add]
  split <;> simp_all
theorem filter_none {p : S56 → Bool} {l : List S56} (h : ∀ j (hj : j < l.length), p l[j] = false) : l.filter (fun t => !p t) = l := by
  rw [List.filter_eq_self]
  intro x hx
  obtain ⟨j, hj, rfl⟩ := List.getElem_of_mem hx
  simp [h j hj]
theorem seg_M56 {W : World} {base : Nat} {ok : Nat → Prop} {y : S56} {v3 : Value} (cc : List Value) (h : cc.length = k56.sz) (hv : (Kd.int .u8).R 5 W base ok v3 y.f3) : k56.M W base ok y (cc.take 0 ++ [.int .i64 y.f0, .int .i64 y.f1, .int .i64 y.f2, v3] ++ cc.drop (0 + [Value.int .i64 y.f0, .int .i64 y.f1, .int .i64 y.f2, v3].length)) := by
  have h5 : cc.length = 4 := h
  rw [List.drop_of_length_le (by simp; omega), List.take_zero, List.nil_append, List.append_nil]
  exact k56_mkM _ _ _ y hv
/-- Element j of a row of one's own: its cells, one by one. -/
theorem mail_elem {W : World} {base g n cap : Nat} {ok : Nat → Prop} {ys : List S56} (hR : Kd.R k56 56 W base ok (.slice (some ⟨g, 0, none⟩) n cap) ys) (j : Nat) (hj : j < n) (y : S56) (hy : rd_T56 ys (j : Int) = y) :
    ∃ A3 c3, W.cell? ⟨g, j * 4, none⟩ = some (.int .i64 y.f0) ∧ W.cell? ⟨g, j * 4 + 1, none⟩ = some (.int .i64 y.f1) ∧ W.cell? ⟨g, j * 4 + 2, none⟩ = some (.int .i64 y.f2) ∧ W.cell? ⟨g, j * 4 + 3, none⟩ = some (.slice A3 y.f3.length c3) ∧ (Kd.int .u8).R 5 W base (fun k => ok k ∧ k ≠ g) (.slice A3 y.f3.length c3) y.f3 := by
  obtain ⟨cc, hcl, hM, hcc, _⟩ := Kd.R_elem hR z56 (j : Int) (by omega) (by omega)
  rw [show ys.getD (j : Int).toNat z56 = y from hy] at hM
  obtain ⟨v3, rfl, hv⟩ := k56_openM hM
  obtain ⟨A3, c3, rfl⟩ := Kd.R_slice hv
  have h0 := hcc 0 _ rfl
  have h1 := hcc 1 _ rfl
  have h2 := hcc 2 _ rfl
  have h3 := hcc 3 _ rfl
  rw [Int.toNat_natCast] at h0 h1 h2 h3
  exact ⟨A3, c3, h0, h1, h2, h3, hv⟩
/-- What deleting in place keeps. -/
structure DelI (w0 : World) (gs cap : Nat) (l : List S56) (p : S56 → Bool) (i j : Nat) (ys : List S56) (W : World) : Prop where
  len : ys.length = l.length
  row : Kd.R k56 56 W w0.heap.size (fun _ => True) (.slice (some ⟨gs, 0, none⟩) l.length cap) ys
  left : ys.take i = (l.take j).filter (fun t => !p t)
  right : ys.drop j = l.drop j
  ij : i < j
  jl : j ≤ l.length
  below : Below w0.heap.size w0 W
theorem DelI.gs {w0 : World} {gs cap : Nat} {l : List S56} {p : S56 → Bool} {i j : Nat} {ys : List S56} {W : World} (h : DelI w0 gs cap l p i j ys W) : gs < W.heap.size := Kd.R_lt h.row gs (by simp [Value.ownBlock])
theorem DelI.at_ {w0 : World} {gs cap : Nat} {l : List S56} {p : S56 → Bool} {i j : Nat} {ys : List S56} {W : World} (h : DelI w0 gs cap l p i j ys W) (hj : j < l.length) : rd_T56 ys (j : Int) = l[j] := by
  have h1 : ys[j]? = l[j]? := by
    have := congrArg (fun x => x[0]?) h.right
    simpa [List.getElem?_drop] using this
  have h2 : j < ys.length := by rw [h.len]; exact hj
  rw [List.getElem?_eq_getElem hj, List.getElem?_eq_getElem h2] at h1
  simp [rd_T56, List.getD_eq_getElem?_getD, h2, Option.some.inj h1]
theorem DelI.skip {w0 : World} {gs cap : Nat} {l : List S56} {p : S56 → Bool} {i j : Nat} {ys : List S56} {W W1 : World} (h : DelI w0 gs cap l p i j ys W) (hj : j < l.length) (hp : p l[j] = true) (hr : Kd.R k56 56 W1 w0.heap.size (fun _ => True) (.slice (some ⟨gs, 0, none⟩) l.length cap) ys) (hb : Below w0.heap.size w0 W1) : DelI w0 gs cap l p i (j + 1) ys W1 := by
  refine ⟨h.len, hr, ?_, ?_, Nat.lt_succ_of_lt h.ij, hj, hb⟩
  · rw [h.left, List.take_succ_eq_append_getElem hj, List.filter_append]
    simp [List.filter_cons, hp]
  · have := congrArg (List.drop 1) h.right
    simpa [List.drop_drop, Nat.add_comm] using this
theorem DelI.put {w0 : World} {gs cap : Nat} {l : List S56} {p : S56 → Bool} {i j : Nat} {ys : List S56} {W W1 : World} (h : DelI w0 gs cap l p i j ys W) (hj : j < l.length) (hp : p l[j] = false) (hr : Kd.R k56 56 W1 w0.heap.size (fun _ => True) (.slice (some ⟨gs, 0, none⟩) l.length cap) (ys.set i l[j])) (hb : Below w0.heap.size w0 W1) : DelI w0 gs cap l p (i + 1) (j + 1) (ys.set i l[j]) W1 := by
  have hi : i < ys.length := by have := h.ij; have := h.len; omega
  refine ⟨by rw [List.length_set]; exact h.len, hr, ?_, ?_, Nat.succ_lt_succ h.ij, hj, hb⟩
  · rw [List.take_succ_eq_append_getElem hj, List.filter_append, ← h.left]
    have hi2 : i < (ys.set i l[j]).length := by rw [List.length_set]; exact hi
    rw [List.take_succ_eq_append_getElem hi2, List.take_set_of_le (Nat.le_refl _)]
    simp [List.filter_cons, hp]
  · have h1 : (ys.set i l[j]).drop (j + 1) = ys.drop (j + 1) := by rw [List.drop_set_of_lt]; have := h.ij; omega
    rw [h1]
    have := congrArg (List.drop 1) h.right
    simpa [List.drop_drop, Nat.add_comm] using this
set_option maxRecDepth 100000 in
set_option maxHeartbeats 4000000 in
theorem delete46 (v : Value) (l : List S56) (cap : Value) (p : S56 → Bool) (w0 w : World) (hr : Kd.R k56 56 w w0.heap.size (fun _ => True) v l) (hb : Below w0.heap.size w0 w)
    (hp : ∀ (t : S56) (A : Option Addr) (c : Nat), t ∈ l → ∀ W : World, Below w0.heap.size w0 W → Calls Try.prog 46 #[aggM t A c, cap] W fun e w' => e = .returned (.bool (p t)) ∧ Below W.heap.size W w') :
    Calls Try.prog 45 #[v, .func (.func 46) #[] #[cap]] w fun e w' => ∃ v', e = .returned v' ∧ Kd.R k56 56 w' w0.heap.size (fun _ => True) v' (l.filter (fun t => !p t)) ∧ Below w0.heap.size w0 w' := by
  obtain ⟨A, c, rfl⟩ := Kd.R_slice hr
  obtain ⟨_, hlc, hC⟩ := Kd.R_reads' hr
  have hz := hb.size
  have HR := Lib.hid hr
  have HB := Lib.hid hb
  have HZ := Lib.hid hz
  have HP := Lib.hid hp
  have HMX := Lib.hid (Kd.C_max hC)
  have hidx := index46 A c l cap p w hC hlc (fun t A c ht W hW => hp t A c ht W (Below.trans hb (hW.mono hz)))
  clear hb hz hp
  cases hf : l.findIdx? p with
  | none =>
    have hix : idxM p l = -1 := by rw [idxM, hf]
    have hall : l.filter (fun t => !p t) = l := by
      rw [List.filter_eq_self]
      intro x hx
      simpa using List.findIdx?_eq_none_iff.1 hf x hx
    rw [hix] at hidx
    rw [hall]
    clear hf hix hall hC hlc hr
    go_enter Try.func45, Try.ntmps45
    go_wp2_with (go_at_call 50; go_must ((with_reducible refine Calls.mono hidx ?_); rintro e w1 ⟨rfl, hb1⟩))
    go_ret
    exact ⟨_, rfl, Kd.R_below HR.out hb1, Below.trans HB.out (hb1.mono HZ.out)⟩
  | some i0 =>
    obtain ⟨hi0, hpi, hpb⟩ := List.findIdx?_eq_some_iff_getElem.1 hf
    have hix : idxM p l = i0 := by rw [idxM, hf]
    obtain ⟨gs, cp, hv, _⟩ := Kd.R_form hr (by omega)
    injection hv with hA _ hc
    subst hA hc
    have hne : ((i0 : Int) == -1) = false := beq_eq_false_iff_ne.mpr (by omega)
    rw [hix] at hidx
    have hstart : ∀ w1, Below w.heap.size w w1 → DelI w0 gs c l p i0 (i0 + 1) l w1 := fun w1 hb1 => by
      refine ⟨rfl, Kd.R_below HR.out hb1, ?_, rfl, Nat.lt_succ_self _, hi0, Below.trans HB.out (hb1.mono HZ.out)⟩
      rw [List.take_succ_eq_append_getElem hi0, List.filter_append]
      have : (l.take i0).filter (fun t => !p t) = l.take i0 := by
        rw [List.filter_eq_self]
        intro x hx
        obtain ⟨j, hj, rfl⟩ := List.getElem_of_mem hx
        rw [List.length_take] at hj
        rw [List.getElem_take]
        simpa using hpb j (by omega)
      rw [this]
      simp [List.filter_cons, hpi]
    have HST := Lib.hid hstart
    have HI0 := Lib.hid hi0
    have hw1 : wrap64 ((i0 : Int) + 1) = ((i0 + 1 : Nat) : Int) := by have := HMX.out; unfold wrap64; omega
    have HW1 := Lib.hid hw1
    clear hf hix hC hlc hr hpb hpi hstart hi0 hw1
    go_enter Try.func45, Try.ntmps45
    go_wp2_with (go_at_call 50; go_must ((with_reducible refine Calls.mono hidx ?_); rintro e w1 ⟨rfl, hb1⟩; have HD := Lib.hid (HST.out w1 hb1); clear hb1))
    go_loopg [5, 6] (l.length - i0) (fun kq v5 v6 w' => ∃ (i j : Nat) (ys : List S56), v5 = .int .i64 (i : Int) ∧ v6 = .int .i64 (j : Int) ∧ Hid (kq + j = l.length + 1) ∧ Hid (DelI w0 gs c l p i j ys w'))
    case atStart => exact ⟨i0, i0 + 1, l, rfl, congrArg (Value.int .i64) (by first | exact HW1.out | rfl), Lib.hid (by have := HI0.out; omega), HD⟩
    case round =>
      clear HD hne hidx HST
      obtain ⟨i, j, ys, rfl, rfl, hk, hD⟩ := hrel
      by_cases cj : j < l.length
      · have c1 : decide ((j : Int) < (l.length : Int)) = true := decide_eq_true (by omega)
        have c2 : decide (j < l.length) = true := decide_eq_true cj
        have p0 : 0 ≤ (j : Int) := by omega
        have p1 : (j : Int) < (l.length : Int) := by omega
        have hCy := (Kd.R_reads' hD.out.row).2.2
        obtain ⟨y, hy⟩ : ∃ y, l[j] = y := ⟨_, rfl⟩
        obtain ⟨A3, c3, x0, x1, x2, x3, hv3⟩ := mail_elem hD.out.row j cj y ((hD.out.at_ cj).trans hy)
        have HV3 := Lib.hid hv3
        clear hv3
        have hym : y ∈ l := by rw [← hy]; exact List.getElem_mem cj
        have hij := hD.out.ij
        have i0' : 0 ≤ (i : Int) := by omega
        have i1 : (i : Int) < (l.length : Int) := by omega
        have HY : Hid (∀ h : j < l.length, l[j]'h = y) := Lib.hid (fun _ => hy)
        have HYM := Lib.hid hym
        have HCJ := Lib.hid cj
        have HGS := Lib.hid hD.out.gs
        have HI0' := Lib.hid i0'
        have HI1 := Lib.hid i1
        replace p0 := eq_true p0
        replace p1 := eq_true p1
        replace i0' := eq_true i0'
        replace i1 := eq_true i1
        clear hy hym cj hij hCy
        cases hpy : p y
        · have HPY := Lib.hid hpy
          clear hpy
          go_wp2_with (first | ((with_reducible refine gate_dst (N := 7) rfl ?_); go_must (refine box_event rfl (N := 7) rfl (run_alloc _ 56 _ 4 i56b _ _ rfl _) ?_; intro g7 hg7 w2 b7 hb; have HB2 := Lib.hid hb; have HG7 := Lib.hid hg7; clear hb hg7 x0 x1 x2 x3)) | ((with_reducible refine gate_store (t := 56) rfl ?_); refine store_ev rfl rfl 56 (.tmp 7) (.tmp 25) rfl g7 _ _ rfl rfl b7 rfl s56 (one56 _ _ _ _ _ _) ?_; intro w3 hst; have R3 := Kd.R_step hD.out.row (fun k _ hlt => (hst.far k (by have := HG7.out; omega)).trans (HB2.out.block k hlt)); have V3 := Kd.R_step HV3.out (fun k _ hlt => (hst.far k (by have := HG7.out; omega)).trans (HB2.out.block k hlt)); have B3 := hst.below w0 (Below.trans hD.out.below (HB2.out.mono hD.out.below.size)) (by have := hD.out.below.size; have := HG7.out; omega); have d7 := hst.at_; have f0 := blk_cell d7 0; have f1 := blk_cell d7 1; have f2 := blk_cell d7 2; have f3 := blk_cell d7 3; clear hst b7 HB2) | (go_at_call 46; go_must (refine (HP.out y A3 c3 HYM.out _ B3).mono ?_; rw [HPY.out]; rintro e w4 ⟨rfl, hb4⟩; have R4 := Lib.hid (Kd.R_below R3 hb4); have V4 := Lib.hid (Kd.R_below V3 hb4); have B4 := Lib.hid (Below.trans B3 (hb4.mono B3.size)); have e7 := (hb4.block _ (blk_lt d7)).trans d7; clear f0 f1 f2 f3; have f0 := blk_cell e7 0; have f1 := blk_cell e7 1; have f2 := blk_cell e7 2; have f3 := blk_cell e7 3; obtain ⟨cc, hcl, _, hcc, _⟩ := Kd.R_elem R4.out z56 (i : Int) HI0'.out HI1.out; have HCL := Lib.hid hcl; have HCC := Lib.hid hcc; clear hcl hcc hb4 d7 R3 B3 V3)) | ((with_reducible refine gate_store (t := 56) rfl ?_); go_must (refine Kd.R_store k56 (w0 := w0) w0.heap.size rfl rfl 56 (.tmp 33) (.tmp 32) rfl 56 (i : Int) 0 ys y (aggM y A3 c3) [.int .i64 y.f0, .int .i64 y.f1, .int .i64 y.f2, .slice A3 y.f3.length c3] cc (fun _ => True) (fun k => True ∧ k ≠ gs) rfl ?hoff rfl rfl s56 ?h1 R4.out HI0'.out HI1.out HCL.out HCC.out (Nat.le_refl _) ?hM (fun _ hk => hk) B4.out ?_; (case hoff => rfl); (case h1 => intro q hq; simp at hq; rcases hq with rfl | rfl | rfl | rfl <;> rfl); (case hM => exact seg_M56 cc HCL.out V4.out); intro w5 hR5 hB5 hg5; have HR5 := Lib.hid hR5; have HB5 := Lib.hid hB5; clear hR5 hB5 hg5)))
          have hn : DelI w0 gs c l p (i + 1) (j + 1) (ys.set i y) w5 := by
            have := DelI.put hD.out HCJ.out (by rw [HY.out]; exact HPY.out) (W1 := w5) (by rw [HY.out]; exact HR5.out) HB5.out
            rwa [HY.out] at this
          go_roundg (l.length - j)
          case measure => have := hk.out; have := HCJ.out; omega
          case rel => exact ⟨i + 1, j + 1, ys.set i y, congrArg (Value.int .i64) (by have := HMX.out; have := HI1.out; unfold wrap64; omega), congrArg (Value.int .i64) (by have := HMX.out; have := HCJ.out; unfold wrap64; omega), Lib.hid (by have := hk.out; have := HCJ.out; omega), Lib.hid hn⟩
        · have HPY := Lib.hid hpy
          clear hpy
          go_wp2_with (first | ((with_reducible refine gate_dst (N := 7) rfl ?_); go_must (refine box_event rfl (N := 7) rfl (run_alloc _ 56 _ 4 i56b _ _ rfl _) ?_; intro g7 hg7 w2 b7 hb; have HB2 := Lib.hid hb; have HG7 := Lib.hid hg7; clear hb hg7 x0 x1 x2 x3)) | ((with_reducible refine gate_store (t := 56) rfl ?_); refine store_ev rfl rfl 56 (.tmp 7) (.tmp 25) rfl g7 _ _ rfl rfl b7 rfl s56 (one56 _ _ _ _ _ _) ?_; intro w3 hst; have R3 := Kd.R_step hD.out.row (fun k _ hlt => (hst.far k (by have := HG7.out; omega)).trans (HB2.out.block k hlt)); have V3 := Kd.R_step HV3.out (fun k _ hlt => (hst.far k (by have := HG7.out; omega)).trans (HB2.out.block k hlt)); have B3 := hst.below w0 (Below.trans hD.out.below (HB2.out.mono hD.out.below.size)) (by have := hD.out.below.size; have := HG7.out; omega); have d7 := hst.at_; have f0 := blk_cell d7 0; have f1 := blk_cell d7 1; have f2 := blk_cell d7 2; have f3 := blk_cell d7 3; clear hst b7 HB2) | (go_at_call 46; go_must (refine (HP.out y A3 c3 HYM.out _ B3).mono ?_; rw [HPY.out]; rintro e w4 ⟨rfl, hb4⟩; have R4 := Lib.hid (Kd.R_below R3 hb4); have V4 := Lib.hid (Kd.R_below V3 hb4); have B4 := Lib.hid (Below.trans B3 (hb4.mono B3.size)); have e7 := (hb4.block _ (blk_lt d7)).trans d7; clear f0 f1 f2 f3; have f0 := blk_cell e7 0; have f1 := blk_cell e7 1; have f2 := blk_cell e7 2; have f3 := blk_cell e7 3; obtain ⟨cc, hcl, _, hcc, _⟩ := Kd.R_elem R4.out z56 (i : Int) HI0'.out HI1.out; have HCL := Lib.hid hcl; have HCC := Lib.hid hcc; clear hcl hcc hb4 d7 R3 B3 V3)))
          have hn : DelI w0 gs c l p i (j + 1) ys w4 := DelI.skip hD.out HCJ.out (by rw [HY.out]; exact HPY.out) R4.out B4.out
          go_roundg (l.length - j)
          case measure => have := hk.out; have := HCJ.out; omega
          case rel => exact ⟨i, j + 1, ys, rfl, congrArg (Value.int .i64) (by have := HMX.out; have := HCJ.out; unfold wrap64; omega), Lib.hid (by have := hk.out; have := HCJ.out; omega), Lib.hid hn⟩
      · have hjl : j = l.length := by have := hD.out.jl; omega
        have c1 : decide ((j : Int) < (l.length : Int)) = false := decide_eq_false (by omega)
        have c2 : decide (j < l.length) = false := decide_eq_false cj
        have hij := hD.out.ij
        have hlc2 := (Kd.R_reads' hD.out.row).2.1
        have hleft := hD.out.left
        rw [hjl, List.take_length] at hleft
        obtain ⟨i56x, hi56, _, hsz56, _⟩ := info_parts info56
        have hfrom := cut_from (P := Try.prog) 53 56 .i64 Try.underlying53 hi56 4 hsz56 (some ⟨gs, 0, none⟩) l.length c (i : Int) (by omega) (by omega)
        rw [Int.toNat_natCast, if_neg (by omega), Option.map_some, add0] at hfrom
        have hto := cut_to (P := Try.prog) 53 56 .i64 Try.underlying53 hi56 (some ⟨gs, 0, none⟩) l.length c (i : Int) (by omega) (by omega) hlc2
        rw [Int.toNat_natCast] at hto
        obtain ⟨mm, hmm⟩ : ∃ m, l.length - i = m := ⟨_, rfl⟩
        obtain ⟨cm, hcm⟩ : ∃ m, c - i = m := ⟨_, rfl⟩
        rw [hmm, hcm] at hfrom
        have hsum : i + mm = l.length := by omega
        have HSUM := Lib.hid hsum
        have HL := Lib.hid hleft
        have HR9 := Lib.hid hD.out.row
        have HB9 := Lib.hid hD.out.below
        clear hjl cj hij hlc2 hleft hmm hcm hsum hD hk hi56 hsz56
        go_wp2_with (first | ((with_reducible refine gate_builtin (b := .clear) (xs := #[.tmp 38]) rfl ?_); go_must (refine clear_ev (w0 := w0) rfl rfl (.tmp 38) rfl w0.heap.size gs i l.length c cm mm ys rfl HSUM.out HR9.out HB9.out ?_; intro w5 hR5 hB5)))
        go_ret
        exact ⟨_, rfl, by rw [← HL.out]; exact hR5, hB5⟩
end Go.Proofs.Ytccabdgfjcjpoaa.X
/- net.To: those to a target. And what net.list comes to. -/
namespace Go.Proofs.Ytccabdgfjcjpoaa.X
open Go.RowKit Go.Proofs.YtccabdgfjcjpoaaW.PrintWords Go.Proofs.YtccabdgfjcjpoaaW.PrintLast Go.Proofs.YtccabdgfjcjpoaaW.PrintMore
set_option linter.unusedVariables false
set_option linter.unusedSimpArgs false

/-- Mails whose texts can be copied. -/
def Fits (l : List S56) : Prop := ∀ x ∈ l, x.f3.length ≤ 140737488355328
theorem wrap64_id (x : Int) (h0 : -9223372036854775808 ≤ x) (h1 : x ≤ 9223372036854775807) : wrap64 x = x := by unfold wrap64; omega
theorem rd_T56_at {l : List S56} {i : Nat} (h : i < l.length) : rd_T56 l (i : Int) = l[i] := by simp [rd_T56, List.getD_eq_getElem?_getD, h]
theorem copied_f (a b c : Int) (d : List Int) (h : d.length ≤ 140737488355328) : net_copied.f a b c d = some (a, b, c, d) := by
  unfold net_copied.f slices_Clone_byte_byte.f
  rw [if_pos h]
  rfl
theorem list_l0 (l : List S56) (hf : Fits l) (hl : l.length ≤ 1000000000) : ∀ (d k i : Nat), i + d = l.length → d < k → net_list.l0 k (l.take i) l (l.length : Int) (i : Int) = some l
  | 0, k, i, hd, hk => by
    obtain ⟨k, rfl⟩ : ∃ m, k = m + 1 := ⟨k - 1, by omega⟩
    rw [net_list.l0, if_neg (by omega), show i = l.length by omega, List.take_length]
  | d + 1, k, i, hd, hk => by
    obtain ⟨k, rfl⟩ : ∃ m, k = m + 1 := ⟨k - 1, by omega⟩
    have hi : i < l.length := by omega
    rw [net_list.l0, if_pos (by omega), if_pos (by omega), if_pos (by omega), rd_T56_at hi, copied_f _ _ _ _ (hf _ (List.getElem_mem hi))]
    rw [Option.bind_some, if_pos (by rw [List.length_take]; omega), wrap64_id ((i : Int) + 1) (by omega) (by omega)]
    have := list_l0 l hf hl d k (i + 1) (by omega) (by omega)
    rw [List.take_succ_eq_append_getElem hi] at this
    exact this
theorem list_f (l : List S56) (hf : Fits l) (hl : l.length ≤ 1000000000) (k : Nat) (hk : l.length < k) : net_list.f k l = some l := by
  have := list_l0 l hf hl l.length k 0 (by omega) hk
  simpa [net_list.f] using this
set_option maxRecDepth 100000 in
set_option maxHeartbeats 4000000 in
theorem to1_calls (t : S56) (A : Option Addr) (c g : Nat) (tg : Int) (w : World) (h : w.heap[g]? = some (.cells #[.int .i64 tg] 3 (0, 0))) :
    Calls Try.prog 46 #[aggM t A c, .pointer (some ⟨g, 0, none⟩)] w fun e w' => e = .returned (.bool (!decide (t.f1 = tg))) ∧ Below w.heap.size w w' := by
  obtain ⟨w1, hw1⟩ : ∃ w1, w.alloc (.cells #[.int .i64 t.f0, .int .i64 t.f1, .int .i64 t.f2, .slice A t.f3.length c] 56) = w1 := ⟨_, rfl⟩
  have hB : Below w.heap.size w w1 := by rw [← hw1]; exact below_alloc (Below.refl _ _) _
  have b1 : w1.heap[w.heap.size]? = some (.cells #[.int .i64 t.f0, .int .i64 t.f1, .int .i64 t.f2, .slice A t.f3.length c] 56 (0, 0)) := by rw [← hw1]; exact blk_new _ _
  have c3 := blk_cell ((hB.block _ (blk_lt h)).trans h) 0
  have f1 := blk_cell b1 1
  have HB := Lib.hid hB
  have e : aggM t A c = .agg #[.int .i64 t.f0, .int .i64 t.f1, .int .i64 t.f2, .slice A t.f3.length c] := rfl
  rw [e]
  obtain ⟨x, hx⟩ : ∃ x, t.f1 = x := ⟨_, rfl⟩
  rw [hx] at f1 ⊢
  by_cases hq : x = tg
  · subst hq
    rw [show (!decide (x = x)) = false by simp]
    rw [hx] at hw1
    clear h hB e b1
    go_enter Try.func46, Try.ntmps46
    go_wp2_with (rw [hw1])
    go_ret
    exact ⟨rfl, HB.out⟩
  · rw [show (!decide (x = tg)) = true by simp [hq]]
    have n1 : (x = tg) = False := eq_false hq
    have n2 : (x == tg) = false := beq_eq_false_iff_ne.mpr hq
    have n3 : (x != tg) = true := by rw [bne, n2]; rfl
    rw [hx] at hw1
    clear h hB e b1 hq
    go_enter Try.func46, Try.ntmps46
    go_wp2_with (rw [hw1])
    go_ret
    exact ⟨by first | rfl | (rw [n3]), HB.out⟩
set_option maxRecDepth 100000 in
set_option maxHeartbeats 4000000 in
theorem to_calls (A : Option Addr) (c : Nat) (l : List S56) (tg : Int) (w : World) (hC : Kd.C k56 w A l.length l) (hc : l.length ≤ c) (hf : Fits l) (hl : l.length ≤ 1000000000) :
    Calls Try.prog 28 #[.slice A l.length c, .int .i64 tg] w fun e w' => ∃ v, e = .returned v ∧ Kd.R k56 56 w' w.heap.size (fun _ => True) v (l.filter (fun t => decide (t.f1 = tg))) ∧ Below w.heap.size w w' := by
  obtain ⟨w1, hw1⟩ : ∃ w1, w.alloc (.cells #[.int .i64 tg] 3) = w1 := ⟨_, rfl⟩
  have hB : Below w.heap.size w w1 := by rw [← hw1]; exact below_alloc (Below.refl _ _) _
  have b1 : w1.heap[w.heap.size]? = some (.cells #[.int .i64 tg] 3 (0, 0)) := by rw [← hw1]; exact blk_new _ _
  have hlf := list_f l hf hl (l.length + 1) (Nat.lt_succ_self _)
  have HC := Lib.hid hC
  have HLF := Lib.hid hlf
  have HB := Lib.hid hB
  have HB1 := Lib.hid b1
  have HF := Lib.hid hf
  have heq : l.filter (fun t => !(!decide (t.f1 = tg))) = l.filter (fun t => decide (t.f1 = tg)) := by congr 1; funext t; simp
  have HEQ := Lib.hid heq
  clear hC hlf hB b1 hf heq
  go_enter Try.func28, Try.ntmps28
  go_wp2_with (first | (rw [hw1]) | (go_at_call 40; go_must (refine (net_list.calls (l.length + 1) A c l l _ (Kd.C_below HC.out HB.out) hc HLF.out).mono ?_; rintro e w2 ⟨v2, rfl, hS, hb⟩; have HR2 := Lib.hid (Kd.S_R hS); have HB2 := Lib.hid hb; clear hS hb)) | (go_at_call 45; go_must (refine (delete46 v2 l _ (fun t => !decide (t.f1 = tg)) w1 _ HR2.out HB2.out (fun t A3 c3 _ W hW => to1_calls t A3 c3 w.heap.size tg W ((hW.block _ (blk_lt HB1.out)).trans HB1.out))).mono ?_; rintro e w3 ⟨v3, rfl, hR3, hB3⟩)))
  go_ret
  rw [HEQ.out] at hR3
  exact ⟨_, rfl, Kd.R_lower hR3 HB.out.size, below_step HB.out hB3⟩
end Go.Proofs.Ytccabdgfjcjpoaa.X
-- Written by a program of this session (a turn of the kit's print with contracts by hand). Not trusted: Lean checks it.
namespace Go.Proofs.Ytccabdgfjcjpoaa.X
open Go.RowKit Go.Proofs.YtccabdgfjcjpoaaW.PrintWords Go.Proofs.YtccabdgfjcjpoaaW.PrintLast Go.Proofs.YtccabdgfjcjpoaaW.PrintMore
attribute [local go_sem] max2_int min2_int max_two min_two max_three min_three max_four min_four   -- for this text's walks alone
set_option linter.unusedVariables false
set_option linter.unusedSimpArgs false

/-! ### net_All: function 27 -/
mutual
def net_All.l0 : Nat → Int → Int → Int → List (S56) → List (List Int) → Int → Int → Option ((List (S56)))
  | 0, _, _, _, _, _, _, _ => none
  | k + 1, x1, x2, x3, x11, x17, x18, x19 => if x19 < x18 then (if 0 ≤ x19 then (if x19 < (x17.length : Int) then (net_All.l1 k x1 x2 x3 x11 (rd_L11 x17 x19) x17 x18 x19 (mn (mx x2 0) 10) 0) else (none)) else (none)) else (some x11)
def net_All.l1 : Nat → Int → Int → Int → List (S56) → List Int → List (List Int) → Int → Int → Int → Int → Option ((List (S56)))
  | 0, _, _, _, _, _, _, _, _, _, _ => none
  | k + 1, x1, x2, x3, x11, x13, x17, x18, x19, x25, x26 => if x26 < x25 then (if x26 = x1 then (net_All.l1 k x1 x2 x3 x11 x13 x17 x18 x19 x25 (wrap64 (x26 + 1))) else (if (x11.length : Int) < 1024 then ((net_copied.f x1 x26 x3 x13).bind fun bt321 => (if x11.length < 2932031007402 then (net_All.l1 k x1 x2 x3 (x11 ++ [(⟨bt321.1, bt321.2.1, bt321.2.2.1, bt321.2.2.2⟩ : S56)]) x13 x17 x18 x19 x25 (wrap64 (x26 + 1))) else (none))) else (net_All.l1 k x1 x2 x3 x11 x13 x17 x18 x19 x25 (wrap64 (x26 + 1))))) else (net_All.l0 k x1 x2 x3 x11 x17 x18 (wrap64 (x19 + 1)))
end
def net_All.f (k : Nat) (l0 : List (S56)) (a1 : Int) (a2 : Int) (a3 : Int) (l4 : List (List Int)) : Option ((List (S56))) := (net_list.f k l0).bind fun t317 => (net_All.l0 k a1 a2 a3 t317 l4 (l4.length : Int) 0)
theorem net_All.mono_l : ∀ k, (∀ y0 y1 y2 y3 y4 y5 y6, LeO (net_All.l0 k y0 y1 y2 y3 y4 y5 y6) (net_All.l0 (k + 1) y0 y1 y2 y3 y4 y5 y6)) ∧ (∀ y0 y1 y2 y3 y4 y5 y6 y7 y8 y9, LeO (net_All.l1 k y0 y1 y2 y3 y4 y5 y6 y7 y8 y9) (net_All.l1 (k + 1) y0 y1 y2 y3 y4 y5 y6 y7 y8 y9))
  | 0 => ⟨fun _ _ _ _ _ _ _ r h => by simp [net_All.l0] at h, fun _ _ _ _ _ _ _ _ _ _ r h => by simp [net_All.l1] at h⟩
  | k + 1 => by
    obtain ⟨ih0, ih1⟩ := net_All.mono_l k
    refine ⟨?_, ?_⟩
    · intro y0 y1 y2 y3 y4 y5 y6
      unfold net_All.l0
      repeat' first
      | (with_reducible exact ih0 _ _ _ _ _ _ _)
      | (with_reducible exact ih1 _ _ _ _ _ _ _ _ _ _)
      | (with_reducible exact net_list.mono _ _)
      | (with_reducible exact LeO.refl _)
      | (with_reducible exact LeO.none _)
      | (with_reducible refine LeO.ite ?_ ?_)
      | (with_reducible refine LeO.bind ?_ (fun _ => ?_))
      | exact ih0 _ _ _ _ _ _ _
      | exact ih1 _ _ _ _ _ _ _ _ _ _
      | exact net_list.mono _ _
      | exact LeO.none _
      | refine LeO.ite ?_ ?_
      | refine LeO.bind ?_ (fun _ => ?_)
    · intro y0 y1 y2 y3 y4 y5 y6 y7 y8 y9
      unfold net_All.l1
      repeat' first
      | (with_reducible exact ih0 _ _ _ _ _ _ _)
      | (with_reducible exact ih1 _ _ _ _ _ _ _ _ _ _)
      | (with_reducible exact net_list.mono _ _)
      | (with_reducible exact LeO.refl _)
      | (with_reducible exact LeO.none _)
      | (with_reducible refine LeO.ite ?_ ?_)
      | (with_reducible refine LeO.bind ?_ (fun _ => ?_))
      | exact ih0 _ _ _ _ _ _ _
      | exact ih1 _ _ _ _ _ _ _ _ _ _
      | exact net_list.mono _ _
      | exact LeO.none _
      | refine LeO.ite ?_ ?_
      | refine LeO.bind ?_ (fun _ => ?_)
theorem net_All.mono : ∀ a0 a1 a2 a3 a4 k, LeO (net_All.f k a0 a1 a2 a3 a4) (net_All.f (k + 1) a0 a1 a2 a3 a4) := by
  intro a0 a1 a2 a3 a4 k
  obtain ⟨ih0, ih1⟩ := net_All.mono_l k
  unfold net_All.f
  repeat' first
      | (with_reducible exact ih0 _ _ _ _ _ _ _)
      | (with_reducible exact ih1 _ _ _ _ _ _ _ _ _ _)
      | (with_reducible exact net_list.mono _ _)
      | (with_reducible exact LeO.refl _)
      | (with_reducible exact LeO.none _)
      | (with_reducible refine LeO.ite ?_ ?_)
      | (with_reducible refine LeO.bind ?_ (fun _ => ?_))
      | exact ih0 _ _ _ _ _ _ _
      | exact ih1 _ _ _ _ _ _ _ _ _ _
      | exact net_list.mono _ _
      | exact LeO.none _
      | refine LeO.ite ?_ ?_
      | refine LeO.bind ?_ (fun _ => ?_)
set_option maxHeartbeats 8000000 in
set_option maxRecDepth 100000 in
theorem net_All.calls (k : Nat) (A0 : Option Addr) (c0 : Nat) (l0 : List (S56)) (a1 : Int) (a2 : Int) (a3 : Int) (A4 : Option Addr) (c4 : Nat) (l4 : List (List Int)) (r : List (S56)) (w : World) (hr0 : Kd.C k56 w A0 l0.length l0) (hc0 : l0.length ≤ c0) (hr4 : Kd.C (Kd.slice 5 (Kd.int .u8)) w A4 l4.length l4) (hc4 : l4.length ≤ c4) (h : net_All.f k l0 a1 a2 a3 l4 = some r) :
    Calls Try.prog 27 #[.slice A0 l0.length c0, .int .i64 a1, .int .i64 a2, .int .i64 a3, .slice A4 l4.length c4] w fun e w' => ∃ v0_ : Value, e = .returned (v0_) ∧ Kd.S k56 56 w' w.heap.size (fun _ => True) v0_ r ∧ Below w.heap.size w w' := by
  have hu56 := Try.underlying56
  have HR0 := Aside0.mk hr0
  have HC0 := Aside0.mk hc0
  clear hr0 hc0
  have HR4 := Aside0.mk hr4
  have HC4 := Aside0.mk hc4
  clear hr4 hc4
  have HB := Aside0.mk (Below.refl w.heap.size w)
  have H : ((net_list.f k l0).bind fun t317 => (net_All.l0 k a1 a2 a3 t317 l4 (l4.length : Int) 0)) = some r := h
  clear h
  replace H := Option.bind_eq_some_iff.mp H
  obtain ⟨t317, A60, H⟩ := H
  replace H : (net_All.l0 k a1 a2 a3 t317 l4 (l4.length : Int) 0) = some r := H
  have A6 := Aside0.mk A60
  clear A60
  have H' := Aside0.mk H
  clear H
  go_enter Try.func27, Try.ntmps27
  go_wp2_with (first | ((with_reducible refine gate_callee (f := 40) rfl ?_); refine goesL_ (some 16) rfl rfl Try.func40 (by kernel_rfl) rfl #[.slice A0 l0.length c0] rfl (by (try simp only [List.map_toArray, List.map_cons, List.map_nil]); first | done | rfl | (simp only [List.length_drop, List.length_take]; rfl)) ?_; (with_reducible refine (net_list.calls k _ _ l0 t317 _ ?side1 ?side2 A6.out).mono ?_); (case side1 => repeat (first | exact HR0.out | (with_reducible refine Kd.C_alloc ?_ _) | (with_reducible refine Kd.C_drewN ?_ _) | (with_reducible refine Kd.C_drew ?_))); (case side2 => exact HC0.out); rintro e w7 ⟨v318, rfl, ho0, hb⟩; refine ⟨_, rfl, ?_⟩; have n0_ := Aside0.mk (Kd.S_lower ho0 (below_size (by repeat (first | (with_reducible first | exact HB.out | apply below_alloc | apply pw_below_drewN | apply below_drew1) | exact HB.out)))); have n1_ := Aside0.mk (below_step (by repeat (first | (with_reducible first | exact HB.out | apply below_alloc | apply pw_below_drewN | apply below_drew1) | exact HB.out)) hb); clear HB; have HO319 := n0_; have HB := n1_; clear n0_ n1_; (try clear hb); (try clear hb2); (try clear hk); (try clear hi); (try clear ho0)))
  go_loopg [11, 19] k (fun kq v11 v19 w' => ∃ (x11_1 : List (S56)) (x19_1 : Int), v19 = .int .i64 x19_1 ∧ Aside0 (net_All.l0 kq a1 a2 a3 x11_1 l4 (l4.length : Int) x19_1 = some r) ∧ Aside0 (kq ≤ k) ∧ Aside0 (Kd.S k56 56 w' w.heap.size (fun _ => True) v11 x11_1) ∧ Aside0 (Below w.heap.size w w'))
  case atStart => exact ⟨(t317), (0), (by first | rfl | (simp; done) | (simp [*]; done)), H', ⟨Nat.le_refl _⟩, ⟨by (with_reducible repeat (first | apply Kd.S_alloc | apply Kd.S_drewN | apply Kd.S_drew)); exact HO319.out⟩, ⟨by repeat (first | (with_reducible first | exact HB.out | apply below_alloc | apply pw_below_drewN | apply below_drew1) | exact HB.out)⟩⟩
  case round =>
    clear H'
    try clear c2
    try clear p2
    try clear c4
    obtain ⟨x11_1, x19_1, rfl, HA, HK1, HO_11, HB⟩ := hrel
    cases gk with
    | zero => exact absurd HA.out (by simp [net_All.l0])
    | succ k1 =>
      have H := HA.out
      clear HA
      simp only [net_All.l0] at H
      by_cases c8 : x19_1 < (l4.length : Int)
      · rw [if_pos c8] at H
        have c8b0 : decide (x19_1 < (l4.length : Int)) = true := decide_eq_true c8
        clear c8
        by_cases c9 : 0 ≤ x19_1
        · rw [if_pos c9] at H
          have c9b0 : decide (0 ≤ x19_1) = true := decide_eq_true c9
          clear c9
          by_cases c10 : x19_1 < (l4.length : Int)
          · rw [if_pos c10] at H
            have c10b0 : decide (x19_1 < (l4.length : Int)) = true := decide_eq_true c10
            clear c10
            obtain ⟨ji11, hji11⟩ : ∃ j_ : Int, (mx a2 0) = j_ := ⟨_, rfl⟩
            replace H : (net_All.l1 k1 a1 a2 a3 x11_1 (rd_L11 l4 x19_1) l4 (l4.length : Int) x19_1 (mn (ji11) 10) 0) = some r := by first | (rw [hji11] at H; exact H) | (simp only [hji11] at H ⊢; exact H)
            have hji11_ : (if a2 < 0 then 0 else a2) = ji11 := hji11
            obtain ⟨ji12, hji12⟩ : ∃ j_ : Int, (mn (ji11) 10) = j_ := ⟨_, rfl⟩
            replace H : (net_All.l1 k1 a1 a2 a3 x11_1 (rd_L11 l4 x19_1) l4 (l4.length : Int) x19_1 ji12 0) = some r := by first | (rw [hji12] at H; exact H) | (simp only [hji12] at H ⊢; exact H)
            have hji12_ : (if 10 < (ji11) then 10 else (ji11)) = ji12 := hji12
            have H' := Aside0.mk H
            clear H
            have p320 : 0 ≤ (x19_1 : Int) := of_decide_eq_true (by first | (with_reducible assumption) | assumption)
            have q320 : x19_1 < (l4.length : Int) := of_decide_eq_true (by first | (with_reducible assumption) | assumption)
            obtain ⟨ad320, A320_0, c320_0, e320, hx320_0, hl320_0, hi320_0⟩ := at_L11 HR4.out x19_1 p320 q320
            cases e320
            replace hx320_0 := (HB.out.cell (World.block_lt_of_cell? w _ hx320_0)).trans hx320_0
            have HR320_0 := Aside0.mk hi320_0
            have HC320_0 := Aside0.mk hl320_0
            clear hi320_0 hl320_0
            replace p320 := eq_true p320
            replace q320 := eq_true q320
            go_wp2
            go_loopg [11, 26] k1 (fun kq v11 v26 w' => ∃ (x11_2 : List (S56)) (x26_2 : Int), v26 = .int .i64 x26_2 ∧ Aside0 (net_All.l1 kq a1 a2 a3 x11_2 (rd_L11 l4 x19_1) l4 (l4.length : Int) x19_1 ji12 x26_2 = some r) ∧ Aside0 (kq ≤ k1) ∧ Aside0 (Kd.S k56 56 w' w.heap.size (fun _ => True) v11 x11_2) ∧ Aside0 (Below w.heap.size w w'))
            case atStart => exact ⟨(x11_1), (0), (by first | rfl | (simp; done) | (simp [*]; done)), H', ⟨Nat.le_refl _⟩, ⟨by (with_reducible repeat (first | apply Kd.S_alloc | apply Kd.S_drewN | apply Kd.S_drew)); exact HO_11.out⟩, ⟨by repeat (first | (with_reducible first | exact HB.out | apply below_alloc | apply pw_below_drewN | apply below_drew1) | exact HB.out)⟩⟩
            case round =>
              clear H'
              try clear c1
              try clear c2
              try clear p2
              try clear c3
              try clear p3
              try clear q3
              try clear hx3
              try clear c4
              try clear c8
              try clear c8b0
              try clear c9
              try clear c9b0
              try clear c10
              try clear c10b0
              try clear hx320_0
              try clear p2
              try clear p320
              try clear q320
              obtain ⟨x11_2, x26_2, rfl, HA, HK2, HO_11, HB⟩ := hrel
              cases gk with
              | zero => exact absurd HA.out (by simp [net_All.l1])
              | succ k2 =>
                have H := HA.out
                clear HA
                simp only [net_All.l1] at H
                by_cases c13 : x26_2 < ji12
                · rw [if_pos c13] at H
                  have c13b0 : decide (x26_2 < ji12) = true := decide_eq_true c13
                  clear c13
                  by_cases c14 : x26_2 = a1
                  · rw [if_pos c14] at H
                    have c14b0 : (x26_2 == a1) = true := beq_iff_eq.mpr c14
                    have c14b1 : (x26_2 != a1) = false := bne_eq_false_iff_eq.mpr c14
                    clear c14
                    have H' := Aside0.mk H
                    clear H
                    go_wp2
                    go_roundg k2
                    case measure => have := HK1.out; have := HK2.out; omega
                    case rel => exact ⟨(x11_2), (wrap64 (x26_2 + 1)), (by first | rfl | (simp; done) | (simp [*]; done)), H', ⟨by have := HK1.out; have := HK2.out; omega⟩, ⟨by (with_reducible repeat (first | apply Kd.S_alloc | apply Kd.S_drewN | apply Kd.S_drew)); exact HO_11.out⟩, ⟨by repeat (first | (with_reducible first | exact HB.out | apply below_alloc | apply pw_below_drewN | apply below_drew1) | exact HB.out)⟩⟩
                  · rw [if_neg c14] at H
                    have c14b0 : (x26_2 == a1) = false := beq_eq_false_iff_ne.mpr c14
                    have c14b1 : (x26_2 != a1) = true := bne_iff_ne.mpr c14
                    by_cases c15 : (x11_2.length : Int) < 1024
                    · rw [if_pos c15] at H
                      have c15b0 : decide ((x11_2.length : Int) < 1024) = true := decide_eq_true c15
                      have c15b1 : decide (x11_2.length < 1024) = true := decide_eq_true (by omega)
                      clear c15
                      replace H := Option.bind_eq_some_iff.mp H
                      obtain ⟨⟨t321, t322, t323, t324⟩, A160, H⟩ := H
                      replace H : (if x11_2.length < 2932031007402 then (net_All.l1 k2 a1 a2 a3 (x11_2 ++ [(⟨t321, t322, t323, t324⟩ : S56)]) (rd_L11 l4 x19_1) l4 (l4.length : Int) x19_1 ji12 (wrap64 (x26_2 + 1))) else (none)) = some r := H
                      have A16 := Aside0.mk A160
                      clear A160
                      by_cases c17 : x11_2.length < 2932031007402
                      · rw [if_pos c17] at H
                        have LMc17 := Aside0.mk c17
                        clear c17
                        obtain ⟨y327, hy327⟩ : ∃ y_ : List (S56), y_ = (x11_2 ++ [(⟨t321, t322, t323, t324⟩ : S56)]) := ⟨_, rfl⟩
                        replace H : (net_All.l1 k2 a1 a2 a3 y327 (rd_L11 l4 x19_1) l4 (l4.length : Int) x19_1 ji12 (wrap64 (x26_2 + 1))) = some r := by first | (rw [hy327]; with_reducible exact H) | (have H2_ := (Option.bind_some _ _).symm.trans H; rw [hy327]; with_reducible exact H2_) | (have H2_ := (Option.bind_some _ _).symm.trans H; with_reducible exact H2_) | with_reducible exact H | (rw [hy327]; exact H) | exact H
                        have Ny327 := Aside0.mk hy327
                        clear hy327
                        have H' := Aside0.mk H
                        clear H
                        obtain ⟨Ao18, co18, eo18⟩ := Kd.S_slice HO_11.out
                        subst eo18
                        go_wp2_with (first | ((with_reducible refine gate_callee (f := 44) rfl ?_); refine goesL_ (some 43) rfl rfl Try.func44 (by kernel_rfl) rfl #[.agg #[.int .i64 a1, .int .i64 x26_2, .int .i64 a3, .slice A320_0 (rd_L11 l4 x19_1).length c320_0]] rfl (by (try simp only [List.map_toArray, List.map_cons, List.map_nil]); first | done | rfl | (simp only [List.length_drop, List.length_take]; rfl)) ?_; (with_reducible refine (net_copied.calls a1 x26_2 a3 _ _ (rd_L11 l4 x19_1) t321 t322 t323 t324 _ ?side1 ?side2 A16.out).mono ?_); (case side1 => repeat (first | exact (Kd.C_below HR320_0.out HB.out) | (with_reducible refine Kd.C_alloc ?_ _) | (with_reducible refine Kd.C_drewN ?_ _) | (with_reducible refine Kd.C_drew ?_))); (case side2 => exact HC320_0.out); rintro e w19 ⟨v325, rfl, ho0, hb⟩; refine ⟨_, rfl, ?_⟩; have n0_ := Aside0.mk (Kd.S_elder' (by (with_reducible repeat (first | apply Kd.S_alloc | apply Kd.S_drewN | apply Kd.S_drew)); exact HO_11.out) (Kd.R_base ho0) hb); have n1_ := Aside0.mk (Kd.R_lower ho0 (below_size (by repeat (first | (with_reducible first | exact HB.out | apply below_alloc | apply pw_below_drewN | apply below_drew1) | exact HB.out)))); have n2_ := Aside0.mk (below_step (by repeat (first | (with_reducible first | exact HB.out | apply below_alloc | apply pw_below_drewN | apply below_drew1) | exact HB.out)) hb); clear HO_11; clear HB; have HO_11 := n0_; have HO326 := n1_; have HB := n2_; clear n0_ n1_ n2_; (try clear hb); (try clear hb2); (try clear hk); (try clear hi); (try clear ho0); obtain ⟨Ao21, co21, eo21⟩ := Kd.R_slice HO326.out; subst eo21) | ((with_reducible refine gate_builtin (b := .append) (xs := #[.tmp 37, .tmp 44]) rfl ?_); (try (refine gate_guard (by rfl) ?_; dsimp only)); at_builtin; refine Kd.S_append k56 (w0 := w) w.heap.size rfl (.tmp 37) (.tmp 44) 53 56 (.agg #[(.int .i64 0), (.int .i64 0), (.int .i64 0), (.slice none 0 0)]) 48 rfl Try.underlying53 info56 rfl (by decide) (by omega) (.slice Ao18 x11_2.length co18) x11_2 (⟨t321, t322, t323, t324⟩ : S56) [.int .i64 t321, .int .i64 t322, .int .i64 t323, .slice Ao21 t324.length co21] (fun _ => True) (fun k_ => some k_ = (.slice Ao21 t324.length co21 : Value).ownBlock) rfl rfl ?aP (fun k_ hk_ => ((Kd.R_mono (ok' := fun k_ => ((fun _ => True)) k_ ∧ some k_ ≠ (.slice Ao18 x11_2.length co18 : Value).ownBlock) (Kd.R_apart' (HO326.out) (Kd.S_typed HO_11.out) (by decide)) (fun k_ hk => ⟨trivial, hk.2⟩))).1 k_ hk_.symm) ?aF ?aO ?aB ?aS ?aL ?_; (case aP => exact k56_mkM _ _ _ (⟨t321, t322, t323, t324⟩ : S56) (Kd.R_mono (Kd.R_tight rfl (Kd.R_mono (ok' := fun k_ => ((fun _ => True)) k_ ∧ some k_ ≠ (.slice Ao18 x11_2.length co18 : Value).ownBlock) (Kd.R_apart' (HO326.out) (Kd.S_typed HO_11.out) (by decide)) (fun k_ hk => ⟨trivial, hk.2⟩))) (fun _ h_ => h_))); (case aB => exact (by repeat (first | (with_reducible first | exact HB.out | apply below_alloc | apply pw_below_drewN | apply below_drew1) | exact HB.out))); (case aF => exact (fun _ _ => trivial)); (case aO => exact (by (with_reducible repeat (first | apply Kd.S_alloc | apply Kd.S_drewN | apply Kd.S_drew)); exact Kd.S_mono HO_11.out (fun k_ hk => ⟨trivial, fun e_ => hk.2 e_⟩))); (case aS => exact (below_size (by repeat (first | (with_reducible first | exact HB.out | apply below_alloc | apply pw_below_drewN | apply below_drew1) | exact HB.out)))); (case aL => have := LMc17.out; omega); intro v328 w20 ho hb hg hat; rw [← Ny327.out] at ho; have n0_ := Aside0.mk (hb); have n1_ := Aside0.mk (ho); clear HB; clear HO_11; clear HO326; have HB := n0_; have HO329 := n1_; clear n0_ n1_; clear ho hb hg hat))
                        go_roundg k2
                        case measure => have := HK1.out; have := HK2.out; omega
                        case rel => exact ⟨(y327), (wrap64 (x26_2 + 1)), (by first | rfl | (simp; done) | (simp [*]; done)), H', ⟨by have := HK1.out; have := HK2.out; omega⟩, ⟨by (with_reducible repeat (first | apply Kd.S_alloc | apply Kd.S_drewN | apply Kd.S_drew)); exact HO329.out⟩, ⟨by repeat (first | (with_reducible first | exact HB.out | apply below_alloc | apply pw_below_drewN | apply below_drew1) | exact HB.out)⟩⟩
                      · rw [if_neg c17] at H
                        exact absurd H (by simp)
                    · rw [if_neg c15] at H
                      have c15b0 : decide ((x11_2.length : Int) < 1024) = false := decide_eq_false c15
                      have c15b1 : decide (x11_2.length < 1024) = false := decide_eq_false (by omega)
                      clear c15
                      have H' := Aside0.mk H
                      clear H
                      obtain ⟨Ao22, co22, eo22⟩ := Kd.S_slice HO_11.out
                      subst eo22
                      go_wp2
                      go_roundg k2
                      case measure => have := HK1.out; have := HK2.out; omega
                      case rel => exact ⟨(x11_2), (wrap64 (x26_2 + 1)), (by first | rfl | (simp; done) | (simp [*]; done)), H', ⟨by have := HK1.out; have := HK2.out; omega⟩, ⟨by (with_reducible repeat (first | apply Kd.S_alloc | apply Kd.S_drewN | apply Kd.S_drew)); exact HO_11.out⟩, ⟨by repeat (first | (with_reducible first | exact HB.out | apply below_alloc | apply pw_below_drewN | apply below_drew1) | exact HB.out)⟩⟩
                · rw [if_neg c13] at H
                  have c13b0 : decide (x26_2 < ji12) = false := decide_eq_false c13
                  clear c13
                  have H' := Aside0.mk H
                  clear H
                  go_wp2
                  go_roundg k2
                  case measure => have := HK1.out; have := HK2.out; omega
                  case rel => exact ⟨(x11_2), (wrap64 (x19_1 + 1)), (by first | rfl | (simp; done) | (simp [*]; done)), H', ⟨by have := HK1.out; have := HK2.out; omega⟩, ⟨by (with_reducible repeat (first | apply Kd.S_alloc | apply Kd.S_drewN | apply Kd.S_drew)); exact HO_11.out⟩, ⟨by repeat (first | (with_reducible first | exact HB.out | apply below_alloc | apply pw_below_drewN | apply below_drew1) | exact HB.out)⟩⟩
          · rw [if_neg c10] at H
            exact absurd H (by simp)
        · rw [if_neg c9] at H
          exact absurd H (by simp)
      · rw [if_neg c8] at H
        have c8b0 : decide (x19_1 < (l4.length : Int)) = false := decide_eq_false c8
        clear c8
        obtain rfl := Option.some.inj H
        go_wp2
        go_ret
        exact ⟨_, by first | rfl | (simp [errW_none, errW_some] <;> rfl) | (simp [*, errW_none, errW_some] <;> rfl), by (with_reducible repeat (first | apply Kd.S_alloc | apply Kd.S_drewN | apply Kd.S_drew)); exact HO_11.out, by repeat (first | (with_reducible first | exact HB.out | apply below_alloc | apply pw_below_drewN | apply below_drew1) | exact HB.out)⟩

end Go.Proofs.Ytccabdgfjcjpoaa.X
-- Written by a program of this session (a turn of the kit's print with contracts by hand). Not trusted: Lean checks it.
namespace Go.Proofs.Ytccabdgfjcjpoaa.X
open Go.RowKit Go.Proofs.YtccabdgfjcjpoaaW.PrintWords Go.Proofs.YtccabdgfjcjpoaaW.PrintLast Go.Proofs.YtccabdgfjcjpoaaW.PrintMore
attribute [local go_sem] max2_int min2_int max_two min_two max_three min_three max_four min_four   -- for this text's walks alone
set_option linter.unusedVariables false
set_option linter.unusedSimpArgs false

/-! ### net_place: function 41 -/
def net_place.f (a0 : Int) (a1 : Int) : Option (Int) := if a1 = 0 then (none) else (some (Int.tmod (wrap64 ((Int.tmod a0 a1) + a1)) a1))
set_option maxHeartbeats 8000000 in
set_option maxRecDepth 100000 in
theorem net_place.calls (a0 : Int) (a1 : Int) (r : Int) (w : World) (h : net_place.f a0 a1 = some r) :
    Calls Try.prog 41 #[.int .i64 a0, .int .i64 a1] w fun e w' => e = .returned (.int .i64 r) ∧ Drawn0 w w' := by
  have H : (if a1 = 0 then (none) else (some (Int.tmod (wrap64 ((Int.tmod a0 a1) + a1)) a1))) = some r := h
  clear h
  by_cases c3 : a1 = 0
  · rw [if_pos c3] at H
    exact absurd H (by simp)
  · rw [if_neg c3] at H
    have c3b0 : (a1 == 0) = false := beq_eq_false_iff_ne.mpr c3
    have c3b1 : (a1 != 0) = true := bne_iff_ne.mpr c3
    obtain rfl := Option.some.inj H
    go_enter Try.func41, Try.ntmps41
    go_wp2
    go_ret
    exact ⟨by first | rfl | (simp; done) | (simp [*]; done), by repeat (first | exact Drawn0.refl _ | apply Drawn0.step)⟩

end Go.Proofs.Ytccabdgfjcjpoaa.X
-- Written by a program of this session (a turn of the kit's print with contracts by hand). Not trusted: Lean checks it.
namespace Go.Proofs.Ytccabdgfjcjpoaa.X
open Go.RowKit Go.Proofs.YtccabdgfjcjpoaaW.PrintWords Go.Proofs.YtccabdgfjcjpoaaW.PrintLast Go.Proofs.YtccabdgfjcjpoaaW.PrintMore
attribute [local go_sem] max2_int min2_int max_two min_two max_three min_three max_four min_four   -- for this text's walks alone
set_option linter.unusedVariables false
set_option linter.unusedSimpArgs false

/-! ### net_Send: function 26 -/
def net_Send.f (k : Nat) (l0 : List (S56)) (a1_0 : Int) (a1_1 : Int) (a1_2 : Int) (l1_3 : List Int) : Option ((List (S56))) := (net_list.f k l0).bind fun t359 => (if (l0.length : Int) < 1024 then ((net_copied.f a1_0 a1_1 a1_2 l1_3).bind fun bt362 => (if t359.length < 2932031007402 then (some (t359 ++ [(⟨bt362.1, bt362.2.1, bt362.2.2.1, bt362.2.2.2⟩ : S56)])) else (none))) else (some t359))
theorem net_Send.mono : ∀ a0 a1 a2 a3 a4 k, LeO (net_Send.f k a0 a1 a2 a3 a4) (net_Send.f (k + 1) a0 a1 a2 a3 a4) := by
  intro a0 a1 a2 a3 a4 k
  unfold net_Send.f
  repeat' first
      | (with_reducible exact net_list.mono _ _)
      | (with_reducible exact LeO.refl _)
      | (with_reducible exact LeO.none _)
      | (with_reducible refine LeO.ite ?_ ?_)
      | (with_reducible refine LeO.bind ?_ (fun _ => ?_))
      | exact net_list.mono _ _
      | exact LeO.none _
      | refine LeO.ite ?_ ?_
      | refine LeO.bind ?_ (fun _ => ?_)
set_option maxHeartbeats 8000000 in
set_option maxRecDepth 100000 in
theorem net_Send.calls (k : Nat) (A0 : Option Addr) (c0 : Nat) (l0 : List (S56)) (a1_0 : Int) (a1_1 : Int) (a1_2 : Int) (A1_3 : Option Addr) (c1_3 : Nat) (l1_3 : List Int) (r : List (S56)) (w : World) (hr0 : Kd.C k56 w A0 l0.length l0) (hc0 : l0.length ≤ c0) (hr1_3 : Kd.C (Kd.int .u8) w A1_3 l1_3.length l1_3) (hc1_3 : l1_3.length ≤ c1_3) (h : net_Send.f k l0 a1_0 a1_1 a1_2 l1_3 = some r) :
    Calls Try.prog 26 #[.slice A0 l0.length c0, .agg #[.int .i64 a1_0, .int .i64 a1_1, .int .i64 a1_2, .slice A1_3 l1_3.length c1_3]] w fun e w' => ∃ v0_ : Value, e = .returned (v0_) ∧ Kd.S k56 56 w' w.heap.size (fun _ => True) v0_ r ∧ Below w.heap.size w w' := by
  have hu56 := Try.underlying56
  have HR0 := Aside0.mk hr0
  have HC0 := Aside0.mk hc0
  clear hr0 hc0
  have HR1_3 := Aside0.mk hr1_3
  have HC1_3 := Aside0.mk hc1_3
  clear hr1_3 hc1_3
  have HB := Aside0.mk (Below.refl w.heap.size w)
  have H : ((net_list.f k l0).bind fun t359 => (if (l0.length : Int) < 1024 then ((net_copied.f a1_0 a1_1 a1_2 l1_3).bind fun bt362 => (if t359.length < 2932031007402 then (some (t359 ++ [(⟨bt362.1, bt362.2.1, bt362.2.2.1, bt362.2.2.2⟩ : S56)])) else (none))) else (some t359))) = some r := h
  clear h
  replace H := Option.bind_eq_some_iff.mp H
  obtain ⟨t359, A30, H⟩ := H
  replace H : (if (l0.length : Int) < 1024 then ((net_copied.f a1_0 a1_1 a1_2 l1_3).bind fun bt362 => (if t359.length < 2932031007402 then (some (t359 ++ [(⟨bt362.1, bt362.2.1, bt362.2.2.1, bt362.2.2.2⟩ : S56)])) else (none))) else (some t359)) = some r := H
  have A3 := Aside0.mk A30
  clear A30
  by_cases c4 : (l0.length : Int) < 1024
  · rw [if_pos c4] at H
    have c4b0 : decide ((l0.length : Int) < 1024) = true := decide_eq_true c4
    have c4b1 : decide (l0.length < 1024) = true := decide_eq_true (by omega)
    clear c4
    replace H := Option.bind_eq_some_iff.mp H
    obtain ⟨⟨t362, t363, t364, t365⟩, A50, H⟩ := H
    replace H : (if t359.length < 2932031007402 then (some (t359 ++ [(⟨t362, t363, t364, t365⟩ : S56)])) else (none)) = some r := H
    have A5 := Aside0.mk A50
    clear A50
    by_cases c6 : t359.length < 2932031007402
    · rw [if_pos c6] at H
      have LMc6 := Aside0.mk c6
      clear c6
      obtain ⟨y368, hy368⟩ : ∃ y_ : List (S56), y_ = (t359 ++ [(⟨t362, t363, t364, t365⟩ : S56)]) := ⟨_, rfl⟩
      replace H : (some y368) = some r := by first | (rw [hy368]; with_reducible exact H) | (have H2_ := (Option.bind_some _ _).symm.trans H; rw [hy368]; with_reducible exact H2_) | (have H2_ := (Option.bind_some _ _).symm.trans H; with_reducible exact H2_) | with_reducible exact H | (rw [hy368]; exact H) | exact H
      have Ny368 := Aside0.mk hy368
      clear hy368
      obtain rfl := Option.some.inj H
      go_enter Try.func26, Try.ntmps26
      go_wp2_with (first | ((with_reducible refine gate_dst (N := 3) rfl ?_); refine box_event ?hg (N := 3) ?hd (cs := #[.int .i64 a1_0, .int .i64 a1_1, .int .i64 a1_2, .slice A1_3 l1_3.length c1_3]) (t := 56) ?hr ?_; (case hd => rfl); (case hg => rfl); (case hr => first | (go_simp; done) | (go_simp; rfl)); intro gb358 hg w7 hbox hb; have n0_ := Aside0.mk (below_step (by repeat (first | (with_reducible first | exact HB.out | apply below_alloc | apply pw_below_drewN | apply below_drew1) | exact HB.out)) hb); have n1_ := Aside0.mk (hbox); have n2_ := Aside0.mk ((by rw [hg]; exact (below_size (by repeat (first | (with_reducible first | exact HB.out | apply below_alloc | apply pw_below_drewN | apply below_drew1) | exact HB.out))) : w.heap.size ≤ gb358)); have n3_ := Aside0.mk ((by rw [hg]; exact (below_size (by repeat (first | (with_reducible first | exact HB.out | apply below_alloc | apply pw_below_drewN | apply below_drew1) | exact HB.out))) : w.heap.size ≤ gb358)); clear HB; have HB := n0_; have BK358 := n1_; have GW358 := n2_; have GE358 := n3_; clear n0_ n1_ n2_ n3_; clear hb hbox hg) | ((with_reducible refine gate_callee (f := 40) rfl ?_); refine goesL_ (some 7) rfl rfl Try.func40 (by kernel_rfl) rfl #[.slice A0 l0.length c0] rfl (by (try simp only [List.map_toArray, List.map_cons, List.map_nil]); first | done | rfl | (simp only [List.length_drop, List.length_take]; rfl)) ?_; (with_reducible refine (net_list.calls k _ _ l0 t359 _ ?side1 ?side2 A3.out).mono ?_); (case side1 => repeat (first | exact (Kd.C_below HR0.out HB.out) | (with_reducible refine Kd.C_alloc ?_ _) | (with_reducible refine Kd.C_drewN ?_ _) | (with_reducible refine Kd.C_drew ?_))); (case side2 => exact HC0.out); rintro e w8 ⟨v360, rfl, ho0, hb⟩; refine ⟨_, rfl, ?_⟩; have n0_ := Aside0.mk (Kd.S_lower (Kd.S_newB ho0 (g := gb358) (o := .cells #[.int .i64 a1_0, .int .i64 a1_1, .int .i64 a1_2, .slice A1_3 l1_3.length c1_3] 56 (0, 0)) (by (with_reducible repeat (first | refine blk_drewN ?_ _ | refine blk_drew ?_ | refine blk_alloc ?_ _)); exact BK358.out)) (below_size (by repeat (first | (with_reducible first | exact HB.out | apply below_alloc | apply pw_below_drewN | apply below_drew1 | refine below_set ?_ GE358.out) | exact HB.out)))); have n1_ := Aside0.mk (blk_below (g := gb358) (o := .cells #[.int .i64 a1_0, .int .i64 a1_1, .int .i64 a1_2, .slice A1_3 l1_3.length c1_3] 56 (0, 0)) (by (with_reducible repeat (first | refine blk_drewN ?_ _ | refine blk_drew ?_ | refine blk_alloc ?_ _)); exact BK358.out) hb); have n2_ := Aside0.mk (below_step (by repeat (first | (with_reducible first | exact HB.out | apply below_alloc | apply pw_below_drewN | apply below_drew1 | refine below_set ?_ GE358.out) | exact HB.out)) hb); clear BK358; clear HB; have HO361 := n0_; have BK358 := n1_; have HB := n2_; clear n0_ n1_ n2_; (try clear hb); (try clear hb2); (try clear hk); (try clear hi); (try clear ho0); have hcz9_0 : w8.cell? ⟨gb358, 0, none⟩ = some (.int .i64 a1_0) := (blk_cell BK358.out 0).trans rfl; have hcz9_1 : w8.cell? ⟨gb358, 1, none⟩ = some (.int .i64 a1_1) := (blk_cell BK358.out 1).trans rfl; have hcz9_2 : w8.cell? ⟨gb358, 2, none⟩ = some (.int .i64 a1_2) := (blk_cell BK358.out 2).trans rfl; have hcz9_3 : w8.cell? ⟨gb358, 3, none⟩ = some (.slice A1_3 l1_3.length c1_3) := (blk_cell BK358.out 3).trans rfl; have hfz9_0 := blk_frozen BK358.out 0; have hfz9_1 := blk_frozen BK358.out 1; have hfz9_2 := blk_frozen BK358.out 2; have hfz9_3 := blk_frozen BK358.out 3) | ((with_reducible refine gate_callee (f := 44) rfl ?_); refine goesL_ (some 13) rfl rfl Try.func44 (by kernel_rfl) rfl #[.agg #[.int .i64 a1_0, .int .i64 a1_1, .int .i64 a1_2, .slice A1_3 l1_3.length c1_3]] rfl (by (try simp only [List.map_toArray, List.map_cons, List.map_nil]); first | done | rfl | (simp only [List.length_drop, List.length_take]; rfl)) ?_; (with_reducible refine (net_copied.calls a1_0 a1_1 a1_2 _ _ l1_3 t362 t363 t364 t365 _ ?side1 ?side2 A5.out).mono ?_); (case side1 => repeat (first | exact (Kd.C_below HR1_3.out HB.out) | (with_reducible refine Kd.C_alloc ?_ _) | (with_reducible refine Kd.C_drewN ?_ _) | (with_reducible refine Kd.C_drew ?_))); (case side2 => exact HC1_3.out); rintro e w10 ⟨v366, rfl, ho0, hb⟩; refine ⟨_, rfl, ?_⟩; have n0_ := Aside0.mk (Kd.S_elder' (by (with_reducible repeat (first | apply Kd.S_alloc | apply Kd.S_drewN | apply Kd.S_drew)); exact HO361.out) (Kd.R_base ho0) hb); have n1_ := Aside0.mk (Kd.R_lower ho0 (below_size (by repeat (first | (with_reducible first | exact HB.out | apply below_alloc | apply pw_below_drewN | apply below_drew1 | refine below_set ?_ GE358.out) | exact HB.out)))); have n2_ := Aside0.mk (blk_below (g := gb358) (o := .cells #[.int .i64 a1_0, .int .i64 a1_1, .int .i64 a1_2, .slice A1_3 l1_3.length c1_3] 56 (0, 0)) (by (with_reducible repeat (first | refine blk_drewN ?_ _ | refine blk_drew ?_ | refine blk_alloc ?_ _)); exact BK358.out) hb); have n3_ := Aside0.mk (below_step (by repeat (first | (with_reducible first | exact HB.out | apply below_alloc | apply pw_below_drewN | apply below_drew1 | refine below_set ?_ GE358.out) | exact HB.out)) hb); clear HO361; clear BK358; clear HB; have HO361 := n0_; have HO367 := n1_; have BK358 := n2_; have HB := n3_; clear n0_ n1_ n2_ n3_; (try clear hb); (try clear hb2); (try clear hk); (try clear hi); (try clear ho0); obtain ⟨Ao12, co12, eo12⟩ := Kd.R_slice HO367.out; subst eo12) | ((with_reducible refine gate_builtin (b := .append) (xs := #[.tmp 11, .tmp 14]) rfl ?_); at_builtin; refine Kd.S_append k56 (w0 := w) w.heap.size rfl (.tmp 11) (.tmp 14) 53 56 (.agg #[(.int .i64 0), (.int .i64 0), (.int .i64 0), (.slice none 0 0)]) 48 rfl Try.underlying53 info56 rfl (by decide) (by omega) v360 t359 (⟨t362, t363, t364, t365⟩ : S56) [.int .i64 t362, .int .i64 t363, .int .i64 t364, .slice Ao12 t365.length co12] (fun k_ => k_ ≠ gb358) (fun k_ => some k_ = (.slice Ao12 t365.length co12 : Value).ownBlock) rfl rfl ?aP (fun k_ hk_ => ((Kd.R_mono (ok' := fun k_ => ((fun k_ => k_ ≠ gb358)) k_ ∧ some k_ ≠ (v360 : Value).ownBlock) (Kd.R_types (Kd.R_apart' (HO367.out) (Kd.S_typed HO361.out) (by decide)) BK358.out (by decide)) (fun k_ hk => ⟨hk.2, hk.1.2⟩))).1 k_ hk_.symm) ?aF ?aO ?aB ?aS ?aL ?_; (case aP => exact k56_mkM _ _ _ (⟨t362, t363, t364, t365⟩ : S56) (Kd.R_mono (Kd.R_tight rfl (Kd.R_mono (ok' := fun k_ => ((fun k_ => k_ ≠ gb358)) k_ ∧ some k_ ≠ (v360 : Value).ownBlock) (Kd.R_types (Kd.R_apart' (HO367.out) (Kd.S_typed HO361.out) (by decide)) BK358.out (by decide)) (fun k_ hk => ⟨hk.2, hk.1.2⟩))) (fun _ h_ => h_))); (case aB => exact (by repeat (first | (with_reducible first | exact HB.out | apply below_alloc | apply pw_below_drewN | apply below_drew1 | refine below_set ?_ GE358.out) | exact HB.out))); (case aF => exact (fun k_ hk => Kd.freshB (g := gb358) (o := .cells #[.int .i64 a1_0, .int .i64 a1_1, .int .i64 a1_2, .slice A1_3 l1_3.length c1_3] 56 (0, 0)) (by (with_reducible repeat (first | refine blk_drewN ?_ _ | refine blk_drew ?_ | refine blk_alloc ?_ _)); exact BK358.out) k_ hk)); (case aO => exact (by (with_reducible repeat (first | apply Kd.S_alloc | apply Kd.S_drewN | apply Kd.S_drew)); exact Kd.S_mono HO361.out (fun k_ hk => ⟨hk.1.2, fun e_ => hk.2 e_⟩))); (case aS => exact (below_size (by repeat (first | (with_reducible first | exact HB.out | apply below_alloc | apply pw_below_drewN | apply below_drew1 | refine below_set ?_ GE358.out) | exact HB.out)))); (case aL => have := LMc6.out; omega); intro v369 w11 ho hb hg hat; rw [← Ny368.out] at ho; have n0_ := Aside0.mk (blk_grown (g := gb358) (o := .cells #[.int .i64 a1_0, .int .i64 a1_1, .int .i64 a1_2, .slice A1_3 l1_3.length c1_3] 56 (0, 0)) (by (with_reducible repeat (first | refine blk_drewN ?_ _ | refine blk_drew ?_ | refine blk_alloc ?_ _)); exact BK358.out) hg (Kd.S_away HO361.out (fun _ hk => hk.1.2))); have n1_ := Aside0.mk (hb); have n2_ := Aside0.mk (ho); clear BK358; clear HB; clear HO361; clear HO367; have BK358 := n0_; have HB := n1_; have HO370 := n2_; clear n0_ n1_ n2_; clear ho hb hg hat))
      go_ret
      exact ⟨_, by first | rfl | (simp [errW_none, errW_some] <;> rfl) | (simp [*, errW_none, errW_some] <;> rfl), by (with_reducible repeat (first | apply Kd.S_alloc | apply Kd.S_drewN | apply Kd.S_drew)); exact Kd.S_mono HO370.out (fun _ hk => trivial), by repeat (first | (with_reducible first | exact HB.out | apply below_alloc | apply pw_below_drewN | apply below_drew1 | refine below_set ?_ GE358.out) | exact HB.out)⟩
    · rw [if_neg c6] at H
      exact absurd H (by simp)
  · rw [if_neg c4] at H
    have c4b0 : decide ((l0.length : Int) < 1024) = false := decide_eq_false c4
    have c4b1 : decide (l0.length < 1024) = false := decide_eq_false (by omega)
    clear c4
    obtain rfl := Option.some.inj H
    go_enter Try.func26, Try.ntmps26
    go_wp2_with (first | ((with_reducible refine gate_dst (N := 3) rfl ?_); refine box_event ?hg (N := 3) ?hd (cs := #[.int .i64 a1_0, .int .i64 a1_1, .int .i64 a1_2, .slice A1_3 l1_3.length c1_3]) (t := 56) ?hr ?_; (case hd => rfl); (case hg => rfl); (case hr => first | (go_simp; done) | (go_simp; rfl)); intro gb358 hg w13 hbox hb; have n0_ := Aside0.mk (below_step (by repeat (first | (with_reducible first | exact HB.out | apply below_alloc | apply pw_below_drewN | apply below_drew1) | exact HB.out)) hb); have n1_ := Aside0.mk (hbox); have n2_ := Aside0.mk ((by rw [hg]; exact (below_size (by repeat (first | (with_reducible first | exact HB.out | apply below_alloc | apply pw_below_drewN | apply below_drew1) | exact HB.out))) : w.heap.size ≤ gb358)); have n3_ := Aside0.mk ((by rw [hg]; exact (below_size (by repeat (first | (with_reducible first | exact HB.out | apply below_alloc | apply pw_below_drewN | apply below_drew1) | exact HB.out))) : w.heap.size ≤ gb358)); clear HB; have HB := n0_; have BK358 := n1_; have GW358 := n2_; have GE358 := n3_; clear n0_ n1_ n2_ n3_; clear hb hbox hg) | ((with_reducible refine gate_callee (f := 40) rfl ?_); refine goesL_ (some 7) rfl rfl Try.func40 (by kernel_rfl) rfl #[.slice A0 l0.length c0] rfl (by (try simp only [List.map_toArray, List.map_cons, List.map_nil]); first | done | rfl | (simp only [List.length_drop, List.length_take]; rfl)) ?_; (with_reducible refine (net_list.calls k _ _ l0 t359 _ ?side1 ?side2 A3.out).mono ?_); (case side1 => repeat (first | exact (Kd.C_below HR0.out HB.out) | (with_reducible refine Kd.C_alloc ?_ _) | (with_reducible refine Kd.C_drewN ?_ _) | (with_reducible refine Kd.C_drew ?_))); (case side2 => exact HC0.out); rintro e w14 ⟨v360, rfl, ho0, hb⟩; refine ⟨_, rfl, ?_⟩; have n0_ := Aside0.mk (Kd.S_lower (Kd.S_newB ho0 (g := gb358) (o := .cells #[.int .i64 a1_0, .int .i64 a1_1, .int .i64 a1_2, .slice A1_3 l1_3.length c1_3] 56 (0, 0)) (by (with_reducible repeat (first | refine blk_drewN ?_ _ | refine blk_drew ?_ | refine blk_alloc ?_ _)); exact BK358.out)) (below_size (by repeat (first | (with_reducible first | exact HB.out | apply below_alloc | apply pw_below_drewN | apply below_drew1 | refine below_set ?_ GE358.out) | exact HB.out)))); have n1_ := Aside0.mk (blk_below (g := gb358) (o := .cells #[.int .i64 a1_0, .int .i64 a1_1, .int .i64 a1_2, .slice A1_3 l1_3.length c1_3] 56 (0, 0)) (by (with_reducible repeat (first | refine blk_drewN ?_ _ | refine blk_drew ?_ | refine blk_alloc ?_ _)); exact BK358.out) hb); have n2_ := Aside0.mk (below_step (by repeat (first | (with_reducible first | exact HB.out | apply below_alloc | apply pw_below_drewN | apply below_drew1 | refine below_set ?_ GE358.out) | exact HB.out)) hb); clear BK358; clear HB; have HO361 := n0_; have BK358 := n1_; have HB := n2_; clear n0_ n1_ n2_; (try clear hb); (try clear hb2); (try clear hk); (try clear hi); (try clear ho0)))
    go_ret
    exact ⟨_, by first | rfl | (simp [errW_none, errW_some] <;> rfl) | (simp [*, errW_none, errW_some] <;> rfl), by (with_reducible repeat (first | apply Kd.S_alloc | apply Kd.S_drewN | apply Kd.S_drew)); exact Kd.S_mono HO361.out (fun _ hk => trivial), by repeat (first | (with_reducible first | exact HB.out | apply below_alloc | apply pw_below_drewN | apply below_drew1 | refine below_set ?_ GE358.out) | exact HB.out)⟩

end Go.Proofs.Ytccabdgfjcjpoaa.X
-- Written by a program of this session (a turn of the kit's print with contracts by hand). Not trusted: Lean checks it.
namespace Go.Proofs.Ytccabdgfjcjpoaa.X
open Go.RowKit Go.Proofs.YtccabdgfjcjpoaaW.PrintWords Go.Proofs.YtccabdgfjcjpoaaW.PrintLast Go.Proofs.YtccabdgfjcjpoaaW.PrintMore
attribute [local go_sem] max2_int min2_int max_two min_two max_three min_three max_four min_four   -- for this text's walks alone
set_option linter.unusedVariables false
set_option linter.unusedSimpArgs false

/-! ### net_Twin: function 29 -/
def net_Twin.f (k : Nat) (l0 : List (S56)) (a1 : Int) : Option ((List (S56))) := if (l0.length : Int) = 0 then (some ([] : List (S56))) else ((net_place.f a1 (l0.length : Int)).bind fun t371 => (if 0 ≤ t371 then (if t371 < (l0.length : Int) then ((net_Send.f k l0 ((rd_T56 l0 t371).f0) ((rd_T56 l0 t371).f1) ((rd_T56 l0 t371).f2) ((rd_T56 l0 t371).f3)).bind fun t373 => (some t373)) else (none)) else (none)))
theorem net_Twin.mono : ∀ a0 a1 k, LeO (net_Twin.f k a0 a1) (net_Twin.f (k + 1) a0 a1) := by
  intro a0 a1 k
  unfold net_Twin.f
  repeat' first
      | (with_reducible exact net_Send.mono _ _ _ _ _ _)
      | (with_reducible exact LeO.refl _)
      | (with_reducible exact LeO.none _)
      | (with_reducible refine LeO.ite ?_ ?_)
      | (with_reducible refine LeO.bind ?_ (fun _ => ?_))
      | exact net_Send.mono _ _ _ _ _ _
      | exact LeO.none _
      | refine LeO.ite ?_ ?_
      | refine LeO.bind ?_ (fun _ => ?_)
set_option maxHeartbeats 8000000 in
set_option maxRecDepth 100000 in
theorem net_Twin.calls (k : Nat) (A0 : Option Addr) (c0 : Nat) (l0 : List (S56)) (a1 : Int) (r : List (S56)) (w : World) (hr0 : Kd.C k56 w A0 l0.length l0) (hc0 : l0.length ≤ c0) (h : net_Twin.f k l0 a1 = some r) :
    Calls Try.prog 29 #[.slice A0 l0.length c0, .int .i64 a1] w fun e w' => ∃ v0_ : Value, e = .returned (v0_) ∧ Kd.S k56 56 w' w.heap.size (fun _ => True) v0_ r ∧ Below w.heap.size w w' := by
  have hu56 := Try.underlying56
  have HR0 := Aside0.mk hr0
  have HC0 := Aside0.mk hc0
  clear hr0 hc0
  have HB := Aside0.mk (Below.refl w.heap.size w)
  have H : (if (l0.length : Int) = 0 then (some ([] : List (S56))) else ((net_place.f a1 (l0.length : Int)).bind fun t371 => (if 0 ≤ t371 then (if t371 < (l0.length : Int) then ((net_Send.f k l0 ((rd_T56 l0 t371).f0) ((rd_T56 l0 t371).f1) ((rd_T56 l0 t371).f2) ((rd_T56 l0 t371).f3)).bind fun t373 => (some t373)) else (none)) else (none)))) = some r := h
  clear h
  by_cases c3 : (l0.length : Int) = 0
  · rw [if_pos c3] at H
    have c3b0 : ((l0.length : Int) == 0) = true := beq_iff_eq.mpr c3
    have c3b1 : ((l0.length : Int) != 0) = false := bne_eq_false_iff_eq.mpr c3
    clear c3
    obtain rfl := Option.some.inj H
    go_enter Try.func29, Try.ntmps29
    go_wp2
    go_ret
    exact ⟨_, by first | rfl | (simp [errW_none, errW_some] <;> rfl) | (simp [*, errW_none, errW_some] <;> rfl), by first | exact Kd.S_nil _ _ _ _ _ | exact Kd.N_nil _ _ _ _ _ | exact Kd.V_nil _ _ _ _ _ | exact Kd.Q_nil _ _ _ _ _ | exact Kd.R_nil _ _ _ _ _, by repeat (first | (with_reducible first | exact HB.out | apply below_alloc | apply pw_below_drewN | apply below_drew1) | exact HB.out)⟩
  · rw [if_neg c3] at H
    have c3b0 : ((l0.length : Int) == 0) = false := beq_eq_false_iff_ne.mpr c3
    have c3b1 : ((l0.length : Int) != 0) = true := bne_iff_ne.mpr c3
    have c3b2 : ¬ (l0 = []) := fun h_ => c3 (by rw [h_]; rfl)
    replace H := Option.bind_eq_some_iff.mp H
    obtain ⟨t371, A40, H⟩ := H
    replace H : (if 0 ≤ t371 then (if t371 < (l0.length : Int) then ((net_Send.f k l0 ((rd_T56 l0 t371).f0) ((rd_T56 l0 t371).f1) ((rd_T56 l0 t371).f2) ((rd_T56 l0 t371).f3)).bind fun t373 => (some t373)) else (none)) else (none)) = some r := H
    have A4 := Aside0.mk A40
    clear A40
    by_cases c5 : 0 ≤ t371
    · rw [if_pos c5] at H
      have c5b0 : decide (0 ≤ t371) = true := decide_eq_true c5
      clear c5
      by_cases c6 : t371 < (l0.length : Int)
      · rw [if_pos c6] at H
        have c6b0 : decide (t371 < (l0.length : Int)) = true := decide_eq_true c6
        clear c6
        replace H := Option.bind_eq_some_iff.mp H
        obtain ⟨t373, A70, H⟩ := H
        replace H : (some t373) = some r := H
        have A7 := Aside0.mk A70
        clear A70
        obtain rfl := Option.some.inj H
        go_enter Try.func29, Try.ntmps29
        go_wp2_with (first | ((with_reducible refine gate_callee (f := 41) rfl ?_); refine goesL_ (some 13) rfl rfl Try.func41 (by kernel_rfl) rfl #[.int .i64 a1, .int .i64 (l0.length : Int)] rfl (by (try simp only [List.map_toArray, List.map_cons, List.map_nil]); first | done | rfl | (simp only [List.length_drop, List.length_take]; rfl)) ?_; (with_reducible refine (net_place.calls a1 (l0.length : Int) t371 _ A4.out).mono ?_); rintro e w' ⟨rfl, ⟨nd, rfl⟩⟩; refine ⟨_, rfl, ?_⟩; have p372 : 0 ≤ (t371 : Int) := of_decide_eq_true (by first | (with_reducible assumption) | assumption); have q372 : t371 < (l0.length : Int) := of_decide_eq_true (by first | (with_reducible assumption) | assumption); obtain ⟨ad372, A372_3, c372_3, e372, hx372_0, hx372_1, hx372_2, hx372_3, hl372_3, hi372_3⟩ := at_T56 HR0.out t371 p372 q372; cases e372; have HR372_3 := Aside0.mk hi372_3; have HC372_3 := Aside0.mk hl372_3; clear hi372_3 hl372_3; replace p372 := eq_true p372; replace q372 := eq_true q372) | ((with_reducible refine gate_callee (f := 26) rfl ?_); refine goesL_ (some 16) rfl rfl Try.func26 (by kernel_rfl) rfl #[.slice (some ad372) l0.length c0, .agg #[.int .i64 ((rd_T56 l0 t371).f0), .int .i64 ((rd_T56 l0 t371).f1), .int .i64 ((rd_T56 l0 t371).f2), .slice A372_3 ((rd_T56 l0 t371).f3).length c372_3]] rfl (by (try simp only [List.map_toArray, List.map_cons, List.map_nil]); first | done | rfl | (simp only [List.length_drop, List.length_take]; rfl)) ?_; (with_reducible refine (net_Send.calls k _ _ l0 ((rd_T56 l0 t371).f0) ((rd_T56 l0 t371).f1) ((rd_T56 l0 t371).f2) _ _ ((rd_T56 l0 t371).f3) t373 _ ?side1 ?side2 ?side3 ?side4 A7.out).mono ?_); (case side1 => repeat (first | exact HR0.out | (with_reducible refine Kd.C_alloc ?_ _) | (with_reducible refine Kd.C_drewN ?_ _) | (with_reducible refine Kd.C_drew ?_))); (case side2 => exact HC0.out); (case side3 => repeat (first | exact HR372_3.out | (with_reducible refine Kd.C_alloc ?_ _) | (with_reducible refine Kd.C_drewN ?_ _) | (with_reducible refine Kd.C_drew ?_))); (case side4 => exact HC372_3.out); rintro e w8 ⟨v374, rfl, ho0, hb⟩; refine ⟨_, rfl, ?_⟩; have n0_ := Aside0.mk (Kd.S_lower ho0 (below_size (by repeat (first | (with_reducible first | exact HB.out | apply below_alloc | apply pw_below_drewN | apply below_drew1) | exact HB.out)))); have n1_ := Aside0.mk (below_step (by repeat (first | (with_reducible first | exact HB.out | apply below_alloc | apply pw_below_drewN | apply below_drew1) | exact HB.out)) hb); clear HB; have HO375 := n0_; have HB := n1_; clear n0_ n1_; (try clear hb); (try clear hb2); (try clear hk); (try clear hi); (try clear ho0)))
        go_ret
        exact ⟨_, by first | rfl | (simp [errW_none, errW_some] <;> rfl) | (simp [*, errW_none, errW_some] <;> rfl), by (with_reducible repeat (first | apply Kd.S_alloc | apply Kd.S_drewN | apply Kd.S_drew)); exact HO375.out, by repeat (first | (with_reducible first | exact HB.out | apply below_alloc | apply pw_below_drewN | apply below_drew1) | exact HB.out)⟩
      · rw [if_neg c6] at H
        exact absurd H (by simp)
    · rw [if_neg c5] at H
      exact absurd H (by simp)

end Go.Proofs.Ytccabdgfjcjpoaa.X
-- Written by a program of this session (a turn of the kit's print with contracts by hand). Not trusted: Lean checks it.
namespace Go.Proofs.Ytccabdgfjcjpoaa.X
open Go.RowKit Go.Proofs.YtccabdgfjcjpoaaW.PrintWords Go.Proofs.YtccabdgfjcjpoaaW.PrintLast Go.Proofs.YtccabdgfjcjpoaaW.PrintMore
attribute [local go_sem] max2_int min2_int max_two min_two max_three min_three max_four min_four   -- for this text's walks alone
set_option linter.unusedVariables false
set_option linter.unusedSimpArgs false

/-! ### mootlaw24_one: function 30 -/
def mootlaw24_one.f (a0_0 : Int) (a0_1 : Int) (a0_2 : Int) (l0_3 : List Int) (a1_0 : Int) (a1_1 : Int) (a1_2 : Int) (l1_3 : List Int) : Option (Bool) := if a0_0 = a1_0 then (if a0_1 = a1_1 then (if a0_2 = a1_2 then (some ((strOfNums l0_3).toList == (strOfNums l1_3).toList)) else (some false)) else (some false)) else (some false)
set_option maxHeartbeats 8000000 in
set_option maxRecDepth 100000 in
theorem mootlaw24_one.calls (a0_0 : Int) (a0_1 : Int) (a0_2 : Int) (A0_3 : Option Addr) (c0_3 : Nat) (l0_3 : List Int) (a1_0 : Int) (a1_1 : Int) (a1_2 : Int) (A1_3 : Option Addr) (c1_3 : Nat) (l1_3 : List Int) (r : Bool) (w : World) (hr0_3 : Kd.C (Kd.int .u8) w A0_3 l0_3.length l0_3) (hc0_3 : l0_3.length ≤ c0_3) (hr1_3 : Kd.C (Kd.int .u8) w A1_3 l1_3.length l1_3) (hc1_3 : l1_3.length ≤ c1_3) (h : mootlaw24_one.f a0_0 a0_1 a0_2 l0_3 a1_0 a1_1 a1_2 l1_3 = some r) :
    Calls Try.prog 30 #[.agg #[.int .i64 a0_0, .int .i64 a0_1, .int .i64 a0_2, .slice A0_3 l0_3.length c0_3], .agg #[.int .i64 a1_0, .int .i64 a1_1, .int .i64 a1_2, .slice A1_3 l1_3.length c1_3]] w fun e w' => e = .returned (.bool r) ∧ Below w.heap.size w w' := by
  have hu56 := Try.underlying56
  have HR0_3 := Aside0.mk hr0_3
  have HC0_3 := Aside0.mk hc0_3
  clear hr0_3 hc0_3
  have HR1_3 := Aside0.mk hr1_3
  have HC1_3 := Aside0.mk hc1_3
  clear hr1_3 hc1_3
  have HB := Aside0.mk (Below.refl w.heap.size w)
  have H : (if a0_0 = a1_0 then (if a0_1 = a1_1 then (if a0_2 = a1_2 then (some ((strOfNums l0_3).toList == (strOfNums l1_3).toList)) else (some false)) else (some false)) else (some false)) = some r := h
  clear h
  by_cases c3 : a0_0 = a1_0
  · rw [if_pos c3] at H
    have c3b0 : (a0_0 == a1_0) = true := beq_iff_eq.mpr c3
    have c3b1 : (a0_0 != a1_0) = false := bne_eq_false_iff_eq.mpr c3
    clear c3
    by_cases c4 : a0_1 = a1_1
    · rw [if_pos c4] at H
      have c4b0 : (a0_1 == a1_1) = true := beq_iff_eq.mpr c4
      have c4b1 : (a0_1 != a1_1) = false := bne_eq_false_iff_eq.mpr c4
      clear c4
      by_cases c5 : a0_2 = a1_2
      · rw [if_pos c5] at H
        have c5b0 : (a0_2 == a1_2) = true := beq_iff_eq.mpr c5
        have c5b1 : (a0_2 != a1_2) = false := bne_eq_false_iff_eq.mpr c5
        clear c5
        obtain rfl := Option.some.inj H
        go_enter Try.func30, Try.ntmps30
        go_wp2_with (first | ((with_reducible refine gate_dst (N := 2) rfl ?_); refine box_event ?hg (N := 2) ?hd (cs := #[.int .i64 a0_0, .int .i64 a0_1, .int .i64 a0_2, .slice A0_3 l0_3.length c0_3]) (t := 56) ?hr ?_; (case hd => rfl); (case hg => rfl); (case hr => first | (go_simp; done) | (go_simp; rfl)); intro gb353 hg w6 hbox hb; have n0_ := Aside0.mk (below_step (by repeat (first | (with_reducible first | exact HB.out | apply below_alloc | apply pw_below_drewN | apply below_drew1) | exact HB.out)) hb); have n1_ := Aside0.mk (hbox); have n2_ := Aside0.mk ((by rw [hg]; exact (below_size (by repeat (first | (with_reducible first | exact HB.out | apply below_alloc | apply pw_below_drewN | apply below_drew1) | exact HB.out))) : w.heap.size ≤ gb353)); have n3_ := Aside0.mk ((by rw [hg]; exact (below_size (by repeat (first | (with_reducible first | exact HB.out | apply below_alloc | apply pw_below_drewN | apply below_drew1) | exact HB.out))) : w.heap.size ≤ gb353)); clear HB; have HB := n0_; have BK353 := n1_; have GW353 := n2_; have GE353 := n3_; clear n0_ n1_ n2_ n3_; clear hb hbox hg) | ((with_reducible refine gate_dst (N := 3) rfl ?_); refine box_event ?hg (N := 3) ?hd (cs := #[.int .i64 a1_0, .int .i64 a1_1, .int .i64 a1_2, .slice A1_3 l1_3.length c1_3]) (t := 56) ?hr ?_; (case hd => rfl); (case hg => rfl); (case hr => first | (go_simp; done) | (go_simp; rfl)); intro gb354 hg w7 hbox hb; have n0_ := Aside0.mk (blk_below (g := gb353) (o := .cells #[.int .i64 a0_0, .int .i64 a0_1, .int .i64 a0_2, .slice A0_3 l0_3.length c0_3] 56 (0, 0)) (by (with_reducible repeat (first | refine blk_drewN ?_ _ | refine blk_drew ?_ | refine blk_alloc ?_ _)); exact BK353.out) hb); have n1_ := Aside0.mk (below_step (by repeat (first | (with_reducible first | exact HB.out | apply below_alloc | apply pw_below_drewN | apply below_drew1 | refine below_set ?_ GE353.out) | exact HB.out)) hb); have n2_ := Aside0.mk (hbox); have n3_ := Aside0.mk ((by rw [hg]; exact (below_size (by repeat (first | (with_reducible first | exact HB.out | apply below_alloc | apply pw_below_drewN | apply below_drew1 | refine below_set ?_ GE353.out) | exact HB.out))) : w.heap.size ≤ gb354)); have n4_ := Aside0.mk ((by rw [hg]; exact (below_size (by repeat (first | (with_reducible first | exact HB.out | apply below_alloc | apply pw_below_drewN | apply below_drew1 | refine below_set ?_ GE353.out) | exact HB.out))) : w.heap.size ≤ gb354)); have n5_ := Aside0.mk ((by rw [hg]; exact Nat.ne_of_lt (blk_lt (g := gb353) (o := .cells #[.int .i64 a0_0, .int .i64 a0_1, .int .i64 a0_2, .slice A0_3 l0_3.length c0_3] 56 (0, 0)) (by (with_reducible repeat (first | refine blk_drewN ?_ _ | refine blk_drew ?_ | refine blk_alloc ?_ _)); exact BK353.out)) : gb353 ≠ gb354)); have n6_ := Aside0.mk ((by rw [hg]; exact Nat.ne_of_gt (blk_lt (g := gb353) (o := .cells #[.int .i64 a0_0, .int .i64 a0_1, .int .i64 a0_2, .slice A0_3 l0_3.length c0_3] 56 (0, 0)) (by (with_reducible repeat (first | refine blk_drewN ?_ _ | refine blk_drew ?_ | refine blk_alloc ?_ _)); exact BK353.out)) : gb354 ≠ gb353)); clear BK353; clear HB; have BK353 := n0_; have HB := n1_; have BK354 := n2_; have GW354 := n3_; have GE354 := n4_; have NB353_354 := n5_; have NB354_353 := n6_; clear n0_ n1_ n2_ n3_ n4_ n5_ n6_; clear hb hbox hg; have hnb8 := NB353_354.out; have hnc8 := NB354_353.out; have hcz9_0 : w7.cell? ⟨gb353, 0, none⟩ = some (.int .i64 a0_0) := (blk_cell BK353.out 0).trans rfl; have hcz9_1 : w7.cell? ⟨gb353, 1, none⟩ = some (.int .i64 a0_1) := (blk_cell BK353.out 1).trans rfl; have hcz9_2 : w7.cell? ⟨gb353, 2, none⟩ = some (.int .i64 a0_2) := (blk_cell BK353.out 2).trans rfl; have hcz9_3 : w7.cell? ⟨gb353, 3, none⟩ = some (.slice A0_3 l0_3.length c0_3) := (blk_cell BK353.out 3).trans rfl; have hfz9_0 := blk_frozen BK353.out 0; have hfz9_1 := blk_frozen BK353.out 1; have hfz9_2 := blk_frozen BK353.out 2; have hfz9_3 := blk_frozen BK353.out 3; have hcz10_0 : w7.cell? ⟨gb354, 0, none⟩ = some (.int .i64 a1_0) := (blk_cell BK354.out 0).trans rfl; have hcz10_1 : w7.cell? ⟨gb354, 1, none⟩ = some (.int .i64 a1_1) := (blk_cell BK354.out 1).trans rfl; have hcz10_2 : w7.cell? ⟨gb354, 2, none⟩ = some (.int .i64 a1_2) := (blk_cell BK354.out 2).trans rfl; have hcz10_3 : w7.cell? ⟨gb354, 3, none⟩ = some (.slice A1_3 l1_3.length c1_3) := (blk_cell BK354.out 3).trans rfl; have hfz10_0 := blk_frozen BK354.out 0; have hfz10_1 := blk_frozen BK354.out 1; have hfz10_2 := blk_frozen BK354.out 2; have hfz10_3 := blk_frozen BK354.out 3; have hcv11 := Kd.C_string (P := Try.prog) (A := A0_3) (c := c0_3) Try.underlying54 Try.underlying5 Try.underlying9 (Kd.C_below HR0_3.out HB.out); have hcv12 := Kd.C_string (P := Try.prog) (A := A1_3) (c := c1_3) Try.underlying54 Try.underlying5 Try.underlying9 (Kd.C_below HR1_3.out HB.out)))
        go_ret
        exact ⟨by first | rfl | (simp [errW_none, errW_some] <;> rfl) | (simp [*, errW_none, errW_some] <;> rfl), by repeat (first | (with_reducible first | exact HB.out | apply below_alloc | apply pw_below_drewN | apply below_drew1 | refine below_set ?_ GE353.out | refine below_set ?_ GE354.out) | exact HB.out)⟩
      · rw [if_neg c5] at H
        have c5b0 : (a0_2 == a1_2) = false := beq_eq_false_iff_ne.mpr c5
        have c5b1 : (a0_2 != a1_2) = true := bne_iff_ne.mpr c5
        obtain rfl := Option.some.inj H
        go_enter Try.func30, Try.ntmps30
        go_wp2_with (first | ((with_reducible refine gate_dst (N := 2) rfl ?_); refine box_event ?hg (N := 2) ?hd (cs := #[.int .i64 a0_0, .int .i64 a0_1, .int .i64 a0_2, .slice A0_3 l0_3.length c0_3]) (t := 56) ?hr ?_; (case hd => rfl); (case hg => rfl); (case hr => first | (go_simp; done) | (go_simp; rfl)); intro gb353 hg w13 hbox hb; have n0_ := Aside0.mk (below_step (by repeat (first | (with_reducible first | exact HB.out | apply below_alloc | apply pw_below_drewN | apply below_drew1) | exact HB.out)) hb); have n1_ := Aside0.mk (hbox); have n2_ := Aside0.mk ((by rw [hg]; exact (below_size (by repeat (first | (with_reducible first | exact HB.out | apply below_alloc | apply pw_below_drewN | apply below_drew1) | exact HB.out))) : w.heap.size ≤ gb353)); have n3_ := Aside0.mk ((by rw [hg]; exact (below_size (by repeat (first | (with_reducible first | exact HB.out | apply below_alloc | apply pw_below_drewN | apply below_drew1) | exact HB.out))) : w.heap.size ≤ gb353)); clear HB; have HB := n0_; have BK353 := n1_; have GW353 := n2_; have GE353 := n3_; clear n0_ n1_ n2_ n3_; clear hb hbox hg) | ((with_reducible refine gate_dst (N := 3) rfl ?_); refine box_event ?hg (N := 3) ?hd (cs := #[.int .i64 a1_0, .int .i64 a1_1, .int .i64 a1_2, .slice A1_3 l1_3.length c1_3]) (t := 56) ?hr ?_; (case hd => rfl); (case hg => rfl); (case hr => first | (go_simp; done) | (go_simp; rfl)); intro gb354 hg w14 hbox hb; have n0_ := Aside0.mk (blk_below (g := gb353) (o := .cells #[.int .i64 a0_0, .int .i64 a0_1, .int .i64 a0_2, .slice A0_3 l0_3.length c0_3] 56 (0, 0)) (by (with_reducible repeat (first | refine blk_drewN ?_ _ | refine blk_drew ?_ | refine blk_alloc ?_ _)); exact BK353.out) hb); have n1_ := Aside0.mk (below_step (by repeat (first | (with_reducible first | exact HB.out | apply below_alloc | apply pw_below_drewN | apply below_drew1 | refine below_set ?_ GE353.out) | exact HB.out)) hb); have n2_ := Aside0.mk (hbox); have n3_ := Aside0.mk ((by rw [hg]; exact (below_size (by repeat (first | (with_reducible first | exact HB.out | apply below_alloc | apply pw_below_drewN | apply below_drew1 | refine below_set ?_ GE353.out) | exact HB.out))) : w.heap.size ≤ gb354)); have n4_ := Aside0.mk ((by rw [hg]; exact (below_size (by repeat (first | (with_reducible first | exact HB.out | apply below_alloc | apply pw_below_drewN | apply below_drew1 | refine below_set ?_ GE353.out) | exact HB.out))) : w.heap.size ≤ gb354)); have n5_ := Aside0.mk ((by rw [hg]; exact Nat.ne_of_lt (blk_lt (g := gb353) (o := .cells #[.int .i64 a0_0, .int .i64 a0_1, .int .i64 a0_2, .slice A0_3 l0_3.length c0_3] 56 (0, 0)) (by (with_reducible repeat (first | refine blk_drewN ?_ _ | refine blk_drew ?_ | refine blk_alloc ?_ _)); exact BK353.out)) : gb353 ≠ gb354)); have n6_ := Aside0.mk ((by rw [hg]; exact Nat.ne_of_gt (blk_lt (g := gb353) (o := .cells #[.int .i64 a0_0, .int .i64 a0_1, .int .i64 a0_2, .slice A0_3 l0_3.length c0_3] 56 (0, 0)) (by (with_reducible repeat (first | refine blk_drewN ?_ _ | refine blk_drew ?_ | refine blk_alloc ?_ _)); exact BK353.out)) : gb354 ≠ gb353)); clear BK353; clear HB; have BK353 := n0_; have HB := n1_; have BK354 := n2_; have GW354 := n3_; have GE354 := n4_; have NB353_354 := n5_; have NB354_353 := n6_; clear n0_ n1_ n2_ n3_ n4_ n5_ n6_; clear hb hbox hg; have hnb15 := NB353_354.out; have hnc15 := NB354_353.out; have hcz16_0 : w14.cell? ⟨gb353, 0, none⟩ = some (.int .i64 a0_0) := (blk_cell BK353.out 0).trans rfl; have hcz16_1 : w14.cell? ⟨gb353, 1, none⟩ = some (.int .i64 a0_1) := (blk_cell BK353.out 1).trans rfl; have hcz16_2 : w14.cell? ⟨gb353, 2, none⟩ = some (.int .i64 a0_2) := (blk_cell BK353.out 2).trans rfl; have hcz16_3 : w14.cell? ⟨gb353, 3, none⟩ = some (.slice A0_3 l0_3.length c0_3) := (blk_cell BK353.out 3).trans rfl; have hfz16_0 := blk_frozen BK353.out 0; have hfz16_1 := blk_frozen BK353.out 1; have hfz16_2 := blk_frozen BK353.out 2; have hfz16_3 := blk_frozen BK353.out 3; have hcz17_0 : w14.cell? ⟨gb354, 0, none⟩ = some (.int .i64 a1_0) := (blk_cell BK354.out 0).trans rfl; have hcz17_1 : w14.cell? ⟨gb354, 1, none⟩ = some (.int .i64 a1_1) := (blk_cell BK354.out 1).trans rfl; have hcz17_2 : w14.cell? ⟨gb354, 2, none⟩ = some (.int .i64 a1_2) := (blk_cell BK354.out 2).trans rfl; have hcz17_3 : w14.cell? ⟨gb354, 3, none⟩ = some (.slice A1_3 l1_3.length c1_3) := (blk_cell BK354.out 3).trans rfl; have hfz17_0 := blk_frozen BK354.out 0; have hfz17_1 := blk_frozen BK354.out 1; have hfz17_2 := blk_frozen BK354.out 2; have hfz17_3 := blk_frozen BK354.out 3))
        go_ret
        exact ⟨by first | rfl | (simp [errW_none, errW_some] <;> rfl) | (simp [*, errW_none, errW_some] <;> rfl), by repeat (first | (with_reducible first | exact HB.out | apply below_alloc | apply pw_below_drewN | apply below_drew1 | refine below_set ?_ GE353.out | refine below_set ?_ GE354.out) | exact HB.out)⟩
    · rw [if_neg c4] at H
      have c4b0 : (a0_1 == a1_1) = false := beq_eq_false_iff_ne.mpr c4
      have c4b1 : (a0_1 != a1_1) = true := bne_iff_ne.mpr c4
      obtain rfl := Option.some.inj H
      go_enter Try.func30, Try.ntmps30
      go_wp2_with (first | ((with_reducible refine gate_dst (N := 2) rfl ?_); refine box_event ?hg (N := 2) ?hd (cs := #[.int .i64 a0_0, .int .i64 a0_1, .int .i64 a0_2, .slice A0_3 l0_3.length c0_3]) (t := 56) ?hr ?_; (case hd => rfl); (case hg => rfl); (case hr => first | (go_simp; done) | (go_simp; rfl)); intro gb353 hg w18 hbox hb; have n0_ := Aside0.mk (below_step (by repeat (first | (with_reducible first | exact HB.out | apply below_alloc | apply pw_below_drewN | apply below_drew1) | exact HB.out)) hb); have n1_ := Aside0.mk (hbox); have n2_ := Aside0.mk ((by rw [hg]; exact (below_size (by repeat (first | (with_reducible first | exact HB.out | apply below_alloc | apply pw_below_drewN | apply below_drew1) | exact HB.out))) : w.heap.size ≤ gb353)); have n3_ := Aside0.mk ((by rw [hg]; exact (below_size (by repeat (first | (with_reducible first | exact HB.out | apply below_alloc | apply pw_below_drewN | apply below_drew1) | exact HB.out))) : w.heap.size ≤ gb353)); clear HB; have HB := n0_; have BK353 := n1_; have GW353 := n2_; have GE353 := n3_; clear n0_ n1_ n2_ n3_; clear hb hbox hg) | ((with_reducible refine gate_dst (N := 3) rfl ?_); refine box_event ?hg (N := 3) ?hd (cs := #[.int .i64 a1_0, .int .i64 a1_1, .int .i64 a1_2, .slice A1_3 l1_3.length c1_3]) (t := 56) ?hr ?_; (case hd => rfl); (case hg => rfl); (case hr => first | (go_simp; done) | (go_simp; rfl)); intro gb354 hg w19 hbox hb; have n0_ := Aside0.mk (blk_below (g := gb353) (o := .cells #[.int .i64 a0_0, .int .i64 a0_1, .int .i64 a0_2, .slice A0_3 l0_3.length c0_3] 56 (0, 0)) (by (with_reducible repeat (first | refine blk_drewN ?_ _ | refine blk_drew ?_ | refine blk_alloc ?_ _)); exact BK353.out) hb); have n1_ := Aside0.mk (below_step (by repeat (first | (with_reducible first | exact HB.out | apply below_alloc | apply pw_below_drewN | apply below_drew1 | refine below_set ?_ GE353.out) | exact HB.out)) hb); have n2_ := Aside0.mk (hbox); have n3_ := Aside0.mk ((by rw [hg]; exact (below_size (by repeat (first | (with_reducible first | exact HB.out | apply below_alloc | apply pw_below_drewN | apply below_drew1 | refine below_set ?_ GE353.out) | exact HB.out))) : w.heap.size ≤ gb354)); have n4_ := Aside0.mk ((by rw [hg]; exact (below_size (by repeat (first | (with_reducible first | exact HB.out | apply below_alloc | apply pw_below_drewN | apply below_drew1 | refine below_set ?_ GE353.out) | exact HB.out))) : w.heap.size ≤ gb354)); have n5_ := Aside0.mk ((by rw [hg]; exact Nat.ne_of_lt (blk_lt (g := gb353) (o := .cells #[.int .i64 a0_0, .int .i64 a0_1, .int .i64 a0_2, .slice A0_3 l0_3.length c0_3] 56 (0, 0)) (by (with_reducible repeat (first | refine blk_drewN ?_ _ | refine blk_drew ?_ | refine blk_alloc ?_ _)); exact BK353.out)) : gb353 ≠ gb354)); have n6_ := Aside0.mk ((by rw [hg]; exact Nat.ne_of_gt (blk_lt (g := gb353) (o := .cells #[.int .i64 a0_0, .int .i64 a0_1, .int .i64 a0_2, .slice A0_3 l0_3.length c0_3] 56 (0, 0)) (by (with_reducible repeat (first | refine blk_drewN ?_ _ | refine blk_drew ?_ | refine blk_alloc ?_ _)); exact BK353.out)) : gb354 ≠ gb353)); clear BK353; clear HB; have BK353 := n0_; have HB := n1_; have BK354 := n2_; have GW354 := n3_; have GE354 := n4_; have NB353_354 := n5_; have NB354_353 := n6_; clear n0_ n1_ n2_ n3_ n4_ n5_ n6_; clear hb hbox hg; have hnb20 := NB353_354.out; have hnc20 := NB354_353.out; have hcz21_0 : w19.cell? ⟨gb353, 0, none⟩ = some (.int .i64 a0_0) := (blk_cell BK353.out 0).trans rfl; have hcz21_1 : w19.cell? ⟨gb353, 1, none⟩ = some (.int .i64 a0_1) := (blk_cell BK353.out 1).trans rfl; have hcz21_2 : w19.cell? ⟨gb353, 2, none⟩ = some (.int .i64 a0_2) := (blk_cell BK353.out 2).trans rfl; have hcz21_3 : w19.cell? ⟨gb353, 3, none⟩ = some (.slice A0_3 l0_3.length c0_3) := (blk_cell BK353.out 3).trans rfl; have hfz21_0 := blk_frozen BK353.out 0; have hfz21_1 := blk_frozen BK353.out 1; have hfz21_2 := blk_frozen BK353.out 2; have hfz21_3 := blk_frozen BK353.out 3; have hcz22_0 : w19.cell? ⟨gb354, 0, none⟩ = some (.int .i64 a1_0) := (blk_cell BK354.out 0).trans rfl; have hcz22_1 : w19.cell? ⟨gb354, 1, none⟩ = some (.int .i64 a1_1) := (blk_cell BK354.out 1).trans rfl; have hcz22_2 : w19.cell? ⟨gb354, 2, none⟩ = some (.int .i64 a1_2) := (blk_cell BK354.out 2).trans rfl; have hcz22_3 : w19.cell? ⟨gb354, 3, none⟩ = some (.slice A1_3 l1_3.length c1_3) := (blk_cell BK354.out 3).trans rfl; have hfz22_0 := blk_frozen BK354.out 0; have hfz22_1 := blk_frozen BK354.out 1; have hfz22_2 := blk_frozen BK354.out 2; have hfz22_3 := blk_frozen BK354.out 3))
      go_ret
      exact ⟨by first | rfl | (simp [errW_none, errW_some] <;> rfl) | (simp [*, errW_none, errW_some] <;> rfl), by repeat (first | (with_reducible first | exact HB.out | apply below_alloc | apply pw_below_drewN | apply below_drew1 | refine below_set ?_ GE353.out | refine below_set ?_ GE354.out) | exact HB.out)⟩
  · rw [if_neg c3] at H
    have c3b0 : (a0_0 == a1_0) = false := beq_eq_false_iff_ne.mpr c3
    have c3b1 : (a0_0 != a1_0) = true := bne_iff_ne.mpr c3
    obtain rfl := Option.some.inj H
    go_enter Try.func30, Try.ntmps30
    go_wp2_with (first | ((with_reducible refine gate_dst (N := 2) rfl ?_); refine box_event ?hg (N := 2) ?hd (cs := #[.int .i64 a0_0, .int .i64 a0_1, .int .i64 a0_2, .slice A0_3 l0_3.length c0_3]) (t := 56) ?hr ?_; (case hd => rfl); (case hg => rfl); (case hr => first | (go_simp; done) | (go_simp; rfl)); intro gb353 hg w23 hbox hb; have n0_ := Aside0.mk (below_step (by repeat (first | (with_reducible first | exact HB.out | apply below_alloc | apply pw_below_drewN | apply below_drew1) | exact HB.out)) hb); have n1_ := Aside0.mk (hbox); have n2_ := Aside0.mk ((by rw [hg]; exact (below_size (by repeat (first | (with_reducible first | exact HB.out | apply below_alloc | apply pw_below_drewN | apply below_drew1) | exact HB.out))) : w.heap.size ≤ gb353)); have n3_ := Aside0.mk ((by rw [hg]; exact (below_size (by repeat (first | (with_reducible first | exact HB.out | apply below_alloc | apply pw_below_drewN | apply below_drew1) | exact HB.out))) : w.heap.size ≤ gb353)); clear HB; have HB := n0_; have BK353 := n1_; have GW353 := n2_; have GE353 := n3_; clear n0_ n1_ n2_ n3_; clear hb hbox hg) | ((with_reducible refine gate_dst (N := 3) rfl ?_); refine box_event ?hg (N := 3) ?hd (cs := #[.int .i64 a1_0, .int .i64 a1_1, .int .i64 a1_2, .slice A1_3 l1_3.length c1_3]) (t := 56) ?hr ?_; (case hd => rfl); (case hg => rfl); (case hr => first | (go_simp; done) | (go_simp; rfl)); intro gb354 hg w24 hbox hb; have n0_ := Aside0.mk (blk_below (g := gb353) (o := .cells #[.int .i64 a0_0, .int .i64 a0_1, .int .i64 a0_2, .slice A0_3 l0_3.length c0_3] 56 (0, 0)) (by (with_reducible repeat (first | refine blk_drewN ?_ _ | refine blk_drew ?_ | refine blk_alloc ?_ _)); exact BK353.out) hb); have n1_ := Aside0.mk (below_step (by repeat (first | (with_reducible first | exact HB.out | apply below_alloc | apply pw_below_drewN | apply below_drew1 | refine below_set ?_ GE353.out) | exact HB.out)) hb); have n2_ := Aside0.mk (hbox); have n3_ := Aside0.mk ((by rw [hg]; exact (below_size (by repeat (first | (with_reducible first | exact HB.out | apply below_alloc | apply pw_below_drewN | apply below_drew1 | refine below_set ?_ GE353.out) | exact HB.out))) : w.heap.size ≤ gb354)); have n4_ := Aside0.mk ((by rw [hg]; exact (below_size (by repeat (first | (with_reducible first | exact HB.out | apply below_alloc | apply pw_below_drewN | apply below_drew1 | refine below_set ?_ GE353.out) | exact HB.out))) : w.heap.size ≤ gb354)); have n5_ := Aside0.mk ((by rw [hg]; exact Nat.ne_of_lt (blk_lt (g := gb353) (o := .cells #[.int .i64 a0_0, .int .i64 a0_1, .int .i64 a0_2, .slice A0_3 l0_3.length c0_3] 56 (0, 0)) (by (with_reducible repeat (first | refine blk_drewN ?_ _ | refine blk_drew ?_ | refine blk_alloc ?_ _)); exact BK353.out)) : gb353 ≠ gb354)); have n6_ := Aside0.mk ((by rw [hg]; exact Nat.ne_of_gt (blk_lt (g := gb353) (o := .cells #[.int .i64 a0_0, .int .i64 a0_1, .int .i64 a0_2, .slice A0_3 l0_3.length c0_3] 56 (0, 0)) (by (with_reducible repeat (first | refine blk_drewN ?_ _ | refine blk_drew ?_ | refine blk_alloc ?_ _)); exact BK353.out)) : gb354 ≠ gb353)); clear BK353; clear HB; have BK353 := n0_; have HB := n1_; have BK354 := n2_; have GW354 := n3_; have GE354 := n4_; have NB353_354 := n5_; have NB354_353 := n6_; clear n0_ n1_ n2_ n3_ n4_ n5_ n6_; clear hb hbox hg; have hnb25 := NB353_354.out; have hnc25 := NB354_353.out; have hcz26_0 : w24.cell? ⟨gb353, 0, none⟩ = some (.int .i64 a0_0) := (blk_cell BK353.out 0).trans rfl; have hcz26_1 : w24.cell? ⟨gb353, 1, none⟩ = some (.int .i64 a0_1) := (blk_cell BK353.out 1).trans rfl; have hcz26_2 : w24.cell? ⟨gb353, 2, none⟩ = some (.int .i64 a0_2) := (blk_cell BK353.out 2).trans rfl; have hcz26_3 : w24.cell? ⟨gb353, 3, none⟩ = some (.slice A0_3 l0_3.length c0_3) := (blk_cell BK353.out 3).trans rfl; have hfz26_0 := blk_frozen BK353.out 0; have hfz26_1 := blk_frozen BK353.out 1; have hfz26_2 := blk_frozen BK353.out 2; have hfz26_3 := blk_frozen BK353.out 3; have hcz27_0 : w24.cell? ⟨gb354, 0, none⟩ = some (.int .i64 a1_0) := (blk_cell BK354.out 0).trans rfl; have hcz27_1 : w24.cell? ⟨gb354, 1, none⟩ = some (.int .i64 a1_1) := (blk_cell BK354.out 1).trans rfl; have hcz27_2 : w24.cell? ⟨gb354, 2, none⟩ = some (.int .i64 a1_2) := (blk_cell BK354.out 2).trans rfl; have hcz27_3 : w24.cell? ⟨gb354, 3, none⟩ = some (.slice A1_3 l1_3.length c1_3) := (blk_cell BK354.out 3).trans rfl; have hfz27_0 := blk_frozen BK354.out 0; have hfz27_1 := blk_frozen BK354.out 1; have hfz27_2 := blk_frozen BK354.out 2; have hfz27_3 := blk_frozen BK354.out 3))
    go_ret
    exact ⟨by first | rfl | (simp [errW_none, errW_some] <;> rfl) | (simp [*, errW_none, errW_some] <;> rfl), by repeat (first | (with_reducible first | exact HB.out | apply below_alloc | apply pw_below_drewN | apply below_drew1 | refine below_set ?_ GE353.out | refine below_set ?_ GE354.out) | exact HB.out)⟩

end Go.Proofs.Ytccabdgfjcjpoaa.X
-- Written by a program of this session (a turn of the kit's print with contracts by hand). Not trusted: Lean checks it.
namespace Go.Proofs.Ytccabdgfjcjpoaa.X
open Go.RowKit Go.Proofs.YtccabdgfjcjpoaaW.PrintWords Go.Proofs.YtccabdgfjcjpoaaW.PrintLast Go.Proofs.YtccabdgfjcjpoaaW.PrintMore
attribute [local go_sem] max2_int min2_int max_two min_two max_three min_three max_four min_four   -- for this text's walks alone
set_option linter.unusedVariables false
set_option linter.unusedSimpArgs false

/-! ### mootlaw24_same: function 25 -/
def mootlaw24_same.l0 : Nat → List (S56) → List (S56) → Int → Option (Bool)
  | 0, _, _, _ => none
  | k + 1, x0, x1, x5 => if x5 < (x0.length : Int) then (if 0 ≤ x5 then (if x5 < (x1.length : Int) then ((mootlaw24_one.f ((rd_T56 x0 x5).f0) ((rd_T56 x0 x5).f1) ((rd_T56 x0 x5).f2) ((rd_T56 x0 x5).f3) ((rd_T56 x1 x5).f0) ((rd_T56 x1 x5).f1) ((rd_T56 x1 x5).f2) ((rd_T56 x1 x5).f3)).bind fun t357 => (if t357 = true then (mootlaw24_same.l0 k x0 x1 (wrap64 (x5 + 1))) else (some false))) else (none)) else (none)) else (some true)
def mootlaw24_same.f (k : Nat) (l0 : List (S56)) (l1 : List (S56)) : Option (Bool) := if (l0.length : Int) = (l1.length : Int) then (mootlaw24_same.l0 k l0 l1 0) else (some false)
theorem mootlaw24_same.mono_l : ∀ k, (∀ y0 y1 y2, LeO (mootlaw24_same.l0 k y0 y1 y2) (mootlaw24_same.l0 (k + 1) y0 y1 y2))
  | 0 => fun _ _ _ r h => by simp [mootlaw24_same.l0] at h
  | k + 1 => by
    have ih0 := mootlaw24_same.mono_l k
    · intro y0 y1 y2
      unfold mootlaw24_same.l0
      repeat' first
      | (with_reducible exact ih0 _ _ _)
      | (with_reducible exact LeO.refl _)
      | (with_reducible exact LeO.none _)
      | (with_reducible refine LeO.ite ?_ ?_)
      | (with_reducible refine LeO.bind ?_ (fun _ => ?_))
      | exact ih0 _ _ _
      | exact LeO.none _
      | refine LeO.ite ?_ ?_
      | refine LeO.bind ?_ (fun _ => ?_)
theorem mootlaw24_same.mono : ∀ a0 a1 k, LeO (mootlaw24_same.f k a0 a1) (mootlaw24_same.f (k + 1) a0 a1) := by
  intro a0 a1 k
  have ih0 := mootlaw24_same.mono_l k
  unfold mootlaw24_same.f
  repeat' first
      | (with_reducible exact ih0 _ _ _)
      | (with_reducible exact LeO.refl _)
      | (with_reducible exact LeO.none _)
      | (with_reducible refine LeO.ite ?_ ?_)
      | (with_reducible refine LeO.bind ?_ (fun _ => ?_))
      | exact ih0 _ _ _
      | exact LeO.none _
      | refine LeO.ite ?_ ?_
      | refine LeO.bind ?_ (fun _ => ?_)
def mootlaw24_same.T6 : Bool × List (List Nat × List Nat) := (true, [([], []), ([], []), ([0, 1], [0, 1]), ([2], [2]), ([], []), ([], []), ([4, 5], [4, 5]), ([6], [6]), ([3, 7], [3, 7]), ([8], [8])])
def mootlaw24_same.B6 : List Nat := [0, 0, 3, 7, 0, 0, 48, 112, 255, 511]
theorem mootlaw24_same.tab6 : rtab .any (opsOf Try.f25 6) = mootlaw24_same.T6 := by kernel_rfl
theorem mootlaw24_same.bits6 : waitsOk mootlaw24_same.T6.2 mootlaw24_same.B6 = true := by kernel_rfl
set_option maxHeartbeats 8000000 in
set_option maxRecDepth 100000 in
theorem mootlaw24_same.calls (k : Nat) (A0 : Option Addr) (c0 : Nat) (l0 : List (S56)) (A1 : Option Addr) (c1 : Nat) (l1 : List (S56)) (r : Bool) (w : World) (hr0 : Kd.C k56 w A0 l0.length l0) (hc0 : l0.length ≤ c0) (hr1 : Kd.C k56 w A1 l1.length l1) (hc1 : l1.length ≤ c1) (h : mootlaw24_same.f k l0 l1 = some r) :
    Calls Try.prog 25 #[.slice A0 l0.length c0, .slice A1 l1.length c1] w fun e w' => e = .returned (.bool r) ∧ Below w.heap.size w w' := by
  have hu56 := Try.underlying56
  have HR0 := Aside0.mk hr0
  have HC0 := Aside0.mk hc0
  clear hr0 hc0
  have HR1 := Aside0.mk hr1
  have HC1 := Aside0.mk hc1
  clear hr1 hc1
  have HB := Aside0.mk (Below.refl w.heap.size w)
  have H : (if (l0.length : Int) = (l1.length : Int) then (mootlaw24_same.l0 k l0 l1 0) else (some false)) = some r := h
  clear h
  by_cases c3 : (l0.length : Int) = (l1.length : Int)
  · rw [if_pos c3] at H
    have c3b0 : ((l0.length : Int) == (l1.length : Int)) = true := beq_iff_eq.mpr c3
    have c3b1 : ((l0.length : Int) != (l1.length : Int)) = false := bne_eq_false_iff_eq.mpr c3
    have c3b2 : (l0.length == l1.length) = true := by first | simpa using c3 | (simp at c3 ⊢; omega)
    clear c3
    have H' := Aside0.mk H
    clear H
    go_enter Try.func25, Try.ntmps25
    go_wp2
    go_loopg [5] k (fun kq v5 w' => ∃ (x5_1 : Int), v5 = .int .i64 x5_1 ∧ Aside0 (mootlaw24_same.l0 kq l0 l1 x5_1 = some r) ∧ Aside0 (kq ≤ k) ∧ Aside0 (Below w.heap.size w w'))
    case atStart => exact ⟨(0), (by first | rfl | (simp; done) | (simp [*]; done)), H', ⟨Nat.le_refl _⟩, ⟨by repeat (first | (with_reducible first | exact HB.out | apply below_alloc | apply pw_below_drewN | apply below_drew1) | exact HB.out)⟩⟩
    case round =>
      clear H'
      try clear c1
      try clear c2
      try clear p2
      try clear c3
      try clear c3b0
      try clear c3b1
      try clear c3b2
      obtain ⟨x5_1, rfl, HA, HK1, HB⟩ := hrel
      cases gk with
      | zero => exact absurd HA.out (by simp [mootlaw24_same.l0])
      | succ k1 =>
        have H := HA.out
        clear HA
        simp only [mootlaw24_same.l0] at H
        by_cases c4 : x5_1 < (l0.length : Int)
        · rw [if_pos c4] at H
          have c4b0 : decide (x5_1 < (l0.length : Int)) = true := decide_eq_true c4
          clear c4
          by_cases c5 : 0 ≤ x5_1
          · rw [if_pos c5] at H
            have c5b0 : decide (0 ≤ x5_1) = true := decide_eq_true c5
            clear c5
            by_cases c6 : x5_1 < (l1.length : Int)
            · rw [if_pos c6] at H
              have c6b0 : decide (x5_1 < (l1.length : Int)) = true := decide_eq_true c6
              clear c6
              replace H := Option.bind_eq_some_iff.mp H
              obtain ⟨t357, A70, H⟩ := H
              replace H : (if t357 = true then (mootlaw24_same.l0 k1 l0 l1 (wrap64 (x5_1 + 1))) else (some false)) = some r := H
              have A7 := Aside0.mk A70
              clear A70
              by_cases c8 : t357 = true
              · subst c8
                have H1 : (mootlaw24_same.l0 k1 l0 l1 (wrap64 (x5_1 + 1))) = some r := by rw [if_pos rfl] at H; exact H
                clear H
                have H := H1
                clear H1
                have H' := Aside0.mk H
                clear H
                try go_wp2
                have n0_ := Aside0.mk (below_drew1 HB.out)
                clear HB
                have HB := n0_
                clear n0_
                have p355 : 0 ≤ (x5_1 : Int) := of_decide_eq_true (by first | (with_reducible assumption) | assumption)
                have q355 : x5_1 < (l0.length : Int) := of_decide_eq_true (by first | (with_reducible assumption) | assumption)
                obtain ⟨ad355, A355_3, c355_3, e355, hx355_0, hx355_1, hx355_2, hx355_3, hl355_3, hi355_3⟩ := at_T56 HR0.out x5_1 p355 q355
                have hw355_3 := hx355_3
                have hw355_2 := hx355_2
                have hw355_1 := hx355_1
                have hw355_0 := hx355_0
                cases e355
                replace hx355_0 := (HB.out.cell (World.block_lt_of_cell? w _ hx355_0)).trans hx355_0
                replace hx355_1 := (HB.out.cell (World.block_lt_of_cell? w _ hx355_1)).trans hx355_1
                replace hx355_2 := (HB.out.cell (World.block_lt_of_cell? w _ hx355_2)).trans hx355_2
                replace hx355_3 := (HB.out.cell (World.block_lt_of_cell? w _ hx355_3)).trans hx355_3
                have HR355_3 := Aside0.mk hi355_3
                have HC355_3 := Aside0.mk hl355_3
                clear hi355_3 hl355_3
                replace p355 := eq_true p355
                replace q355 := eq_true q355
                have p356 : 0 ≤ (x5_1 : Int) := of_decide_eq_true (by first | (with_reducible assumption) | assumption)
                have q356 : x5_1 < (l1.length : Int) := of_decide_eq_true (by first | (with_reducible assumption) | assumption)
                obtain ⟨ad356, A356_3, c356_3, e356, hx356_0, hx356_1, hx356_2, hx356_3, hl356_3, hi356_3⟩ := at_T56 HR1.out x5_1 p356 q356
                have hw356_3 := hx356_3
                have hw356_2 := hx356_2
                have hw356_1 := hx356_1
                have hw356_0 := hx356_0
                cases e356
                replace hx356_0 := (HB.out.cell (World.block_lt_of_cell? w _ hx356_0)).trans hx356_0
                replace hx356_1 := (HB.out.cell (World.block_lt_of_cell? w _ hx356_1)).trans hx356_1
                replace hx356_2 := (HB.out.cell (World.block_lt_of_cell? w _ hx356_2)).trans hx356_2
                replace hx356_3 := (HB.out.cell (World.block_lt_of_cell? w _ hx356_3)).trans hx356_3
                have HR356_3 := Aside0.mk hi356_3
                have HC356_3 := Aside0.mk hl356_3
                clear hi356_3 hl356_3
                replace p356 := eq_true p356
                replace q356 := eq_true q356
                refine start_ (n := 10) (S := fun w' => w'.cell? (ad355.add ((x5_1).toNat * 4)) = some (.int .i64 ((rd_T56 l0 x5_1).f0)) ∧ w'.cell? ⟨(ad355.add ((x5_1).toNat * 4)).block, (ad355.add ((x5_1).toNat * 4)).off + 1, none⟩ = some (.int .i64 ((rd_T56 l0 x5_1).f1)) ∧ w'.cell? ⟨(ad355.add ((x5_1).toNat * 4)).block, (ad355.add ((x5_1).toNat * 4)).off + 2, none⟩ = some (.int .i64 ((rd_T56 l0 x5_1).f2)) ∧ w'.cell? ⟨(ad355.add ((x5_1).toNat * 4)).block, (ad355.add ((x5_1).toNat * 4)).off + 3, none⟩ = some (.slice A355_3 ((rd_T56 l0 x5_1).f3).length c355_3) ∧ w'.cell? (ad356.add ((x5_1).toNat * 4)) = some (.int .i64 ((rd_T56 l1 x5_1).f0)) ∧ w'.cell? ⟨(ad356.add ((x5_1).toNat * 4)).block, (ad356.add ((x5_1).toNat * 4)).off + 1, none⟩ = some (.int .i64 ((rd_T56 l1 x5_1).f1)) ∧ w'.cell? ⟨(ad356.add ((x5_1).toNat * 4)).block, (ad356.add ((x5_1).toNat * 4)).off + 2, none⟩ = some (.int .i64 ((rd_T56 l1 x5_1).f2)) ∧ w'.cell? ⟨(ad356.add ((x5_1).toNat * 4)).block, (ad356.add ((x5_1).toNat * 4)).off + 3, none⟩ = some (.slice A356_3 ((rd_T56 l1 x5_1).f3).length c356_3)) (ds := []) #[false, false, false, false, false, false, false, false, false, false] (by kernel_rfl) rfl rfl ⟨((HB.out.cell (World.block_lt_of_cell? w _ hw355_0)).trans hw355_0), ((HB.out.cell (World.block_lt_of_cell? w _ hw355_1)).trans hw355_1), ((HB.out.cell (World.block_lt_of_cell? w _ hw355_2)).trans hw355_2), ((HB.out.cell (World.block_lt_of_cell? w _ hw355_3)).trans hw355_3), ((HB.out.cell (World.block_lt_of_cell? w _ hw356_0)).trans hw356_0), ((HB.out.cell (World.block_lt_of_cell? w _ hw356_1)).trans hw356_1), ((HB.out.cell (World.block_lt_of_cell? w _ hw356_2)).trans hw356_2), ((HB.out.cell (World.block_lt_of_cell? w _ hw356_3)).trans hw356_3)⟩ (fun hHeld => ?_); refine with_tabW mootlaw24_same.tab6 mootlaw24_same.bits6 (fun HT_ HW_ => ?_)
                generalize wr.drew = w9 at HB HR355_3 HR356_3 hx355_0 hx355_1 hx355_2 hx355_3 hx356_0 hx356_1 hx356_2 hx356_3 hHeld ⊢
                refine pure_ (i := 0) (N := some 17) (v := ?_) (a' := ?_) #[true, false, false, false, false, false, false, false, false, false] rfl rfl (any_of HT_.out (by kernel_rfl)) (fun _ _ _ h => h) (Or.inl ⟨by rfl, ?_⟩) ?_ ?_
                rotate_left
                · intro w'
                  go_simp
                  with_reducible rfl
                rotate_left
                · simp only [Act.put, List.setIfInBounds_toArray, List.set_cons_zero, List.set_cons_succ, i64_w, i32_w]
                  rfl
                refine pure_ (i := 1) (N := some 18) (v := ?_) (a' := ?_) #[true, true, false, false, false, false, false, false, false, false] rfl rfl (any_of HT_.out (by kernel_rfl)) (fun _ _ _ h => h) (Or.inl ⟨by rfl, ?_⟩) ?_ ?_
                rotate_left
                · intro w'
                  go_simp
                  with_reducible rfl
                rotate_left
                · simp only [Act.put, List.setIfInBounds_toArray, List.set_cons_zero, List.set_cons_succ, i64_w, i32_w]
                  rfl
                refine pure_ (i := 2) (N := some 19) (v := ?_) (a' := ?_) #[true, true, true, false, false, false, false, false, false, false] rfl rfl (any_of HT_.out (by kernel_rfl)) (fun _ _ _ h => h) (Or.inl ⟨by rfl, ?_⟩) ?_ ?_
                rotate_left
                · intro w'
                  go_simp
                  with_reducible rfl
                rotate_left
                · simp only [Act.put, List.setIfInBounds_toArray, List.set_cons_zero, List.set_cons_succ, i64_w, i32_w]
                  rfl
                refine pure_ (i := 4) (N := some 21) (v := ?_) (a' := ?_) #[true, true, true, false, true, false, false, false, false, false] rfl rfl (any_of HT_.out (by kernel_rfl)) (fun _ _ _ h => h) (Or.inl ⟨by rfl, ?_⟩) ?_ ?_
                rotate_left
                · intro w'
                  go_simp
                  with_reducible rfl
                rotate_left
                · simp only [Act.put, List.setIfInBounds_toArray, List.set_cons_zero, List.set_cons_succ, i64_w, i32_w]
                  rfl
                refine pure_ (i := 5) (N := some 22) (v := ?_) (a' := ?_) #[true, true, true, false, true, true, false, false, false, false] rfl rfl (any_of HT_.out (by kernel_rfl)) (fun _ _ _ h => h) (Or.inl ⟨by rfl, ?_⟩) ?_ ?_
                rotate_left
                · intro w'
                  go_simp
                  with_reducible rfl
                rotate_left
                · simp only [Act.put, List.setIfInBounds_toArray, List.set_cons_zero, List.set_cons_succ, i64_w, i32_w]
                  rfl
                refine pure_ (i := 6) (N := some 23) (v := ?_) (a' := ?_) #[true, true, true, false, true, true, true, false, false, false] rfl rfl (any_of HT_.out (by kernel_rfl)) (fun _ _ _ h => h) (Or.inl ⟨by rfl, ?_⟩) ?_ ?_
                rotate_left
                · intro w'
                  go_simp
                  with_reducible rfl
                rotate_left
                · simp only [Act.put, List.setIfInBounds_toArray, List.set_cons_zero, List.set_cons_succ, i64_w, i32_w]
                  rfl
                refine take_ (i := 3) (N := some 20) (v := ?_) (a' := ?_) #[true, true, true, true, true, true, true, false, false, false] rfl rfl (take_ofW HT_.out HW_.out (by kernel_rfl)) (fun _ _ _ h => h) (Or.inl ⟨by rfl, ?_⟩) hHeld ?_ ?_
                rotate_left
                · rintro w' ⟨s0, s1, s2, s3, s4, s5, s6, s7⟩
                  go_simp
                  with_reducible rfl
                rotate_left
                · simp only [Act.put, List.setIfInBounds_toArray, List.set_cons_zero, List.set_cons_succ, i64_w, i32_w]
                  rfl
                refine take_ (i := 7) (N := some 24) (v := ?_) (a' := ?_) #[true, true, true, true, true, true, true, true, false, false] rfl rfl (take_ofW HT_.out HW_.out (by kernel_rfl)) (fun _ _ _ h => h) (Or.inl ⟨by rfl, ?_⟩) hHeld ?_ ?_
                rotate_left
                · rintro w' ⟨s0, s1, s2, s3, s4, s5, s6, s7⟩
                  go_simp
                  with_reducible rfl
                rotate_left
                · simp only [Act.put, List.setIfInBounds_toArray, List.set_cons_zero, List.set_cons_succ, i64_w, i32_w]
                  rfl
                refine one_ (i := 8) (N := some 25) #[true, true, true, true, true, true, true, true, true, false] rfl rfl (one_of HT_.out (by kernel_rfl)) (by decide) (fun K hK => ?_)
                refine goes_ Try.func30 (by kernel_rfl) rfl #[.agg #[.int .i64 ((rd_T56 l0 x5_1).f0), .int .i64 ((rd_T56 l0 x5_1).f1), .int .i64 ((rd_T56 l0 x5_1).f2), .slice A355_3 ((rd_T56 l0 x5_1).f3).length c355_3], .agg #[.int .i64 ((rd_T56 l1 x5_1).f0), .int .i64 ((rd_T56 l1 x5_1).f1), .int .i64 ((rd_T56 l1 x5_1).f2), .slice A356_3 ((rd_T56 l1 x5_1).f3).length c356_3]] (by rfl) rfl rfl (by (try simp only [List.map_toArray, List.map_cons, List.map_nil]); first | done | rfl | (simp only [List.length_drop, List.length_take]; rfl)) ?_
                with_reducible refine (mootlaw24_one.calls ((rd_T56 l0 x5_1).f0) ((rd_T56 l0 x5_1).f1) ((rd_T56 l0 x5_1).f2) _ _ ((rd_T56 l0 x5_1).f3) ((rd_T56 l1 x5_1).f0) ((rd_T56 l1 x5_1).f1) ((rd_T56 l1 x5_1).f2) _ _ ((rd_T56 l1 x5_1).f3) true _ ?side1 ?side2 ?side3 ?side4 A7.out).mono ?_
                (case side1 => repeat (first | exact (Kd.C_below HR355_3.out HB.out) | (with_reducible refine Kd.C_alloc ?_ _) | (with_reducible refine Kd.C_drewN ?_ _) | (with_reducible refine Kd.C_drew ?_)))
                (case side2 => exact HC355_3.out)
                (case side3 => repeat (first | exact (Kd.C_below HR356_3.out HB.out) | (with_reducible refine Kd.C_alloc ?_ _) | (with_reducible refine Kd.C_drewN ?_ _) | (with_reducible refine Kd.C_drew ?_)))
                (case side4 => exact HC356_3.out)
                rintro e w10 ⟨rfl, hb⟩
                refine ⟨_, rfl, ?_⟩
                have n0_ := Aside0.mk (below_step (by repeat (first | (with_reducible first | exact HB.out | apply below_alloc | apply pw_below_drewN | apply below_drew1) | exact HB.out)) hb)
                clear HB
                have HB := n0_
                clear n0_
                (try clear hb)
                (try clear hb2)
                (try clear hk)
                (try clear hi)
                refine hK.out _ _ ⟨((HB.out.cell (World.block_lt_of_cell? w _ hw355_0)).trans hw355_0), ((HB.out.cell (World.block_lt_of_cell? w _ hw355_1)).trans hw355_1), ((HB.out.cell (World.block_lt_of_cell? w _ hw355_2)).trans hw355_2), ((HB.out.cell (World.block_lt_of_cell? w _ hw355_3)).trans hw355_3), ((HB.out.cell (World.block_lt_of_cell? w _ hw356_0)).trans hw356_0), ((HB.out.cell (World.block_lt_of_cell? w _ hw356_1)).trans hw356_1), ((HB.out.cell (World.block_lt_of_cell? w _ hw356_2)).trans hw356_2), ((HB.out.cell (World.block_lt_of_cell? w _ hw356_3)).trans hw356_3)⟩ (fun hHeld => ?_)
                clear hK K
                refine norm_ (a' := ?_) ?_ ?_
                rotate_left
                · show Act.put _ (some 25) _ = _
                  simp only [Act.put, List.setIfInBounds_toArray, List.set_cons_zero, List.set_cons_succ, i64_w, i32_w]
                  rfl
                refine pure_ (i := 9) (N := some 26) (v := ?_) (a' := ?_) #[true, true, true, true, true, true, true, true, true, true] rfl rfl (any_of HT_.out (by kernel_rfl)) (fun _ _ _ h => h) (Or.inl ⟨by rfl, ?_⟩) ?_ ?_
                rotate_left
                · intro w'
                  go_simp
                  with_reducible rfl
                rotate_left
                · simp only [Act.put, List.setIfInBounds_toArray, List.set_cons_zero, List.set_cons_succ, i64_w, i32_w]
                  rfl
                refine done_ (done_of HT_.out (by kernel_rfl)) ?_
                try go_wp2
                go_roundg k1
                case measure => have := HK1.out; omega
                case rel => exact ⟨(wrap64 (x5_1 + 1)), (by first | rfl | (simp; done) | (simp [*]; done)), H', ⟨by have := HK1.out; omega⟩, ⟨by repeat (first | (with_reducible first | exact HB.out | apply below_alloc | apply pw_below_drewN | apply below_drew1) | exact HB.out)⟩⟩
              · replace c8 := Bool.eq_false_iff.mpr c8
                subst c8
                have H1 : (some false) = some r := by rw [if_neg (show ¬ (false = true) by decide)] at H; exact H
                clear H
                have H := H1
                clear H1
                obtain rfl := Option.some.inj H
                try go_wp2
                have n0_ := Aside0.mk (below_drew1 HB.out)
                clear HB
                have HB := n0_
                clear n0_
                have p355 : 0 ≤ (x5_1 : Int) := of_decide_eq_true (by first | (with_reducible assumption) | assumption)
                have q355 : x5_1 < (l0.length : Int) := of_decide_eq_true (by first | (with_reducible assumption) | assumption)
                obtain ⟨ad355, A355_3, c355_3, e355, hx355_0, hx355_1, hx355_2, hx355_3, hl355_3, hi355_3⟩ := at_T56 HR0.out x5_1 p355 q355
                have hw355_3 := hx355_3
                have hw355_2 := hx355_2
                have hw355_1 := hx355_1
                have hw355_0 := hx355_0
                cases e355
                replace hx355_0 := (HB.out.cell (World.block_lt_of_cell? w _ hx355_0)).trans hx355_0
                replace hx355_1 := (HB.out.cell (World.block_lt_of_cell? w _ hx355_1)).trans hx355_1
                replace hx355_2 := (HB.out.cell (World.block_lt_of_cell? w _ hx355_2)).trans hx355_2
                replace hx355_3 := (HB.out.cell (World.block_lt_of_cell? w _ hx355_3)).trans hx355_3
                have HR355_3 := Aside0.mk hi355_3
                have HC355_3 := Aside0.mk hl355_3
                clear hi355_3 hl355_3
                replace p355 := eq_true p355
                replace q355 := eq_true q355
                have p356 : 0 ≤ (x5_1 : Int) := of_decide_eq_true (by first | (with_reducible assumption) | assumption)
                have q356 : x5_1 < (l1.length : Int) := of_decide_eq_true (by first | (with_reducible assumption) | assumption)
                obtain ⟨ad356, A356_3, c356_3, e356, hx356_0, hx356_1, hx356_2, hx356_3, hl356_3, hi356_3⟩ := at_T56 HR1.out x5_1 p356 q356
                have hw356_3 := hx356_3
                have hw356_2 := hx356_2
                have hw356_1 := hx356_1
                have hw356_0 := hx356_0
                cases e356
                replace hx356_0 := (HB.out.cell (World.block_lt_of_cell? w _ hx356_0)).trans hx356_0
                replace hx356_1 := (HB.out.cell (World.block_lt_of_cell? w _ hx356_1)).trans hx356_1
                replace hx356_2 := (HB.out.cell (World.block_lt_of_cell? w _ hx356_2)).trans hx356_2
                replace hx356_3 := (HB.out.cell (World.block_lt_of_cell? w _ hx356_3)).trans hx356_3
                have HR356_3 := Aside0.mk hi356_3
                have HC356_3 := Aside0.mk hl356_3
                clear hi356_3 hl356_3
                replace p356 := eq_true p356
                replace q356 := eq_true q356
                refine start_ (n := 10) (S := fun w' => w'.cell? (ad355.add ((x5_1).toNat * 4)) = some (.int .i64 ((rd_T56 l0 x5_1).f0)) ∧ w'.cell? ⟨(ad355.add ((x5_1).toNat * 4)).block, (ad355.add ((x5_1).toNat * 4)).off + 1, none⟩ = some (.int .i64 ((rd_T56 l0 x5_1).f1)) ∧ w'.cell? ⟨(ad355.add ((x5_1).toNat * 4)).block, (ad355.add ((x5_1).toNat * 4)).off + 2, none⟩ = some (.int .i64 ((rd_T56 l0 x5_1).f2)) ∧ w'.cell? ⟨(ad355.add ((x5_1).toNat * 4)).block, (ad355.add ((x5_1).toNat * 4)).off + 3, none⟩ = some (.slice A355_3 ((rd_T56 l0 x5_1).f3).length c355_3) ∧ w'.cell? (ad356.add ((x5_1).toNat * 4)) = some (.int .i64 ((rd_T56 l1 x5_1).f0)) ∧ w'.cell? ⟨(ad356.add ((x5_1).toNat * 4)).block, (ad356.add ((x5_1).toNat * 4)).off + 1, none⟩ = some (.int .i64 ((rd_T56 l1 x5_1).f1)) ∧ w'.cell? ⟨(ad356.add ((x5_1).toNat * 4)).block, (ad356.add ((x5_1).toNat * 4)).off + 2, none⟩ = some (.int .i64 ((rd_T56 l1 x5_1).f2)) ∧ w'.cell? ⟨(ad356.add ((x5_1).toNat * 4)).block, (ad356.add ((x5_1).toNat * 4)).off + 3, none⟩ = some (.slice A356_3 ((rd_T56 l1 x5_1).f3).length c356_3)) (ds := []) #[false, false, false, false, false, false, false, false, false, false] (by kernel_rfl) rfl rfl ⟨((HB.out.cell (World.block_lt_of_cell? w _ hw355_0)).trans hw355_0), ((HB.out.cell (World.block_lt_of_cell? w _ hw355_1)).trans hw355_1), ((HB.out.cell (World.block_lt_of_cell? w _ hw355_2)).trans hw355_2), ((HB.out.cell (World.block_lt_of_cell? w _ hw355_3)).trans hw355_3), ((HB.out.cell (World.block_lt_of_cell? w _ hw356_0)).trans hw356_0), ((HB.out.cell (World.block_lt_of_cell? w _ hw356_1)).trans hw356_1), ((HB.out.cell (World.block_lt_of_cell? w _ hw356_2)).trans hw356_2), ((HB.out.cell (World.block_lt_of_cell? w _ hw356_3)).trans hw356_3)⟩ (fun hHeld => ?_); refine with_tabW mootlaw24_same.tab6 mootlaw24_same.bits6 (fun HT_ HW_ => ?_)
                generalize wr.drew = w11 at HB HR355_3 HR356_3 hx355_0 hx355_1 hx355_2 hx355_3 hx356_0 hx356_1 hx356_2 hx356_3 hHeld ⊢
                refine pure_ (i := 0) (N := some 17) (v := ?_) (a' := ?_) #[true, false, false, false, false, false, false, false, false, false] rfl rfl (any_of HT_.out (by kernel_rfl)) (fun _ _ _ h => h) (Or.inl ⟨by rfl, ?_⟩) ?_ ?_
                rotate_left
                · intro w'
                  go_simp
                  with_reducible rfl
                rotate_left
                · simp only [Act.put, List.setIfInBounds_toArray, List.set_cons_zero, List.set_cons_succ, i64_w, i32_w]
                  rfl
                refine pure_ (i := 1) (N := some 18) (v := ?_) (a' := ?_) #[true, true, false, false, false, false, false, false, false, false] rfl rfl (any_of HT_.out (by kernel_rfl)) (fun _ _ _ h => h) (Or.inl ⟨by rfl, ?_⟩) ?_ ?_
                rotate_left
                · intro w'
                  go_simp
                  with_reducible rfl
                rotate_left
                · simp only [Act.put, List.setIfInBounds_toArray, List.set_cons_zero, List.set_cons_succ, i64_w, i32_w]
                  rfl
                refine pure_ (i := 2) (N := some 19) (v := ?_) (a' := ?_) #[true, true, true, false, false, false, false, false, false, false] rfl rfl (any_of HT_.out (by kernel_rfl)) (fun _ _ _ h => h) (Or.inl ⟨by rfl, ?_⟩) ?_ ?_
                rotate_left
                · intro w'
                  go_simp
                  with_reducible rfl
                rotate_left
                · simp only [Act.put, List.setIfInBounds_toArray, List.set_cons_zero, List.set_cons_succ, i64_w, i32_w]
                  rfl
                refine pure_ (i := 4) (N := some 21) (v := ?_) (a' := ?_) #[true, true, true, false, true, false, false, false, false, false] rfl rfl (any_of HT_.out (by kernel_rfl)) (fun _ _ _ h => h) (Or.inl ⟨by rfl, ?_⟩) ?_ ?_
                rotate_left
                · intro w'
                  go_simp
                  with_reducible rfl
                rotate_left
                · simp only [Act.put, List.setIfInBounds_toArray, List.set_cons_zero, List.set_cons_succ, i64_w, i32_w]
                  rfl
                refine pure_ (i := 5) (N := some 22) (v := ?_) (a' := ?_) #[true, true, true, false, true, true, false, false, false, false] rfl rfl (any_of HT_.out (by kernel_rfl)) (fun _ _ _ h => h) (Or.inl ⟨by rfl, ?_⟩) ?_ ?_
                rotate_left
                · intro w'
                  go_simp
                  with_reducible rfl
                rotate_left
                · simp only [Act.put, List.setIfInBounds_toArray, List.set_cons_zero, List.set_cons_succ, i64_w, i32_w]
                  rfl
                refine pure_ (i := 6) (N := some 23) (v := ?_) (a' := ?_) #[true, true, true, false, true, true, true, false, false, false] rfl rfl (any_of HT_.out (by kernel_rfl)) (fun _ _ _ h => h) (Or.inl ⟨by rfl, ?_⟩) ?_ ?_
                rotate_left
                · intro w'
                  go_simp
                  with_reducible rfl
                rotate_left
                · simp only [Act.put, List.setIfInBounds_toArray, List.set_cons_zero, List.set_cons_succ, i64_w, i32_w]
                  rfl
                refine take_ (i := 3) (N := some 20) (v := ?_) (a' := ?_) #[true, true, true, true, true, true, true, false, false, false] rfl rfl (take_ofW HT_.out HW_.out (by kernel_rfl)) (fun _ _ _ h => h) (Or.inl ⟨by rfl, ?_⟩) hHeld ?_ ?_
                rotate_left
                · rintro w' ⟨s0, s1, s2, s3, s4, s5, s6, s7⟩
                  go_simp
                  with_reducible rfl
                rotate_left
                · simp only [Act.put, List.setIfInBounds_toArray, List.set_cons_zero, List.set_cons_succ, i64_w, i32_w]
                  rfl
                refine take_ (i := 7) (N := some 24) (v := ?_) (a' := ?_) #[true, true, true, true, true, true, true, true, false, false] rfl rfl (take_ofW HT_.out HW_.out (by kernel_rfl)) (fun _ _ _ h => h) (Or.inl ⟨by rfl, ?_⟩) hHeld ?_ ?_
                rotate_left
                · rintro w' ⟨s0, s1, s2, s3, s4, s5, s6, s7⟩
                  go_simp
                  with_reducible rfl
                rotate_left
                · simp only [Act.put, List.setIfInBounds_toArray, List.set_cons_zero, List.set_cons_succ, i64_w, i32_w]
                  rfl
                refine one_ (i := 8) (N := some 25) #[true, true, true, true, true, true, true, true, true, false] rfl rfl (one_of HT_.out (by kernel_rfl)) (by decide) (fun K hK => ?_)
                refine goes_ Try.func30 (by kernel_rfl) rfl #[.agg #[.int .i64 ((rd_T56 l0 x5_1).f0), .int .i64 ((rd_T56 l0 x5_1).f1), .int .i64 ((rd_T56 l0 x5_1).f2), .slice A355_3 ((rd_T56 l0 x5_1).f3).length c355_3], .agg #[.int .i64 ((rd_T56 l1 x5_1).f0), .int .i64 ((rd_T56 l1 x5_1).f1), .int .i64 ((rd_T56 l1 x5_1).f2), .slice A356_3 ((rd_T56 l1 x5_1).f3).length c356_3]] (by rfl) rfl rfl (by (try simp only [List.map_toArray, List.map_cons, List.map_nil]); first | done | rfl | (simp only [List.length_drop, List.length_take]; rfl)) ?_
                with_reducible refine (mootlaw24_one.calls ((rd_T56 l0 x5_1).f0) ((rd_T56 l0 x5_1).f1) ((rd_T56 l0 x5_1).f2) _ _ ((rd_T56 l0 x5_1).f3) ((rd_T56 l1 x5_1).f0) ((rd_T56 l1 x5_1).f1) ((rd_T56 l1 x5_1).f2) _ _ ((rd_T56 l1 x5_1).f3) false _ ?side1 ?side2 ?side3 ?side4 A7.out).mono ?_
                (case side1 => repeat (first | exact (Kd.C_below HR355_3.out HB.out) | (with_reducible refine Kd.C_alloc ?_ _) | (with_reducible refine Kd.C_drewN ?_ _) | (with_reducible refine Kd.C_drew ?_)))
                (case side2 => exact HC355_3.out)
                (case side3 => repeat (first | exact (Kd.C_below HR356_3.out HB.out) | (with_reducible refine Kd.C_alloc ?_ _) | (with_reducible refine Kd.C_drewN ?_ _) | (with_reducible refine Kd.C_drew ?_)))
                (case side4 => exact HC356_3.out)
                rintro e w12 ⟨rfl, hb⟩
                refine ⟨_, rfl, ?_⟩
                have n0_ := Aside0.mk (below_step (by repeat (first | (with_reducible first | exact HB.out | apply below_alloc | apply pw_below_drewN | apply below_drew1) | exact HB.out)) hb)
                clear HB
                have HB := n0_
                clear n0_
                (try clear hb)
                (try clear hb2)
                (try clear hk)
                (try clear hi)
                refine hK.out _ _ ⟨((HB.out.cell (World.block_lt_of_cell? w _ hw355_0)).trans hw355_0), ((HB.out.cell (World.block_lt_of_cell? w _ hw355_1)).trans hw355_1), ((HB.out.cell (World.block_lt_of_cell? w _ hw355_2)).trans hw355_2), ((HB.out.cell (World.block_lt_of_cell? w _ hw355_3)).trans hw355_3), ((HB.out.cell (World.block_lt_of_cell? w _ hw356_0)).trans hw356_0), ((HB.out.cell (World.block_lt_of_cell? w _ hw356_1)).trans hw356_1), ((HB.out.cell (World.block_lt_of_cell? w _ hw356_2)).trans hw356_2), ((HB.out.cell (World.block_lt_of_cell? w _ hw356_3)).trans hw356_3)⟩ (fun hHeld => ?_)
                clear hK K
                refine norm_ (a' := ?_) ?_ ?_
                rotate_left
                · show Act.put _ (some 25) _ = _
                  simp only [Act.put, List.setIfInBounds_toArray, List.set_cons_zero, List.set_cons_succ, i64_w, i32_w]
                  rfl
                refine pure_ (i := 9) (N := some 26) (v := ?_) (a' := ?_) #[true, true, true, true, true, true, true, true, true, true] rfl rfl (any_of HT_.out (by kernel_rfl)) (fun _ _ _ h => h) (Or.inl ⟨by rfl, ?_⟩) ?_ ?_
                rotate_left
                · intro w'
                  go_simp
                  with_reducible rfl
                rotate_left
                · simp only [Act.put, List.setIfInBounds_toArray, List.set_cons_zero, List.set_cons_succ, i64_w, i32_w]
                  rfl
                refine done_ (done_of HT_.out (by kernel_rfl)) ?_
                try go_wp2
                go_ret
                exact ⟨by first | rfl | (simp [errW_none, errW_some] <;> rfl) | (simp [*, errW_none, errW_some] <;> rfl), by repeat (first | (with_reducible first | exact HB.out | apply below_alloc | apply pw_below_drewN | apply below_drew1) | exact HB.out)⟩
            · rw [if_neg c6] at H
              exact absurd H (by simp)
          · rw [if_neg c5] at H
            exact absurd H (by simp)
        · rw [if_neg c4] at H
          have c4b0 : decide (x5_1 < (l0.length : Int)) = false := decide_eq_false c4
          clear c4
          obtain rfl := Option.some.inj H
          go_wp2
          go_ret
          exact ⟨by first | rfl | (simp [errW_none, errW_some] <;> rfl) | (simp [*, errW_none, errW_some] <;> rfl), by repeat (first | (with_reducible first | exact HB.out | apply below_alloc | apply pw_below_drewN | apply below_drew1) | exact HB.out)⟩
  · rw [if_neg c3] at H
    have c3b0 : ((l0.length : Int) == (l1.length : Int)) = false := beq_eq_false_iff_ne.mpr c3
    have c3b1 : ((l0.length : Int) != (l1.length : Int)) = true := bne_iff_ne.mpr c3
    have c3b2 : (l0.length == l1.length) = false := by first | simpa using c3 | (simp at c3 ⊢; omega)
    obtain rfl := Option.some.inj H
    go_enter Try.func25, Try.ntmps25
    go_wp2
    go_ret
    exact ⟨by first | rfl | (simp [errW_none, errW_some] <;> rfl) | (simp [*, errW_none, errW_some] <;> rfl), by repeat (first | (with_reducible first | exact HB.out | apply below_alloc | apply pw_below_drewN | apply below_drew1) | exact HB.out)⟩

end Go.Proofs.Ytccabdgfjcjpoaa.X
/- Plain laws of mail: what Send, All, Twin, same come to. -/
namespace Go.Proofs.Ytccabdgfjcjpoaa.X
open Go.RowKit Go.Proofs.YtccabdgfjcjpoaaW.PrintWords Go.Proofs.YtccabdgfjcjpoaaW.PrintLast Go.Proofs.YtccabdgfjcjpoaaW.PrintMore
set_option linter.unusedVariables false
set_option linter.unusedSimpArgs false

theorem one_same (x : S56) : mootlaw24_one.f x.f0 x.f1 x.f2 x.f3 x.f0 x.f1 x.f2 x.f3 = some true := by
  unfold mootlaw24_one.f
  rw [if_pos rfl, if_pos rfl, if_pos rfl, beq_self_eq_true]
theorem same_l0 (l : List S56) (hl : l.length ≤ 1000000000) : ∀ (d k i : Nat), i + d = l.length → d < k → mootlaw24_same.l0 k l l (i : Int) = some true
  | 0, k, i, hd, hk => by
    obtain ⟨k, rfl⟩ : ∃ m, k = m + 1 := ⟨k - 1, by omega⟩
    rw [mootlaw24_same.l0, if_neg (by omega)]
  | d + 1, k, i, hd, hk => by
    obtain ⟨k, rfl⟩ : ∃ m, k = m + 1 := ⟨k - 1, by omega⟩
    rw [mootlaw24_same.l0, if_pos (by omega), if_pos (by omega), if_pos (by omega), one_same, Option.bind_some, if_pos rfl, wrap64_id _ (by omega) (by omega)]
    exact same_l0 l hl d k (i + 1) (by omega) (by omega)
theorem same_f (l : List S56) (hl : l.length ≤ 1000000000) (k : Nat) (hk : l.length < k) : mootlaw24_same.f k l l = some true := by
  unfold mootlaw24_same.f
  rw [if_pos rfl]
  exact same_l0 l hl l.length k 0 (by omega) hk
theorem send_f (l : List S56) (m : S56) (hf : Fits l) (hl : l.length < 1024) (hm : m.f3.length ≤ 140737488355328) (k : Nat) (hk : l.length < k) : net_Send.f k l m.f0 m.f1 m.f2 m.f3 = some (l ++ [m]) := by
  unfold net_Send.f
  rw [list_f l hf (by omega) k hk, Option.bind_some, if_pos (by omega), copied_f _ _ _ _ hm, Option.bind_some, if_pos (by omega)]
theorem twin_none (k : Nat) (a : Int) : net_Twin.f k [] a = some [] := by
  unfold net_Twin.f
  rw [if_pos (by simp)]
theorem twin_f (l : List S56) (hf : Fits l) (hl : l.length < 1024) (n : Nat) (hn : n < l.length) (a : Int) (hp : net_place.f a (l.length : Int) = some (n : Int)) (t : S56) (ht : l[n] = t) (k : Nat) (hk : l.length < k) : net_Twin.f k l a = some (l ++ [t]) := by
  unfold net_Twin.f
  rw [if_neg (by omega), hp, Option.bind_some, if_pos (by omega), if_pos (by omega), rd_T56_at hn, ht, send_f l t hf hl (by rw [← ht]; exact hf _ (List.getElem_mem hn)) k hk]
  rfl
theorem place_f (a : Int) (len : Nat) (h0 : 0 < len) (h1 : len ≤ 1000000000) : ∃ n : Nat, n < len ∧ (wrap64 (a.tmod (len : Int) + (len : Int))).tmod (len : Int) = (n : Int) ∧ net_place.f a (len : Int) = some (n : Int) := by
  have hb : -(len : Int) < a.tmod len ∧ a.tmod len < len := by
    have h2 := Int.tmod_lt_of_pos a (b := (len : Int)) (by omega)
    have h3 := Int.lt_tmod_of_pos a (b := (len : Int)) (by omega)
    omega
  have hw : wrap64 (a.tmod (len : Int) + (len : Int)) = a.tmod len + len := wrap64_id _ (by omega) (by omega)
  have h4 : 0 ≤ (a.tmod (len : Int) + (len : Int)).tmod (len : Int) := Int.tmod_nonneg _ (by omega)
  have h5 := Int.tmod_lt_of_pos (a.tmod (len : Int) + (len : Int)) (b := (len : Int)) (by omega)
  refine ⟨((a.tmod (len : Int) + (len : Int)).tmod (len : Int)).toNat, by omega, by rw [hw]; omega, ?_⟩
  unfold net_place.f
  rw [if_neg (by omega), hw]
  congr 1
  omega
/-- One text to the first k targets. -/
def rowL (fr now : Int) (b : List Int) : Nat → List S56
  | 0 => []
  | k + 1 => rowL fr now b k ++ (if (k : Int) = fr then [] else [⟨fr, (k : Int), now, b⟩])
def allL (fr now : Int) (T : Nat) (data : List (List Int)) : List S56 := data.flatMap (fun b => rowL fr now b T)
theorem rowL_len (fr now : Int) (b : List Int) : ∀ k, (rowL fr now b k).length ≤ k
  | 0 => by simp [rowL]
  | k + 1 => by
    have := rowL_len fr now b k
    rw [rowL, List.length_append]
    split <;> simp <;> omega
theorem allL_snoc (fr now : Int) (T : Nat) (data : List (List Int)) (i : Nat) (h : i < data.length) : allL fr now T (data.take (i + 1)) = allL fr now T (data.take i) ++ rowL fr now (data.getD i []) T := by
  rw [List.getD_eq_getElem?_getD, List.getElem?_eq_getElem h, Option.getD_some, allL, allL, List.take_succ_eq_append_getElem h, List.flatMap_append]
  simp
theorem allL_len (fr now : Int) (T : Nat) (hT : T ≤ 10) : ∀ data : List (List Int), (allL fr now T data).length ≤ 10 * data.length
  | [] => by simp [allL]
  | b :: data => by
    have h1 := allL_len fr now T hT data
    have h2 := rowL_len fr now b T
    simp only [allL, List.flatMap_cons, List.length_append, List.length_cons] at h1 ⊢
    omega
theorem all_l1 (fr tg now : Int) (T : Nat) (b : List Int) (hb : b.length ≤ 140737488355328) (data : List (List Int)) (dl i : Int) (acc : List S56) (ha : acc.length + T ≤ 1000) (hT : T ≤ 10) : ∀ (d k j : Nat), j + d = T →
    net_All.l1 (k + d + 1) fr tg now (acc ++ rowL fr now b j) b data dl i (T : Int) (j : Int) = net_All.l0 k fr tg now (acc ++ rowL fr now b T) data dl (wrap64 (i + 1))
  | 0, k, j, hd => by
    rw [net_All.l1, if_neg (by omega), show j = T by omega]
  | d + 1, k, j, hd => by
    have hlen := rowL_len fr now b j
    rw [show k + (d + 1) + 1 = (k + d + 1) + 1 by omega, net_All.l1, if_pos (by omega)]
    have ih := all_l1 fr tg now T b hb data dl i acc ha hT d k (j + 1) (by omega)
    rw [rowL] at ih
    have hw : wrap64 ((j : Int) + 1) = ((j + 1 : Nat) : Int) := by rw [wrap64_id _ (by omega) (by omega)]; rfl
    by_cases hj : (j : Int) = fr
    · rw [if_pos hj, hw, ← ih, if_pos hj, List.append_nil]
    · rw [if_neg hj, if_pos (by rw [List.length_append]; omega), copied_f _ _ _ _ hb, Option.bind_some, if_pos (by rw [List.length_append]; omega), hw, ← ih, if_neg hj, List.append_assoc]
theorem all_l0 (l : List S56) (hl : l.length ≤ 900) (fr tg now : Int) (T : Nat) (hT : T ≤ 10) (hTg : mn (mx tg 0) 10 = (T : Int)) (data : List (List Int)) (hd9 : data.length ≤ 9) (hdf : ∀ x ∈ data, x.length ≤ 140737488355328) : ∀ (d k i : Nat), i + d = data.length →
    net_All.l0 (k + d * (T + 2) + 1) fr tg now (l ++ allL fr now T (data.take i)) data (data.length : Int) (i : Int) = some (l ++ allL fr now T data)
  | 0, k, i, hd => by
    rw [net_All.l0, if_neg (by omega), show i = data.length by omega, List.take_length]
  | d + 1, k, i, hd => by
    have hi : i < data.length := by omega
    have hal := allL_len fr now T hT (data.take i)
    rw [List.length_take] at hal
    have hrd : rd_L11 data (i : Int) = data.getD i [] := by unfold rd_L11; rw [Int.toNat_natCast]
    have hdb : (data.getD i []).length ≤ 140737488355328 := by
      rw [List.getD_eq_getElem?_getD, List.getElem?_eq_getElem hi, Option.getD_some]
      exact hdf _ (List.getElem_mem hi)
    rw [net_All.l0, if_pos (by omega), if_pos (by omega), if_pos (by omega), hTg, hrd]
    have h1 := all_l1 fr tg now T (data.getD i []) hdb data (data.length : Int) (i : Int) (l ++ allL fr now T (data.take i)) (by rw [List.length_append]; omega) hT T (k + d * (T + 2) + 1) 0 (by omega)
    rw [rowL, List.append_nil] at h1
    have hk : k + (d + 1) * (T + 2) = k + d * (T + 2) + 1 + T + 1 := by rw [Nat.add_mul]; omega
    rw [hk]
    refine h1.trans ?_
    rw [wrap64_id _ (by omega) (by omega), List.append_assoc, ← allL_snoc fr now T data i hi]
    exact all_l0 l hl fr tg now T hT hTg data hd9 hdf d k (i + 1) (by omega)
theorem targets_of (tg : Int) : ∃ T : Nat, T ≤ 10 ∧ mn (mx tg 0) 10 = (T : Int) ∧ ∀ k : Nat, k < T ↔ (k : Int) < tg ∧ k < 10 := by
  refine ⟨(mn (mx tg 0) 10).toNat, ?_, ?_, fun k => ?_⟩ <;> (unfold mn mx; split <;> split <;> omega)
theorem all_f (l : List S56) (hf : Fits l) (hl : l.length ≤ 900) (fr tg now : Int) (T : Nat) (hT : T ≤ 10) (hTg : mn (mx tg 0) 10 = (T : Int)) (data : List (List Int)) (hd9 : data.length ≤ 9) (hdf : ∀ x ∈ data, x.length ≤ 140737488355328) : ∃ k, net_All.f k l fr tg now data = some (l ++ allL fr now T data) := by
  refine ⟨(l.length + 1) + data.length * (T + 2) + 1, ?_⟩
  unfold net_All.f
  rw [list_f l hf (by omega) _ (by omega), Option.bind_some]
  have := all_l0 l hl fr tg now T hT hTg data hd9 hdf data.length (l.length + 1) 0 (by omega)
  simpa [allL] using this
end Go.Proofs.Ytccabdgfjcjpoaa.X
/- net.Take: one, and the others: slices.Clone and slices.Delete of mails. -/
namespace Go.Proofs.Ytccabdgfjcjpoaa.X
open Go.RowKit Go.Proofs.YtccabdgfjcjpoaaW.PrintWords Go.Proofs.YtccabdgfjcjpoaaW.PrintLast Go.Proofs.YtccabdgfjcjpoaaW.PrintMore
set_option linter.unusedVariables false
set_option linter.unusedSimpArgs false

section
variable {ops : Array Oper} {rest : List Oper} {o : Oper} {a : Act} {Q : Exit → Act → World → Prop}
theorem clear_past {w0 W : World} (hgd : o.guard = none) (hd : o.dst = none) (x : Operand) (ho : o.op = .call { callee := .builtin .clear, args := #[x], argTypes := #[53] }) (base g i cap c' m : Nat) (ys : List S56) (hx : a.eval x = .slice (some ⟨g, i * 4, none⟩) m c') (hm : i + m ≤ cap)
    (HO : Kd.R k56 56 W base (fun _ => True) (.slice (some ⟨g, 0, none⟩) i cap) ys) (B : Nat) (hBg : B ≤ g) (HB : Below B w0 W)
    (h : ∀ w1, Kd.R k56 56 w1 base (fun _ => True) (.slice (some ⟨g, 0, none⟩) i cap) ys → Below B w0 w1 → wpList Try.prog ops Q rest a w1) : wpList Try.prog ops Q (o :: rest) a W := by
  have hny : i = ys.length := (Kd.R_reads' HO).1
  have hbg := Kd.R_base HO g (by simp [Value.ownBlock])
  obtain ⟨vs, hvs⟩ : ∃ vs, (Builtin.zeroCells #[Value.int .i64 0, .int .i64 0, .int .i64 0, .slice none 0 0] m).toList = vs := ⟨_, rfl⟩
  have hvl : vs.length = m * 4 := by rw [← hvs, Array.length_toList, size_zeroCells]; rfl
  have hv1 : ∀ v ∈ vs, v.oneCell' = true := by
    rw [← hvs]
    intro v hv
    simp only [Builtin.zeroCells, Array.toList_map, List.mem_map] at hv
    obtain ⟨j, _, rfl⟩ := hv
    have hj : j % 4 = 0 ∨ j % 4 = 1 ∨ j % 4 = 2 ∨ j % 4 = 3 := by omega
    show (#[Value.int .i64 0, .int .i64 0, .int .i64 0, .slice none 0 0][j % 4]!).oneCell' = true
    rcases hj with h | h | h | h <;> rw [h] <;> rfl
  have HO2 := HO
  obtain ⟨_, inner, ⟨hlen, hown⟩, _⟩ := HO2
  rcases hown with ⟨hv, _⟩ | ⟨g', cap', cur, hv, hb, hh, hnc, hcm, hcs, ht⟩
  · cases hv
  injection hv with ha _ hc
  injection ha with ha
  injection ha with hg
  subst hg; subst hc
  have hsz : (i + m) * 4 ≤ cur.size := by
    rw [hcs]
    exact Nat.mul_le_mul_right _ hm
  obtain ⟨cur', q1, q2, q3, q4, q5, q6⟩ := setCells_cur g 56 vs (i * 4) W cur hh
  have hst := run_storeCells_cells (P := Try.prog) g (i * 4) vs 0 W (fun j hj => by
      rw [Nat.add_zero, blk_cell hh]
      rw [Array.getElem?_eq_getElem (by omega), Option.isSome_some]) (fun j hj => by rw [Nat.add_zero, blk_frozen hh]) hv1
  rw [Nat.add_zero] at hst
  refine wpList_plain hgd fun K hK => ?_
  have hpre := R_prefix (vs := vs) HO (i := i) (off := i * 4) (by omega) (Nat.le_refl _)
  rw [List.take_of_length_le (by omega)] at hpre
  have hK2 := hK a _ (h _ hpre (q6 w0 B HB hBg))
  obtain ⟨i56_, hi56, hz56⟩ := Option.map_eq_some_iff.1 (show (Try.prog.info? 56).map (·.zero) = some (some (.agg #[Value.int .i64 0, .int .i64 0, .int .i64 0, .slice none 0 0])) by kernel_rfl)
  have hz : (zeroValue 56).run Try.prog W = .ok (.agg #[Value.int .i64 0, .int .i64 0, .int .i64 0, .slice none 0 0]) W := by simp [zeroValue, typeInfo, hi56, hz56]
  have hu := run_underlying Try.underlying53 W
  have hrun : (Builtin.clear_ #[53] o.type #[.slice (some ⟨g, i * 4, none⟩) m c']).run Try.prog W = .ok (.tuple #[]) (W.setCells g (i * 4) vs) := by
    cases m with
    | zero =>
      have : vs = [] := List.eq_nil_of_length_eq_zero (by omega)
      subst this
      simp [Builtin.clear_, hu, World.setCells]
    | succ m =>
      simp only [Builtin.clear_, Sem.run_bind, hu, Result.andThen_ok]
      simp [hz, hu, Value.cells, hvs, hst]
  unfold Oper.wp
  have hex : (execOp a.eval o).run Try.prog W = .ok (.value (.tuple #[])) (W.setCells g (i * 4) vs) := by
    simp [execOp, ho, resolve, invoke, builtin, hx, hrun]
  rw [hex]
  simpa [Oper.upon, hd, Act.put] using hK2
/-- An append, by what it comes to. -/
theorem append_ev {W w1 : World} (hgd : o.guard = none) (s x : Operand) (t : TypeId) (hop : o.op = .call { callee := .builtin .append, args := #[s, x], argTypes := #[t, t] }) (v xv v1 : Value) (hs : a.eval s = v) (hx : a.eval x = xv)
    (hrun : (Builtin.append_ #[t, t] o.type #[v, xv]).run Try.prog W = .ok v1 w1) (h : wpList Try.prog ops Q rest (a.put o.dst v1) w1) : wpList Try.prog ops Q (o :: rest) a W :=
  Kd.event_run hgd (by simp [execOp, hop, resolve, invoke, builtin, hs, hx, hrun, Result.andThen]) h
end
set_option maxRecDepth 100000 in
set_option maxHeartbeats 4000000 in
theorem cloneM_calls (v0 : Value) (l : List S56) (base : Nat) (ok : Nat → Prop) (w : World) (hr : Kd.R k56 56 w base ok v0 l) (hbase : base ≤ w.heap.size) (hl : l.length ≤ 1000000000) :
    Calls Try.prog 43 #[v0] w fun e w' => ∃ v : Value, e = .returned v ∧ Kd.R k56 56 w' base (fun _ => True) v l ∧ Below w.heap.size w w' ∧ ∀ k, v.ownBlock = some k → w.heap.size ≤ k := by
  obtain ⟨A0, c0, rfl⟩ := Kd.R_slice hr
  cases A0 with
  | none =>
    have h0 : l = [] := by
      rcases Nat.eq_zero_or_pos l.length with h0 | h0
      · exact List.eq_nil_of_length_eq_zero h0
      · obtain ⟨ad, e, _⟩ := (Kd.R_reads' hr).2.2.2.2 h0
        cases e
    subst h0
    clear hr
    have hq : ∀ W : World, (binOp .eql 53 (.slice none ([] : List S56).length c0) (.slice none 0 0)).run Try.prog W = .ok (.bool true) W := fun W => Lib.run_eql_slice_nil W 53 56 none _ _ _ _ Try.underlying53
    simp only [List.length_nil] at hq
    go_enter Try.func43, Try.ntmps43
    go_wp2
    go_ret
    exact ⟨_, rfl, Kd.R_nil _ _ _ _ _, Below.refl _ _, fun k hk => by simp [Value.ownBlock] at hk⟩
  | some ad =>
    have HRB := Lib.hid (Kd.R_bound hr)
    have HL := Lib.hid hl
    have HBASE := Lib.hid hbase
    clear hr hl hbase
    have hq : ∀ W : World, (binOp .eql 53 (.slice (some ad) l.length c0) (.slice none 0 0)).run Try.prog W = .ok (.bool false) W := fun W => Lib.run_eql_slice_nil W 53 56 (some ad) _ _ _ _ Try.underlying53
    go_enter Try.func43, Try.ntmps43
    go_wp2_with (first | ((with_reducible refine gate_dst (N := 5) rfl ?_); go_must (refine Kd.R_lit k56 (w0 := w) base 56 ?hg (N := 5) ?hd (xs := ([] : List S56)) (inner := []) (ok := fun _ => True) (okp := fun _ => True) ?hr ?hp (fun _ hk => hk) trivial (Below.refl _ _) HBASE.out (by simp) ?_; (case hd => rfl); (case hg => rfl); (case hr => first | (go_simp; done) | (go_simp; rfl)); (case hp => exact Reps.none _ _); intro v5 w1 ho _ hg1 hnew; have HO := Lib.hid ho; have HG1 := Lib.hid hg1; have HNEW := Lib.hid hnew; clear ho hg1 hnew)) | ((with_reducible refine gate_builtin (b := .append) (xs := #[.tmp 5, .tmp 6]) rfl ?_); at_builtin; go_must (have hB1 : Below w.heap.size w w1 := ⟨HG1.out.os, HG1.out.tape, HG1.out.output, HG1.out.size, fun k hk => HG1.out.block k hk (fun e => (by cases e))⟩; have hR1 := Kd.R_below HRB.out hB1; obtain ⟨A_, c_, hv_, hRd⟩ := own_reads_row hR1.2.choose_spec.1 hR1.2.choose_spec.2 rfl; injection hv_ with hA_ _ hc_; subst hA_ hc_; refine Kd.R_append_rows k56 (w0 := w) base rfl (.tmp 5) (.tmp 6) 53 56 _ 48 rfl Try.underlying53 info56 rfl (by decide) (by decide) v5 [] l (some ad) l.length c0 (fun _ => True) (fun k => True ∧ some k ≠ v5.ownBlock) rfl rfl HO.out hRd (fun x cs hm => k56.M_mono (fun k hk => ⟨trivial, fun e => by obtain ⟨b, hb, hle⟩ := HNEW.out; rw [hb] at e; obtain rfl := Option.some.inj e; have := hk.1.2.2.1; omega⟩) hm) (fun _ hk => hk) (fun _ _ => trivial) (hB1.mono HBASE.out) (Nat.le_trans HBASE.out hB1.size) (by have := HL.out; simp only [List.length_nil]; omega) ?_; intro v1 w2 hR2 _ hg2 hat2; have B2 := Lib.hid (pw_below_grown hB1 _ hB1.size hg2 (fun k hk => by obtain ⟨b, hb, hle⟩ := HNEW.out; rw [hb] at hk; obtain rfl := Option.some.inj hk; exact hle)); have FR : Hid (∀ k, v1.ownBlock = some k → w.heap.size ≤ k) := Lib.hid (fun k hk => by rcases hat2 with e | ⟨b, e, hle⟩; (rw [e] at hk; obtain ⟨b, hb, hle⟩ := HNEW.out; rw [hb] at hk; obtain rfl := Option.some.inj hk; exact hle); (rw [e] at hk; obtain rfl := Option.some.inj hk; exact Nat.le_trans hB1.size hle)); clear hg2 hat2 hR1 hRd)))
    go_ret
    exact ⟨_, rfl, by simpa using hR2, B2.out, FR.out⟩
/-- The others, moved together in their own row. -/
theorem moved_together {W : World} {base g n cap : Nat} {l : List S56} (hR : Kd.R k56 56 W base (fun _ => True) (.slice (some ⟨g, 0, none⟩) n cap) l) (i : Nat) (hi : i < n) (a2 : Addr) (c2 : Nat) (ha : 0 < n - (i + 1) → a2 = ⟨g, (i + 1) * 4, none⟩) :
    ∃ w1, (Builtin.append_ #[53, 53] 53 #[.slice (some ⟨g, 0, none⟩) i cap, .slice (some a2) (n - (i + 1)) c2]).run Try.prog W = .ok (.slice (some ⟨g, 0, none⟩) (n - 1) cap) w1 ∧
      Kd.R k56 56 w1 base (fun _ => True) (.slice (some ⟨g, 0, none⟩) (n - 1) cap) (l.take i ++ l.drop (i + 1)) ∧ W.grownBy w1 (some g) := by
  obtain ⟨hn, hnc, _⟩ := Kd.R_reads' hR
  have hT := Kd.R_take hR (m := i) (by omega)
  obtain ⟨_, inner', ho', hr'⟩ := hT
  obtain ⟨_, inner, ho, hr⟩ := hR
  obtain ⟨i0, hi0, _, hsz, _⟩ := info_parts info56
  have hrd := Kd.reps_drop (m := i + 1) hr
  have hone : ∀ u ∈ inner, u.oneCell' = true := fun u hu => by
    obtain ⟨q, hq, rfl⟩ := List.mem_iff_getElem.1 hu
    have hlen := hr.1
    have hj : q / 4 < l.length := by have : k56.sz = 4 := rfl; rw [this] at hlen; omega
    have hM := hr.2 (q / 4) _ (List.getElem?_eq_getElem hj)
    have hcl := k56.K_len (k56.K_of_M hM)
    refine k56.K_one (k56.K_of_M hM) _ ?_
    rw [List.mem_iff_getElem]
    have h4 : k56.sz = 4 := rfl
    refine ⟨q % 4, by rw [hcl, h4]; omega, ?_⟩
    rw [List.getElem_take, List.getElem_drop]
    congr 1
    rw [h4]; omega
  rw [show (l.take i).length = i by rw [List.length_take]; omega] at ho'
  obtain ⟨w1, hrun, how, hg⟩ := run_append_fits (P := Try.prog) W base 53 53 56 i0 4 Try.underlying53 hi0 hsz g i cap inner' ho' a2 (n - (i + 1)) c2 (inner.drop ((i + 1) * 4)) (by
      rw [List.length_drop, ho.1, ← hn, show k56.sz = 4 from rfl]; omega) (fun j u hu => by
      have hlt : (i + 1) * 4 + j < inner.length := by
        have := (List.getElem?_eq_some_iff.1 hu).1
        rw [List.length_drop] at this
        omega
      rw [List.getElem?_drop] at hu
      have hl4 : inner.length = n * 4 := by rw [ho.1, ← hn]; rfl
      have e := ha (by omega)
      subst e
      have h1 := ho.cells (g := g) (by simp [Value.ownBlock]) _ u hu
      rw [add_plain] at h1
      rw [show (⟨g, (i + 1) * 4, none⟩ : Addr).add j = ⟨g, (i + 1) * 4 + j, none⟩ by simp only [Addr.add]; split <;> simp_all]
      exact h1) (fun u hu => hone u (List.mem_of_mem_drop hu)) (by omega)
  rw [show i + (n - (i + 1)) = n - 1 by omega] at hrun how
  refine ⟨w1, hrun, ⟨fun _ _ => trivial, inner' ++ inner.drop ((i + 1) * 4), ?_, ?_⟩, hg⟩
  · rw [show (l.take i ++ l.drop (i + 1)).length = n - 1 by rw [List.length_append, List.length_take, List.length_drop]; omega]
    exact how
  · have hsz4 : k56.sz = 4 := rfl
    have := Kd.reps_append hr' (by rw [hsz4] at hrd; exact hrd)
    refine this.imp_ (fun x cs hm => k56.M_mono (fun k hk => ⟨trivial, by simpa [Value.ownBlock] using hk.1.2⟩) (k56.M_move (fun k hk => hg.block k hk.2.2.1 (by simpa [Value.ownBlock] using hk.1.2)) (k56.M_bound hm)))
set_option maxRecDepth 100000 in
set_option maxHeartbeats 4000000 in
theorem deleteM_calls (v : Value) (l : List S56) (i : Nat) (J : Int) (hJ : J = (i : Int) + 1) (hi : i < l.length) (base : Nat) (w0 w : World) (hr : Kd.R k56 56 w base (fun _ => True) v l) (hb : Below w0.heap.size w0 w) (hown : ∀ k, v.ownBlock = some k → w0.heap.size ≤ k) :
    Calls Try.prog 42 #[v, .int .i64 (i : Int), .int .i64 J] w fun e w' => ∃ v', e = .returned v' ∧ Kd.R k56 56 w' base (fun _ => True) v' (l.take i ++ l.drop (i + 1)) ∧ Below w0.heap.size w0 w' := by
  obtain ⟨_, hlc, hC⟩ : ∃ (x : Unit), True ∧ True := ⟨(), trivial, trivial⟩
  obtain ⟨g, cap, rfl, hgb⟩ := Kd.R_form hr (by omega)
  obtain ⟨_, hnc, hC⟩ := Kd.R_reads' hr
  have hmx := Kd.C_max hC
  obtain ⟨i56x, hi56, _, hsz56, _⟩ := info_parts info56
  have hel : Try.prog.elem 53 = 56 := by simp [Program.elem, Try.underlying53]
  have hu : Try.prog.underlying 53 = some (.slice (Try.prog.elem 53)) := by rw [hel]; exact Try.underlying53
  have f13 : ∃ v13, ∀ W : World, (Instr.slice 53 (.slice (some ⟨g, 0, none⟩) l.length cap) (some (.int .i64 (i : Int))) (some (.int .i64 J)) (some (.int .i64 (l.length : Int)))).run Try.prog W = .ok v13 W := by
    refine ⟨sliced (some ⟨g, 0, none⟩) i J.toNat l.length 4, fun W => ?_⟩
    rw [run_slice_lhm W 53 _ _ _ hu .i64 .i64 .i64 (i : Int) J (l.length : Int) (by omega) (by omega) (by omega) (by omega), hel]
    simp [sizeOf, typeInfo, hi56, hsz56, Result.andThen]
  obtain ⟨v13, f13⟩ := f13
  have f22 := cut_to (P := Try.prog) 53 56 .i64 Try.underlying53 hi56 (some ⟨g, 0, none⟩) l.length cap (i : Int) (by omega) (by omega) hnc
  rw [Int.toNat_natCast] at f22
  have f25 := cut_from (P := Try.prog) 53 56 .i64 Try.underlying53 hi56 4 hsz56 (some ⟨g, 0, none⟩) l.length cap J (by omega) (by omega)
  rw [show J.toNat = i + 1 by omega] at f25
  obtain ⟨a2, hA2, ha2⟩ : ∃ a2 : Addr, (if cap = i + 1 then some (⟨g, 0, none⟩ : Addr) else (some (⟨g, 0, none⟩ : Addr)).map (·.add ((i + 1) * 4))) = some a2 ∧ (0 < l.length - (i + 1) → a2 = ⟨g, (i + 1) * 4, none⟩) := by
    by_cases hc : cap = i + 1
    · exact ⟨⟨g, 0, none⟩, if_pos hc, fun h => by omega⟩
    · exact ⟨⟨g, (i + 1) * 4, none⟩, by rw [if_neg hc, Option.map_some, add_plain], fun _ => rfl⟩
  rw [hA2] at f25
  obtain ⟨m2, hm2⟩ : ∃ m, l.length - (i + 1) = m := ⟨_, rfl⟩
  obtain ⟨c2, hc2⟩ : ∃ m, cap - (i + 1) = m := ⟨_, rfl⟩
  rw [hm2, hc2] at f25
  have hmv : ∀ W : World, W.heap = w.heap → ∃ w1, (Builtin.append_ #[53, 53] 53 #[.slice (some ⟨g, 0, none⟩) i cap, .slice (some a2) m2 c2]).run Try.prog W = .ok (.slice (some ⟨g, 0, none⟩) (l.length - 1) cap) w1 ∧
      Kd.R k56 56 w1 base (fun _ => True) (.slice (some ⟨g, 0, none⟩) (l.length - 1) cap) (l.take i ++ l.drop (i + 1)) ∧ W.grownBy w1 (some g) := fun W hW => by
    have hrW : Kd.R k56 56 W base (fun _ => True) (.slice (some ⟨g, 0, none⟩) l.length cap) l := Kd.R_step hr (fun k _ _ => by rw [hW])
    have := moved_together hrW i hi a2 c2 ha2
    rwa [hm2] at this
  obtain ⟨N, hN⟩ : ∃ N, l.length - 1 = N := ⟨_, rfl⟩
  have hN2 : N + 1 = l.length := by omega
  rw [hN] at hmv
  have f31 : ∃ c', ∀ W : World, (Instr.slice 53 (.slice (some ⟨g, 0, none⟩) N cap) (some (.int .i64 (N : Int))) (some (.int .i64 (l.length : Int))) none).run Try.prog W = .ok (.slice (some ⟨g, N * 4, none⟩) 1 c') W := by
    refine ⟨cap - N, fun W => ?_⟩
    rw [run_slice_lh W 53 _ _ _ hu .i64 .i64 (N : Int) (l.length : Int) (by omega) (by omega) (by omega), hel]
    have hne : ¬ cap = N := by omega
    simp [sizeOf, typeInfo, hi56, hsz56, Result.andThen, sliced, hne, add_plain]
    omega
  obtain ⟨c3, f31⟩ := f31
  have n1 : ((i : Int) = J) = False := eq_false (by omega)
  have n2 : ((i : Int) == J) = false := beq_eq_false_iff_ne.mpr (by omega)
  have HMV := Lib.hid (hmv w.drew rfl)
  have HB := Lib.hid hb
  have HGB := Lib.hid (hown g (by simp [Value.ownBlock]))
  have HN2 := Lib.hid hN2
  have HNC := Lib.hid hnc
  have hmix : Try.prog.follows .mixedOrders = true := by kernel_rfl
  clear hmv hb hgb hown hN hN2 hm2 hc2 hA2 ha2 hi56 hsz56 hel hu hr hC hmx hnc hJ hi
  go_enter Try.func42, Try.ntmps42
  go_wp2
  go_still_tail 6, hmix
  obtain ⟨w1, hrun, hR1, hg1⟩ := HMV.out
  have B1 := Lib.hid (pw_below_grown (below_drew HB.out) _ (below_drew HB.out).size hg1 (fun k hk => by obtain rfl := Option.some.inj hk; exact HGB.out))
  have R1 := Lib.hid hR1
  have RUN := Lib.hid hrun
  clear hR1 hg1 HMV hrun
  go_wp2_with (first | ((with_reducible refine gate_builtin (b := .append) (xs := #[.tmp 22, .tmp 25]) rfl ?_); go_must (refine append_ev rfl (.tmp 22) (.tmp 25) 53 rfl _ _ _ rfl rfl RUN.out ?_)) | ((with_reducible refine gate_builtin (b := .clear) (xs := #[.tmp 31]) rfl ?_); go_must (refine clear_past (w0 := w0) rfl rfl (.tmp 31) rfl base g N cap c3 1 _ rfl (by have := HN2.out; have := HNC.out; omega) R1.out w0.heap.size HGB.out B1.out ?_; intro w5 hR5 hB5)))
  go_ret
  exact ⟨_, rfl, hR5, hB5⟩
end Go.Proofs.Ytccabdgfjcjpoaa.X
/- net.Take: one, and the others. -/
namespace Go.Proofs.Ytccabdgfjcjpoaa.X
open Go.RowKit Go.Proofs.YtccabdgfjcjpoaaW.PrintWords Go.Proofs.YtccabdgfjcjpoaaW.PrintLast Go.Proofs.YtccabdgfjcjpoaaW.PrintMore
set_option linter.unusedVariables false
set_option linter.unusedSimpArgs false

theorem put56 {W : World} {g : Nat} {c0 c1 c2 c3 : Value} (hg : W.heap[g]? = some (.cells #[c0, c1, c2, c3] 56 (0, 0))) (x0 x1 x2 x3 : Value) :
    ((((W.setCell ⟨g, 0, none⟩ x0).setCell ⟨g, 1, none⟩ x1).setCell ⟨g, 2, none⟩ x2).setCell ⟨g, 3, none⟩ x3).heap[g]? = some (.cells #[x0, x1, x2, x3] 56 (0, 0)) :=
  blk_put (blk_put (blk_put (blk_put hg 0 x0 rfl) 1 x1 rfl) 2 x2 rfl) 3 x3 rfl
theorem far4 {α : Type} {d : Kd α} {e : Nat} {W : World} {base : Nat} {v : Value} {xs : List α} (h : d.R e W base (fun _ => True) v xs) (g : Nat) (hg : g < base) (x0 x1 x2 x3 : Value) :
    d.R e ((((W.setCell ⟨g, 0, none⟩ x0).setCell ⟨g, 1, none⟩ x1).setCell ⟨g, 2, none⟩ x2).setCell ⟨g, 3, none⟩ x3) base (fun _ => True) v xs := by
  have hb := Kd.R_bound h
  have hne : ∀ k, ((fun _ => True) k ∧ base ≤ k ∧ k < W.heap.size ∧ ∃ q, q ∈ e :: d.E ∧ ∃ cells, W.heap[k]? = some (.cells cells q (0, 0))) → k ≠ g := fun k hk he => by have := hk.2.1; omega
  exact Kd.R_mono (Kd.R_far (Kd.R_far (Kd.R_far (Kd.R_far hb (p := ⟨g, 0, none⟩) hne x0) (p := ⟨g, 1, none⟩) hne x1) (p := ⟨g, 2, none⟩) hne x2) (p := ⟨g, 3, none⟩) hne x3) (fun _ _ => trivial)
set_option maxRecDepth 100000 in
set_option maxHeartbeats 4000000 in
theorem take_none (A : Option Addr) (c : Nat) (a1 : Int) (w : World) : Calls Try.prog 24 #[.slice A 0 c, .int .i64 a1] w fun e w' => e = .returned (.tuple #[.agg #[.int .i64 0, .int .i64 0, .int .i64 0, .slice none 0 0], .slice none 0 0, .bool false]) ∧ Below w.heap.size w w' := by
  have g0 := blk_new w (.cells #[.int .i64 0, .int .i64 0, .int .i64 0, .slice none 0 0] 56)
  go_enter Try.func24, Try.ntmps24
  go_wp2
  refine bodyPost_ret (results_ctt rfl _ _ w.heap.size 56 _ (0, 0) _ rfl g0 Try.underlying56 rfl (by kernel_rfl)) rfl ?_
  exact ⟨rfl, below_alloc (Below.refl _ _) _⟩
set_option maxRecDepth 100000 in
set_option maxHeartbeats 4000000 in
theorem take_some (A : Option Addr) (c : Nat) (l : List S56) (a1 : Int) (n : Nat) (w : World) (hC : Kd.C k56 w A l.length l) (hc : l.length ≤ c) (hf : Fits l) (hl : l.length ≤ 1000000000) (hn : n < l.length) (hpl : net_place.f a1 (l.length : Int) = some (n : Int)) (t : S56) (ht : l[n] = t) (rest : List S56) (hrest : l.take n ++ l.drop (n + 1) = rest) :
    Calls Try.prog 24 #[.slice A l.length c, .int .i64 a1] w fun e w' => ∃ A3 c3 A4 c4, e = .returned (.tuple #[aggM t A3 c3, .slice A4 rest.length c4, .bool true]) ∧ t.f3.length ≤ c3 ∧ Kd.C (Kd.int .u8) w' A3 t.f3.length t.f3 ∧ rest.length ≤ c4 ∧ Kd.C k56 w' A4 rest.length rest ∧ Below w.heap.size w w' := by
  obtain ⟨w1, hw1⟩ : ∃ w1, w.alloc (.cells #[.int .i64 0, .int .i64 0, .int .i64 0, .slice none 0 0] 56) = w1 := ⟨_, rfl⟩
  have hB : Below w.heap.size w w1 := by rw [← hw1]; exact below_alloc (Below.refl _ _) _
  have b1 : w1.heap[w.heap.size]? = some (.cells #[.int .i64 0, .int .i64 0, .int .i64 0, .slice none 0 0] 56 (0, 0)) := by rw [← hw1]; exact blk_new _ _
  have hz1 : w.heap.size < w1.heap.size := blk_lt b1
  have hlf := list_f l hf hl (l.length + 1) (Nat.lt_succ_self _)
  have hne : ((l.length : Int) = 0) = False := eq_false (by omega)
  have hne2 : ((l.length : Int) == 0) = false := beq_eq_false_iff_ne.mpr (by omega)
  have hne3 : (l = []) = False := eq_false (fun e => by rw [e] at hn; simp at hn)
  have hne4 : (l.length = 0) = False := eq_false (by omega)
  obtain ⟨J, hJ⟩ : ∃ J, wrap64 ((n : Int) + 1) = J := ⟨_, rfl⟩
  have hJ1 : J = (n : Int) + 1 := by rw [← hJ, wrap64_id _ (by omega) (by omega)]
  have hJ2 : IntKind.i64.wrap ((n : Int) + 1) = J := by rw [IntKind.wrap_i64, ← hJ]; unfold wrap64; omega
  have p0 : (0 ≤ (n : Int)) = True := eq_true (by omega)
  have p1 : ((n : Int) < (l.length : Int)) = True := eq_true (by omega)
  have p2 : (n < l.length) = True := eq_true hn
  have HC := Lib.hid hC
  have HLF := Lib.hid hlf
  have HB := Lib.hid hB
  have HB1 := Lib.hid b1
  have HF := Lib.hid hf
  have HN := Lib.hid hn
  have HJ1 := Lib.hid hJ1
  have HZ1 := Lib.hid hz1
  have HPL := Lib.hid hpl
  have HL := Lib.hid hl
  have HREST := Lib.hid hrest
  have HT : Hid (rd_T56 l (n : Int) = t) := Lib.hid (by rw [rd_T56_at hn, ht])
  have hmix : Try.prog.follows .mixedOrders = true := by kernel_rfl
  clear hrest hC hlf hB b1 hf hn hJ1 hz1 hpl hl ht
  go_enter Try.func24, Try.ntmps24
  go_upto_region 5 with (first | (rw [hw1]) | (go_at_call 40; go_must (refine (net_list.calls (l.length + 1) A c l l _ (Kd.C_below HC.out HB.out) hc HLF.out).mono ?_; rintro e w2 ⟨v2, rfl, hS, hb⟩; have HR2 := Lib.hid (Kd.S_R hS); have HB2 := Lib.hid hb; clear hS hb)) | (go_at_call 41; go_must (refine (net_place.calls a1 (l.length : Int) (n : Int) _ HPL.out).mono ?_; rintro e w3 ⟨rfl, ⟨nd, rfl⟩⟩)))
  have hR3 : Kd.R k56 56 (w2.drewN nd) w1.heap.size (fun _ => True) v2 l := Kd.R_drewN HR2.out nd
  have hB3 : Below w1.heap.size w1 (w2.drewN nd) := pw_below_drewN HB2.out nd
  obtain ⟨w3, hw3⟩ : ∃ w3, w2.drewN nd = w3 := ⟨_, rfl⟩
  rw [hw3] at hR3 hB3 ⊢
  obtain ⟨g, cap, rfl, hgb⟩ := Kd.R_form hR3 (by have := HN.out; omega)
  obtain ⟨A3, c3, x0, x1, x2, x3, hv3⟩ := mail_elem hR3 n HN.out t HT.out
  have hgl : g < w3.drew.heap.size := hgb.2.1
  have hb3 : w3.drew.heap[w.heap.size]? = some (.cells #[.int .i64 0, .int .i64 0, .int .i64 0, .slice none 0 0] 56 (0, 0)) := (hB3.block _ HZ1.out).trans HB1.out
  have HB3d := Lib.hid hb3
  have R3 := Lib.hid (Kd.R_drew hR3)
  have V3 := Lib.hid (Kd.R_drew (Kd.R_mono hv3 (fun _ _ => trivial) : (Kd.int .u8).R 5 w3 w1.heap.size (fun _ => True) _ _))
  have B3 := Lib.hid (below_drew hB3)
  have HGL := Lib.hid hgl
  have e0 : w3.drew.cell? ⟨g, n * 4, none⟩ = some (.int .i64 t.f0) := x0
  have e1 : w3.drew.cell? ⟨g, n * 4 + 1, none⟩ = some (.int .i64 t.f1) := x1
  have e2 : w3.drew.cell? ⟨g, n * 4 + 2, none⟩ = some (.int .i64 t.f2) := x2
  have e3 : w3.drew.cell? ⟨g, n * 4 + 3, none⟩ = some (.slice A3 t.f3.length c3) := x3
  have E0 := Lib.hid e0
  have E1 := Lib.hid e1
  have E2 := Lib.hid e2
  have E3 := Lib.hid e3
  have HXW : Hid (w.heap.size < w3.drew.heap.size) := Lib.hid (blk_lt hb3)
  clear hR3 hB3 hw3 hgb x0 x1 x2 x3 hv3 hgl hb3 HR2 HB2
  go_region_with (first | (go_at_call 43; go_must (refine (cloneM_calls _ l w1.heap.size (fun _ => True) w3.drew R3.out B3.out.size HL.out).mono ?_; rintro e w4 ⟨v4, rfl, hR4, hb4, hown4⟩; have R4 := Lib.hid hR4; have B4 := Lib.hid hb4; have O4 := Lib.hid hown4; have y0 : w4.cell? ⟨g, n * 4, none⟩ = some (.int .i64 t.f0) := (hb4.cell HGL.out).trans E0.out; have y1 : w4.cell? ⟨g, n * 4 + 1, none⟩ = some (.int .i64 t.f1) := (hb4.cell HGL.out).trans E1.out; have y2 : w4.cell? ⟨g, n * 4 + 2, none⟩ = some (.int .i64 t.f2) := (hb4.cell HGL.out).trans E2.out; have y3 : w4.cell? ⟨g, n * 4 + 3, none⟩ = some (.slice A3 t.f3.length c3) := (hb4.cell HGL.out).trans E3.out; clear hR4 hb4 hown4)) | (go_at_call 42; go_must (refine (deleteM_calls v4 l n J HJ1.out HN.out w1.heap.size w3.drew w4 R4.out B4.out O4.out).mono ?_; rintro e w5 ⟨v5, rfl, hR5, hb5⟩; rw [HREST.out] at hR5; obtain ⟨A5, c5, rfl⟩ := Kd.R_slice hR5; have R5 := Lib.hid hR5; have B5 := Lib.hid hb5; have hbx := (hb5.block _ HXW.out).trans HB3d.out; have BX := Lib.hid hbx; have z0 : w5.cell? ⟨g, n * 4, none⟩ = some (.int .i64 t.f0) := (hb5.cell HGL.out).trans E0.out; have z1 : w5.cell? ⟨g, n * 4 + 1, none⟩ = some (.int .i64 t.f1) := (hb5.cell HGL.out).trans E1.out; have z2 : w5.cell? ⟨g, n * 4 + 2, none⟩ = some (.int .i64 t.f2) := (hb5.cell HGL.out).trans E2.out; have z3 : w5.cell? ⟨g, n * 4 + 3, none⟩ = some (.slice A3 t.f3.length c3) := (hb5.cell HGL.out).trans E3.out; have q0 := blk_cell hbx 0; have q1 := blk_cell hbx 1; have q2 := blk_cell hbx 2; have q3 := blk_cell hbx 3; have r0 := blk_frozen hbx 0; have r1 := blk_frozen hbx 1; have r2 := blk_frozen hbx 2; have r3 := blk_frozen hbx 3; clear hR5 hb5 hbx)))
  all_goals go_wp2
  all_goals (refine bodyPost_ret (results_ctt rfl _ _ w.heap.size 56 _ (0, 0) _ rfl (put56 BX.out _ _ _ _) Try.underlying56 rfl (by kernel_rfl)) rfl ?_)
  all_goals (
    have hVf := far4 (Kd.R_below V3.out B5.out) w.heap.size HZ1.out (.int .i64 t.f0) (.int .i64 t.f1) (.int .i64 t.f2) (.slice A3 t.f3.length c3)
    have hRf := far4 R5.out w.heap.size HZ1.out (.int .i64 t.f0) (.int .i64 t.f1) (.int .i64 t.f2) (.slice A3 t.f3.length c3)
    exact ⟨A3, c3, A5, c5, rfl, (Kd.R_reads' hVf).2.1, (Kd.R_reads' hVf).2.2, (Kd.R_reads' hRf).2.1, (Kd.R_reads' hRf).2.2, below_set (below_set (below_set (below_set (below_step (below_step HB.out B3.out) B5.out) (Nat.le_refl _)) (Nat.le_refl _)) (Nat.le_refl _)) (Nat.le_refl _)⟩)
end Go.Proofs.Ytccabdgfjcjpoaa.X
/- Octets turned into octets: the block is marked behind its end, and reads as before. -/
namespace Go.Proofs.Ytccabdgfjcjpoaa.X
open Go.RowKit Go.Proofs.YtccabdgfjcjpoaaW.PrintWords Go.Proofs.YtccabdgfjcjpoaaW.PrintLast Go.Proofs.YtccabdgfjcjpoaaW.PrintMore
set_option linter.unusedVariables false
set_option linter.unusedSimpArgs false

/-- A block that is marked: what it reads stays. -/
structure Marked (g : Nat) (w w1 : World) : Prop where
  size : w1.heap.size = w.heap.size
  far : ∀ i, i ≠ g → w1.heap[i]? = w.heap[i]?
  cell : ∀ p, w1.cell? p = w.cell? p
  below : ∀ (v : World), Below v.heap.size v w → v.heap.size ≤ g → Below v.heap.size v w1
theorem freeze_marked (W : World) (g j : Nat) : Marked g W (W.freeze ⟨g, j, none⟩ 1) := by
  have hs : (W.freeze ⟨g, j, none⟩ 1).heap.size = W.heap.size := by simp [World.freeze]
  have hf : ∀ i, i ≠ g → (W.freeze ⟨g, j, none⟩ 1).heap[i]? = W.heap[i]? := fun i hi => by
    simp only [World.freeze, Nat.one_ne_zero, ↓reduceIte, Array.getElem?_modify]
    rw [if_neg (Ne.symm hi)]
  refine ⟨hs, hf, fun p => ?_, fun v hb hg => ⟨hb.os, hb.tape, hb.output, by rw [hs]; exact hb.size, fun i hi => (hf i (by omega)).trans (hb.block i hi)⟩⟩
  by_cases hp : p.block = g
  · simp only [World.cell?, World.freeze, Nat.one_ne_zero, ↓reduceIte, Array.getElem?_modify, hp]
    cases W.heap[g]? with
    | none => rfl
    | some o => cases o <;> rfl
  · simp only [World.cell?, hf _ hp]
theorem Marked.row {g : Nat} {W W1 : World} (h : Marked g W W1) {k : IntKind} {A : Option Addr} {n : Nat} {xs : List Int} (hC : Kd.C (Kd.int k) W A n xs) : Kd.C (Kd.int k) W1 A n xs := by
  have hr := Kd.reads_of_C (d := (0 : Int)) (h1 := fun _ => rfl) hC
  refine Kd.C_of_reads (d := (0 : Int)) (h1 := fun _ => rfl) ⟨hr.1, hr.2.1, fun hn => ?_⟩
  obtain ⟨ad, e, hc⟩ := hr.2.2 hn
  exact ⟨ad, e, fun j hj => (h.cell _).trans (hc j hj)⟩
section
variable {P : Program} {ops : Array Oper} {rest : List Oper} {o : Oper} {a : Act} {Q : Exit → Act → World → Prop}
/-- A conversion of octets to octets. -/
theorem conv_ev {W : World} (hgd : o.guard = none) {N : Tmp} (hd : o.dst = some N) (t e : TypeId) (x : Operand) (ho : o.op = .convert t t x) (ht : P.underlying t = some (.slice e)) (he : P.underlying e = some (.int .u8))
    (g n c : Nat) (hx : a.eval x = .slice (some ⟨g, 0, none⟩) n c) (cs : Array Value) (hg : W.heap[g]? = some (.cells cs e (0, 0)))
    (h : ∀ w1, Marked g W w1 → wpList P ops Q rest (a.put o.dst (.slice (some ⟨g, 0, none⟩) n c)) w1) : wpList P ops Q (o :: rest) a W := by
  refine Kd.event_run hgd (v := .slice (some ⟨g, 0, none⟩) n c) (w1 := W.freeze ⟨g, cs.size, none⟩ 1) ?_ (h _ (freeze_marked _ _ _))
  have hsh : W.shape? g = some (e, cs.size) := by simp [World.shape?, hg]
  have h1 := run_underlying ht W
  have h2 := run_underlying he W
  simp [execOp, ho, hx, convert, h1, h2, markStringish, hsh, Result.andThen]
end
theorem lit_block {k : IntKind} {e base : Nat} {ok : Nat → Prop} {w : World} {v : Value} {xs : List Int} (h : Kd.R (Kd.int k) e w base ok v xs) (hn : 0 < xs.length) :
    ∃ g cap cur, v = .slice (some ⟨g, 0, none⟩) xs.length cap ∧ base ≤ g ∧ w.heap[g]? = some (.cells cur e (0, 0)) ∧ xs.length ≤ cap ∧ Kd.C (Kd.int k) w (some ⟨g, 0, none⟩) xs.length xs := by
  obtain ⟨inner, ho⟩ := Kd.R_own h
  rcases ho.2 with ⟨hz, h0⟩ | ⟨g, cap, cur, rfl, hg, hh, r⟩
  · exact absurd h0 (by omega)
  · have := Kd.R_reads' h
    exact ⟨g, cap, cur, rfl, hg, hh, this.2.1, this.2.2⟩
end Go.Proofs.Ytccabdgfjcjpoaa.X
/- mootlaw24.alive: the page's example. -/
namespace Go.Proofs.Ytccabdgfjcjpoaa.X
open Go.RowKit Go.Proofs.YtccabdgfjcjpoaaW.PrintWords Go.Proofs.YtccabdgfjcjpoaaW.PrintLast Go.Proofs.YtccabdgfjcjpoaaW.PrintMore
set_option linter.unusedVariables false
set_option linter.unusedSimpArgs false

theorem one_C {W : World} {K : Nat} {A : Option Addr} {c : Nat} {x : List Int} (hk : W.cell? ⟨K, 0, none⟩ = some (.slice A x.length c)) (hc : x.length ≤ c) (hC : Kd.C (Kd.int .u8) W A x.length x) : Kd.C (Kd.slice 5 (Kd.int .u8)) W (some ⟨K, 0, none⟩) 1 [x] := by
  refine ⟨rfl, by omega, fun _ => ⟨_, rfl, fun j p hj => ?_⟩⟩
  rcases j with _ | j
  · obtain rfl : x = p := by simpa using hj
    refine ⟨[.slice A x.length c], rfl, ⟨A, c, rfl, hc, hC⟩, fun i u hu => ?_⟩
    rcases i with _ | i
    · obtain rfl : Value.slice A x.length c = u := by simpa using hu
      rw [show ((⟨K, 0, none⟩ : Addr).add (0 * (Kd.slice 5 (Kd.int .u8)).sz + 0)) = ⟨K, 0, none⟩ by simp [Addr.add]]
      exact hk
    · simp at hu
  · simp at hj
theorem all_x : net_All.f 40 [] 0 3 7 [[120]] = some [⟨0, 1, 7, [120]⟩, ⟨0, 2, 7, [120]⟩] := by kernel_rfl
set_option maxRecDepth 100000 in
set_option maxHeartbeats 4000000 in
theorem alive24_calls (w : World) : Calls Try.prog 23 #[] w fun e w' => e = .returned (.bool true) ∧ Below w.heap.size w w' := by
  obtain ⟨p, hp⟩ : ∃ p : List Int, p = [120] := ⟨_, rfl⟩
  have HP := Lib.hid hp
  have hpl : p.length = 1 := by rw [hp]; rfl
  have HPL := Lib.hid hpl
  obtain ⟨r, hr⟩ : ∃ r : List S56, [⟨0, 1, 7, [120]⟩, ⟨0, 2, 7, [120]⟩] = r := ⟨_, rfl⟩
  have hall := all_x
  rw [hr] at hall
  have hrl : r.length = 2 := by rw [← hr]; rfl
  have h0 : rd_T56 r 0 = ⟨0, 1, 7, [120]⟩ := by rw [← hr]; rfl
  have h1 : rd_T56 r 1 = ⟨0, 2, 7, [120]⟩ := by rw [← hr]; rfl
  have HALL : Hid (net_All.f 40 [] 0 3 7 [p] = some r) := Lib.hid (by rw [hp]; exact hall)
  have HRL := Lib.hid hrl
  have H0 := Lib.hid h0
  have H1 := Lib.hid h1
  clear hp hpl hr hall hrl h0 h1
  go_enter Try.func23, Try.ntmps23
  go_wp2_with (first | (go_at_call 24; go_must ((with_reducible refine (take_none none 0 3 _).mono ?_); rintro e w1 ⟨rfl, hb1⟩; have B1 := Lib.hid hb1; clear hb1)) | ((with_reducible refine gate_dst (N := 10) rfl ?_); go_must (refine Kd.R_lit (Kd.int .u8) (w0 := w) w.heap.size 5 ?hg (N := 10) ?hd (xs := ([120] : List Int)) (inner := [.int .u8 120]) (ok := fun _ => True) (okp := fun _ => True) ?hr ?hp (fun _ hk => hk) trivial (below_alloc B1.out _) (below_alloc B1.out _).size (by simp) ?_; (case hd => rfl); (case hg => rfl); (case hr => first | (go_simp; done) | (go_simp; rfl)); (case hp => exact (Reps.one (show Kd.M (Kd.int .u8) _ _ _ 120 [.int .u8 120] from rfl) (Reps.none _ _))); intro v7 w2 ho hb hg_ hnew_; clear hg_ hnew_; rw [← HP.out] at ho; obtain ⟨g, cap, cur, rfl, hgb, hgh, hcap, hC⟩ := lit_block ho (by rw [HP.out]; decide); clear ho)) | ((with_reducible refine gate_dst (N := 11) rfl ?_); go_must (refine conv_ev rfl rfl 54 5 (.tmp 10) rfl Try.underlying54 Try.underlying5 g p.length cap rfl cur hgh ?_; intro w3 hm; have C3 := Lib.hid (hm.row hC); have B3 := Lib.hid (hm.below _ hb hgb); have HCAP := Lib.hid hcap; clear hm hC hb hgb hgh hcap)) | (go_at_call 27; go_must (refine (net_All.calls 40 none 0 [] 0 3 7 (some ⟨w3.heap.size, 0, none⟩) 1 [p] r _ (Kd.C_nil _ _) (Nat.le_refl _) (one_C ((blk_cell (blk_new w3 _) 0).trans rfl) HCAP.out (Kd.C_below C3.out (below_alloc (Below.refl _ _) _))) (by simp) HALL.out).mono ?_; rintro e w4 ⟨v4, rfl, hS, hb4⟩; have hRr := Kd.S_R hS; obtain ⟨g4, c4, rfl, _⟩ := Kd.R_form hRr (by have := HRL.out; omega); obtain ⟨A5, c5, x0, x1, x2, x3, _⟩ := mail_elem hRr 0 (by have := HRL.out; omega) _ H0.out; obtain ⟨A6, c6, y0, y1, y2, y3, _⟩ := mail_elem hRr 1 (by have := HRL.out; omega) _ H1.out; have x1b : w4.cell? ⟨g4, 1, none⟩ = some (.int .i64 1) := x1; have x2b : w4.cell? ⟨g4, 2, none⟩ = some (.int .i64 7) := x2; have y1b : w4.cell? ⟨g4, 5, none⟩ = some (.int .i64 2) := y1; rw [HRL.out]; clear x0 x1 x2 x3 y0 y1 y2 y3; have B4 := Lib.hid (below_step (below_alloc B3.out _) hb4); clear hS hb4 hRr)))
  go_ret
  exact ⟨rfl, B4.out⟩
end Go.Proofs.Ytccabdgfjcjpoaa.X
