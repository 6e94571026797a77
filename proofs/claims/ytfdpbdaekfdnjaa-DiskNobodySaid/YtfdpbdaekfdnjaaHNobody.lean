/- The law DiskNobody, walked. -/
import Derived.Test.YtfdpbdaekfdnjaaHDead
import Derived.BigQuiet
namespace Go.Proofs.Ytfdpbdaekfdnjaa.X
open Go.RowKit Go.Proofs.YtfdpbdaekfdnjaaW.PrintWords Go.Proofs.YtfdpbdaekfdnjaaW.PrintLast Go.Proofs.YtfdpbdaekfdnjaaW.PrintMore
set_option linter.unusedVariables false
set_option linter.unusedSimpArgs false
theorem add_at (b i : Nat) : (⟨b, 0, none⟩ : Addr).add i = ⟨b, i, none⟩ := by simp only [Addr.add]; split <;> simp_all
theorem Dead.drewn {W : World} {p : Option Addr} (h : Dead W p) (n : Nat) : Dead (W.drewN n) p := h
def mootlaw12_DiskNobody.f (l0 : List Int) (a1 : Int) : Option Bool := some true
set_option maxRecDepth 100000 in
set_option maxHeartbeats 4000000 in
theorem mootlaw12_DiskNobody.calls (A0 : Option Addr) (c0 : Nat) (l0 : List Int) (a1 : Int) (r : Bool) (w : World) (hr0 : Kd.C (Kd.int .u8) w A0 l0.length l0) (hc0 : l0.length ≤ c0) (h : mootlaw12_DiskNobody.f l0 a1 = some r) :
    Calls Try.prog 7 #[.slice A0 l0.length c0, .int .i64 a1] w fun e w' => e = .returned (.bool r) ∧ Below w.heap.size w w' := by
  unfold mootlaw12_DiskNobody.f at h
  obtain rfl := Option.some.inj h
  go_enter Try.func7, Try.ntmps7
  go_wp2
  generalize hW2 : ((w.alloc (Obj.cells #[Value.slice none 0 0, Value.int IntKind.i64 0, Value.int IntKind.i64 0, Value.bool false] 49)).alloc (Obj.cells #[Value.pointer none, Value.pointer (some { block := w.heap.size, off := 0 })] 24)) = W2
  have hB2 : Below w.heap.size w W2 := by rw [← hW2]; exact below_alloc (below_alloc (Below.refl _ _) _) _
  have hc : W2.heap[w.heap.size + 1]? = some (Obj.cells #[Value.pointer none, Value.pointer (some { block := w.heap.size, off := 0 })] 24) := by rw [← hW2, ← World.size_alloc w _]; exact blk_new _ _
  have hd : W2.heap[w.heap.size]? = some (Obj.cells #[Value.slice none 0 0, Value.int IntKind.i64 0, Value.int IntKind.i64 0, Value.bool false] 49) := by rw [← hW2]; exact (((Below.refl _ _).alloc (Nat.le_refl _) _).block _ (by rw [World.size_alloc]; omega)).trans (blk_new _ _)
  obtain ⟨b, hbb⟩ : ∃ b, w.heap.size + 1 = b := ⟨_, rfl⟩
  obtain ⟨g, hgg⟩ : ∃ g, w.heap.size = g := ⟨_, rfl⟩
  rw [hbb] at hc ⊢
  rw [hgg] at hc hd
  have HGG := Lib.hid hgg
  have h0 := blk_cell hc 0
  have h1 := blk_cell hc 1
  have HB2 := Lib.hid hB2
  have H0 := Lib.hid h0
  have H1 := Lib.hid h1
  have HD := Lib.hid hd
  clear hW2 hB2 hc hd h0 h1 hbb hgg
  go_loopg [7] 3 (fun kq v7 w' => ∃ i : Nat, v7 = .int .i64 (i : Int) ∧ Hid (i ≤ 2 ∧ kq + i = 3) ∧ Hid (∃ n, w' = W2.drewN n))
  case atStart => exact ⟨0, rfl, Lib.hid ⟨by omega, rfl⟩, Lib.hid ⟨0, rfl⟩⟩
  case round =>
    obtain ⟨i, rfl, hi, hI⟩ := hrel
    obtain ⟨n, rfl⟩ := hI.out
    by_cases ci : i < 2
    · have c1 : decide ((i : Int) < 2) = true := decide_eq_true (by omega)
      obtain ⟨p, hp, hdd⟩ : ∃ p, (W2.drewN n).cell? ⟨b, i, none⟩ = some (.pointer p) ∧ Dead (W2.drewN n) p := by
        rcases (by omega : i = 0 ∨ i = 1) with rfl | rfl
        · exact ⟨none, H0.out, .inl rfl⟩
        · exact ⟨some ⟨g, 0, none⟩, H1.out, .inr ⟨_, rfl, HD.out⟩⟩
      have p0 : (0 ≤ (i : Int)) = True := eq_true (by omega)
      have p1 : ((i : Int) < 2) = True := eq_true (by omega)
      have q1 : (i < 2) = True := eq_true ci
      have a1 : (⟨b, 0, none⟩ : Addr).add i = ⟨b, i, none⟩ := add_at b i
      have hp2 : W2.cell? ⟨b, i, none⟩ = some (.pointer p) := hp
      have HDD := Lib.hid hdd
      have HCI := Lib.hid ci
      clear hdd ci
      go_wp2_with (go_at_call 18; (with_reducible refine (dead_crash _ _ HDD.out _).mono ?_); rintro e w' ⟨rfl, rfl⟩)
      go_quiet (first | (go_at_call 16; refine (dead_append _ _ (by exact HDD.out) _).mono (fun _ _ h => ⟨h.1, _, h.2.symm⟩)) | (go_at_call 17; refine (dead_flush _ _ (by exact HDD.out)).mono (fun _ _ h => ⟨h.1, _, h.2.symm⟩)) | (go_at_call 19; refine (dead_read _ _ (by exact HDD.out)).mono (fun _ _ h => ⟨h.1, _, h.2.symm⟩)) | (go_at_call 28; refine (dead_cut _ _ (by exact HDD.out) _).mono (fun _ _ h => ⟨h.1, _, h.2.symm⟩)) | (go_at_call 20; refine (dead_loose _ _ (by exact HDD.out)).mono (fun _ _ h => ⟨h.1, _, h.2.symm⟩)) | (go_at_call 29; refine (dead_size _ _ (by exact HDD.out)).mono (fun _ _ h => ⟨h.1, _, h.2.symm⟩)))
      go_wp2
      obtain ⟨k1, rfl⟩ : ∃ k1, gk = k1 + 1 := ⟨gk - 1, by have := hi.out; omega⟩
      go_roundg k1
      case measure => omega
      case rel => exact ⟨i + 1, congrArg (Value.int .i64) (by have := hi.out; have := HCI.out; unfold wrap64; omega), Lib.hid ⟨by have := HCI.out; omega, by have := hi.out; omega⟩, Lib.hid ⟨_, rfl⟩⟩
    · have c1 : decide ((i : Int) < 2) = false := decide_eq_false (by omega)
      go_wp2_with (go_at_call 14; (with_reducible refine (alive12_calls _).mono ?_); rintro e w3 ⟨rfl, hb⟩)
      go_ret
      exact ⟨rfl, below_step (pw_below_drewN HB2.out _) hb⟩
end Go.Proofs.Ytfdpbdaekfdnjaa.X
