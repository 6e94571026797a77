/- Texts of this session joined into one: HRefR12, HRefR14, HRefR20, HRefR21, HRefSha, XF8, XF26, QTells, QRefSum, QConst, PureShaTells. -/
import Derived.Test.YtclmikbbjhdplaaZShaTells1
import Derived.Test.YtclmikbbjhdplaaZShaTells2
import Derived.Test.YtclmikbbjhdplaaZShaTells3
import Derived.StillTailTactics
import Derived.BigRegion
import Derived.Deep.RegionLaw
import Derived.Deep.RegionHeld3
/- mootref01.Sha: one region's walk. -/
namespace Go.Proofs.Ytclmikbbjhdplaa.X
open Go.RowKit Go.Proofs.YtclmikbbjhdplaaW.PrintWords Go.Proofs.YtclmikbbjhdplaaW.PrintLast Go.Proofs.YtclmikbbjhdplaaW.PrintMore
set_option linter.unusedVariables false
set_option linter.unusedSimpArgs false
set_option maxRecDepth 100000 in
set_option maxHeartbeats 400000000 in
theorem reg12 {w w7 wr : World} {z g3 g4 g7 n m t cp : Nat} {s q p : List Int} {Ap : Option Addr} {aN : Int} {Q : Exit → Act → World → Prop} {fr0 fr1 fr2 fr3 fr4 fr9 fr10 fr11 fr12 fr13 fr14 fr15 fr16 fr17 fr18 fr19 fr20 fr21 fr22 fr23 fr24 fr25 fr26 fr27 fr28 fr29 fr30 fr31 fr32 fr33 fr34 fr35 fr36 fr37 fr38 fr39 fr40 fr41 fr42 fr43 fr44 fr45 fr46 fr47 fr48 fr49 fr50 fr51 fr52 fr53 fr54 fr55 fr56 fr57 fr58 fr59 fr60 fr61 fr62 fr63 fr64 fr65 fr66 fr67 fr68 fr69 fr70 fr71 fr72 fr73 fr74 fr75 fr76 fr77 fr78 fr79 fr80 fr81 fr82 fr83 fr84 fr85 fr86 fr87 fr88 fr89 fr90 fr91 fr92 fr93 fr94 fr95 fr96 fr97 fr98 fr99 fr100 fr101 fr102 fr103 fr104 fr105 fr106 fr107 fr108 fr109 fr110 fr111 fr112 fr113 fr114 fr115 fr116 fr117 fr118 fr119 fr120 fr121 fr122 fr123 fr124 fr125 fr126 fr127 fr128 fr129 fr130 fr131 fr132 fr133 fr134 fr135 fr136 fr137 fr138 fr139 fr140 fr141 fr142 fr143 fr144 fr145 fr146 fr147 fr148 fr149 fr150 fr151 fr152 fr153 fr154 fr155 fr156 fr157 fr158 fr159 fr160 fr161 fr162 fr163 fr164 fr165 fr166 fr167 fr168 fr169 fr170 fr171 fr172 fr173 fr174 fr175 fr176 fr177 fr178 fr179 fr180 fr181 fr182 fr183 fr184 fr185 fr186 fr187 fr188 fr189 fr190 fr191 fr192 fr193 fr194 fr195 fr196 fr197 fr198 fr199 fr200 fr201 fr202 fr203 fr204 fr205 fr206 fr207 fr208 fr209 fr210 fr211 fr212 fr213 fr214 fr215 fr216 fr217 fr218 fr219 fr220 fr221 fr222 fr223 fr224 fr225 fr226 fr227 fr228 fr229 fr230 fr231 fr232 fr233 fr234 fr235 fr236 fr237 fr238 : Value} (hW : Hid (WI w w7 z g3 g4 g7 s (wsA q t) wr)) (HF0 : Hid (Kd.F (Kd.int .u8) w7 (fun k => z ≤ k) Ap p.length p)) (HLEN : Hid (p.length = 64 * m)) (HCN : Hid (n < m)) (HAN : Hid (((64 * n : Nat) : Int) = aN)) (HPL : Hid (p.length ≤ 140737488355000 ∧ 9 ≤ p.length)) (HPO : Hid (Octets p)) (HQ : Hid ((p.drop (64 * n)).take 64 = q)) (c16 : t < 16) (c64 : t < 64)
    (hQ : ∀ uu36 uu37 uu38 uu39 uu40 uu41 uu42 uu43 uu44 uu45 uu46 uu47 uu48 uu49 uu50 uu51 uu52 uu53 uu54 uu55 uu56 uu57 uu58 uu59 uu60 uu61 uu62 uu63 uu64 uu65 uu66 uu67 uu68 uu69 uu70 uu71 uu72 uu73 uu74 uu75 uu76 uu77 uu78 : Value, Q .normal { tmps := #[fr0, fr1, fr2, fr3, fr4, .slice Ap p.length cp, .int .i64 aN, .pointer (some ⟨g7, 0, none⟩), .int .i64 (t : Int), fr9, fr10, fr11, fr12, fr13, fr14, fr15, fr16, fr17, fr18, fr19, fr20, fr21, fr22, fr23, fr24, fr25, fr26, fr27, fr28, fr29, fr30, fr31, fr32, fr33, fr34, fr35, uu36, uu37, uu38, uu39, uu40, uu41, uu42, uu43, uu44, uu45, uu46, uu47, uu48, uu49, uu50, uu51, uu52, uu53, uu54, uu55, uu56, uu57, uu58, uu59, uu60, uu61, uu62, uu63, uu64, uu65, uu66, uu67, uu68, uu69, uu70, uu71, uu72, uu73, uu74, uu75, uu76, uu77, uu78, fr79, fr80, fr81, fr82, fr83, fr84, fr85, fr86, fr87, fr88, fr89, fr90, fr91, fr92, fr93, fr94, fr95, fr96, fr97, fr98, fr99, fr100, fr101, fr102, fr103, fr104, fr105, fr106, fr107, fr108, fr109, fr110, fr111, fr112, fr113, fr114, fr115, fr116, fr117, fr118, fr119, fr120, fr121, fr122, fr123, fr124, fr125, fr126, fr127, fr128, fr129, fr130, fr131, fr132, fr133, fr134, fr135, fr136, fr137, fr138, fr139, fr140, fr141, fr142, fr143, fr144, fr145, fr146, fr147, fr148, fr149, fr150, fr151, fr152, fr153, fr154, fr155, fr156, fr157, fr158, fr159, fr160, fr161, fr162, fr163, fr164, fr165, fr166, fr167, fr168, fr169, fr170, fr171, fr172, fr173, fr174, fr175, fr176, fr177, fr178, fr179, fr180, fr181, fr182, fr183, fr184, fr185, fr186, fr187, fr188, fr189, fr190, fr191, fr192, fr193, fr194, fr195, fr196, fr197, fr198, fr199, fr200, fr201, fr202, fr203, fr204, fr205, fr206, fr207, fr208, fr209, fr210, fr211, fr212, fr213, fr214, fr215, fr216, fr217, fr218, fr219, fr220, fr221, fr222, fr223, fr224, fr225, fr226, fr227, fr228, fr229, fr230, fr231, fr232, fr233, fr234, fr235, fr236, fr237, fr238], defers := [] } ((wr.drewN 1).setCell ⟨g7, t, none⟩ (.int .u32 (wordA q (4 * (t : Int)))))) :
    Code.wp Try.prog (Code.region 12 (opsOf Try.f33 12) true) Q { tmps := #[fr0, fr1, fr2, fr3, fr4, .slice Ap p.length cp, .int .i64 aN, .pointer (some ⟨g7, 0, none⟩), .int .i64 (t : Int), fr9, fr10, fr11, fr12, fr13, fr14, fr15, fr16, fr17, fr18, fr19, fr20, fr21, fr22, fr23, fr24, fr25, fr26, fr27, fr28, fr29, fr30, fr31, fr32, fr33, fr34, fr35, fr36, fr37, fr38, fr39, fr40, fr41, fr42, fr43, fr44, fr45, fr46, fr47, fr48, fr49, fr50, fr51, fr52, fr53, fr54, fr55, fr56, fr57, fr58, fr59, fr60, fr61, fr62, fr63, fr64, fr65, fr66, fr67, fr68, fr69, fr70, fr71, fr72, fr73, fr74, fr75, fr76, fr77, fr78, fr79, fr80, fr81, fr82, fr83, fr84, fr85, fr86, fr87, fr88, fr89, fr90, fr91, fr92, fr93, fr94, fr95, fr96, fr97, fr98, fr99, fr100, fr101, fr102, fr103, fr104, fr105, fr106, fr107, fr108, fr109, fr110, fr111, fr112, fr113, fr114, fr115, fr116, fr117, fr118, fr119, fr120, fr121, fr122, fr123, fr124, fr125, fr126, fr127, fr128, fr129, fr130, fr131, fr132, fr133, fr134, fr135, fr136, fr137, fr138, fr139, fr140, fr141, fr142, fr143, fr144, fr145, fr146, fr147, fr148, fr149, fr150, fr151, fr152, fr153, fr154, fr155, fr156, fr157, fr158, fr159, fr160, fr161, fr162, fr163, fr164, fr165, fr166, fr167, fr168, fr169, fr170, fr171, fr172, fr173, fr174, fr175, fr176, fr177, fr178, fr179, fr180, fr181, fr182, fr183, fr184, fr185, fr186, fr187, fr188, fr189, fr190, fr191, fr192, fr193, fr194, fr195, fr196, fr197, fr198, fr199, fr200, fr201, fr202, fr203, fr204, fr205, fr206, fr207, fr208, fr209, fr210, fr211, fr212, fr213, fr214, fr215, fr216, fr217, fr218, fr219, fr220, fr221, fr222, fr223, fr224, fr225, fr226, fr227, fr228, fr229, fr230, fr231, fr232, fr233, fr234, fr235, fr236, fr237, fr238], defers := [] } wr := by
  have hwl := wsA_len q t
  obtain ⟨v, c2⟩ := hW.out.there (by rw [wsA_len]; omega) t (by omega)
  have f2 := blk_frozen hW.out.row t
  have hlp := HLEN.out
  have hcn := HCN.out
  have han := HAN.out
  have hpl := HPL.out.1
  have HPC := Lib.hid (hW.out.o.row HF0.out)
  have hwd : wordA q (4 * (t : Int)) = ((rd p ((64 * n + 4 * t : Nat) : Int) * 256 + rd p ((64 * n + 4 * t + 1 : Nat) : Int)) * 256 + rd p ((64 * n + 4 * t + 2 : Nat) : Int)) * 256 + rd p ((64 * n + 4 * t + 3 : Nat) : Int) := by
    rw [← HQ.out]; exact wordA_block p HPO.out n t c16 (by omega)
  have hby : ∀ j : Nat, j < 4 → 0 ≤ rd p ((64 * n + 4 * t + j : Nat) : Int) ∧ rd p ((64 * n + 4 * t + j : Nat) : Int) < 256 := by
    intro j hj
    rw [rd_at p (64 * n + 4 * t + j) (by omega)]
    exact HPO.out _ (List.getElem_mem _)
  have e1 : wrap64 (4 * (t : Int)) = 4 * (t : Int) := by unfold wrap64; omega
  obtain ⟨j4, hj4⟩ : ∃ j : Int, 4 * (t : Int) = j := ⟨_, rfl⟩
  obtain ⟨j0, hj0⟩ : ∃ j : Int, ((64 * n + 4 * t : Nat) : Int) = j := ⟨_, rfl⟩
  obtain ⟨j1, hj1⟩ : ∃ j : Int, ((64 * n + 4 * t + 1 : Nat) : Int) = j := ⟨_, rfl⟩
  obtain ⟨j2, hj2⟩ : ∃ j : Int, ((64 * n + 4 * t + 2 : Nat) : Int) = j := ⟨_, rfl⟩
  obtain ⟨j3, hj3⟩ : ∃ j : Int, ((64 * n + 4 * t + 3 : Nat) : Int) = j := ⟨_, rfl⟩
  have y0 := hby 0 (by omega)
  have y1 := hby 1 (by omega)
  have y2 := hby 2 (by omega)
  have y3 := hby 3 (by omega)
  simp only [Nat.add_zero] at y0
  rw [hj0] at y0 hwd
  rw [hj1] at y1 hwd
  rw [hj2] at y2 hwd
  rw [hj3] at y3 hwd
  have e1w : IntKind.i64.wrap (4 * (t : Int)) = j4 := by rw [IntKind.wrap_i64]; omega
  have a0w : IntKind.i64.wrap (aN + j4) = j0 := by rw [IntKind.wrap_i64]; omega
  have a1w : IntKind.i64.wrap (j0 + 1) = j1 := by rw [IntKind.wrap_i64]; omega
  have a2w : IntKind.i64.wrap (j0 + 2) = j2 := by rw [IntKind.wrap_i64]; omega
  have a3w : IntKind.i64.wrap (j0 + 3) = j3 := by rw [IntKind.wrap_i64]; omega
  have a0 : wrap64 (aN + j4) = j0 := by unfold wrap64; omega
  have a1 : wrap64 (j0 + 1) = j1 := by unfold wrap64; omega
  have a2 : wrap64 (j0 + 2) = j2 := by unfold wrap64; omega
  have a3 : wrap64 (j0 + 3) = j3 := by unfold wrap64; omega
  have p0 : 0 ≤ j0 := by omega
  have p1 : 0 ≤ j1 := by omega
  have p2 : 0 ≤ j2 := by omega
  have p3 : 0 ≤ j3 := by omega
  have q0 : j0 < (p.length : Int) := by omega
  have q1 : j1 < (p.length : Int) := by omega
  have q2 : j2 < (p.length : Int) := by omega
  have q3 : j3 < (p.length : Int) := by omega
  obtain ⟨ad, ea, x0⟩ := Kd.at_int HPC.out j0 p0 q0
  obtain ⟨ad1, ea1, x1⟩ := Kd.at_int HPC.out j1 p1 q1
  obtain ⟨ad2, ea2, x2⟩ := Kd.at_int HPC.out j2 p2 q2
  obtain ⟨ad3, ea3, x3⟩ := Kd.at_int HPC.out j3 p3 q3
  obtain rfl := Option.some.inj (ea1.symm.trans ea)
  obtain rfl := Option.some.inj (ea2.symm.trans ea)
  obtain rfl := Option.some.inj (ea3.symm.trans ea)
  clear ea1 ea2 ea3
  subst ea
  obtain ⟨z0, hz0⟩ : ∃ z, rd p j0 = z := ⟨_, rfl⟩
  obtain ⟨z1, hz1⟩ : ∃ z, rd p j1 = z := ⟨_, rfl⟩
  obtain ⟨z2, hz2⟩ : ∃ z, rd p j2 = z := ⟨_, rfl⟩
  obtain ⟨z3, hz3⟩ : ∃ z, rd p j3 = z := ⟨_, rfl⟩
  rw [hz0] at x0 y0 hwd
  rw [hz1] at x1 y1 hwd
  rw [hz2] at x2 y2 hwd
  rw [hz3] at x3 y3 hwd
  rw [hj4] at e1 hwd
  have HWD := Lib.hid hwd
  have Y := Lib.hid (And.intro y0 (And.intro y1 (And.intro y2 y3)))
  replace p0 := eq_true p0
  replace p1 := eq_true p1
  replace p2 := eq_true p2
  replace p3 := eq_true p3
  replace q0 := eq_true q0
  replace q1 := eq_true q1
  replace q2 := eq_true q2
  replace q3 := eq_true q3
  have b1 : (0 : Int) ≤ t := by omega
  have b2 : (t : Int) < 64 := by omega
  have HWL := Lib.hid hwl
  have HJ4 := Lib.hid hj4
  clear hlp hcn han hpl hwd hby y0 y1 y2 y3 hz0 hz1 hz2 hz3 hj0 hj1 hj2 hj3 hwl hj4
  obtain ⟨wd, hwdd⟩ : ∃ wd, wordA q j4 = wd := ⟨_, rfl⟩
  have u0 : IntKind.u32.wrap z0 = z0 := by have := Y.out; rw [IntKind.wrap_u32]; omega
  have u1 : IntKind.u32.wrap z1 = z1 := by have := Y.out; rw [IntKind.wrap_u32]; omega
  have u2 : IntKind.u32.wrap z2 = z2 := by have := Y.out; rw [IntKind.wrap_u32]; omega
  have u3 : IntKind.u32.wrap z3 = z3 := by have := Y.out; rw [IntKind.wrap_u32]; omega
  obtain ⟨h0, hh0⟩ : ∃ h, z0 * 16777216 = h := ⟨_, rfl⟩
  obtain ⟨h1, hh1⟩ : ∃ h, z1 * 65536 = h := ⟨_, rfl⟩
  obtain ⟨h2, hh2⟩ : ∃ h, z2 * 256 = h := ⟨_, rfl⟩
  obtain ⟨s1, hs1⟩ : ∃ h, h0 + h1 = h := ⟨_, rfl⟩
  obtain ⟨s2, hs2⟩ : ∃ h, s1 + h2 = h := ⟨_, rfl⟩
  have v0 : IntKind.u32.wrap (z0 * 16777216) = h0 := by have := Y.out; rw [IntKind.wrap_u32]; omega
  have v1 : IntKind.u32.wrap (z1 * 65536) = h1 := by have := Y.out; rw [IntKind.wrap_u32]; omega
  have v2 : IntKind.u32.wrap (z2 * 256) = h2 := by have := Y.out; rw [IntKind.wrap_u32]; omega
  have t1 : IntKind.u32.wrap (h0 + h1) = s1 := by have := Y.out; rw [IntKind.wrap_u32]; omega
  have t2 : IntKind.u32.wrap (s1 + h2) = s2 := by have := Y.out; rw [IntKind.wrap_u32]; omega
  have t3 : IntKind.u32.wrap (s2 + z3) = wd := by have := Y.out; have := HWD.out; rw [IntKind.wrap_u32]; omega
  have HWW := Lib.hid hwdd
  clear hh0 hh1 hh2 hs1 hs2 hwdd
  have hmix : Try.prog.follows .mixedOrders = true := by kernel_rfl
  rw [HJ4.out, HWW.out] at hQ
  have HQQ := Lib.hid hQ
  clear hQ
  simp only [opsOf, Try.f33, opsIn, Option.bind_some, Option.getD_some, reduceIte, Nat.reduceEqDiff, Nat.reduceBEq, Bool.false_eq_true, if_false]
  go_still_tail 43, hmix
  change wpList _ _ _ _ _ wr.drew
  clear u0 u1 u2 u3 v0 v1 v2 t1 t2 t3 x0 x1 x2 x3 a0 a1 a2 a3 a0w a1w a2w a3w e1 e1w p0 p1 p2 p3 q0 q1 q2 q3
  go_wp2
  exact HQQ.out _ _ _ _ _ _ _ _ _ _ _ _ _ _ _ _ _ _ _ _ _ _ _ _ _ _ _ _ _ _ _ _ _ _ _ _ _ _ _ _ _ _ _
end Go.Proofs.Ytclmikbbjhdplaa.X
/- mootref01.Sha: one region's walk. -/
namespace Go.Proofs.Ytclmikbbjhdplaa.X
open Go.RowKit Go.Proofs.YtclmikbbjhdplaaW.PrintWords Go.Proofs.YtclmikbbjhdplaaW.PrintLast Go.Proofs.YtclmikbbjhdplaaW.PrintMore
set_option linter.unusedVariables false
set_option linter.unusedSimpArgs false
set_option maxRecDepth 100000 in
set_option maxHeartbeats 400000000 in
theorem reg14 {w w7 W1 : World} {z g3 g4 g7 t : Nat} {s q : List Int} {jj15 jj2 : Int} {Q : Exit → Act → World → Prop} {fr0 fr1 fr2 fr3 fr4 fr5 fr6 fr11 fr12 fr13 fr14 fr15 fr16 fr17 fr18 fr19 fr20 fr21 fr22 fr23 fr24 fr25 fr26 fr27 fr28 fr29 fr30 fr31 fr32 fr33 fr34 fr35 fr36 fr37 fr38 fr39 fr40 fr41 fr42 fr43 fr44 fr45 fr46 fr47 fr48 fr49 fr50 fr51 fr52 fr53 fr54 fr55 fr56 fr57 fr58 fr59 fr60 fr61 fr62 fr63 fr64 fr65 fr66 fr67 fr68 fr69 fr70 fr71 fr72 fr73 fr74 fr75 fr76 fr77 fr78 fr79 fr80 fr81 fr82 fr83 fr84 fr85 fr86 fr87 fr88 fr89 fr90 fr91 fr92 fr93 fr94 fr95 fr96 fr97 fr98 fr99 fr100 fr101 fr102 fr103 fr104 fr105 fr106 fr107 fr108 fr109 fr110 fr111 fr112 fr113 fr114 fr115 fr116 fr117 fr118 fr119 fr120 fr121 fr122 fr123 fr124 fr125 fr126 fr127 fr128 fr129 fr130 fr131 fr132 fr133 fr134 fr135 fr136 fr137 fr138 fr139 fr140 fr141 fr142 fr143 fr144 fr145 fr146 fr147 fr148 fr149 fr150 fr151 fr152 fr153 fr154 fr155 fr156 fr157 fr158 fr159 fr160 fr161 fr162 fr163 fr164 fr165 fr166 fr167 fr168 fr169 fr170 fr171 fr172 fr173 fr174 fr175 fr176 fr177 fr178 fr179 fr180 fr181 fr182 fr183 fr184 fr185 fr186 fr187 fr188 fr189 fr190 fr191 fr192 fr193 fr194 fr195 fr196 fr197 fr198 fr199 fr200 fr201 fr202 fr203 fr204 fr205 fr206 fr207 fr208 fr209 fr210 fr211 fr212 fr213 fr214 fr215 fr216 fr217 fr218 fr219 fr220 fr221 fr222 fr223 fr224 fr225 fr226 fr227 fr228 fr229 fr230 fr231 fr232 fr233 fr234 fr235 fr236 fr237 fr238 : Value} (HW1 : Hid (WI w w7 z g3 g4 g7 s (wsA q t) W1)) (J15 : Hid (jj15 = (t : Int) - 15)) (J2 : Hid (jj2 = (t : Int) - 2)) (c16 : ¬ t < 16) (c64 : t < 64)
    (hQ : ∀ uu87 uu88 uu89 uu90 uu91 uu92 uu93 uu94 uu95 uu96 uu97 uu98 uu99 uu100 uu101 uu102 uu103 uu104 uu105 uu106 uu107 uu108 uu109 uu110 uu111 uu112 uu113 uu114 uu115 : Value, Q .normal { tmps := #[fr0, fr1, fr2, fr3, fr4, fr5, fr6, .pointer (some ⟨g7, 0, none⟩), .int .i64 (t : Int), .int .u32 (rd (wsA q t) jj15), .int .u32 (rd (wsA q t) jj2), fr11, fr12, fr13, fr14, fr15, fr16, fr17, fr18, fr19, fr20, fr21, fr22, fr23, fr24, fr25, fr26, fr27, fr28, fr29, fr30, fr31, fr32, fr33, fr34, fr35, fr36, fr37, fr38, fr39, fr40, fr41, fr42, fr43, fr44, fr45, fr46, fr47, fr48, fr49, fr50, fr51, fr52, fr53, fr54, fr55, fr56, fr57, fr58, fr59, fr60, fr61, fr62, fr63, fr64, fr65, fr66, fr67, fr68, fr69, fr70, fr71, fr72, fr73, fr74, fr75, fr76, fr77, fr78, fr79, fr80, fr81, fr82, fr83, fr84, fr85, fr86, uu87, uu88, uu89, uu90, uu91, uu92, uu93, uu94, uu95, uu96, uu97, uu98, uu99, uu100, uu101, uu102, uu103, uu104, uu105, uu106, uu107, uu108, uu109, uu110, uu111, uu112, uu113, uu114, uu115, fr116, fr117, fr118, fr119, fr120, fr121, fr122, fr123, fr124, fr125, fr126, fr127, fr128, fr129, fr130, fr131, fr132, fr133, fr134, fr135, fr136, fr137, fr138, fr139, fr140, fr141, fr142, fr143, fr144, fr145, fr146, fr147, fr148, fr149, fr150, fr151, fr152, fr153, fr154, fr155, fr156, fr157, fr158, fr159, fr160, fr161, fr162, fr163, fr164, fr165, fr166, fr167, fr168, fr169, fr170, fr171, fr172, fr173, fr174, fr175, fr176, fr177, fr178, fr179, fr180, fr181, fr182, fr183, fr184, fr185, fr186, fr187, fr188, fr189, fr190, fr191, fr192, fr193, fr194, fr195, fr196, fr197, fr198, fr199, fr200, fr201, fr202, fr203, fr204, fr205, fr206, fr207, fr208, fr209, fr210, fr211, fr212, fr213, fr214, fr215, fr216, fr217, fr218, fr219, fr220, fr221, fr222, fr223, fr224, fr225, fr226, fr227, fr228, fr229, fr230, fr231, fr232, fr233, fr234, fr235, fr236, fr237, fr238], defers := [] } ((W1.drewN 1).setCell ⟨g7, t, none⟩ (.int .u32 (nextW (wsA q t) (t : Int))))) :
    Code.wp Try.prog (Code.region 14 (opsOf Try.f33 14) true) Q { tmps := #[fr0, fr1, fr2, fr3, fr4, fr5, fr6, .pointer (some ⟨g7, 0, none⟩), .int .i64 (t : Int), .int .u32 (rd (wsA q t) jj15), .int .u32 (rd (wsA q t) jj2), fr11, fr12, fr13, fr14, fr15, fr16, fr17, fr18, fr19, fr20, fr21, fr22, fr23, fr24, fr25, fr26, fr27, fr28, fr29, fr30, fr31, fr32, fr33, fr34, fr35, fr36, fr37, fr38, fr39, fr40, fr41, fr42, fr43, fr44, fr45, fr46, fr47, fr48, fr49, fr50, fr51, fr52, fr53, fr54, fr55, fr56, fr57, fr58, fr59, fr60, fr61, fr62, fr63, fr64, fr65, fr66, fr67, fr68, fr69, fr70, fr71, fr72, fr73, fr74, fr75, fr76, fr77, fr78, fr79, fr80, fr81, fr82, fr83, fr84, fr85, fr86, fr87, fr88, fr89, fr90, fr91, fr92, fr93, fr94, fr95, fr96, fr97, fr98, fr99, fr100, fr101, fr102, fr103, fr104, fr105, fr106, fr107, fr108, fr109, fr110, fr111, fr112, fr113, fr114, fr115, fr116, fr117, fr118, fr119, fr120, fr121, fr122, fr123, fr124, fr125, fr126, fr127, fr128, fr129, fr130, fr131, fr132, fr133, fr134, fr135, fr136, fr137, fr138, fr139, fr140, fr141, fr142, fr143, fr144, fr145, fr146, fr147, fr148, fr149, fr150, fr151, fr152, fr153, fr154, fr155, fr156, fr157, fr158, fr159, fr160, fr161, fr162, fr163, fr164, fr165, fr166, fr167, fr168, fr169, fr170, fr171, fr172, fr173, fr174, fr175, fr176, fr177, fr178, fr179, fr180, fr181, fr182, fr183, fr184, fr185, fr186, fr187, fr188, fr189, fr190, fr191, fr192, fr193, fr194, fr195, fr196, fr197, fr198, fr199, fr200, fr201, fr202, fr203, fr204, fr205, fr206, fr207, fr208, fr209, fr210, fr211, fr212, fr213, fr214, fr215, fr216, fr217, fr218, fr219, fr220, fr221, fr222, fr223, fr224, fr225, fr226, fr227, fr228, fr229, fr230, fr231, fr232, fr233, fr234, fr235, fr236, fr237, fr238], defers := [] } W1 := by
  have hwl := wsA_len q t
  have b1 : (0 : Int) ≤ t := by omega
  have b2 : (t : Int) < 64 := by omega
  have hW := HW1
  obtain ⟨jj7, hj7⟩ : ∃ j : Int, j = (t : Int) - 7 := ⟨_, rfl⟩
  have e7 : wrap64 ((t : Int) - 7) = jj7 := by unfold wrap64; omega
  have gg7 : IntKind.i64.wrap ((t : Int) - 7) = jj7 := by rw [IntKind.wrap_i64]; omega
  have dd7 := hW.out.cell jj7 (by omega) (by omega)
  have p7 : (0 ≤ jj7) = True := eq_true (by omega)
  have q7 : (jj7 < 64) = True := eq_true (by omega)
  have J7 := Lib.hid hj7
  clear hj7
  obtain ⟨jj16, hj16⟩ : ∃ j : Int, j = (t : Int) - 16 := ⟨_, rfl⟩
  have e16 : wrap64 ((t : Int) - 16) = jj16 := by unfold wrap64; omega
  have gg16 : IntKind.i64.wrap ((t : Int) - 16) = jj16 := by rw [IntKind.wrap_i64]; omega
  have dd16 := hW.out.cell jj16 (by omega) (by omega)
  have p16 : (0 ≤ jj16) = True := eq_true (by omega)
  have q16 : (jj16 < 64) = True := eq_true (by omega)
  have J16 := Lib.hid hj16
  clear hj16
  obtain ⟨v, c2⟩ := HW1.out.there (by rw [wsA_len]; omega) t (by omega)
  have f2 := blk_frozen HW1.out.row t
  have hmix : Try.prog.follows .mixedOrders = true := by kernel_rfl
  have HQQ := Lib.hid hQ
  clear hQ hW
  simp only [opsOf, Try.f33, opsIn, Option.bind_some, Option.getD_some, reduceIte, Nat.reduceEqDiff, Nat.reduceBEq, Bool.false_eq_true, if_false]
  refine wp_region_still_tail 29 hmix (by kernel_rfl) ?_
  simp only [List.take_succ_cons, List.take_zero, List.drop_succ_cons, List.drop_zero]
  repeat still_step
  still_call (turn17 _ _)
  repeat still_step
  still_call (turn19 _ _)
  repeat still_step
  still_call (turn7 _ _)
  repeat still_step
  still_call (turn18 _ _)
  repeat still_step
  refine wpStill_nil ?_
  have hv : IntKind.u32.wrap (IntKind.u32.wrap (IntKind.u32.wrap (Go.bits .xor .u32 (Go.bits .xor .u32 (rotA (rd (wsA q t) jj2) 17) (rotA (rd (wsA q t) jj2) 19)) (rd (wsA q t) jj2 / 1024) + rd (wsA q t) jj7) + Go.bits .xor .u32 (Go.bits .xor .u32 (rotA (rd (wsA q t) jj15) 7) (rotA (rd (wsA q t) jj15) 18)) (rd (wsA q t) jj15 / 8)) + rd (wsA q t) jj16) = nextW (wsA q t) (t : Int) := by
    rw [J2.out, J7.out, J15.out, J16.out, nextW]
    simp only [IntKind.wrap_u32]
    omega
  rw [hv]
  change wpList _ _ _ _ _ W1.drew
  clear hv dd7 dd16 e7 gg7 p7 q7 e16 gg16 p16 q16
  go_wp2
  exact HQQ.out _ _ _ _ _ _ _ _ _ _ _ _ _ _ _ _ _ _ _ _ _ _ _ _ _ _ _ _ _
end Go.Proofs.Ytclmikbbjhdplaa.X
/- mootref01.Sha: one region's walk. -/
namespace Go.Proofs.Ytclmikbbjhdplaa.X
open Go.RowKit Go.Proofs.YtclmikbbjhdplaaW.PrintWords Go.Proofs.YtclmikbbjhdplaaW.PrintLast Go.Proofs.YtclmikbbjhdplaaW.PrintMore
set_option linter.unusedVariables false
set_option linter.unusedSimpArgs false
set_option maxRecDepth 100000 in
set_option maxHeartbeats 400000000 in
theorem reg20 {w w7 W1 : World} {z g3 g4 g7 g11 t : Nat} {s ws v : List Int} {Q : Exit → Act → World → Prop} {fr0 fr1 fr2 fr4 fr5 fr6 fr8 fr9 fr10 fr15 fr16 fr17 fr18 fr19 fr20 fr21 fr22 fr23 fr24 fr25 fr26 fr27 fr28 fr29 fr30 fr31 fr32 fr33 fr34 fr35 fr36 fr37 fr38 fr39 fr40 fr41 fr42 fr43 fr44 fr45 fr46 fr47 fr48 fr49 fr50 fr51 fr52 fr53 fr54 fr55 fr56 fr57 fr58 fr59 fr60 fr61 fr62 fr63 fr64 fr65 fr66 fr67 fr68 fr69 fr70 fr71 fr72 fr73 fr74 fr75 fr76 fr77 fr78 fr79 fr80 fr81 fr82 fr83 fr84 fr85 fr86 fr87 fr88 fr89 fr90 fr91 fr92 fr93 fr94 fr95 fr96 fr97 fr98 fr99 fr100 fr101 fr102 fr103 fr104 fr105 fr106 fr107 fr108 fr109 fr110 fr111 fr112 fr113 fr114 fr115 fr116 fr117 fr118 fr119 fr120 fr121 fr122 fr123 fr124 fr125 fr126 fr127 fr128 fr129 fr130 fr131 fr132 fr133 fr134 fr135 fr136 fr137 fr138 fr139 fr140 fr141 fr142 fr143 fr144 fr145 fr146 fr147 fr148 fr149 fr150 fr151 fr152 fr153 fr154 fr155 fr156 fr157 fr158 fr159 fr160 fr161 fr162 fr163 fr164 fr165 fr166 fr167 fr168 fr169 fr170 fr171 fr172 fr173 fr174 fr175 fr176 fr177 fr178 fr179 fr180 fr181 fr182 fr183 fr184 fr185 fr186 fr187 fr188 fr189 fr190 fr191 fr192 fr193 fr194 fr195 fr196 fr197 fr198 fr199 fr200 fr201 fr202 fr203 fr204 fr205 fr206 fr207 fr208 fr209 fr210 fr211 fr212 fr213 fr214 fr215 fr216 fr217 fr218 fr219 fr220 fr221 fr222 fr223 fr224 fr225 fr226 fr227 fr228 fr229 fr230 fr231 fr232 fr233 fr234 fr235 fr236 fr237 fr238 : Value} (HV1 : Hid (VI w w7 z g3 g4 g7 g11 s ws v W1)) (HVL : Hid (v.length = 8)) (HWL : Hid (ws.length = 64)) (c64 : t < 64)
    (hQ : ∀ uu125 uu126 uu127 uu128 uu129 uu130 uu131 uu132 uu133 uu134 uu135 uu136 uu137 uu138 uu139 uu140 uu141 uu142 uu143 uu144 uu145 uu146 uu147 uu148 uu149 uu150 uu151 uu152 uu153 uu154 : Value, Q .normal { tmps := #[fr0, fr1, fr2, .pointer (some ⟨g3, 0, none⟩), fr4, fr5, fr6, .pointer (some ⟨g7, 0, none⟩), fr8, fr9, fr10, .pointer (some ⟨g11, 0, none⟩), .int .i64 (t : Int), .int .u32 (rd v 0), .int .u32 (rd v 4), .int .u32 (t1f v (rd K0 (t : Int)) (rd ws (t : Int))), fr16, fr17, fr18, fr19, fr20, fr21, fr22, fr23, fr24, fr25, fr26, fr27, fr28, fr29, fr30, fr31, fr32, fr33, fr34, fr35, fr36, fr37, fr38, fr39, fr40, fr41, fr42, fr43, fr44, fr45, fr46, fr47, fr48, fr49, fr50, fr51, fr52, fr53, fr54, fr55, fr56, fr57, fr58, fr59, fr60, fr61, fr62, fr63, fr64, fr65, fr66, fr67, fr68, fr69, fr70, fr71, fr72, fr73, fr74, fr75, fr76, fr77, fr78, fr79, fr80, fr81, fr82, fr83, fr84, fr85, fr86, fr87, fr88, fr89, fr90, fr91, fr92, fr93, fr94, fr95, fr96, fr97, fr98, fr99, fr100, fr101, fr102, fr103, fr104, fr105, fr106, fr107, fr108, fr109, fr110, fr111, fr112, fr113, fr114, fr115, fr116, fr117, fr118, fr119, fr120, fr121, fr122, fr123, fr124, uu125, uu126, uu127, uu128, uu129, uu130, uu131, uu132, uu133, uu134, uu135, uu136, uu137, uu138, uu139, uu140, uu141, uu142, uu143, uu144, uu145, uu146, uu147, uu148, uu149, uu150, uu151, uu152, uu153, uu154, fr155, fr156, fr157, fr158, fr159, fr160, fr161, fr162, fr163, fr164, fr165, fr166, fr167, fr168, fr169, fr170, fr171, fr172, fr173, fr174, fr175, fr176, fr177, fr178, fr179, fr180, fr181, fr182, fr183, fr184, fr185, fr186, fr187, fr188, fr189, fr190, fr191, fr192, fr193, fr194, fr195, fr196, fr197, fr198, fr199, fr200, fr201, fr202, fr203, fr204, fr205, fr206, fr207, fr208, fr209, fr210, fr211, fr212, fr213, fr214, fr215, fr216, fr217, fr218, fr219, fr220, fr221, fr222, fr223, fr224, fr225, fr226, fr227, fr228, fr229, fr230, fr231, fr232, fr233, fr234, fr235, fr236, fr237, fr238], defers := [] } (W1.drewN 1)) :
    Code.wp Try.prog (Code.region 20 (opsOf Try.f33 20) true) Q { tmps := #[fr0, fr1, fr2, .pointer (some ⟨g3, 0, none⟩), fr4, fr5, fr6, .pointer (some ⟨g7, 0, none⟩), fr8, fr9, fr10, .pointer (some ⟨g11, 0, none⟩), .int .i64 (t : Int), .int .u32 (rd v 0), .int .u32 (rd v 4), fr15, fr16, fr17, fr18, fr19, fr20, fr21, fr22, fr23, fr24, fr25, fr26, fr27, fr28, fr29, fr30, fr31, fr32, fr33, fr34, fr35, fr36, fr37, fr38, fr39, fr40, fr41, fr42, fr43, fr44, fr45, fr46, fr47, fr48, fr49, fr50, fr51, fr52, fr53, fr54, fr55, fr56, fr57, fr58, fr59, fr60, fr61, fr62, fr63, fr64, fr65, fr66, fr67, fr68, fr69, fr70, fr71, fr72, fr73, fr74, fr75, fr76, fr77, fr78, fr79, fr80, fr81, fr82, fr83, fr84, fr85, fr86, fr87, fr88, fr89, fr90, fr91, fr92, fr93, fr94, fr95, fr96, fr97, fr98, fr99, fr100, fr101, fr102, fr103, fr104, fr105, fr106, fr107, fr108, fr109, fr110, fr111, fr112, fr113, fr114, fr115, fr116, fr117, fr118, fr119, fr120, fr121, fr122, fr123, fr124, fr125, fr126, fr127, fr128, fr129, fr130, fr131, fr132, fr133, fr134, fr135, fr136, fr137, fr138, fr139, fr140, fr141, fr142, fr143, fr144, fr145, fr146, fr147, fr148, fr149, fr150, fr151, fr152, fr153, fr154, fr155, fr156, fr157, fr158, fr159, fr160, fr161, fr162, fr163, fr164, fr165, fr166, fr167, fr168, fr169, fr170, fr171, fr172, fr173, fr174, fr175, fr176, fr177, fr178, fr179, fr180, fr181, fr182, fr183, fr184, fr185, fr186, fr187, fr188, fr189, fr190, fr191, fr192, fr193, fr194, fr195, fr196, fr197, fr198, fr199, fr200, fr201, fr202, fr203, fr204, fr205, fr206, fr207, fr208, fr209, fr210, fr211, fr212, fr213, fr214, fr215, fr216, fr217, fr218, fr219, fr220, fr221, fr222, fr223, fr224, fr225, fr226, fr227, fr228, fr229, fr230, fr231, fr232, fr233, fr234, fr235, fr236, fr237, fr238], defers := [] } W1 := by
  have b1 : (0 : Int) ≤ t := by omega
  have b2 : (t : Int) < 64 := by omega
  have hnot : (if IntKind.u32.signed = true then (-1 : Int) else IntKind.u32.max) = 4294967295 := by decide +kernel
  have hmix : Try.prog.follows .mixedOrders = true := by kernel_rfl
  have d0 := cell_nums HV1.out.b11 0 (by rw [HVL.out]; decide)
  have d1 := cell_nums HV1.out.b11 1 (by rw [HVL.out]; decide)
  have d2 := cell_nums HV1.out.b11 2 (by rw [HVL.out]; decide)
  have d3 := cell_nums HV1.out.b11 3 (by rw [HVL.out]; decide)
  have d4 := cell_nums HV1.out.b11 4 (by rw [HVL.out]; decide)
  have d5 := cell_nums HV1.out.b11 5 (by rw [HVL.out]; decide)
  have d6 := cell_nums HV1.out.b11 6 (by rw [HVL.out]; decide)
  have d7 := cell_nums HV1.out.b11 7 (by rw [HVL.out]; decide)
  have dk := cell_nums HV1.out.o.b3 t (by rw [K0_len]; exact c64)
  have dw := cell_nums HV1.out.row t (by rw [HWL.out]; exact c64)
  have HQQ := Lib.hid hQ
  clear hQ
  simp only [opsOf, Try.f33, opsIn, Option.bind_some, Option.getD_some, reduceIte, Nat.reduceEqDiff, Nat.reduceBEq, Bool.false_eq_true, if_false]
  refine wp_region_still_lit hmix (by kernel_rfl) ?_
  repeat still_step
  still_call (turn6 _ _)
  repeat still_step
  still_call (turn11 _ _)
  repeat still_step
  still_call (turn25 _ _)
  repeat still_step
  refine wpStill_nil ?_
  have hT1 : IntKind.u32.wrap (IntKind.u32.wrap (IntKind.u32.wrap (IntKind.u32.wrap (rd v 7 + Go.bits .xor .u32 (Go.bits .xor .u32 (rotA (rd v 4) 6) (rotA (rd v 4) 11)) (rotA (rd v 4) 25)) + Go.bits .xor .u32 (Go.bits .and .u32 (rd v 4) (rd v 5)) (Go.bits .and .u32 (Go.bits .xor .u32 4294967295 (rd v 4)) (rd v 6))) + rd K0 (t : Int)) + rd ws (t : Int)) = t1f v (rd K0 (t : Int)) (rd ws (t : Int)) := by
    unfold t1f S1f
    simp only [IntKind.wrap_u32]
    omega
  rw [hT1]
  exact HQQ.out _ _ _ _ _ _ _ _ _ _ _ _ _ _ _ _ _ _ _ _ _ _ _ _ _ _ _ _ _ _
end Go.Proofs.Ytclmikbbjhdplaa.X
/- mootref01.Sha: one region's walk. -/
namespace Go.Proofs.Ytclmikbbjhdplaa.X
open Go.RowKit Go.Proofs.YtclmikbbjhdplaaW.PrintWords Go.Proofs.YtclmikbbjhdplaaW.PrintLast Go.Proofs.YtclmikbbjhdplaaW.PrintMore
set_option linter.unusedVariables false
set_option linter.unusedSimpArgs false
set_option maxRecDepth 100000 in
set_option maxHeartbeats 400000000 in
theorem reg21 {w w7 W2 : World} {z g3 g4 g7 g11 : Nat} {s ws v : List Int} {Q : Exit → Act → World → Prop} {fr0 fr1 fr2 fr3 fr4 fr5 fr6 fr7 fr8 fr9 fr10 fr12 fr14 fr15 fr16 fr17 fr18 fr19 fr20 fr21 fr22 fr23 fr24 fr25 fr26 fr27 fr28 fr29 fr30 fr31 fr32 fr33 fr34 fr35 fr36 fr37 fr38 fr39 fr40 fr41 fr42 fr43 fr44 fr45 fr46 fr47 fr48 fr49 fr50 fr51 fr52 fr53 fr54 fr55 fr56 fr57 fr58 fr59 fr60 fr61 fr62 fr63 fr64 fr65 fr66 fr67 fr68 fr69 fr70 fr71 fr72 fr73 fr74 fr75 fr76 fr77 fr78 fr79 fr80 fr81 fr82 fr83 fr84 fr85 fr86 fr87 fr88 fr89 fr90 fr91 fr92 fr93 fr94 fr95 fr96 fr97 fr98 fr99 fr100 fr101 fr102 fr103 fr104 fr105 fr106 fr107 fr108 fr109 fr110 fr111 fr112 fr113 fr114 fr115 fr116 fr117 fr118 fr119 fr120 fr121 fr122 fr123 fr124 fr125 fr126 fr127 fr128 fr129 fr130 fr131 fr132 fr133 fr134 fr135 fr136 fr137 fr138 fr139 fr140 fr141 fr142 fr143 fr144 fr145 fr146 fr147 fr148 fr149 fr150 fr151 fr152 fr153 fr154 fr155 fr156 fr157 fr158 fr159 fr160 fr161 fr162 fr163 fr164 fr165 fr166 fr167 fr168 fr169 fr170 fr171 fr172 fr173 fr174 fr175 fr176 fr177 fr178 fr179 fr180 fr181 fr182 fr183 fr184 fr185 fr186 fr187 fr188 fr189 fr190 fr191 fr192 fr193 fr194 fr195 fr196 fr197 fr198 fr199 fr200 fr201 fr202 fr203 fr204 fr205 fr206 fr207 fr208 fr209 fr210 fr211 fr212 fr213 fr214 fr215 fr216 fr217 fr218 fr219 fr220 fr221 fr222 fr223 fr224 fr225 fr226 fr227 fr228 fr229 fr230 fr231 fr232 fr233 fr234 fr235 fr236 fr237 fr238 : Value} (HV2 : Hid (VI w w7 z g3 g4 g7 g11 s ws v W2)) (HVL : Hid (v.length = 8))
    (hQ : ∀ uu155 uu156 uu157 uu158 uu159 uu160 uu161 uu162 uu163 uu164 uu165 uu166 uu167 uu168 uu169 uu170 uu171 uu172 uu173 uu174 uu175 uu176 uu177 uu178 : Value, Q .normal { tmps := #[fr0, fr1, fr2, fr3, fr4, fr5, fr6, fr7, fr8, fr9, fr10, .pointer (some ⟨g11, 0, none⟩), fr12, .int .u32 (rd v 0), fr14, fr15, .int .u32 (t2f v % 4294967296), fr17, fr18, fr19, fr20, fr21, fr22, fr23, fr24, fr25, fr26, fr27, fr28, fr29, fr30, fr31, fr32, fr33, fr34, fr35, fr36, fr37, fr38, fr39, fr40, fr41, fr42, fr43, fr44, fr45, fr46, fr47, fr48, fr49, fr50, fr51, fr52, fr53, fr54, fr55, fr56, fr57, fr58, fr59, fr60, fr61, fr62, fr63, fr64, fr65, fr66, fr67, fr68, fr69, fr70, fr71, fr72, fr73, fr74, fr75, fr76, fr77, fr78, fr79, fr80, fr81, fr82, fr83, fr84, fr85, fr86, fr87, fr88, fr89, fr90, fr91, fr92, fr93, fr94, fr95, fr96, fr97, fr98, fr99, fr100, fr101, fr102, fr103, fr104, fr105, fr106, fr107, fr108, fr109, fr110, fr111, fr112, fr113, fr114, fr115, fr116, fr117, fr118, fr119, fr120, fr121, fr122, fr123, fr124, fr125, fr126, fr127, fr128, fr129, fr130, fr131, fr132, fr133, fr134, fr135, fr136, fr137, fr138, fr139, fr140, fr141, fr142, fr143, fr144, fr145, fr146, fr147, fr148, fr149, fr150, fr151, fr152, fr153, fr154, uu155, uu156, uu157, uu158, uu159, uu160, uu161, uu162, uu163, uu164, uu165, uu166, uu167, uu168, uu169, uu170, uu171, uu172, uu173, uu174, uu175, uu176, uu177, uu178, fr179, fr180, fr181, fr182, fr183, fr184, fr185, fr186, fr187, fr188, fr189, fr190, fr191, fr192, fr193, fr194, fr195, fr196, fr197, fr198, fr199, fr200, fr201, fr202, fr203, fr204, fr205, fr206, fr207, fr208, fr209, fr210, fr211, fr212, fr213, fr214, fr215, fr216, fr217, fr218, fr219, fr220, fr221, fr222, fr223, fr224, fr225, fr226, fr227, fr228, fr229, fr230, fr231, fr232, fr233, fr234, fr235, fr236, fr237, fr238], defers := [] } (W2.drewN 1)) :
    Code.wp Try.prog (Code.region 21 (opsOf Try.f33 21) true) Q { tmps := #[fr0, fr1, fr2, fr3, fr4, fr5, fr6, fr7, fr8, fr9, fr10, .pointer (some ⟨g11, 0, none⟩), fr12, .int .u32 (rd v 0), fr14, fr15, fr16, fr17, fr18, fr19, fr20, fr21, fr22, fr23, fr24, fr25, fr26, fr27, fr28, fr29, fr30, fr31, fr32, fr33, fr34, fr35, fr36, fr37, fr38, fr39, fr40, fr41, fr42, fr43, fr44, fr45, fr46, fr47, fr48, fr49, fr50, fr51, fr52, fr53, fr54, fr55, fr56, fr57, fr58, fr59, fr60, fr61, fr62, fr63, fr64, fr65, fr66, fr67, fr68, fr69, fr70, fr71, fr72, fr73, fr74, fr75, fr76, fr77, fr78, fr79, fr80, fr81, fr82, fr83, fr84, fr85, fr86, fr87, fr88, fr89, fr90, fr91, fr92, fr93, fr94, fr95, fr96, fr97, fr98, fr99, fr100, fr101, fr102, fr103, fr104, fr105, fr106, fr107, fr108, fr109, fr110, fr111, fr112, fr113, fr114, fr115, fr116, fr117, fr118, fr119, fr120, fr121, fr122, fr123, fr124, fr125, fr126, fr127, fr128, fr129, fr130, fr131, fr132, fr133, fr134, fr135, fr136, fr137, fr138, fr139, fr140, fr141, fr142, fr143, fr144, fr145, fr146, fr147, fr148, fr149, fr150, fr151, fr152, fr153, fr154, fr155, fr156, fr157, fr158, fr159, fr160, fr161, fr162, fr163, fr164, fr165, fr166, fr167, fr168, fr169, fr170, fr171, fr172, fr173, fr174, fr175, fr176, fr177, fr178, fr179, fr180, fr181, fr182, fr183, fr184, fr185, fr186, fr187, fr188, fr189, fr190, fr191, fr192, fr193, fr194, fr195, fr196, fr197, fr198, fr199, fr200, fr201, fr202, fr203, fr204, fr205, fr206, fr207, fr208, fr209, fr210, fr211, fr212, fr213, fr214, fr215, fr216, fr217, fr218, fr219, fr220, fr221, fr222, fr223, fr224, fr225, fr226, fr227, fr228, fr229, fr230, fr231, fr232, fr233, fr234, fr235, fr236, fr237, fr238], defers := [] } W2 := by
  have hmix : Try.prog.follows .mixedOrders = true := by kernel_rfl
  have d0 := cell_nums HV2.out.b11 0 (by rw [HVL.out]; decide)
  have d1 := cell_nums HV2.out.b11 1 (by rw [HVL.out]; decide)
  have d2 := cell_nums HV2.out.b11 2 (by rw [HVL.out]; decide)
  have d3 := cell_nums HV2.out.b11 3 (by rw [HVL.out]; decide)
  have d4 := cell_nums HV2.out.b11 4 (by rw [HVL.out]; decide)
  have d5 := cell_nums HV2.out.b11 5 (by rw [HVL.out]; decide)
  have d6 := cell_nums HV2.out.b11 6 (by rw [HVL.out]; decide)
  have d7 := cell_nums HV2.out.b11 7 (by rw [HVL.out]; decide)
  have HQQ := Lib.hid hQ
  clear hQ
  simp only [opsOf, Try.f33, opsIn, Option.bind_some, Option.getD_some, reduceIte, Nat.reduceEqDiff, Nat.reduceBEq, Bool.false_eq_true, if_false]
  refine wp_region_still_lit hmix (by kernel_rfl) ?_
  repeat still_step
  still_call (turn2 _ _)
  repeat still_step
  still_call (turn13 _ _)
  repeat still_step
  still_call (turn22 _ _)
  repeat still_step
  refine wpStill_nil ?_
  have hT2 : IntKind.u32.wrap (Go.bits .xor .u32 (Go.bits .xor .u32 (rotA (rd v 0) 2) (rotA (rd v 0) 13)) (rotA (rd v 0) 22) + Go.bits .xor .u32 (Go.bits .xor .u32 (Go.bits .and .u32 (rd v 0) (rd v 1)) (Go.bits .and .u32 (rd v 0) (rd v 2))) (Go.bits .and .u32 (rd v 1) (rd v 2))) = t2f v % 4294967296 := by
    unfold t2f S0f
    simp only [IntKind.wrap_u32]
  rw [hT2]
  exact HQQ.out _ _ _ _ _ _ _ _ _ _ _ _ _ _ _ _ _ _ _ _ _ _ _ _
end Go.Proofs.Ytclmikbbjhdplaa.X
/- mootref01.Sha: the reference's sum of octets. -/
namespace Go.Proofs.Ytclmikbbjhdplaa.X
open Go.RowKit Go.Proofs.YtclmikbbjhdplaaW.PrintWords Go.Proofs.YtclmikbbjhdplaaW.PrintLast Go.Proofs.YtclmikbbjhdplaaW.PrintMore
set_option linter.unusedVariables false
set_option linter.unusedSimpArgs false
theorem row4 (W : World) (a b c d : Int) : Kd.C (Kd.int .u8) (W.alloc (.cells #[.int .u8 a, .int .u8 b, .int .u8 c, .int .u8 d] 5)) (some ⟨W.heap.size, 0, none⟩) 4 [a, b, c, d] := row_nums (k := .u8) (xs := [a, b, c, d]) (blk_new W (.cells #[.int .u8 a, .int .u8 b, .int .u8 c, .int .u8 d] 5)) (by simp)
def mootref01_Sha.f (l0 : List Int) : Option (List Int) := if (∀ x ∈ l0, 0 ≤ x ∧ x < 256) ∧ l0.length ≤ 140737488354000 then some (sumL l0) else none
set_option maxRecDepth 100000 in
set_option maxHeartbeats 400000000 in
theorem mootref01_Sha.calls (A0 : Option Addr) (c0 : Nat) (l0 : List Int) (r : List Int) (w : World) (hr0 : Kd.C (Kd.int .u8) w A0 l0.length l0) (hc0 : l0.length ≤ c0) (h : mootref01_Sha.f l0 = some r) :
    Calls Try.prog 33 #[.slice A0 l0.length c0] w fun e w' => ∃ v0_ : Value, e = .returned (v0_) ∧ Kd.R (Kd.int .u8) 5 w' w.heap.size (fun _ => True) v0_ r ∧ Below w.heap.size w w' := by
  unfold mootref01_Sha.f at h
  by_cases hs : (∀ x ∈ l0, 0 ≤ x ∧ x < 256) ∧ l0.length ≤ 140737488354000
  · rw [if_pos hs] at h
    obtain rfl := Option.some.inj h
    clear h
    obtain ⟨p, hp⟩ : ∃ p, padL l0 = p := ⟨_, rfl⟩
    have hpf : mootref01_Pad.f 80 l0 = some p := by rw [← hp]; exact refpad_f l0 (by omega) 80 (by omega)
    have hpm : p.length % 64 = 0 := by rw [← hp]; exact padL_mod l0
    have hpl : p.length ≤ 140737488355000 ∧ 9 ≤ p.length := by rw [← hp, padL_len]; omega
    have hpo : Octets p := by rw [← hp]; exact padL_octets l0 hs.1
    obtain ⟨m, hm⟩ : ∃ m, p.length / 64 = m := ⟨_, rfl⟩
    have hlen : p.length = 64 * m := by omega
    have hres : sumL l0 = octs (statesA p m) := by rw [sumL, stateL, hp, hm]
    rw [hres]
    clear hres hm hs
    have HPF := Lib.hid hpf
    have HPL := Lib.hid hpl
    have HPO := Lib.hid hpo
    have HLEN := Lib.hid hlen
    clear hpf hpl hpo hlen hpm hp
    go_enter Try.func33, Try.ntmps33
    have hs3 : (nums .u32 H0).toArray.size = 8 := by simp [nums, H0_len]
    have hs4 : (nums .u32 K0).toArray.size = 64 := by simp [nums, K0_len]
    have Hs3 := Lib.hid hs3
    have Hs4 := Lib.hid hs4
    clear hs3 hs4
    go_wp2_with (first | (go_at_call 59; go_must (refine (words_calls _).mono ?_; rintro e w1 ⟨rfl, hb1⟩)) | ((with_reducible refine gate_dst (N := 3) rfl ?_); go_must (refine box_event rfl (N := 3) rfl (run_alloc _ 68 _ 64 i68 _ _ rfl _) ?_; intro g3 hg3 w2 b3 hb; have P2 := below_step hb1 hb; have G3 := hg3 ▸ hb1.size; clear hb hb1 hg3)) | ((with_reducible refine gate_store (t := 68) rfl ?_); go_must (refine store_ev rfl rfl 68 (.tmp 3) (.tmp 20) rfl g3 _ _ rfl rfl b3 (by rw [Hs4.out]; rfl) (info68_of Hs4.out) (nums_one _ _) ?_; intro w3 hst; have P3 := hst.below _ P2 G3; have d3 := hst.at_; clear hst P2 b3)) | ((with_reducible refine gate_dst (N := 21) rfl ?_); go_must (refine build_ev rfl rfl 65 _ rfl (nums .u32 H0).toArray (by kernel_rfl) ?_)) | ((with_reducible refine gate_dst (N := 4) rfl ?_); go_must (refine box_event rfl (N := 4) rfl (run_alloc _ 65 _ 8 i65 _ _ rfl _) ?_; intro g4 hg4 w4 b4 hb; have P4 := below_step P3 hb; have G4 := hg4 ▸ P3.size; have c3 := (hb.block _ (blk_lt d3)).trans d3; have G34 : g3 < g4 := hg4 ▸ blk_lt d3; clear hb P3 hg4 d3)) | ((with_reducible refine gate_store (t := 65) rfl ?_); go_must (refine store_ev rfl rfl 65 (.tmp 4) (.tmp 21) rfl g4 _ _ rfl rfl b4 (by rw [Hs3.out]; rfl) (info65_of Hs3.out) (nums_one _ _) ?_; intro w5 hst; have P5 := hst.below _ P4 G4; have d4 := hst.at_; have e3 := (hst.far _ (Nat.ne_of_lt G34)).trans c3; clear hst P4 b4 c3)) | (go_at_call 35; go_must (refine (mootref01_Pad.calls 80 A0 c0 l0 p _ (Kd.C_below hr0 P5) hc0 HPF.out).mono ?_; rintro e w7 ⟨v0, rfl, hR, hb⟩; have P7 := below_step P5 hb; have f3 := (hb.block _ (blk_lt e3)).trans e3; have f4 := (hb.block _ (blk_lt d4)).trans d4; have L3 := blk_lt e3; have L4 := blk_lt d4; have LZ := hb.size; obtain ⟨Ap, cp, rfl⟩ := Kd.R_slice hR; have hRR := Kd.R_reads' hR; clear hb P5 e3 d4)))
    have hF0 : Kd.F (Kd.int .u8) w7 (fun k => w5.heap.size ≤ k) Ap p.length p := Kd.R_F (Kd.R_flat (ok' := fun k => w5.heap.size ≤ k) (fun h => h) hR (fun k hk _ => Kd.R_base hR k hk))
    have hI0 : RI w w7 w5.heap.size g3 g4 (statesA p 0) w7 := ⟨f3, f4, fun _ _ _ => rfl, Nat.le_refl _, P7, L3, L4, Nat.ne_of_lt G34, LZ, G4⟩
    have HF0 := Lib.hid hF0
    have HI0 := Lib.hid hI0
    have HC := Lib.hid hRR.2.1
    clear hF0 hI0 hRR hR P7 f3 f4 L3 L4 LZ G34 G4 G3 hr0 hc0
    go_loopg [6] (m + 1) (fun kq v6 w' => ∃ n : Nat, v6 = .int .i64 ((64 * n : Nat) : Int) ∧ Hid (kq + n = m + 1) ∧ Hid (n ≤ m) ∧ Hid (RI w w7 w5.heap.size g3 g4 (statesA p n) w'))
    case atStart => exact ⟨0, rfl, Lib.hid rfl, Lib.hid (by omega), HI0⟩
    case round =>
      clear HI0
      obtain ⟨n, rfl, hk, hn, hI⟩ := hrel
      have hM := HLEN.out
      have hPL := HPL.out.1
      by_cases cn : n < m
      · have c1 : decide (((64 * n : Nat) : Int) < (p.length : Int)) = true := decide_eq_true (by omega)
        have hsl := statesA_len p n
        obtain ⟨s, hs⟩ : ∃ s, statesA p n = s := ⟨_, rfl⟩
        obtain ⟨aN, haN⟩ : ∃ a : Int, ((64 * n : Nat) : Int) = a := ⟨_, rfl⟩
        rw [hs] at hI hsl
        rw [haN] at c1 ⊢
        have HS := Lib.hid hs
        have HAN := Lib.hid haN
        have HSL := Lib.hid hsl
        have HCN := Lib.hid cn
        clear hs haN hsl cn hM hPL
        go_wp2_with ((with_reducible refine gate_dst (N := 7) rfl ?_); go_must (refine box_event rfl (N := 7) rfl (run_alloc _ 68 _ 64 i68 _ _ rfl _) ?_; intro g7 hg7 w8 b7 hb; have I8 : WI w w7 w5.heap.size g3 g4 g7 s [] w8 := ⟨hI.out.step hb, b7, hg7 ▸ hI.out.size⟩; clear hb b7 hg7))
        have HI8 := Lib.hid I8
        clear I8 hI
        obtain ⟨q, hq⟩ : ∃ q, (p.drop (64 * n)).take 64 = q := ⟨_, rfl⟩
        have HQ := Lib.hid hq
        clear hq
        go_loopg [8] 65 (fun kq v8 w' => ∃ t : Nat, v8 = .int .i64 (t : Int) ∧ Hid (kq + t = 65) ∧ Hid (t ≤ 64) ∧ Hid (WI w w7 w5.heap.size g3 g4 g7 s (wsA q t) w'))
        case atStart => exact ⟨0, rfl, Lib.hid rfl, Lib.hid (by omega), HI8⟩
        case round =>
          clear HI8 c1
          obtain ⟨t, rfl, hk8, ht, hW⟩ := hrel
          by_cases c64 : t < 64
          · have d64 : decide ((t : Int) < 64) = true := decide_eq_true (by omega)
            have hwl := wsA_len q t
            by_cases c16 : t < 16
            · have d16 : decide ((t : Int) < 16) = true := decide_eq_true (by omega)
              go_wp2
              refine reg12 hW HF0 HLEN HCN HAN HPL HPO HQ c16 c64 ?_
              intros
              go_wp2
              obtain ⟨k1, rfl⟩ : ∃ k1, gk = k1 + 1 := ⟨gk - 1, by have := hk8.out; omega⟩
              have hn := (hW.out.drewN 1).set (by rw [wsA_len]; omega) (wordA q (4 * (t : Int)))
              rw [wsA_len, show wsA q t ++ [wordA q (4 * (t : Int))] = wsA q (t + 1) by rw [wsA, if_pos c16]] at hn
              go_roundg k1
              case measure => omega
              case rel => exact ⟨t + 1, (by first | exact congrArg (Value.int .i64) (wrap_succ t (Nat.lt_of_lt_of_le c64 (by decide))) | exact congrArg (Value.int .i64) (Int.natCast_succ t).symm), Lib.hid (by have := hk8.out; omega), Lib.hid (by omega), Lib.hid hn⟩
            · have d16 : decide ((t : Int) < 16) = false := decide_eq_false (by omega)
              have b1 : (0 : Int) ≤ t := by omega
              have b2 : (t : Int) < 64 := by omega
              obtain ⟨jj15, hj15⟩ : ∃ j : Int, j = (t : Int) - 15 := ⟨_, rfl⟩
              have e15 : wrap64 ((t : Int) - 15) = jj15 := by unfold wrap64; omega
              have gg15 : IntKind.i64.wrap ((t : Int) - 15) = jj15 := by rw [IntKind.wrap_i64]; omega
              have dd15 := hW.out.cell jj15 (by omega) (by omega)
              have p15 : (0 ≤ jj15) = True := eq_true (by omega)
              have q15 : (jj15 < 64) = True := eq_true (by omega)
              have J15 := Lib.hid hj15
              clear hj15
              obtain ⟨jj2, hj2⟩ : ∃ j : Int, j = (t : Int) - 2 := ⟨_, rfl⟩
              have e2 : wrap64 ((t : Int) - 2) = jj2 := by unfold wrap64; omega
              have gg2 : IntKind.i64.wrap ((t : Int) - 2) = jj2 := by rw [IntKind.wrap_i64]; omega
              have dd2 := hW.out.cell jj2 (by omega) (by omega)
              have p2 : (0 ≤ jj2) = True := eq_true (by omega)
              have q2 : (jj2 < 64) = True := eq_true (by omega)
              have J2 := Lib.hid hj2
              clear hj2
              go_wp2
              go_quiet (fail)
              go_wp2
              have HW1 := Lib.hid (hW.out.drewN nq)
              refine reg14 HW1 J15 J2 c16 c64 ?_
              intros
              clear e15 gg15 dd15 p15 q15 e2 gg2 dd2 p2 q2
              go_wp2
              obtain ⟨k1, rfl⟩ : ∃ k1, gk = k1 + 1 := ⟨gk - 1, by have := hk8.out; omega⟩
              have hn := (HW1.out.drewN 1).set (by rw [wsA_len]; omega) (nextW (wsA q t) (t : Int))
              rw [wsA_len, show wsA q t ++ [nextW (wsA q t) (t : Int)] = wsA q (t + 1) by rw [wsA, if_neg c16]] at hn
              go_roundg k1
              case measure => omega
              case rel => exact ⟨t + 1, (by first | exact congrArg (Value.int .i64) (wrap_succ t (Nat.lt_of_lt_of_le c64 (by decide))) | exact congrArg (Value.int .i64) (Int.natCast_succ t).symm), Lib.hid (by have := hk8.out; omega), Lib.hid (by omega), Lib.hid hn⟩
          · have d64 : decide ((t : Int) < 64) = false := decide_eq_false (by omega)
            have h64 : t = 64 := by have := ht.out; omega
            subst h64
            have hW := hW.out
            obtain ⟨ws, hws⟩ : ∃ ws, wsA q 64 = ws := ⟨_, rfl⟩
            have hwl : ws.length = 64 := by rw [← hws]; exact wsA_len q 64
            have hrow := hW.row
            rw [hws, pad64_all ws hwl] at hrow
            have HWS := Lib.hid hws
            have HWL := Lib.hid hwl
            have hz4 : (nums .u32 s).toArray.size = 8 := by simp [nums, HSL.out]
            have HZ4 := Lib.hid hz4
            clear hk8 ht c64 hws hz4 hwl
            go_wp2_with (first | ((with_reducible refine gate_dst (N := 116) rfl ?_); go_must (refine load_ev rfl rfl 65 (.tmp 4) rfl g4 _ _ rfl hW.o.b4 Try.underlying65 rfl (info65_of HZ4.out) ?_)) | ((with_reducible refine gate_dst (N := 11) rfl ?_); go_must (refine box_event rfl (N := 11) rfl (run_alloc _ 65 _ 8 i65 _ _ rfl _) ?_; intro g11 hg11 w9 b11 hb; have I9 := hW.o.step hb; have r9 := (hb.block _ (blk_lt hrow)).trans hrow; have n9 : g7 ≠ g11 := Nat.ne_of_lt (hg11 ▸ blk_lt hrow); have l9 : w7.heap.size ≤ g11 := hg11 ▸ hW.o.size; have l7 := hW.l7; clear hb hg11 hrow hW)) | ((with_reducible refine gate_store (t := 65) rfl ?_); go_must (refine store_ev rfl rfl 65 (.tmp 11) (.tmp 116) rfl g11 _ _ rfl rfl b11 (by rw [HZ4.out]; rfl) (info65_of HZ4.out) (nums_one _ _) ?_; intro w10 hst; have V0 : VI w w7 w5.heap.size g3 g4 g7 g11 s ws (roundsA s K0 ws 0) w10 := ⟨I9.stored hst l9, (hst.far _ n9).trans r9, hst.at_, l7, l9, n9⟩; clear hst I9 r9 b11 n9 l9 l7)))
            have HV0 := Lib.hid V0
            clear V0
            go_loopg [12] 65 (fun kq v12 w' => ∃ t : Nat, v12 = .int .i64 (t : Int) ∧ Hid (kq + t = 65) ∧ Hid (t ≤ 64) ∧ Hid (VI w w7 w5.heap.size g3 g4 g7 g11 s ws (roundsA s K0 ws t) w'))
            case atStart => exact ⟨0, rfl, Lib.hid rfl, Lib.hid (by omega), HV0⟩
            case round =>
              clear HV0 d64
              obtain ⟨t, rfl, hk8, ht, hV⟩ := hrel
              by_cases c64 : t < 64
              · have d64 : decide ((t : Int) < 64) = true := decide_eq_true (by omega)
                have b1 : (0 : Int) ≤ t := by omega
                have b2 : (t : Int) < 64 := by omega
                have hvl : (roundsA s K0 ws t).length = 8 := roundsA_len HSL.out t
                obtain ⟨v, hv⟩ : ∃ v, roundsA s K0 ws t = v := ⟨_, rfl⟩
                rw [hv] at hV hvl
                have HV := Lib.hid hv
                have hwl := HWL.out
                clear hv
                have hmix : Try.prog.follows .mixedOrders = true := by kernel_rfl
                have hnot : (if IntKind.u32.signed = true then (-1 : Int) else IntKind.u32.max) = 4294967295 := by decide +kernel
                have d0 := cell_nums hV.out.b11 0 (by rw [hvl]; decide)
                have d1 := cell_nums hV.out.b11 1 (by rw [hvl]; decide)
                have d2 := cell_nums hV.out.b11 2 (by rw [hvl]; decide)
                have d3 := cell_nums hV.out.b11 3 (by rw [hvl]; decide)
                have d4 := cell_nums hV.out.b11 4 (by rw [hvl]; decide)
                have d5 := cell_nums hV.out.b11 5 (by rw [hvl]; decide)
                have d6 := cell_nums hV.out.b11 6 (by rw [hvl]; decide)
                have d7 := cell_nums hV.out.b11 7 (by rw [hvl]; decide)
                have dk := cell_nums hV.out.o.b3 t (by rw [K0_len]; exact c64)
                have dw := cell_nums hV.out.row t (by rw [hwl]; exact c64)
                have HVL := Lib.hid hvl
                clear hvl hwl
                go_wp2
                go_quiet (fail)
                go_wp2
                have HV1 := Lib.hid (hV.out.drewN nq)
                clear d0 d1 d2 d3 d4 d5 d6 d7 dk dw
                refine reg20 HV1 HVL HWL c64 ?_
                intros
                obtain ⟨T1, hT1⟩ : ∃ T, t1f v (rd K0 (t : Int)) (rd ws (t : Int)) = T := ⟨_, rfl⟩
                rw [hT1]
                have HT1 := Lib.hid hT1
                clear hT1
                go_wp2
                have HV2 := Lib.hid (HV1.out.drewN 1)
                refine reg21 HV2 HVL ?_
                intros
                obtain ⟨T2, hT2⟩ : ∃ T, t2f v % 4294967296 = T := ⟨_, rfl⟩
                rw [hT2]
                have hcells : (nums .u32 (roundA v (rd K0 (t : Int)) (rd ws (t : Int)))).toArray = #[.int .u32 ((T1 + T2) % 4294967296), .int .u32 (rd v 0), .int .u32 (rd v 1), .int .u32 (rd v 2), .int .u32 ((rd v 3 + T1) % 4294967296), .int .u32 (rd v 4), .int .u32 (rd v 5), .int .u32 (rd v 6)] := by
                  have : (T1 + T2) % 4294967296 = (T1 + t2f v) % 4294967296 := by rw [← hT2]; omega
                  rw [this]
                  simp only [nums, roundA, List.map_cons, List.map_nil, HT1.out]
                have hsz : Hid ((nums .u32 v).toArray.size = (nums .u32 (roundA v (rd K0 (t : Int)) (rd ws (t : Int)))).toArray.size) := Lib.hid (by rw [size_round]; simp [nums, HVL.out])
                have HC := Lib.hid hcells
                clear hcells hT2
                go_upto_region 22 with fail
                have hV3 := HV2.out.drewN 1
                generalize ((wr.drewN nq).drewN 1).drewN 1 = W3 at hV3 ⊢
                clear HV2 HV1 hV
                have hvl := HVL.out
                have d0 := cell_nums hV3.b11 0 (by rw [hvl]; decide)
                have d1 := cell_nums hV3.b11 1 (by rw [hvl]; decide)
                have d2 := cell_nums hV3.b11 2 (by rw [hvl]; decide)
                have d3 := cell_nums hV3.b11 3 (by rw [hvl]; decide)
                have d4 := cell_nums hV3.b11 4 (by rw [hvl]; decide)
                have d5 := cell_nums hV3.b11 5 (by rw [hvl]; decide)
                have d6 := cell_nums hV3.b11 6 (by rw [hvl]; decide)
                have d7 := cell_nums hV3.b11 7 (by rw [hvl]; decide)
                have HV3 := Lib.hid hV3
                clear hvl hV3
                go_wp2_with ((with_reducible refine gate_store (t := 65) rfl ?_); go_must (refine store_ev rfl rfl 65 (.tmp 11) (.tmp 198) rfl g11 _ (nums .u32 (roundA v (rd K0 t) (rd ws t))).toArray rfl (by rw [HC.out]; rfl) HV3.out.b11 hsz.out (info65_of (size_round _ _ _)) (nums_one _ _) ?_; intro w6 hst; have HN := Lib.hid (HV3.out.store hst); clear hst d0 d1 d2 d3 d4 d5 d6 d7 HC))
                obtain ⟨k1, rfl⟩ : ∃ k1, gk = k1 + 1 := ⟨gk - 1, by have := hk8.out; omega⟩
                have hn : VI w w7 w5.heap.size g3 g4 g7 g11 s ws (roundsA s K0 ws (t + 1)) w6 := by
                  rw [show roundsA s K0 ws (t + 1) = roundA (roundsA s K0 ws t) (rd K0 (t : Int)) (rd ws (t : Int)) by rw [roundsA], HV.out]
                  exact HN.out
                go_roundg k1
                case measure => omega
                case rel => exact ⟨t + 1, (by first | exact congrArg (Value.int .i64) (wrap_succ t (Nat.lt_of_lt_of_le c64 (by decide))) | exact congrArg (Value.int .i64) (Int.natCast_succ t).symm), Lib.hid (by have := hk8.out; omega), Lib.hid (by omega), Lib.hid hn⟩
              · have d64 : decide ((t : Int) < 64) = false := decide_eq_false (by omega)
                have h64 : t = 64 := by have := ht.out; omega
                subst h64
                have hvl : (roundsA s K0 ws 64).length = 8 := roundsA_len HSL.out 64
                obtain ⟨v, hv⟩ : ∃ v, roundsA s K0 ws 64 = v := ⟨_, rfl⟩
                rw [hv] at hV hvl
                have HV := Lib.hid hv
                have HVL := Lib.hid hvl
                have hA0 : VI w w7 w5.heap.size g3 g4 g7 g11 (addA s v 0) ws v wr := by rw [addA]; exact hV.out
                have HA0 := Lib.hid hA0
                clear hk8 ht c64 hv hvl hV hA0
                go_wp2
                go_loopg [17] 9 (fun kq v17 w' => ∃ t : Nat, v17 = .int .i64 (t : Int) ∧ Hid (kq + t = 9) ∧ Hid (t ≤ 8) ∧ Hid (VI w w7 w5.heap.size g3 g4 g7 g11 (addA s v t) ws v w'))
                case atStart => exact ⟨0, rfl, Lib.hid rfl, Lib.hid (by omega), HA0⟩
                case round =>
                  clear HA0 d64
                  obtain ⟨t, rfl, hk9, ht, hA⟩ := hrel
                  by_cases c8 : t < 8
                  · have d8 : decide ((t : Int) < 8) = true := decide_eq_true (by omega)
                    have b1 : (0 : Int) ≤ t := by omega
                    have b2 : (t : Int) < 8 := by omega
                    have hal : (addA s v t).length = 8 := by rw [addA_len]; exact HSL.out
                    have x4 := cell_nums hA.out.o.b4 t (by rw [hal]; exact c8)
                    have f4 := blk_frozen hA.out.o.b4 t
                    have x11 := cell_nums hA.out.b11 t (by rw [HVL.out]; exact c8)
                    clear hal
                    go_wp2
                    go_region
                    all_goals go_wp2
                    obtain ⟨k1, rfl⟩ : ∃ k1, gk = k1 + 1 := ⟨gk - 1, by have := hk9.out; omega⟩
                    have hn := (hA.out.put t ((rd (addA s v t) (t : Int) + rd v (t : Int)) % 4294967296)).drewN 1
                    rw [show (addA s v t).set t ((rd (addA s v t) (t : Int) + rd v (t : Int)) % 4294967296) = addA s v (t + 1) by rw [addA]] at hn
                    go_roundg k1
                    case measure => omega
                    case rel => exact ⟨t + 1, (by first | exact congrArg (Value.int .i64) (wrap_succ t (Nat.lt_of_lt_of_le c8 (by decide))) | exact congrArg (Value.int .i64) (Int.natCast_succ t).symm), Lib.hid (by have := hk9.out; omega), Lib.hid (by omega), Lib.hid hn⟩
                  · have d8 : decide ((t : Int) < 8) = false := decide_eq_false (by omega)
                    have h8 : t = 8 := by have := ht.out; omega
                    subst h8
                    have hst : addA s v 8 = statesA p (n + 1) := by
                      rw [addA_turn v s HVL.out HSL.out, statesA, blockA, HS.out, HQ.out, HWS.out, HV.out]
                    have hR := hA.out.o
                    rw [hst] at hR
                    have HR := Lib.hid hR
                    have e64 : wrap64 (aN + 64) = ((64 * (n + 1) : Nat) : Int) := by have := HAN.out; have := HLEN.out; have := HPL.out.1; have := HCN.out; unfold wrap64; omega
                    have e64w : IntKind.i64.wrap (aN + 64) = ((64 * (n + 1) : Nat) : Int) := by have := HAN.out; have := HLEN.out; have := HPL.out.1; have := HCN.out; rw [IntKind.wrap_i64]; omega
                    obtain ⟨aM, haM⟩ : ∃ a : Int, ((64 * (n + 1) : Nat) : Int) = a := ⟨_, rfl⟩
                    rw [haM] at e64 e64w
                    clear hk9 ht c8 hst hR hA
                    go_wp2
                    go_roundg (m - n)
                    case measure => have := hk.out; have := HCN.out; omega
                    case rel => exact ⟨n + 1, congrArg (Value.int .i64) haM.symm, Lib.hid (by have := hk.out; have := HCN.out; omega), Lib.hid HCN.out, HR⟩
      · have c1 : decide (((64 * n : Nat) : Int) < (p.length : Int)) = false := decide_eq_false (by omega)
        have hnm : n = m := by have := hn.out; omega
        subst hnm
        obtain ⟨s, hs⟩ : ∃ s, statesA p n = s := ⟨_, rfl⟩
        have hsl : s.length = 8 := by rw [← hs]; exact statesA_len p n
        rw [hs] at hI
        have HST := Lib.hid hs
        obtain ⟨aN, haN⟩ : ∃ a : Int, ((64 * n : Nat) : Int) = a := ⟨_, rfl⟩
        rw [haN] at c1 ⊢
        have HSL := Lib.hid hsl
        clear hs hk hn cn hM hPL haN hsl
        go_wp2
        generalize wr = wo at hI ⊢
        go_loopg [18, 19] 9 (fun kq v18 v19 w' => ∃ t : Nat, v19 = .int .i64 (t : Int) ∧ Hid (kq + t = 9) ∧ Hid (t ≤ 8) ∧ Hid (Below wo.heap.size wo w' ∧ Kd.R (Kd.int .u8) 5 w' wo.heap.size (fun _ => True) v18 (octs (s.take t))))
        case atStart => exact ⟨0, rfl, Lib.hid rfl, Lib.hid (by omega), Lib.hid ⟨Below.refl _ _, by simpa [octs] using Kd.R_nil (Kd.int .u8) 5 wo wo.heap.size (fun _ => True)⟩⟩
        case round =>
          clear c1
          obtain ⟨t, rfl, hk9, ht, hA⟩ := hrel
          obtain ⟨Ao, co, rfl⟩ := Kd.R_slice hA.out.2
          by_cases c8 : t < 8
          · have d8 : decide ((t : Int) < 8) = true := decide_eq_true (by omega)
            have b1 : (0 : Int) ≤ t := by omega
            have b2 : (t : Int) < 8 := by omega
            have x4 := cell_nums (hI.out.step hA.out.1).b4 t (by rw [HSL.out]; exact c8)
            have hxt : rd s (t : Int) = s[t]'(by rw [HSL.out]; exact c8) := rd_at s t _
            obtain ⟨x, hx⟩ : ∃ x, rd s (t : Int) = x := ⟨_, rfl⟩
            rw [hx] at x4
            have hsn : octs (s.take t) ++ [x / 16777216 % 256, x / 65536 % 256, x / 256 % 256, x % 256] = octs (s.take (t + 1)) := by
              rw [List.take_succ_eq_append_getElem (by rw [HSL.out]; exact c8), ← hxt, hx, octs, octs, List.flatMap_append, List.flatMap_singleton]
              rfl
            have hol : (octs (s.take t)).length ≤ 32 := by rw [octs_len, List.length_take, HSL.out]; omega
            have HSN := Lib.hid hsn
            have HOL := Lib.hid hol
            have hmix : Try.prog.follows .mixedOrders = true := by kernel_rfl
            have hcell : ∀ W, Below wo.heap.size wo W → W.cell? ⟨g4, t, none⟩ = some (.int .u32 x) := fun W hB => by
              have := cell_nums (hI.out.step hB).b4 t (by rw [HSL.out]; exact c8)
              rwa [hx] at this
            have HCELL := Lib.hid hcell
            clear hcell
            clear hxt hx hsn hol
            go_wp2
            go_region_held3 (fun w' => w'.cell? ⟨g4, t, none⟩ = some (.int .u32 x)) (first | exact HCELL.out _ hA.out.1 | exact HCELL.out _ (below_drew hA.out.1) | exact HCELL.out _ (below_alloc (below_drew hA.out.1) _) | exact HCELL.out _ HB3.out) (first | (refine Kd.R_append_rows_step (Kd.int .u8) (w0 := wo) wo.heap.size (by rfl) (.tmp 216) (.tmp 236) 23 5 (.int .u8 0) 1 rfl Try.underlying23 info5 rfl (by decide) (by decide) (Value.slice Ao (octs (s.take t)).length co) (octs (s.take t)) [x / 16777216 % 256, x / 65536 % 256, x / 256 % 256, x % 256] (some ⟨wr.heap.size, 0, none⟩) 4 4 (fun _ => True) (fun _ => False) rfl rfl (Kd.R_alloc (Kd.R_drew hA.out.2) _) (row4 _ _ _ _ _) (fun x cs hp => hp) (fun _ hk => hk.elim) (fun _ _ => trivial) (below_alloc (below_drew hA.out.1) _) (Below.size (B := wo.heap.size) (below_alloc (below_drew hA.out.1) _)) (by have := HOL.out; first | omega | (simp; omega)) ?_; intro v1 w3 hR3 B3 _ _; rw [HSN.out] at hR3; have HR3 := Lib.hid hR3; have HB3 := Lib.hid B3; clear hR3 B3))
            all_goals go_wp2
            all_goals (obtain ⟨k1, rfl⟩ : ∃ k1, gk = k1 + 1 := ⟨gk - 1, by have := hk9.out; omega⟩; go_roundg k1; (case measure => omega); (case rel => exact ⟨t + 1, (by first | exact congrArg (Value.int .i64) (wrap_succ t (Nat.lt_of_lt_of_le c8 (by decide))) | exact congrArg (Value.int .i64) (Int.natCast_succ t).symm), Lib.hid (by have := hk9.out; omega), Lib.hid (by omega), Lib.hid ⟨HB3.out, HR3.out⟩⟩))
          · have d8 : decide ((t : Int) < 8) = false := decide_eq_false (by omega)
            have h8 : s.take t = s := List.take_of_length_le (by rw [HSL.out]; have := ht.out; omega)
            have hR := hA.out.2
            have hB := below_step hI.out.below hA.out.1
            have hz := hI.out.below.size
            rw [h8] at hR ⊢
            rw [← HST.out] at hR ⊢
            have HR := Lib.hid hR
            have HB := Lib.hid hB
            have HZ := Lib.hid hz
            clear h8 hR hB hz hA hI hk9 ht
            go_wp2
            go_ret
            exact ⟨_, rfl, Kd.R_lower HR.out HZ.out, HB.out⟩
  · rw [if_neg hs] at h; cases h
end Go.Proofs.Ytclmikbbjhdplaa.X
-- Written by a program of this session (a turn of the kit's print with contracts by hand). Not trusted: Lean checks it.
namespace Go.Proofs.Ytclmikbbjhdplaa.X
open Go.RowKit Go.Proofs.YtclmikbbjhdplaaW.PrintWords Go.Proofs.YtclmikbbjhdplaaW.PrintLast Go.Proofs.YtclmikbbjhdplaaW.PrintMore
attribute [local go_sem] max2_int min2_int max_two min_two max_three min_three max_four min_four   -- for this text's walks alone
set_option linter.unusedVariables false
set_option linter.unusedSimpArgs false

/-! ### mootlaw02_ShaTells: function 8 -/
def mootlaw02_ShaTells.f (k : Nat) (l0 : List Int) : Option (Bool) := (mootlaw02_alive.f).bind fun t314 => (if t314 = true then (if (l0.length : Int) > 400 then (some true) else ((mootref01_Constants.f k).bind fun bt315 => ((sha_Sum.f l0).bind fun t321 => ((mootref01_Sum.f k l0 bt315.1 bt315.2).bind fun t324 => (if (strOfNums t321).toList = (strOfNums t324).toList then ((sha_Sum.f l0).bind fun t327 => ((mootref01_Sha.f l0).bind fun t330 => (some ((strOfNums t327).toList == (strOfNums t330).toList)))) else (some false)))))) else (some false))
theorem mootlaw02_ShaTells.mono : ∀ a0 k, LeO (mootlaw02_ShaTells.f k a0) (mootlaw02_ShaTells.f (k + 1) a0) := by
  intro a0 k
  unfold mootlaw02_ShaTells.f
  repeat' first
      | (with_reducible exact mootref01_Constants.mono _)
      | (with_reducible exact mootref01_Sum.mono _ _ _ _)
      | (with_reducible exact LeO.refl _)
      | (with_reducible exact LeO.none _)
      | (with_reducible refine LeO.ite ?_ ?_)
      | (with_reducible refine LeO.bind ?_ (fun _ => ?_))
      | exact mootref01_Constants.mono _
      | exact mootref01_Sum.mono _ _ _ _
      | exact LeO.none _
      | refine LeO.ite ?_ ?_
      | refine LeO.bind ?_ (fun _ => ?_)
def mootlaw02_ShaTells.T6 : Bool × List (List Nat × List Nat) := (true, [([], []), ([0], [0]), ([1], [1]), ([], []), ([], []), ([], []), ([3, 4, 5, 1], [3, 4, 5]), ([6], [6]), ([2, 7], [2, 7]), ([8, 6], [8]), ([9], [9]), ([10, 9, 9], [9, 10]), ([11, 9], [9, 11]), ([9], [9]), ([13, 11, 9], [9, 13]), ([14, 9], [9, 14]), ([12, 15, 9], [9, 12, 15]), ([9, 16], [9, 16]), ([17, 14, 0, 1, 2, 3, 4, 5, 6, 7, 8, 9, 10, 11, 12, 13, 14, 15, 16, 17], [17])])
def mootlaw02_ShaTells.B6 : List Nat := [0, 1, 3, 0, 0, 0, 59, 123, 255, 511, 1023, 2047, 4095, 1023, 12287, 28671, 65535, 131071, 262143]
theorem mootlaw02_ShaTells.tab6 : rtab .any (opsOf Try.f8 6) = mootlaw02_ShaTells.T6 := by kernel_rfl
theorem mootlaw02_ShaTells.bits6 : waitsOk mootlaw02_ShaTells.T6.2 mootlaw02_ShaTells.B6 = true := by kernel_rfl
set_option maxHeartbeats 8000000 in
set_option maxRecDepth 100000 in
theorem mootlaw02_ShaTells.calls (k : Nat) (A0 : Option Addr) (c0 : Nat) (l0 : List Int) (r : Bool) (w : World) (hr0 : Kd.C (Kd.int .u8) w A0 l0.length l0) (hc0 : l0.length ≤ c0) (h : mootlaw02_ShaTells.f k l0 = some r) :
    Calls Try.prog 8 #[.slice A0 l0.length c0] w fun e w' => e = .returned (.bool r) ∧ Below w.heap.size w w' := by
  have HR0 := Aside0.mk hr0
  have HC0 := Aside0.mk hc0
  clear hr0 hc0
  have HB := Aside0.mk (Below.refl w.heap.size w)
  have H : ((mootlaw02_alive.f).bind fun t314 => (if t314 = true then (if (l0.length : Int) > 400 then (some true) else ((mootref01_Constants.f k).bind fun bt315 => ((sha_Sum.f l0).bind fun t321 => ((mootref01_Sum.f k l0 bt315.1 bt315.2).bind fun t324 => (if (strOfNums t321).toList = (strOfNums t324).toList then ((sha_Sum.f l0).bind fun t327 => ((mootref01_Sha.f l0).bind fun t330 => (some ((strOfNums t327).toList == (strOfNums t330).toList)))) else (some false)))))) else (some false))) = some r := h
  clear h
  replace H := Option.bind_eq_some_iff.mp H
  obtain ⟨t314, A20, H⟩ := H
  replace H : (if t314 = true then (if (l0.length : Int) > 400 then (some true) else ((mootref01_Constants.f k).bind fun bt315 => ((sha_Sum.f l0).bind fun t321 => ((mootref01_Sum.f k l0 bt315.1 bt315.2).bind fun t324 => (if (strOfNums t321).toList = (strOfNums t324).toList then ((sha_Sum.f l0).bind fun t327 => ((mootref01_Sha.f l0).bind fun t330 => (some ((strOfNums t327).toList == (strOfNums t330).toList)))) else (some false)))))) else (some false)) = some r := H
  have A2 := Aside0.mk A20
  clear A20
  by_cases c3 : t314 = true
  · subst c3
    have H1 : (if (l0.length : Int) > 400 then (some true) else ((mootref01_Constants.f k).bind fun bt315 => ((sha_Sum.f l0).bind fun t321 => ((mootref01_Sum.f k l0 bt315.1 bt315.2).bind fun t324 => (if (strOfNums t321).toList = (strOfNums t324).toList then ((sha_Sum.f l0).bind fun t327 => ((mootref01_Sha.f l0).bind fun t330 => (some ((strOfNums t327).toList == (strOfNums t330).toList)))) else (some false)))))) = some r := by rw [if_pos rfl] at H; exact H
    clear H
    have H := H1
    clear H1
    by_cases c4 : (l0.length : Int) > 400
    · rw [if_pos c4] at H
      have c4b0 : decide (400 < (l0.length : Int)) = true := decide_eq_true c4
      have c4b1 : decide (400 < l0.length) = true := decide_eq_true (by omega)
      clear c4
      obtain rfl := Option.some.inj H
      go_enter Try.func8, Try.ntmps8
      go_wp2_with (first | ((with_reducible refine gate_callee (f := 29) rfl ?_); refine goesL_ (some 5) rfl rfl Try.func29 (by kernel_rfl) rfl #[] rfl (by (try simp only [List.map_toArray, List.map_cons, List.map_nil]); first | done | rfl | (simp only [List.length_drop, List.length_take]; rfl)) ?_; (with_reducible refine (mootlaw02_alive.calls  true _ A2.out).mono ?_); rintro e w5 ⟨rfl, hb⟩; refine ⟨_, rfl, ?_⟩; have n0_ := Aside0.mk (below_step (by repeat (first | (with_reducible first | exact HB.out | apply below_alloc | apply pw_below_drewN | apply below_drew1) | exact HB.out)) hb); clear HB; have HB := n0_; clear n0_; (try clear hb); (try clear hb2); (try clear hk); (try clear hi)))
      go_ret
      exact ⟨by first | rfl | (simp [errW_none, errW_some] <;> rfl) | (simp [*, errW_none, errW_some] <;> rfl), by repeat (first | (with_reducible first | exact HB.out | apply below_alloc | apply pw_below_drewN | apply below_drew1) | exact HB.out)⟩
    · rw [if_neg c4] at H
      have c4b0 : decide (400 < (l0.length : Int)) = false := decide_eq_false c4
      have c4b1 : decide (400 < l0.length) = false := decide_eq_false (by omega)
      clear c4
      replace H := Option.bind_eq_some_iff.mp H
      obtain ⟨⟨t315, t316⟩, A60, H⟩ := H
      replace H : ((sha_Sum.f l0).bind fun t321 => ((mootref01_Sum.f k l0 t315 t316).bind fun t324 => (if (strOfNums t321).toList = (strOfNums t324).toList then ((sha_Sum.f l0).bind fun t327 => ((mootref01_Sha.f l0).bind fun t330 => (some ((strOfNums t327).toList == (strOfNums t330).toList)))) else (some false)))) = some r := H
      have A6 := Aside0.mk A60
      clear A60
      replace H := Option.bind_eq_some_iff.mp H
      obtain ⟨t321, A70, H⟩ := H
      replace H : ((mootref01_Sum.f k l0 t315 t316).bind fun t324 => (if (strOfNums t321).toList = (strOfNums t324).toList then ((sha_Sum.f l0).bind fun t327 => ((mootref01_Sha.f l0).bind fun t330 => (some ((strOfNums t327).toList == (strOfNums t330).toList)))) else (some false))) = some r := H
      have A7 := Aside0.mk A70
      clear A70
      replace H := Option.bind_eq_some_iff.mp H
      obtain ⟨t324, A80, H⟩ := H
      replace H : (if (strOfNums t321).toList = (strOfNums t324).toList then ((sha_Sum.f l0).bind fun t327 => ((mootref01_Sha.f l0).bind fun t330 => (some ((strOfNums t327).toList == (strOfNums t330).toList)))) else (some false)) = some r := H
      have A8 := Aside0.mk A80
      clear A80
      by_cases c9 : (strOfNums t321).toList = (strOfNums t324).toList
      · rw [if_pos c9] at H
        have c9b0 : ((strOfNums t321).toList == (strOfNums t324).toList) = true := beq_iff_eq.mpr c9
        have c9b1 : ((strOfNums t321).toList != (strOfNums t324).toList) = false := bne_eq_false_iff_eq.mpr c9
        clear c9
        replace H := Option.bind_eq_some_iff.mp H
        obtain ⟨t327, A100, H⟩ := H
        replace H : ((mootref01_Sha.f l0).bind fun t330 => (some ((strOfNums t327).toList == (strOfNums t330).toList))) = some r := H
        have A10 := Aside0.mk A100
        clear A100
        replace H := Option.bind_eq_some_iff.mp H
        obtain ⟨t330, A110, H⟩ := H
        replace H : (some ((strOfNums t327).toList == (strOfNums t330).toList)) = some r := H
        have A11 := Aside0.mk A110
        clear A110
        obtain rfl := Option.some.inj H
        go_enter Try.func8, Try.ntmps8
        try go_wp2_with (first | ((with_reducible refine gate_callee (f := 29) rfl ?_); refine goesL_ (some 5) rfl rfl Try.func29 (by kernel_rfl) rfl #[] rfl (by (try simp only [List.map_toArray, List.map_cons, List.map_nil]); first | done | rfl | (simp only [List.length_drop, List.length_take]; rfl)) ?_; (with_reducible refine (mootlaw02_alive.calls  true _ A2.out).mono ?_); rintro e w12 ⟨rfl, hb⟩; refine ⟨_, rfl, ?_⟩; have n0_ := Aside0.mk (below_step (by repeat (first | (with_reducible first | exact HB.out | apply below_alloc | apply pw_below_drewN | apply below_drew1) | exact HB.out)) hb); clear HB; have HB := n0_; clear n0_; (try clear hb); (try clear hb2); (try clear hk); (try clear hi)) | ((with_reducible refine gate_callee (f := 30) rfl ?_); refine goesL_ (some 11) rfl rfl Try.func30 (by kernel_rfl) rfl #[] rfl (by (try simp only [List.map_toArray, List.map_cons, List.map_nil]); first | done | rfl | (simp only [List.length_drop, List.length_take]; rfl)) ?_; (with_reducible refine (mootref01_Constants.calls k  t315 t316 _ A6.out).mono ?_); rintro e w13 ⟨v317, v319, rfl, ho0, ho1, hb⟩; refine ⟨_, rfl, ?_⟩; have n0_ := Aside0.mk (Kd.R_lower ho0 (below_size (by repeat (first | (with_reducible first | exact HB.out | apply below_alloc | apply pw_below_drewN | apply below_drew1) | exact HB.out)))); have n1_ := Aside0.mk (Kd.R_lower ho1 (below_size (by repeat (first | (with_reducible first | exact HB.out | apply below_alloc | apply pw_below_drewN | apply below_drew1) | exact HB.out)))); have n2_ := Aside0.mk (below_step (by repeat (first | (with_reducible first | exact HB.out | apply below_alloc | apply pw_below_drewN | apply below_drew1) | exact HB.out)) hb); clear HB; have HO318 := n0_; have HO320 := n1_; have HB := n2_; clear n0_ n1_ n2_; (try clear hb); (try clear hb2); (try clear hk); (try clear hi); (try clear ho0); (try clear ho1); obtain ⟨Ao14, co14, eo14⟩ := Kd.R_slice HO318.out; subst eo14; obtain ⟨Ao15, co15, eo15⟩ := Kd.R_slice HO320.out; subst eo15))
        have n0_ := Aside0.mk (Kd.R_drew HO318.out)
        have n1_ := Aside0.mk (Kd.R_drew HO320.out)
        have n2_ := Aside0.mk (below_drew1 HB.out)
        clear HO318
        clear HO320
        clear HB
        have HO318 := n0_
        have HO320 := n1_
        have HB := n2_
        clear n0_ n1_ n2_
        refine start_ (n := 19) (S := fun w' => True) (ds := []) #[false, false, false, false, false, false, false, false, false, false, false, false, false, false, false, false, false, false, false] (by kernel_rfl) rfl rfl trivial (fun hHeld => ?_); refine with_tabW mootlaw02_ShaTells.tab6 mootlaw02_ShaTells.bits6 (fun HT_ HW_ => ?_)
        generalize w13.drew = w16 at HO318 HO320 HB hHeld ⊢
        refine pure_ (i := 0) (N := some 14) (v := ?_) (a' := ?_) #[true, false, false, false, false, false, false, false, false, false, false, false, false, false, false, false, false, false, false] rfl rfl (any_of HT_.out (by kernel_rfl)) (fun _ _ _ h => h) (Or.inl ⟨by rfl, ?_⟩) ?_ ?_
        rotate_left
        · intro w'
          go_simp
          with_reducible rfl
        rotate_left
        · simp only [Act.put, List.setIfInBounds_toArray, List.set_cons_zero, List.set_cons_succ, i64_w, i32_w]
          rfl
        refine pure_ (i := 3) (N := some 17) (v := ?_) (a' := ?_) #[true, false, false, true, false, false, false, false, false, false, false, false, false, false, false, false, false, false, false] rfl rfl (any_of HT_.out (by kernel_rfl)) (fun _ _ _ h => h) (Or.inl ⟨by rfl, ?_⟩) ?_ ?_
        rotate_left
        · intro w'
          go_simp
          with_reducible rfl
        rotate_left
        · simp only [Act.put, List.setIfInBounds_toArray, List.set_cons_zero, List.set_cons_succ, i64_w, i32_w]
          rfl
        refine pure_ (i := 4) (N := some 18) (v := ?_) (a' := ?_) #[true, false, false, true, true, false, false, false, false, false, false, false, false, false, false, false, false, false, false] rfl rfl (any_of HT_.out (by kernel_rfl)) (fun _ _ _ h => h) (Or.inl ⟨by rfl, ?_⟩) ?_ ?_
        rotate_left
        · intro w'
          go_simp
          with_reducible rfl
        rotate_left
        · simp only [Act.put, List.setIfInBounds_toArray, List.set_cons_zero, List.set_cons_succ, i64_w, i32_w]
          rfl
        refine pure_ (i := 5) (N := some 19) (v := ?_) (a' := ?_) #[true, false, false, true, true, true, false, false, false, false, false, false, false, false, false, false, false, false, false] rfl rfl (any_of HT_.out (by kernel_rfl)) (fun _ _ _ h => h) (Or.inl ⟨by rfl, ?_⟩) ?_ ?_
        rotate_left
        · intro w'
          go_simp
          with_reducible rfl
        rotate_left
        · simp only [Act.put, List.setIfInBounds_toArray, List.set_cons_zero, List.set_cons_succ, i64_w, i32_w]
          rfl
        refine one_ (i := 1) (N := some 15) #[true, true, false, true, true, true, false, false, false, false, false, false, false, false, false, false, false, false, false] rfl rfl (one_of HT_.out (by kernel_rfl)) (by decide) (fun K hK => ?_)
        refine goes_ Try.func31 (by kernel_rfl) rfl #[.slice A0 l0.length c0] (by rfl) rfl rfl (by (try simp only [List.map_toArray, List.map_cons, List.map_nil]); first | done | rfl | (simp only [List.length_drop, List.length_take]; rfl)) ?_
        with_reducible refine (sha_Sum.calls _ _ l0 t321 _ ?side1 ?side2 A7.out).mono ?_
        (case side1 => repeat (first | exact (Kd.C_below HR0.out HB.out) | (with_reducible refine Kd.C_alloc ?_ _) | (with_reducible refine Kd.C_drewN ?_ _) | (with_reducible refine Kd.C_drew ?_)))
        (case side2 => exact HC0.out)
        rintro e w17 ⟨v322, rfl, ho0, hb⟩
        refine ⟨_, rfl, ?_⟩
        have n0_ := Aside0.mk (Kd.R_below (by (with_reducible repeat (first | apply Kd.R_alloc | apply Kd.R_drewN | apply Kd.R_drew)); exact HO318.out) hb)
        have n1_ := Aside0.mk (Kd.R_below (by (with_reducible repeat (first | apply Kd.R_alloc | apply Kd.R_drewN | apply Kd.R_drew)); exact HO320.out) hb)
        have n2_ := Aside0.mk (Kd.R_lower ho0 (below_size (by repeat (first | (with_reducible first | exact HB.out | apply below_alloc | apply pw_below_drewN | apply below_drew1) | exact HB.out))))
        have n3_ := Aside0.mk (below_step (by repeat (first | (with_reducible first | exact HB.out | apply below_alloc | apply pw_below_drewN | apply below_drew1) | exact HB.out)) hb)
        clear HO318
        clear HO320
        clear HB
        have HO318 := n0_
        have HO320 := n1_
        have HO323 := n2_
        have HB := n3_
        clear n0_ n1_ n2_ n3_
        (try clear hb)
        (try clear hb2)
        (try clear hk)
        (try clear hi)
        (try clear ho0)
        refine hK.out _ _ trivial (fun hHeld => ?_)
        clear hK K
        refine norm_ (a' := ?_) ?_ ?_
        rotate_left
        · show Act.put _ (some 15) _ = _
          simp only [Act.put, List.setIfInBounds_toArray, List.set_cons_zero, List.set_cons_succ, i64_w, i32_w]
          rfl
        refine join_ (σ := Value × Value × Value) 3 #[true, true, true, true, true, true, true, true, true, true, true, true, true, true, true, true, false, false, false] (fun s_ => [(16, .string (strOfNums t321)), (20, s_.1), (21, .string (strOfNums t324)), (25, s_.2.1), (26, .string (strOfNums t327)), (28, s_.2.2), (29, .string (strOfNums t330)), (22, .bool true), (23, .bool true), (24, .slice A0 l0.length c0), (27, .slice A0 l0.length c0)]) (fun s_ w' => (Kd.R (Kd.int .u32) 30 w' w.heap.size (fun k_ => some k_ ≠ (.slice Ao15 t316.length co15 : Value).ownBlock) (.slice Ao14 t315.length co14) t315) ∧ (Kd.R (Kd.int .u32) 30 w' w.heap.size (fun k_ => some k_ ≠ (.slice Ao14 t315.length co14 : Value).ownBlock) (.slice Ao15 t316.length co15) t316) ∧ (Kd.R (Kd.int .u8) 5 w' w.heap.size (fun k_ => some k_ ≠ (s_.1 : Value).ownBlock ∧ some k_ ≠ (s_.2.1 : Value).ownBlock ∧ some k_ ≠ (s_.2.2 : Value).ownBlock) v322 t321) ∧ (Kd.R (Kd.int .u8) 5 w' w.heap.size (fun k_ => some k_ ≠ (v322 : Value).ownBlock ∧ some k_ ≠ (s_.2.1 : Value).ownBlock ∧ some k_ ≠ (s_.2.2 : Value).ownBlock) s_.1 t324) ∧ (Kd.R (Kd.int .u8) 5 w' w.heap.size (fun k_ => some k_ ≠ (v322 : Value).ownBlock ∧ some k_ ≠ (s_.1 : Value).ownBlock ∧ some k_ ≠ (s_.2.2 : Value).ownBlock) s_.2.1 t327) ∧ (Kd.R (Kd.int .u8) 5 w' w.heap.size (fun k_ => some k_ ≠ (v322 : Value).ownBlock ∧ some k_ ≠ (s_.1 : Value).ownBlock ∧ some k_ ≠ (s_.2.1 : Value).ownBlock) s_.2.2 t330) ∧ (Below w.heap.size w w')) ?_ ?_
        rotate_left
        · intro hJ2_6_7_11_12_14_15
          refine join_ (σ := Value × Value × Value) 4 #[true, true, true, true, true, true, true, true, true, true, true, true, true, true, true, false, false, false, false] (fun s_ => [(16, .string (strOfNums t321)), (20, s_.1), (21, .string (strOfNums t324)), (25, s_.2.1), (26, .string (strOfNums t327)), (28, s_.2.2), (22, .bool true), (23, .bool true), (24, .slice A0 l0.length c0), (27, .slice A0 l0.length c0)]) (fun s_ w' => (Kd.R (Kd.int .u32) 30 w' w.heap.size (fun k_ => some k_ ≠ (.slice Ao15 t316.length co15 : Value).ownBlock) (.slice Ao14 t315.length co14) t315) ∧ (Kd.R (Kd.int .u32) 30 w' w.heap.size (fun k_ => some k_ ≠ (.slice Ao14 t315.length co14 : Value).ownBlock) (.slice Ao15 t316.length co15) t316) ∧ (Kd.R (Kd.int .u8) 5 w' w.heap.size (fun k_ => some k_ ≠ (s_.1 : Value).ownBlock ∧ some k_ ≠ (s_.2.1 : Value).ownBlock ∧ some k_ ≠ (s_.2.2 : Value).ownBlock) v322 t321) ∧ (Kd.R (Kd.int .u8) 5 w' w.heap.size (fun k_ => some k_ ≠ (v322 : Value).ownBlock ∧ some k_ ≠ (s_.2.1 : Value).ownBlock ∧ some k_ ≠ (s_.2.2 : Value).ownBlock) s_.1 t324) ∧ (Kd.R (Kd.int .u8) 5 w' w.heap.size (fun k_ => some k_ ≠ (v322 : Value).ownBlock ∧ some k_ ≠ (s_.1 : Value).ownBlock ∧ some k_ ≠ (s_.2.2 : Value).ownBlock) s_.2.1 t327) ∧ (Kd.R (Kd.int .u8) 5 w' w.heap.size (fun k_ => some k_ ≠ (v322 : Value).ownBlock ∧ some k_ ≠ (s_.1 : Value).ownBlock ∧ some k_ ≠ (s_.2.1 : Value).ownBlock) s_.2.2 t330) ∧ (Below w.heap.size w w')) ?_ ?_
          rotate_left
          · intro hJ2_6_7_11_12_14
            refine join_ (σ := Value × Value × Value) 4 #[true, true, true, true, true, true, true, true, true, true, true, true, false, true, true, true, false, false, false] (fun s_ => [(16, .string (strOfNums t321)), (20, s_.1), (21, .string (strOfNums t324)), (25, s_.2.1), (28, s_.2.2), (29, .string (strOfNums t330)), (22, .bool true), (23, .bool true), (24, .slice A0 l0.length c0), (27, .slice A0 l0.length c0)]) (fun s_ w' => (Kd.R (Kd.int .u32) 30 w' w.heap.size (fun k_ => some k_ ≠ (.slice Ao15 t316.length co15 : Value).ownBlock) (.slice Ao14 t315.length co14) t315) ∧ (Kd.R (Kd.int .u32) 30 w' w.heap.size (fun k_ => some k_ ≠ (.slice Ao14 t315.length co14 : Value).ownBlock) (.slice Ao15 t316.length co15) t316) ∧ (Kd.R (Kd.int .u8) 5 w' w.heap.size (fun k_ => some k_ ≠ (s_.1 : Value).ownBlock ∧ some k_ ≠ (s_.2.1 : Value).ownBlock ∧ some k_ ≠ (s_.2.2 : Value).ownBlock) v322 t321) ∧ (Kd.R (Kd.int .u8) 5 w' w.heap.size (fun k_ => some k_ ≠ (v322 : Value).ownBlock ∧ some k_ ≠ (s_.2.1 : Value).ownBlock ∧ some k_ ≠ (s_.2.2 : Value).ownBlock) s_.1 t324) ∧ (Kd.R (Kd.int .u8) 5 w' w.heap.size (fun k_ => some k_ ≠ (v322 : Value).ownBlock ∧ some k_ ≠ (s_.1 : Value).ownBlock ∧ some k_ ≠ (s_.2.2 : Value).ownBlock) s_.2.1 t327) ∧ (Kd.R (Kd.int .u8) 5 w' w.heap.size (fun k_ => some k_ ≠ (v322 : Value).ownBlock ∧ some k_ ≠ (s_.1 : Value).ownBlock ∧ some k_ ≠ (s_.2.1 : Value).ownBlock) s_.2.2 t330) ∧ (Below w.heap.size w w')) ?_ ?_
            rotate_left
            · intro hJ2_6_7_11_14_15
              refine join_ (σ := Value × Value) 5 #[true, true, true, true, true, true, true, true, true, true, true, true, true, true, false, false, false, false, false] (fun s_ => [(16, .string (strOfNums t321)), (20, s_.1), (21, .string (strOfNums t324)), (25, s_.2), (26, .string (strOfNums t327)), (22, .bool true), (23, .bool true), (24, .slice A0 l0.length c0), (27, .slice A0 l0.length c0)]) (fun s_ w' => (Kd.R (Kd.int .u32) 30 w' w.heap.size (fun k_ => some k_ ≠ (.slice Ao15 t316.length co15 : Value).ownBlock) (.slice Ao14 t315.length co14) t315) ∧ (Kd.R (Kd.int .u32) 30 w' w.heap.size (fun k_ => some k_ ≠ (.slice Ao14 t315.length co14 : Value).ownBlock) (.slice Ao15 t316.length co15) t316) ∧ (Kd.R (Kd.int .u8) 5 w' w.heap.size (fun k_ => some k_ ≠ (s_.1 : Value).ownBlock ∧ some k_ ≠ (s_.2 : Value).ownBlock) v322 t321) ∧ (Kd.R (Kd.int .u8) 5 w' w.heap.size (fun k_ => some k_ ≠ (v322 : Value).ownBlock ∧ some k_ ≠ (s_.2 : Value).ownBlock) s_.1 t324) ∧ (Kd.R (Kd.int .u8) 5 w' w.heap.size (fun k_ => some k_ ≠ (v322 : Value).ownBlock ∧ some k_ ≠ (s_.1 : Value).ownBlock) s_.2 t327) ∧ (Below w.heap.size w w')) ?_ ?_
              rotate_left
              · intro hJ2_6_7_11_12
                refine join_ (σ := Value × Value × Value) 5 #[true, true, true, true, true, true, true, true, true, true, true, true, false, true, true, false, false, false, false] (fun s_ => [(16, .string (strOfNums t321)), (20, s_.1), (21, .string (strOfNums t324)), (25, s_.2.1), (28, s_.2.2), (22, .bool true), (23, .bool true), (24, .slice A0 l0.length c0), (27, .slice A0 l0.length c0)]) (fun s_ w' => (Kd.R (Kd.int .u32) 30 w' w.heap.size (fun k_ => some k_ ≠ (.slice Ao15 t316.length co15 : Value).ownBlock) (.slice Ao14 t315.length co14) t315) ∧ (Kd.R (Kd.int .u32) 30 w' w.heap.size (fun k_ => some k_ ≠ (.slice Ao14 t315.length co14 : Value).ownBlock) (.slice Ao15 t316.length co15) t316) ∧ (Kd.R (Kd.int .u8) 5 w' w.heap.size (fun k_ => some k_ ≠ (s_.1 : Value).ownBlock ∧ some k_ ≠ (s_.2.1 : Value).ownBlock ∧ some k_ ≠ (s_.2.2 : Value).ownBlock) v322 t321) ∧ (Kd.R (Kd.int .u8) 5 w' w.heap.size (fun k_ => some k_ ≠ (v322 : Value).ownBlock ∧ some k_ ≠ (s_.2.1 : Value).ownBlock ∧ some k_ ≠ (s_.2.2 : Value).ownBlock) s_.1 t324) ∧ (Kd.R (Kd.int .u8) 5 w' w.heap.size (fun k_ => some k_ ≠ (v322 : Value).ownBlock ∧ some k_ ≠ (s_.1 : Value).ownBlock ∧ some k_ ≠ (s_.2.2 : Value).ownBlock) s_.2.1 t327) ∧ (Kd.R (Kd.int .u8) 5 w' w.heap.size (fun k_ => some k_ ≠ (v322 : Value).ownBlock ∧ some k_ ≠ (s_.1 : Value).ownBlock ∧ some k_ ≠ (s_.2.1 : Value).ownBlock) s_.2.2 t330) ∧ (Below w.heap.size w w')) ?_ ?_
                rotate_left
                · intro hJ2_6_7_11_14
                  refine join_ (σ := Value × Value) 6 #[true, true, true, true, true, true, true, true, true, true, true, true, false, true, false, false, false, false, false] (fun s_ => [(16, .string (strOfNums t321)), (20, s_.1), (21, .string (strOfNums t324)), (25, s_.2), (22, .bool true), (23, .bool true), (24, .slice A0 l0.length c0), (27, .slice A0 l0.length c0)]) (fun s_ w' => (Kd.R (Kd.int .u32) 30 w' w.heap.size (fun k_ => some k_ ≠ (.slice Ao15 t316.length co15 : Value).ownBlock) (.slice Ao14 t315.length co14) t315) ∧ (Kd.R (Kd.int .u32) 30 w' w.heap.size (fun k_ => some k_ ≠ (.slice Ao14 t315.length co14 : Value).ownBlock) (.slice Ao15 t316.length co15) t316) ∧ (Kd.R (Kd.int .u8) 5 w' w.heap.size (fun k_ => some k_ ≠ (s_.1 : Value).ownBlock ∧ some k_ ≠ (s_.2 : Value).ownBlock) v322 t321) ∧ (Kd.R (Kd.int .u8) 5 w' w.heap.size (fun k_ => some k_ ≠ (v322 : Value).ownBlock ∧ some k_ ≠ (s_.2 : Value).ownBlock) s_.1 t324) ∧ (Kd.R (Kd.int .u8) 5 w' w.heap.size (fun k_ => some k_ ≠ (v322 : Value).ownBlock ∧ some k_ ≠ (s_.1 : Value).ownBlock) s_.2 t327) ∧ (Below w.heap.size w w')) ?_ ?_
                  rotate_left
                  · intro hJ2_6_7_11
                    refine join_ (σ := Value) 7 #[true, true, true, true, true, true, true, true, true, true, true, false, false, true, false, false, false, false, false] (fun s_ => [(16, .string (strOfNums t321)), (20, s_), (21, .string (strOfNums t324)), (22, .bool true), (23, .bool true), (24, .slice A0 l0.length c0), (27, .slice A0 l0.length c0)]) (fun s_ w' => (Kd.R (Kd.int .u32) 30 w' w.heap.size (fun k_ => some k_ ≠ (.slice Ao15 t316.length co15 : Value).ownBlock) (.slice Ao14 t315.length co14) t315) ∧ (Kd.R (Kd.int .u32) 30 w' w.heap.size (fun k_ => some k_ ≠ (.slice Ao14 t315.length co14 : Value).ownBlock) (.slice Ao15 t316.length co15) t316) ∧ (Kd.R (Kd.int .u8) 5 w' w.heap.size (fun k_ => some k_ ≠ (s_ : Value).ownBlock) v322 t321) ∧ (Kd.R (Kd.int .u8) 5 w' w.heap.size (fun k_ => some k_ ≠ (v322 : Value).ownBlock) s_ t324) ∧ (Below w.heap.size w w')) ?_ ?_
                    rotate_left
                    · intro hJ2_6_7
                      refine join_ (σ := Value) 12 #[true, true, true, true, true, true, true, false, false, false, false, false, false, false, false, false, false, false, false] (fun s_ => [(16, .string (strOfNums t321)), (20, s_)]) (fun s_ w' => (Kd.R (Kd.int .u32) 30 w' w.heap.size (fun k_ => some k_ ≠ (.slice Ao15 t316.length co15 : Value).ownBlock) (.slice Ao14 t315.length co14) t315) ∧ (Kd.R (Kd.int .u32) 30 w' w.heap.size (fun k_ => some k_ ≠ (.slice Ao14 t315.length co14 : Value).ownBlock) (.slice Ao15 t316.length co15) t316) ∧ (Kd.R (Kd.int .u8) 5 w' w.heap.size (fun k_ => some k_ ≠ (s_ : Value).ownBlock) v322 t321) ∧ (Kd.R (Kd.int .u8) 5 w' w.heap.size (fun k_ => some k_ ≠ (v322 : Value).ownBlock) s_ t324) ∧ (Below w.heap.size w w')) ?_ ?_
                      rotate_left
                      · intro hJ2_6
                        refine join_ (σ := Value) 12 #[true, true, false, true, true, true, true, true, false, false, false, false, false, false, false, false, false, false, false] (fun s_ => [(20, s_), (21, .string (strOfNums t324))]) (fun s_ w' => (Kd.R (Kd.int .u32) 30 w' w.heap.size (fun k_ => some k_ ≠ (.slice Ao15 t316.length co15 : Value).ownBlock) (.slice Ao14 t315.length co14) t315) ∧ (Kd.R (Kd.int .u32) 30 w' w.heap.size (fun k_ => some k_ ≠ (.slice Ao14 t315.length co14 : Value).ownBlock) (.slice Ao15 t316.length co15) t316) ∧ (Kd.R (Kd.int .u8) 5 w' w.heap.size (fun k_ => some k_ ≠ (s_ : Value).ownBlock) v322 t321) ∧ (Kd.R (Kd.int .u8) 5 w' w.heap.size (fun k_ => some k_ ≠ (v322 : Value).ownBlock) s_ t324) ∧ (Below w.heap.size w w')) ?_ ?_
                        rotate_left
                        · intro hJ6_7
                          refine join_ (σ := Unit) 13 #[true, true, true, true, true, true, false, false, false, false, false, false, false, false, false, false, false, false, false] (fun s_ => [(16, .string (strOfNums t321))]) (fun s_ w' => (Kd.R (Kd.int .u32) 30 w' w.heap.size (fun k_ => some k_ ≠ (.slice Ao15 t316.length co15 : Value).ownBlock) (.slice Ao14 t315.length co14) t315) ∧ (Kd.R (Kd.int .u32) 30 w' w.heap.size (fun k_ => some k_ ≠ (.slice Ao14 t315.length co14 : Value).ownBlock) (.slice Ao15 t316.length co15) t316) ∧ (Kd.R (Kd.int .u8) 5 w' w.heap.size (fun _ => True) v322 t321) ∧ (Below w.heap.size w w')) ?_ ?_
                          rotate_left
                          · intro hJ2
                            refine join_ (σ := Value) 13 #[true, true, false, true, true, true, true, false, false, false, false, false, false, false, false, false, false, false, false] (fun s_ => [(20, s_)]) (fun s_ w' => (Kd.R (Kd.int .u32) 30 w' w.heap.size (fun k_ => some k_ ≠ (.slice Ao15 t316.length co15 : Value).ownBlock) (.slice Ao14 t315.length co14) t315) ∧ (Kd.R (Kd.int .u32) 30 w' w.heap.size (fun k_ => some k_ ≠ (.slice Ao14 t315.length co14 : Value).ownBlock) (.slice Ao15 t316.length co15) t316) ∧ (Kd.R (Kd.int .u8) 5 w' w.heap.size (fun k_ => some k_ ≠ (s_ : Value).ownBlock) v322 t321) ∧ (Kd.R (Kd.int .u8) 5 w' w.heap.size (fun k_ => some k_ ≠ (v322 : Value).ownBlock) s_ t324) ∧ (Below w.heap.size w w')) ?_ ?_
                            rotate_left
                            · intro hJ6
                              refine two_ (i := 2) (j := 6) (Ni := some 16) (Nj := some 20) #[true, true, true, true, true, true, false, false, false, false, false, false, false, false, false, false, false, false, false] #[true, true, false, true, true, true, true, false, false, false, false, false, false, false, false, false, false, false, false] rfl rfl rfl rfl (two_of HT_.out (by kernel_rfl)) (by decide) (by decide) (fun K hK => ?_) (fun K hK => ?_)
                              · skip
                                have hcv18 := own_string (P := Try.prog) Try.underlying23 Try.underlying5 Try.underlying9 (Kd.own_of_R HO323.out)
                                refine value_ (w1 := ?_) (v := ?_) (by rfl) rfl ?_ ?_
                                rotate_left 2
                                · go_simp
                                  constructor
                                  · rfl
                                  · rfl
                                clear hcv18
                                refine hK.out _ _ trivial (fun hHeld => ?_)
                                clear hK K
                                refine norm_ (a' := ?_) ?_ ?_
                                rotate_left
                                · show Act.put _ (some 16) _ = _
                                  simp only [Act.put, List.setIfInBounds_toArray, List.set_cons_zero, List.set_cons_succ, i64_w, i32_w]
                                  rfl
                                exact norm_ (by first | (simp only [putAll, Act.put, List.setIfInBounds_toArray, List.set_cons_zero, List.set_cons_succ]; done) | (simp only [putAll, Act.put, List.setIfInBounds_toArray, List.set_cons_zero, List.set_cons_succ]; rfl)) (hJ2 () _ ⟨(by (with_reducible repeat (first | apply Kd.R_alloc | apply Kd.R_drewN | apply Kd.R_drew)); exact HO318.out), (by (with_reducible repeat (first | apply Kd.R_alloc | apply Kd.R_drewN | apply Kd.R_drew)); exact HO320.out), (by (with_reducible repeat (first | apply Kd.R_alloc | apply Kd.R_drewN | apply Kd.R_drew)); exact HO323.out), (by repeat (first | (with_reducible first | exact HB.out | apply below_alloc | apply pw_below_drewN | apply below_drew1) | exact HB.out))⟩)
                              · skip
                                refine goes_ Try.func32 (by kernel_rfl) rfl #[.slice A0 l0.length c0, .slice Ao14 t315.length co14, .slice Ao15 t316.length co15] (by rfl) rfl rfl (by (try simp only [List.map_toArray, List.map_cons, List.map_nil]); first | done | rfl | (simp only [List.length_drop, List.length_take]; rfl)) ?_
                                with_reducible refine (mootref01_Sum.calls k _ _ l0 _ _ t315 _ _ t316 t324 _ ?side1 ?side2 ?side3 ?side4 ?side5 ?side6 A8.out).mono ?_
                                (case side1 => repeat (first | exact (Kd.C_below HR0.out HB.out) | (with_reducible refine Kd.C_alloc ?_ _) | (with_reducible refine Kd.C_drewN ?_ _) | (with_reducible refine Kd.C_drew ?_)))
                                (case side2 => exact HC0.out)
                                (case side3 => repeat (first | exact (Kd.R_reads' HO318.out).2.2 | (with_reducible refine Kd.C_alloc ?_ _) | (with_reducible refine Kd.C_drewN ?_ _) | (with_reducible refine Kd.C_drew ?_)))
                                (case side4 => exact (Kd.R_reads' HO318.out).2.1)
                                (case side5 => repeat (first | exact (Kd.R_reads' HO320.out).2.2 | (with_reducible refine Kd.C_alloc ?_ _) | (with_reducible refine Kd.C_drewN ?_ _) | (with_reducible refine Kd.C_drew ?_)))
                                (case side6 => exact (Kd.R_reads' HO320.out).2.1)
                                rintro e w18 ⟨v325, rfl, ho0, hb⟩
                                refine ⟨_, rfl, ?_⟩
                                have n0_ := Aside0.mk (Kd.R_below (by (with_reducible repeat (first | apply Kd.R_alloc | apply Kd.R_drewN | apply Kd.R_drew)); exact HO318.out) hb)
                                have n1_ := Aside0.mk (Kd.R_below (by (with_reducible repeat (first | apply Kd.R_alloc | apply Kd.R_drewN | apply Kd.R_drew)); exact HO320.out) hb)
                                have n2_ := Aside0.mk (Kd.R_elder' (by (with_reducible repeat (first | apply Kd.R_alloc | apply Kd.R_drewN | apply Kd.R_drew)); exact HO323.out) (Kd.R_base ho0) hb)
                                have n3_ := Aside0.mk (Kd.R_lower (Kd.R_new' ho0 (Kd.R_lt (by (with_reducible repeat (first | apply Kd.R_alloc | apply Kd.R_drewN | apply Kd.R_drew)); exact HO323.out))) (below_size (by repeat (first | (with_reducible first | exact HB.out | apply below_alloc | apply pw_below_drewN | apply below_drew1) | exact HB.out))))
                                have n4_ := Aside0.mk (below_step (by repeat (first | (with_reducible first | exact HB.out | apply below_alloc | apply pw_below_drewN | apply below_drew1) | exact HB.out)) hb)
                                clear HO318
                                clear HO320
                                clear HO323
                                clear HB
                                have HO318 := n0_
                                have HO320 := n1_
                                have HO323 := n2_
                                have HO326 := n3_
                                have HB := n4_
                                clear n0_ n1_ n2_ n3_ n4_
                                (try clear hb)
                                (try clear hb2)
                                (try clear hk)
                                (try clear hi)
                                (try clear ho0)
                                refine hK.out _ _ trivial (fun hHeld => ?_)
                                clear hK K
                                refine norm_ (a' := ?_) ?_ ?_
                                rotate_left
                                · show Act.put _ (some 20) _ = _
                                  simp only [Act.put, List.setIfInBounds_toArray, List.set_cons_zero, List.set_cons_succ, i64_w, i32_w]
                                  rfl
                                exact norm_ (by first | (simp only [putAll, Act.put, List.setIfInBounds_toArray, List.set_cons_zero, List.set_cons_succ]; done) | (simp only [putAll, Act.put, List.setIfInBounds_toArray, List.set_cons_zero, List.set_cons_succ]; rfl)) (hJ6 (v325) _ ⟨(by (with_reducible repeat (first | apply Kd.R_alloc | apply Kd.R_drewN | apply Kd.R_drew)); exact HO318.out), (by (with_reducible repeat (first | apply Kd.R_alloc | apply Kd.R_drewN | apply Kd.R_drew)); exact HO320.out), (by (with_reducible repeat (first | apply Kd.R_alloc | apply Kd.R_drewN | apply Kd.R_drew)); exact Kd.R_mono HO323.out (fun _ hk => hk.2)), (by (with_reducible repeat (first | apply Kd.R_alloc | apply Kd.R_drewN | apply Kd.R_drew)); exact Kd.R_mono HO326.out (fun _ hk => hk.2)), (by repeat (first | (with_reducible first | exact HB.out | apply below_alloc | apply pw_below_drewN | apply below_drew1) | exact HB.out))⟩)
                            · skip
                              rintro v325 w19 ⟨h0_, h1_, h2_, h3_, h4_⟩
                              have n0_ : Aside0 (Kd.R (Kd.int .u32) 30 w19 w.heap.size (fun k_ => some k_ ≠ (.slice Ao15 t316.length co15 : Value).ownBlock) (.slice Ao14 t315.length co14) t315) := ⟨h0_⟩
                              have n1_ : Aside0 (Kd.R (Kd.int .u32) 30 w19 w.heap.size (fun k_ => some k_ ≠ (.slice Ao14 t315.length co14 : Value).ownBlock) (.slice Ao15 t316.length co15) t316) := ⟨h1_⟩
                              have n2_ : Aside0 (Kd.R (Kd.int .u8) 5 w19 w.heap.size (fun k_ => some k_ ≠ (v325 : Value).ownBlock) v322 t321) := ⟨h2_⟩
                              have n3_ : Aside0 (Kd.R (Kd.int .u8) 5 w19 w.heap.size (fun k_ => some k_ ≠ (v322 : Value).ownBlock) v325 t324) := ⟨h3_⟩
                              have n4_ : Aside0 (Below w.heap.size w w19) := ⟨h4_⟩
                              clear HO318
                              clear HO320
                              clear HB
                              clear h0_ h1_ h2_ h3_ h4_
                              have HO318 := n0_
                              have HO320 := n1_
                              have HO323 := n2_
                              have HO326 := n3_
                              have HB := n4_
                              clear n0_ n1_ n2_ n3_ n4_
                              have hHeld := trivial
                              refine norm_ (a' := ?_) ?_ ?_
                              rotate_left
                              · simp only [putAll, Act.put, List.setIfInBounds_toArray, List.set_cons_zero, List.set_cons_succ]
                                rfl
                              refine two_ (i := 2) (j := 7) (Ni := some 16) (Nj := some 21) #[true, true, true, true, true, true, true, false, false, false, false, false, false, false, false, false, false, false, false] #[true, true, false, true, true, true, true, true, false, false, false, false, false, false, false, false, false, false, false] rfl rfl rfl rfl (two_of HT_.out (by kernel_rfl)) (by decide) (by decide) (fun K hK => ?_) (fun K hK => ?_)
                              · skip
                                have hcv20 := own_string (P := Try.prog) Try.underlying23 Try.underlying5 Try.underlying9 (Kd.own_of_R HO323.out)
                                refine value_ (w1 := ?_) (v := ?_) (by rfl) rfl ?_ ?_
                                rotate_left 2
                                · go_simp
                                  constructor
                                  · rfl
                                  · rfl
                                clear hcv20
                                refine hK.out _ _ trivial (fun hHeld => ?_)
                                clear hK K
                                refine norm_ (a' := ?_) ?_ ?_
                                rotate_left
                                · show Act.put _ (some 16) _ = _
                                  simp only [Act.put, List.setIfInBounds_toArray, List.set_cons_zero, List.set_cons_succ, i64_w, i32_w]
                                  rfl
                                exact norm_ (by first | (simp only [putAll, Act.put, List.setIfInBounds_toArray, List.set_cons_zero, List.set_cons_succ]; done) | (simp only [putAll, Act.put, List.setIfInBounds_toArray, List.set_cons_zero, List.set_cons_succ]; rfl)) (hJ2_6 (v325) _ ⟨(by (with_reducible repeat (first | apply Kd.R_alloc | apply Kd.R_drewN | apply Kd.R_drew)); exact HO318.out), (by (with_reducible repeat (first | apply Kd.R_alloc | apply Kd.R_drewN | apply Kd.R_drew)); exact HO320.out), (by (with_reducible repeat (first | apply Kd.R_alloc | apply Kd.R_drewN | apply Kd.R_drew)); exact HO323.out), (by (with_reducible repeat (first | apply Kd.R_alloc | apply Kd.R_drewN | apply Kd.R_drew)); exact HO326.out), (by repeat (first | (with_reducible first | exact HB.out | apply below_alloc | apply pw_below_drewN | apply below_drew1) | exact HB.out))⟩)
                              · skip
                                have hcv20 := own_string (P := Try.prog) Try.underlying23 Try.underlying5 Try.underlying9 (Kd.own_of_R HO326.out)
                                refine value_ (w1 := ?_) (v := ?_) (by rfl) rfl ?_ ?_
                                rotate_left 2
                                · go_simp
                                  constructor
                                  · rfl
                                  · rfl
                                clear hcv20
                                refine hK.out _ _ trivial (fun hHeld => ?_)
                                clear hK K
                                refine norm_ (a' := ?_) ?_ ?_
                                rotate_left
                                · show Act.put _ (some 21) _ = _
                                  simp only [Act.put, List.setIfInBounds_toArray, List.set_cons_zero, List.set_cons_succ, i64_w, i32_w]
                                  rfl
                                exact norm_ (by first | (simp only [putAll, Act.put, List.setIfInBounds_toArray, List.set_cons_zero, List.set_cons_succ]; done) | (simp only [putAll, Act.put, List.setIfInBounds_toArray, List.set_cons_zero, List.set_cons_succ]; rfl)) (hJ6_7 (v325) _ ⟨(by (with_reducible repeat (first | apply Kd.R_alloc | apply Kd.R_drewN | apply Kd.R_drew)); exact HO318.out), (by (with_reducible repeat (first | apply Kd.R_alloc | apply Kd.R_drewN | apply Kd.R_drew)); exact HO320.out), (by (with_reducible repeat (first | apply Kd.R_alloc | apply Kd.R_drewN | apply Kd.R_drew)); exact HO323.out), (by (with_reducible repeat (first | apply Kd.R_alloc | apply Kd.R_drewN | apply Kd.R_drew)); exact HO326.out), (by repeat (first | (with_reducible first | exact HB.out | apply below_alloc | apply pw_below_drewN | apply below_drew1) | exact HB.out))⟩)
                          · skip
                            rintro _ w19 ⟨h0_, h1_, h2_, h3_⟩
                            have n0_ : Aside0 (Kd.R (Kd.int .u32) 30 w19 w.heap.size (fun k_ => some k_ ≠ (.slice Ao15 t316.length co15 : Value).ownBlock) (.slice Ao14 t315.length co14) t315) := ⟨h0_⟩
                            have n1_ : Aside0 (Kd.R (Kd.int .u32) 30 w19 w.heap.size (fun k_ => some k_ ≠ (.slice Ao14 t315.length co14 : Value).ownBlock) (.slice Ao15 t316.length co15) t316) := ⟨h1_⟩
                            have n2_ : Aside0 (Kd.R (Kd.int .u8) 5 w19 w.heap.size (fun _ => True) v322 t321) := ⟨h2_⟩
                            have n3_ : Aside0 (Below w.heap.size w w19) := ⟨h3_⟩
                            clear HO318
                            clear HO320
                            clear HB
                            clear h0_ h1_ h2_ h3_
                            have HO318 := n0_
                            have HO320 := n1_
                            have HO323 := n2_
                            have HB := n3_
                            clear n0_ n1_ n2_ n3_
                            have hHeld := trivial
                            refine norm_ (a' := ?_) ?_ ?_
                            rotate_left
                            · simp only [putAll, Act.put, List.setIfInBounds_toArray, List.set_cons_zero, List.set_cons_succ]
                              rfl
                            refine one_ (i := 6) (N := some 20) #[true, true, true, true, true, true, true, false, false, false, false, false, false, false, false, false, false, false, false] rfl rfl (one_of HT_.out (by kernel_rfl)) (by decide) (fun K hK => ?_)
                            refine goes_ Try.func32 (by kernel_rfl) rfl #[.slice A0 l0.length c0, .slice Ao14 t315.length co14, .slice Ao15 t316.length co15] (by rfl) rfl rfl (by (try simp only [List.map_toArray, List.map_cons, List.map_nil]); first | done | rfl | (simp only [List.length_drop, List.length_take]; rfl)) ?_
                            with_reducible refine (mootref01_Sum.calls k _ _ l0 _ _ t315 _ _ t316 t324 _ ?side1 ?side2 ?side3 ?side4 ?side5 ?side6 A8.out).mono ?_
                            (case side1 => repeat (first | exact (Kd.C_below HR0.out HB.out) | (with_reducible refine Kd.C_alloc ?_ _) | (with_reducible refine Kd.C_drewN ?_ _) | (with_reducible refine Kd.C_drew ?_)))
                            (case side2 => exact HC0.out)
                            (case side3 => repeat (first | exact (Kd.R_reads' HO318.out).2.2 | (with_reducible refine Kd.C_alloc ?_ _) | (with_reducible refine Kd.C_drewN ?_ _) | (with_reducible refine Kd.C_drew ?_)))
                            (case side4 => exact (Kd.R_reads' HO318.out).2.1)
                            (case side5 => repeat (first | exact (Kd.R_reads' HO320.out).2.2 | (with_reducible refine Kd.C_alloc ?_ _) | (with_reducible refine Kd.C_drewN ?_ _) | (with_reducible refine Kd.C_drew ?_)))
                            (case side6 => exact (Kd.R_reads' HO320.out).2.1)
                            rintro e w20 ⟨v325, rfl, ho0, hb⟩
                            refine ⟨_, rfl, ?_⟩
                            have n0_ := Aside0.mk (Kd.R_below (by (with_reducible repeat (first | apply Kd.R_alloc | apply Kd.R_drewN | apply Kd.R_drew)); exact HO318.out) hb)
                            have n1_ := Aside0.mk (Kd.R_below (by (with_reducible repeat (first | apply Kd.R_alloc | apply Kd.R_drewN | apply Kd.R_drew)); exact HO320.out) hb)
                            have n2_ := Aside0.mk (Kd.R_elder' (by (with_reducible repeat (first | apply Kd.R_alloc | apply Kd.R_drewN | apply Kd.R_drew)); exact HO323.out) (Kd.R_base ho0) hb)
                            have n3_ := Aside0.mk (Kd.R_lower (Kd.R_new' ho0 (Kd.R_lt (by (with_reducible repeat (first | apply Kd.R_alloc | apply Kd.R_drewN | apply Kd.R_drew)); exact HO323.out))) (below_size (by repeat (first | (with_reducible first | exact HB.out | apply below_alloc | apply pw_below_drewN | apply below_drew1) | exact HB.out))))
                            have n4_ := Aside0.mk (below_step (by repeat (first | (with_reducible first | exact HB.out | apply below_alloc | apply pw_below_drewN | apply below_drew1) | exact HB.out)) hb)
                            clear HO318
                            clear HO320
                            clear HO323
                            clear HB
                            have HO318 := n0_
                            have HO320 := n1_
                            have HO323 := n2_
                            have HO326 := n3_
                            have HB := n4_
                            clear n0_ n1_ n2_ n3_ n4_
                            (try clear hb)
                            (try clear hb2)
                            (try clear hk)
                            (try clear hi)
                            (try clear ho0)
                            refine hK.out _ _ trivial (fun hHeld => ?_)
                            clear hK K
                            refine norm_ (a' := ?_) ?_ ?_
                            rotate_left
                            · show Act.put _ (some 20) _ = _
                              simp only [Act.put, List.setIfInBounds_toArray, List.set_cons_zero, List.set_cons_succ, i64_w, i32_w]
                              rfl
                            exact norm_ (by first | (simp only [putAll, Act.put, List.setIfInBounds_toArray, List.set_cons_zero, List.set_cons_succ]; done) | (simp only [putAll, Act.put, List.setIfInBounds_toArray, List.set_cons_zero, List.set_cons_succ]; rfl)) (hJ2_6 (v325) _ ⟨(by (with_reducible repeat (first | apply Kd.R_alloc | apply Kd.R_drewN | apply Kd.R_drew)); exact HO318.out), (by (with_reducible repeat (first | apply Kd.R_alloc | apply Kd.R_drewN | apply Kd.R_drew)); exact HO320.out), (by (with_reducible repeat (first | apply Kd.R_alloc | apply Kd.R_drewN | apply Kd.R_drew)); exact Kd.R_mono HO323.out (fun _ hk => hk.2)), (by (with_reducible repeat (first | apply Kd.R_alloc | apply Kd.R_drewN | apply Kd.R_drew)); exact Kd.R_mono HO326.out (fun _ hk => hk.2)), (by repeat (first | (with_reducible first | exact HB.out | apply below_alloc | apply pw_below_drewN | apply below_drew1) | exact HB.out))⟩)
                        · skip
                          rintro v325 w20 ⟨h0_, h1_, h2_, h3_, h4_⟩
                          have n0_ : Aside0 (Kd.R (Kd.int .u32) 30 w20 w.heap.size (fun k_ => some k_ ≠ (.slice Ao15 t316.length co15 : Value).ownBlock) (.slice Ao14 t315.length co14) t315) := ⟨h0_⟩
                          have n1_ : Aside0 (Kd.R (Kd.int .u32) 30 w20 w.heap.size (fun k_ => some k_ ≠ (.slice Ao14 t315.length co14 : Value).ownBlock) (.slice Ao15 t316.length co15) t316) := ⟨h1_⟩
                          have n2_ : Aside0 (Kd.R (Kd.int .u8) 5 w20 w.heap.size (fun k_ => some k_ ≠ (v325 : Value).ownBlock) v322 t321) := ⟨h2_⟩
                          have n3_ : Aside0 (Kd.R (Kd.int .u8) 5 w20 w.heap.size (fun k_ => some k_ ≠ (v322 : Value).ownBlock) v325 t324) := ⟨h3_⟩
                          have n4_ : Aside0 (Below w.heap.size w w20) := ⟨h4_⟩
                          clear HO318
                          clear HO320
                          clear HB
                          clear h0_ h1_ h2_ h3_ h4_
                          have HO318 := n0_
                          have HO320 := n1_
                          have HO323 := n2_
                          have HO326 := n3_
                          have HB := n4_
                          clear n0_ n1_ n2_ n3_ n4_
                          have hHeld := trivial
                          refine norm_ (a' := ?_) ?_ ?_
                          rotate_left
                          · simp only [putAll, Act.put, List.setIfInBounds_toArray, List.set_cons_zero, List.set_cons_succ]
                            rfl
                          refine one_ (i := 2) (N := some 16) #[true, true, true, true, true, true, true, true, false, false, false, false, false, false, false, false, false, false, false] rfl rfl (one_of HT_.out (by kernel_rfl)) (by decide) (fun K hK => ?_)
                          have hcv21 := own_string (P := Try.prog) Try.underlying23 Try.underlying5 Try.underlying9 (Kd.own_of_R HO323.out)
                          refine value_ (w1 := ?_) (v := ?_) (by rfl) rfl ?_ ?_
                          rotate_left 2
                          · go_simp
                            constructor
                            · rfl
                            · rfl
                          clear hcv21
                          refine hK.out _ _ trivial (fun hHeld => ?_)
                          clear hK K
                          refine norm_ (a' := ?_) ?_ ?_
                          rotate_left
                          · show Act.put _ (some 16) _ = _
                            simp only [Act.put, List.setIfInBounds_toArray, List.set_cons_zero, List.set_cons_succ, i64_w, i32_w]
                            rfl
                          refine pure_ (i := 8) (N := some 22) (v := ?_) (a' := ?_) #[true, true, true, true, true, true, true, true, true, false, false, false, false, false, false, false, false, false, false] rfl rfl (any_of HT_.out (by kernel_rfl)) (fun _ _ _ h => h) (Or.inl ⟨by rfl, ?_⟩) ?_ ?_
                          rotate_left
                          · intro w'
                            go_simp
                            with_reducible rfl
                          rotate_left
                          · simp only [Act.put, List.setIfInBounds_toArray, List.set_cons_zero, List.set_cons_succ, i64_w, i32_w]
                            rfl
                          refine pure_ (i := 9) (N := some 23) (v := ?_) (a' := ?_) #[true, true, true, true, true, true, true, true, true, true, false, false, false, false, false, false, false, false, false] rfl rfl (any_of HT_.out (by kernel_rfl)) (fun _ _ _ h => h) (Or.inl ⟨by rfl, ?_⟩) ?_ ?_
                          rotate_left
                          · intro w'
                            go_simp
                            with_reducible rfl
                          rotate_left
                          · simp only [Act.put, List.setIfInBounds_toArray, List.set_cons_zero, List.set_cons_succ, i64_w, i32_w]
                            rfl
                          refine pure_ (i := 10) (N := some 24) (v := ?_) (a' := ?_) #[true, true, true, true, true, true, true, true, true, true, true, false, false, false, false, false, false, false, false] rfl rfl (any_of HT_.out (by kernel_rfl)) (fun _ _ _ h => h) (Or.inl ⟨by rfl, ?_⟩) ?_ ?_
                          rotate_left
                          · intro w'
                            go_simp
                            with_reducible rfl
                          rotate_left
                          · simp only [Act.put, List.setIfInBounds_toArray, List.set_cons_zero, List.set_cons_succ, i64_w, i32_w]
                            rfl
                          refine pure_ (i := 13) (N := some 27) (v := ?_) (a' := ?_) #[true, true, true, true, true, true, true, true, true, true, true, false, false, true, false, false, false, false, false] rfl rfl (any_of HT_.out (by kernel_rfl)) (fun _ _ _ h => h) (Or.inl ⟨by rfl, ?_⟩) ?_ ?_
                          rotate_left
                          · intro w'
                            go_simp
                            with_reducible rfl
                          rotate_left
                          · simp only [Act.put, List.setIfInBounds_toArray, List.set_cons_zero, List.set_cons_succ, i64_w, i32_w]
                            rfl
                          exact norm_ (by first | (simp only [putAll, Act.put, List.setIfInBounds_toArray, List.set_cons_zero, List.set_cons_succ]; done) | (simp only [putAll, Act.put, List.setIfInBounds_toArray, List.set_cons_zero, List.set_cons_succ]; rfl)) (hJ2_6_7 (v325) _ ⟨(by (with_reducible repeat (first | apply Kd.R_alloc | apply Kd.R_drewN | apply Kd.R_drew)); exact HO318.out), (by (with_reducible repeat (first | apply Kd.R_alloc | apply Kd.R_drewN | apply Kd.R_drew)); exact HO320.out), (by (with_reducible repeat (first | apply Kd.R_alloc | apply Kd.R_drewN | apply Kd.R_drew)); exact HO323.out), (by (with_reducible repeat (first | apply Kd.R_alloc | apply Kd.R_drewN | apply Kd.R_drew)); exact HO326.out), (by repeat (first | (with_reducible first | exact HB.out | apply below_alloc | apply pw_below_drewN | apply below_drew1) | exact HB.out))⟩)
                      · skip
                        rintro v325 w20 ⟨h0_, h1_, h2_, h3_, h4_⟩
                        have n0_ : Aside0 (Kd.R (Kd.int .u32) 30 w20 w.heap.size (fun k_ => some k_ ≠ (.slice Ao15 t316.length co15 : Value).ownBlock) (.slice Ao14 t315.length co14) t315) := ⟨h0_⟩
                        have n1_ : Aside0 (Kd.R (Kd.int .u32) 30 w20 w.heap.size (fun k_ => some k_ ≠ (.slice Ao14 t315.length co14 : Value).ownBlock) (.slice Ao15 t316.length co15) t316) := ⟨h1_⟩
                        have n2_ : Aside0 (Kd.R (Kd.int .u8) 5 w20 w.heap.size (fun k_ => some k_ ≠ (v325 : Value).ownBlock) v322 t321) := ⟨h2_⟩
                        have n3_ : Aside0 (Kd.R (Kd.int .u8) 5 w20 w.heap.size (fun k_ => some k_ ≠ (v322 : Value).ownBlock) v325 t324) := ⟨h3_⟩
                        have n4_ : Aside0 (Below w.heap.size w w20) := ⟨h4_⟩
                        clear HO318
                        clear HO320
                        clear HB
                        clear h0_ h1_ h2_ h3_ h4_
                        have HO318 := n0_
                        have HO320 := n1_
                        have HO323 := n2_
                        have HO326 := n3_
                        have HB := n4_
                        clear n0_ n1_ n2_ n3_ n4_
                        have hHeld := trivial
                        refine norm_ (a' := ?_) ?_ ?_
                        rotate_left
                        · simp only [putAll, Act.put, List.setIfInBounds_toArray, List.set_cons_zero, List.set_cons_succ]
                          rfl
                        refine one_ (i := 7) (N := some 21) #[true, true, true, true, true, true, true, true, false, false, false, false, false, false, false, false, false, false, false] rfl rfl (one_of HT_.out (by kernel_rfl)) (by decide) (fun K hK => ?_)
                        have hcv21 := own_string (P := Try.prog) Try.underlying23 Try.underlying5 Try.underlying9 (Kd.own_of_R HO326.out)
                        refine value_ (w1 := ?_) (v := ?_) (by rfl) rfl ?_ ?_
                        rotate_left 2
                        · go_simp
                          constructor
                          · rfl
                          · rfl
                        clear hcv21
                        refine hK.out _ _ trivial (fun hHeld => ?_)
                        clear hK K
                        refine norm_ (a' := ?_) ?_ ?_
                        rotate_left
                        · show Act.put _ (some 21) _ = _
                          simp only [Act.put, List.setIfInBounds_toArray, List.set_cons_zero, List.set_cons_succ, i64_w, i32_w]
                          rfl
                        refine pure_ (i := 8) (N := some 22) (v := ?_) (a' := ?_) #[true, true, true, true, true, true, true, true, true, false, false, false, false, false, false, false, false, false, false] rfl rfl (any_of HT_.out (by kernel_rfl)) (fun _ _ _ h => h) (Or.inl ⟨by rfl, ?_⟩) ?_ ?_
                        rotate_left
                        · intro w'
                          go_simp
                          with_reducible rfl
                        rotate_left
                        · simp only [Act.put, List.setIfInBounds_toArray, List.set_cons_zero, List.set_cons_succ, i64_w, i32_w]
                          rfl
                        refine pure_ (i := 9) (N := some 23) (v := ?_) (a' := ?_) #[true, true, true, true, true, true, true, true, true, true, false, false, false, false, false, false, false, false, false] rfl rfl (any_of HT_.out (by kernel_rfl)) (fun _ _ _ h => h) (Or.inl ⟨by rfl, ?_⟩) ?_ ?_
                        rotate_left
                        · intro w'
                          go_simp
                          with_reducible rfl
                        rotate_left
                        · simp only [Act.put, List.setIfInBounds_toArray, List.set_cons_zero, List.set_cons_succ, i64_w, i32_w]
                          rfl
                        refine pure_ (i := 10) (N := some 24) (v := ?_) (a' := ?_) #[true, true, true, true, true, true, true, true, true, true, true, false, false, false, false, false, false, false, false] rfl rfl (any_of HT_.out (by kernel_rfl)) (fun _ _ _ h => h) (Or.inl ⟨by rfl, ?_⟩) ?_ ?_
                        rotate_left
                        · intro w'
                          go_simp
                          with_reducible rfl
                        rotate_left
                        · simp only [Act.put, List.setIfInBounds_toArray, List.set_cons_zero, List.set_cons_succ, i64_w, i32_w]
                          rfl
                        refine pure_ (i := 13) (N := some 27) (v := ?_) (a' := ?_) #[true, true, true, true, true, true, true, true, true, true, true, false, false, true, false, false, false, false, false] rfl rfl (any_of HT_.out (by kernel_rfl)) (fun _ _ _ h => h) (Or.inl ⟨by rfl, ?_⟩) ?_ ?_
                        rotate_left
                        · intro w'
                          go_simp
                          with_reducible rfl
                        rotate_left
                        · simp only [Act.put, List.setIfInBounds_toArray, List.set_cons_zero, List.set_cons_succ, i64_w, i32_w]
                          rfl
                        exact norm_ (by first | (simp only [putAll, Act.put, List.setIfInBounds_toArray, List.set_cons_zero, List.set_cons_succ]; done) | (simp only [putAll, Act.put, List.setIfInBounds_toArray, List.set_cons_zero, List.set_cons_succ]; rfl)) (hJ2_6_7 (v325) _ ⟨(by (with_reducible repeat (first | apply Kd.R_alloc | apply Kd.R_drewN | apply Kd.R_drew)); exact HO318.out), (by (with_reducible repeat (first | apply Kd.R_alloc | apply Kd.R_drewN | apply Kd.R_drew)); exact HO320.out), (by (with_reducible repeat (first | apply Kd.R_alloc | apply Kd.R_drewN | apply Kd.R_drew)); exact HO323.out), (by (with_reducible repeat (first | apply Kd.R_alloc | apply Kd.R_drewN | apply Kd.R_drew)); exact HO326.out), (by repeat (first | (with_reducible first | exact HB.out | apply below_alloc | apply pw_below_drewN | apply below_drew1) | exact HB.out))⟩)
                    · skip
                      rintro v325 w21 ⟨h0_, h1_, h2_, h3_, h4_⟩
                      have n0_ : Aside0 (Kd.R (Kd.int .u32) 30 w21 w.heap.size (fun k_ => some k_ ≠ (.slice Ao15 t316.length co15 : Value).ownBlock) (.slice Ao14 t315.length co14) t315) := ⟨h0_⟩
                      have n1_ : Aside0 (Kd.R (Kd.int .u32) 30 w21 w.heap.size (fun k_ => some k_ ≠ (.slice Ao14 t315.length co14 : Value).ownBlock) (.slice Ao15 t316.length co15) t316) := ⟨h1_⟩
                      have n2_ : Aside0 (Kd.R (Kd.int .u8) 5 w21 w.heap.size (fun k_ => some k_ ≠ (v325 : Value).ownBlock) v322 t321) := ⟨h2_⟩
                      have n3_ : Aside0 (Kd.R (Kd.int .u8) 5 w21 w.heap.size (fun k_ => some k_ ≠ (v322 : Value).ownBlock) v325 t324) := ⟨h3_⟩
                      have n4_ : Aside0 (Below w.heap.size w w21) := ⟨h4_⟩
                      clear HO318
                      clear HO320
                      clear HB
                      clear h0_ h1_ h2_ h3_ h4_
                      have HO318 := n0_
                      have HO320 := n1_
                      have HO323 := n2_
                      have HO326 := n3_
                      have HB := n4_
                      clear n0_ n1_ n2_ n3_ n4_
                      have hHeld := trivial
                      refine norm_ (a' := ?_) ?_ ?_
                      rotate_left
                      · simp only [putAll, Act.put, List.setIfInBounds_toArray, List.set_cons_zero, List.set_cons_succ]
                        rfl
                      refine one_ (i := 11) (N := some 25) #[true, true, true, true, true, true, true, true, true, true, true, true, false, true, false, false, false, false, false] rfl rfl (one_of HT_.out (by kernel_rfl)) (by decide) (fun K hK => ?_)
                      refine goes_ Try.func31 (by kernel_rfl) rfl #[.slice A0 l0.length c0] (by rfl) rfl rfl (by (try simp only [List.map_toArray, List.map_cons, List.map_nil]); first | done | rfl | (simp only [List.length_drop, List.length_take]; rfl)) ?_
                      with_reducible refine (sha_Sum.calls _ _ l0 t327 _ ?side1 ?side2 A10.out).mono ?_
                      (case side1 => repeat (first | exact (Kd.C_below HR0.out HB.out) | (with_reducible refine Kd.C_alloc ?_ _) | (with_reducible refine Kd.C_drewN ?_ _) | (with_reducible refine Kd.C_drew ?_)))
                      (case side2 => exact HC0.out)
                      rintro e w22 ⟨v328, rfl, ho0, hb⟩
                      refine ⟨_, rfl, ?_⟩
                      have n0_ := Aside0.mk (Kd.R_below (by (with_reducible repeat (first | apply Kd.R_alloc | apply Kd.R_drewN | apply Kd.R_drew)); exact HO318.out) hb)
                      have n1_ := Aside0.mk (Kd.R_below (by (with_reducible repeat (first | apply Kd.R_alloc | apply Kd.R_drewN | apply Kd.R_drew)); exact HO320.out) hb)
                      have n2_ := Aside0.mk (Kd.R_elder' (by (with_reducible repeat (first | apply Kd.R_alloc | apply Kd.R_drewN | apply Kd.R_drew)); exact HO323.out) (Kd.R_base ho0) hb)
                      have n3_ := Aside0.mk (Kd.R_elder' (by (with_reducible repeat (first | apply Kd.R_alloc | apply Kd.R_drewN | apply Kd.R_drew)); exact HO326.out) (Kd.R_base ho0) hb)
                      have n4_ := Aside0.mk (Kd.R_lower (Kd.R_new' (Kd.R_new' ho0 (Kd.R_lt (by (with_reducible repeat (first | apply Kd.R_alloc | apply Kd.R_drewN | apply Kd.R_drew)); exact HO323.out))) (Kd.R_lt (by (with_reducible repeat (first | apply Kd.R_alloc | apply Kd.R_drewN | apply Kd.R_drew)); exact HO326.out))) (below_size (by repeat (first | (with_reducible first | exact HB.out | apply below_alloc | apply pw_below_drewN | apply below_drew1) | exact HB.out))))
                      have n5_ := Aside0.mk (below_step (by repeat (first | (with_reducible first | exact HB.out | apply below_alloc | apply pw_below_drewN | apply below_drew1) | exact HB.out)) hb)
                      clear HO318
                      clear HO320
                      clear HO323
                      clear HO326
                      clear HB
                      have HO318 := n0_
                      have HO320 := n1_
                      have HO323 := n2_
                      have HO326 := n3_
                      have HO329 := n4_
                      have HB := n5_
                      clear n0_ n1_ n2_ n3_ n4_ n5_
                      (try clear hb)
                      (try clear hb2)
                      (try clear hk)
                      (try clear hi)
                      (try clear ho0)
                      refine hK.out _ _ trivial (fun hHeld => ?_)
                      clear hK K
                      refine norm_ (a' := ?_) ?_ ?_
                      rotate_left
                      · show Act.put _ (some 25) _ = _
                        simp only [Act.put, List.setIfInBounds_toArray, List.set_cons_zero, List.set_cons_succ, i64_w, i32_w]
                        rfl
                      exact norm_ (by first | (simp only [putAll, Act.put, List.setIfInBounds_toArray, List.set_cons_zero, List.set_cons_succ]; done) | (simp only [putAll, Act.put, List.setIfInBounds_toArray, List.set_cons_zero, List.set_cons_succ]; rfl)) (hJ2_6_7_11 (v325, v328) _ ⟨(by (with_reducible repeat (first | apply Kd.R_alloc | apply Kd.R_drewN | apply Kd.R_drew)); exact HO318.out), (by (with_reducible repeat (first | apply Kd.R_alloc | apply Kd.R_drewN | apply Kd.R_drew)); exact HO320.out), (by (with_reducible repeat (first | apply Kd.R_alloc | apply Kd.R_drewN | apply Kd.R_drew)); exact HO323.out), (by (with_reducible repeat (first | apply Kd.R_alloc | apply Kd.R_drewN | apply Kd.R_drew)); exact HO326.out), (by (with_reducible repeat (first | apply Kd.R_alloc | apply Kd.R_drewN | apply Kd.R_drew)); exact Kd.R_mono HO329.out (fun _ hk => ⟨hk.1.2, hk.2⟩)), (by repeat (first | (with_reducible first | exact HB.out | apply below_alloc | apply pw_below_drewN | apply below_drew1) | exact HB.out))⟩)
                  · skip
                    rintro ⟨v325, v328⟩ w22 ⟨h0_, h1_, h2_, h3_, h4_, h5_⟩
                    have n0_ : Aside0 (Kd.R (Kd.int .u32) 30 w22 w.heap.size (fun k_ => some k_ ≠ (.slice Ao15 t316.length co15 : Value).ownBlock) (.slice Ao14 t315.length co14) t315) := ⟨h0_⟩
                    have n1_ : Aside0 (Kd.R (Kd.int .u32) 30 w22 w.heap.size (fun k_ => some k_ ≠ (.slice Ao14 t315.length co14 : Value).ownBlock) (.slice Ao15 t316.length co15) t316) := ⟨h1_⟩
                    have n2_ : Aside0 (Kd.R (Kd.int .u8) 5 w22 w.heap.size (fun k_ => some k_ ≠ (v325 : Value).ownBlock ∧ some k_ ≠ (v328 : Value).ownBlock) v322 t321) := ⟨h2_⟩
                    have n3_ : Aside0 (Kd.R (Kd.int .u8) 5 w22 w.heap.size (fun k_ => some k_ ≠ (v322 : Value).ownBlock ∧ some k_ ≠ (v328 : Value).ownBlock) v325 t324) := ⟨h3_⟩
                    have n4_ : Aside0 (Kd.R (Kd.int .u8) 5 w22 w.heap.size (fun k_ => some k_ ≠ (v322 : Value).ownBlock ∧ some k_ ≠ (v325 : Value).ownBlock) v328 t327) := ⟨h4_⟩
                    have n5_ : Aside0 (Below w.heap.size w w22) := ⟨h5_⟩
                    clear HO318
                    clear HO320
                    clear HB
                    clear h0_ h1_ h2_ h3_ h4_ h5_
                    have HO318 := n0_
                    have HO320 := n1_
                    have HO323 := n2_
                    have HO326 := n3_
                    have HO329 := n4_
                    have HB := n5_
                    clear n0_ n1_ n2_ n3_ n4_ n5_
                    have hHeld := trivial
                    refine norm_ (a' := ?_) ?_ ?_
                    rotate_left
                    · simp only [putAll, Act.put, List.setIfInBounds_toArray, List.set_cons_zero, List.set_cons_succ]
                      rfl
                    refine two_ (i := 12) (j := 14) (Ni := some 26) (Nj := some 28) #[true, true, true, true, true, true, true, true, true, true, true, true, true, true, false, false, false, false, false] #[true, true, true, true, true, true, true, true, true, true, true, true, false, true, true, false, false, false, false] rfl rfl rfl rfl (two_of HT_.out (by kernel_rfl)) (by decide) (by decide) (fun K hK => ?_) (fun K hK => ?_)
                    · skip
                      have hcv23 := own_string (P := Try.prog) Try.underlying23 Try.underlying5 Try.underlying9 (Kd.own_of_R HO329.out)
                      refine value_ (w1 := ?_) (v := ?_) (by rfl) rfl ?_ ?_
                      rotate_left 2
                      · go_simp
                        constructor
                        · rfl
                        · rfl
                      clear hcv23
                      refine hK.out _ _ trivial (fun hHeld => ?_)
                      clear hK K
                      refine norm_ (a' := ?_) ?_ ?_
                      rotate_left
                      · show Act.put _ (some 26) _ = _
                        simp only [Act.put, List.setIfInBounds_toArray, List.set_cons_zero, List.set_cons_succ, i64_w, i32_w]
                        rfl
                      exact norm_ (by first | (simp only [putAll, Act.put, List.setIfInBounds_toArray, List.set_cons_zero, List.set_cons_succ]; done) | (simp only [putAll, Act.put, List.setIfInBounds_toArray, List.set_cons_zero, List.set_cons_succ]; rfl)) (hJ2_6_7_11_12 (v325, v328) _ ⟨(by (with_reducible repeat (first | apply Kd.R_alloc | apply Kd.R_drewN | apply Kd.R_drew)); exact HO318.out), (by (with_reducible repeat (first | apply Kd.R_alloc | apply Kd.R_drewN | apply Kd.R_drew)); exact HO320.out), (by (with_reducible repeat (first | apply Kd.R_alloc | apply Kd.R_drewN | apply Kd.R_drew)); exact HO323.out), (by (with_reducible repeat (first | apply Kd.R_alloc | apply Kd.R_drewN | apply Kd.R_drew)); exact HO326.out), (by (with_reducible repeat (first | apply Kd.R_alloc | apply Kd.R_drewN | apply Kd.R_drew)); exact HO329.out), (by repeat (first | (with_reducible first | exact HB.out | apply below_alloc | apply pw_below_drewN | apply below_drew1) | exact HB.out))⟩)
                    · skip
                      refine goes_ Try.func33 (by kernel_rfl) rfl #[.slice A0 l0.length c0] (by rfl) rfl rfl (by (try simp only [List.map_toArray, List.map_cons, List.map_nil]); first | done | rfl | (simp only [List.length_drop, List.length_take]; rfl)) ?_
                      with_reducible refine (mootref01_Sha.calls _ _ l0 t330 _ ?side1 ?side2 A11.out).mono ?_
                      (case side1 => repeat (first | exact (Kd.C_below HR0.out HB.out) | (with_reducible refine Kd.C_alloc ?_ _) | (with_reducible refine Kd.C_drewN ?_ _) | (with_reducible refine Kd.C_drew ?_)))
                      (case side2 => exact HC0.out)
                      rintro e w23 ⟨v331, rfl, ho0, hb⟩
                      refine ⟨_, rfl, ?_⟩
                      have n0_ := Aside0.mk (Kd.R_below (by (with_reducible repeat (first | apply Kd.R_alloc | apply Kd.R_drewN | apply Kd.R_drew)); exact HO318.out) hb)
                      have n1_ := Aside0.mk (Kd.R_below (by (with_reducible repeat (first | apply Kd.R_alloc | apply Kd.R_drewN | apply Kd.R_drew)); exact HO320.out) hb)
                      have n2_ := Aside0.mk (Kd.R_elder' (by (with_reducible repeat (first | apply Kd.R_alloc | apply Kd.R_drewN | apply Kd.R_drew)); exact HO323.out) (Kd.R_base ho0) hb)
                      have n3_ := Aside0.mk (Kd.R_elder' (by (with_reducible repeat (first | apply Kd.R_alloc | apply Kd.R_drewN | apply Kd.R_drew)); exact HO326.out) (Kd.R_base ho0) hb)
                      have n4_ := Aside0.mk (Kd.R_elder' (by (with_reducible repeat (first | apply Kd.R_alloc | apply Kd.R_drewN | apply Kd.R_drew)); exact HO329.out) (Kd.R_base ho0) hb)
                      have n5_ := Aside0.mk (Kd.R_lower (Kd.R_new' (Kd.R_new' (Kd.R_new' ho0 (Kd.R_lt (by (with_reducible repeat (first | apply Kd.R_alloc | apply Kd.R_drewN | apply Kd.R_drew)); exact HO323.out))) (Kd.R_lt (by (with_reducible repeat (first | apply Kd.R_alloc | apply Kd.R_drewN | apply Kd.R_drew)); exact HO326.out))) (Kd.R_lt (by (with_reducible repeat (first | apply Kd.R_alloc | apply Kd.R_drewN | apply Kd.R_drew)); exact HO329.out))) (below_size (by repeat (first | (with_reducible first | exact HB.out | apply below_alloc | apply pw_below_drewN | apply below_drew1) | exact HB.out))))
                      have n6_ := Aside0.mk (below_step (by repeat (first | (with_reducible first | exact HB.out | apply below_alloc | apply pw_below_drewN | apply below_drew1) | exact HB.out)) hb)
                      clear HO318
                      clear HO320
                      clear HO323
                      clear HO326
                      clear HO329
                      clear HB
                      have HO318 := n0_
                      have HO320 := n1_
                      have HO323 := n2_
                      have HO326 := n3_
                      have HO329 := n4_
                      have HO332 := n5_
                      have HB := n6_
                      clear n0_ n1_ n2_ n3_ n4_ n5_ n6_
                      (try clear hb)
                      (try clear hb2)
                      (try clear hk)
                      (try clear hi)
                      (try clear ho0)
                      refine hK.out _ _ trivial (fun hHeld => ?_)
                      clear hK K
                      refine norm_ (a' := ?_) ?_ ?_
                      rotate_left
                      · show Act.put _ (some 28) _ = _
                        simp only [Act.put, List.setIfInBounds_toArray, List.set_cons_zero, List.set_cons_succ, i64_w, i32_w]
                        rfl
                      exact norm_ (by first | (simp only [putAll, Act.put, List.setIfInBounds_toArray, List.set_cons_zero, List.set_cons_succ]; done) | (simp only [putAll, Act.put, List.setIfInBounds_toArray, List.set_cons_zero, List.set_cons_succ]; rfl)) (hJ2_6_7_11_14 (v325, v328, v331) _ ⟨(by (with_reducible repeat (first | apply Kd.R_alloc | apply Kd.R_drewN | apply Kd.R_drew)); exact HO318.out), (by (with_reducible repeat (first | apply Kd.R_alloc | apply Kd.R_drewN | apply Kd.R_drew)); exact HO320.out), (by (with_reducible repeat (first | apply Kd.R_alloc | apply Kd.R_drewN | apply Kd.R_drew)); exact Kd.R_mono HO323.out (fun _ hk => ⟨hk.1.1, ⟨hk.1.2, hk.2⟩⟩)), (by (with_reducible repeat (first | apply Kd.R_alloc | apply Kd.R_drewN | apply Kd.R_drew)); exact Kd.R_mono HO326.out (fun _ hk => ⟨hk.1.1, ⟨hk.1.2, hk.2⟩⟩)), (by (with_reducible repeat (first | apply Kd.R_alloc | apply Kd.R_drewN | apply Kd.R_drew)); exact Kd.R_mono HO329.out (fun _ hk => ⟨hk.1.1, ⟨hk.1.2, hk.2⟩⟩)), (by (with_reducible repeat (first | apply Kd.R_alloc | apply Kd.R_drewN | apply Kd.R_drew)); exact Kd.R_mono HO332.out (fun _ hk => ⟨hk.1.1.2, ⟨hk.1.2, hk.2⟩⟩)), (by repeat (first | (with_reducible first | exact HB.out | apply below_alloc | apply pw_below_drewN | apply below_drew1) | exact HB.out))⟩)
                · skip
                  rintro ⟨v325, v328, v331⟩ w23 ⟨h0_, h1_, h2_, h3_, h4_, h5_, h6_⟩
                  have n0_ : Aside0 (Kd.R (Kd.int .u32) 30 w23 w.heap.size (fun k_ => some k_ ≠ (.slice Ao15 t316.length co15 : Value).ownBlock) (.slice Ao14 t315.length co14) t315) := ⟨h0_⟩
                  have n1_ : Aside0 (Kd.R (Kd.int .u32) 30 w23 w.heap.size (fun k_ => some k_ ≠ (.slice Ao14 t315.length co14 : Value).ownBlock) (.slice Ao15 t316.length co15) t316) := ⟨h1_⟩
                  have n2_ : Aside0 (Kd.R (Kd.int .u8) 5 w23 w.heap.size (fun k_ => some k_ ≠ (v325 : Value).ownBlock ∧ some k_ ≠ (v328 : Value).ownBlock ∧ some k_ ≠ (v331 : Value).ownBlock) v322 t321) := ⟨h2_⟩
                  have n3_ : Aside0 (Kd.R (Kd.int .u8) 5 w23 w.heap.size (fun k_ => some k_ ≠ (v322 : Value).ownBlock ∧ some k_ ≠ (v328 : Value).ownBlock ∧ some k_ ≠ (v331 : Value).ownBlock) v325 t324) := ⟨h3_⟩
                  have n4_ : Aside0 (Kd.R (Kd.int .u8) 5 w23 w.heap.size (fun k_ => some k_ ≠ (v322 : Value).ownBlock ∧ some k_ ≠ (v325 : Value).ownBlock ∧ some k_ ≠ (v331 : Value).ownBlock) v328 t327) := ⟨h4_⟩
                  have n5_ : Aside0 (Kd.R (Kd.int .u8) 5 w23 w.heap.size (fun k_ => some k_ ≠ (v322 : Value).ownBlock ∧ some k_ ≠ (v325 : Value).ownBlock ∧ some k_ ≠ (v328 : Value).ownBlock) v331 t330) := ⟨h5_⟩
                  have n6_ : Aside0 (Below w.heap.size w w23) := ⟨h6_⟩
                  clear HO318
                  clear HO320
                  clear HB
                  clear h0_ h1_ h2_ h3_ h4_ h5_ h6_
                  have HO318 := n0_
                  have HO320 := n1_
                  have HO323 := n2_
                  have HO326 := n3_
                  have HO329 := n4_
                  have HO332 := n5_
                  have HB := n6_
                  clear n0_ n1_ n2_ n3_ n4_ n5_ n6_
                  have hHeld := trivial
                  refine norm_ (a' := ?_) ?_ ?_
                  rotate_left
                  · simp only [putAll, Act.put, List.setIfInBounds_toArray, List.set_cons_zero, List.set_cons_succ]
                    rfl
                  refine two_ (i := 12) (j := 15) (Ni := some 26) (Nj := some 29) #[true, true, true, true, true, true, true, true, true, true, true, true, true, true, true, false, false, false, false] #[true, true, true, true, true, true, true, true, true, true, true, true, false, true, true, true, false, false, false] rfl rfl rfl rfl (two_of HT_.out (by kernel_rfl)) (by decide) (by decide) (fun K hK => ?_) (fun K hK => ?_)
                  · skip
                    have hcv24 := own_string (P := Try.prog) Try.underlying23 Try.underlying5 Try.underlying9 (Kd.own_of_R HO329.out)
                    refine value_ (w1 := ?_) (v := ?_) (by rfl) rfl ?_ ?_
                    rotate_left 2
                    · go_simp
                      constructor
                      · rfl
                      · rfl
                    clear hcv24
                    refine hK.out _ _ trivial (fun hHeld => ?_)
                    clear hK K
                    refine norm_ (a' := ?_) ?_ ?_
                    rotate_left
                    · show Act.put _ (some 26) _ = _
                      simp only [Act.put, List.setIfInBounds_toArray, List.set_cons_zero, List.set_cons_succ, i64_w, i32_w]
                      rfl
                    exact norm_ (by first | (simp only [putAll, Act.put, List.setIfInBounds_toArray, List.set_cons_zero, List.set_cons_succ]; done) | (simp only [putAll, Act.put, List.setIfInBounds_toArray, List.set_cons_zero, List.set_cons_succ]; rfl)) (hJ2_6_7_11_12_14 (v325, v328, v331) _ ⟨(by (with_reducible repeat (first | apply Kd.R_alloc | apply Kd.R_drewN | apply Kd.R_drew)); exact HO318.out), (by (with_reducible repeat (first | apply Kd.R_alloc | apply Kd.R_drewN | apply Kd.R_drew)); exact HO320.out), (by (with_reducible repeat (first | apply Kd.R_alloc | apply Kd.R_drewN | apply Kd.R_drew)); exact HO323.out), (by (with_reducible repeat (first | apply Kd.R_alloc | apply Kd.R_drewN | apply Kd.R_drew)); exact HO326.out), (by (with_reducible repeat (first | apply Kd.R_alloc | apply Kd.R_drewN | apply Kd.R_drew)); exact HO329.out), (by (with_reducible repeat (first | apply Kd.R_alloc | apply Kd.R_drewN | apply Kd.R_drew)); exact HO332.out), (by repeat (first | (with_reducible first | exact HB.out | apply below_alloc | apply pw_below_drewN | apply below_drew1) | exact HB.out))⟩)
                  · skip
                    have hcv24 := own_string (P := Try.prog) Try.underlying23 Try.underlying5 Try.underlying9 (Kd.own_of_R HO332.out)
                    refine value_ (w1 := ?_) (v := ?_) (by rfl) rfl ?_ ?_
                    rotate_left 2
                    · go_simp
                      constructor
                      · rfl
                      · rfl
                    clear hcv24
                    refine hK.out _ _ trivial (fun hHeld => ?_)
                    clear hK K
                    refine norm_ (a' := ?_) ?_ ?_
                    rotate_left
                    · show Act.put _ (some 29) _ = _
                      simp only [Act.put, List.setIfInBounds_toArray, List.set_cons_zero, List.set_cons_succ, i64_w, i32_w]
                      rfl
                    exact norm_ (by first | (simp only [putAll, Act.put, List.setIfInBounds_toArray, List.set_cons_zero, List.set_cons_succ]; done) | (simp only [putAll, Act.put, List.setIfInBounds_toArray, List.set_cons_zero, List.set_cons_succ]; rfl)) (hJ2_6_7_11_14_15 (v325, v328, v331) _ ⟨(by (with_reducible repeat (first | apply Kd.R_alloc | apply Kd.R_drewN | apply Kd.R_drew)); exact HO318.out), (by (with_reducible repeat (first | apply Kd.R_alloc | apply Kd.R_drewN | apply Kd.R_drew)); exact HO320.out), (by (with_reducible repeat (first | apply Kd.R_alloc | apply Kd.R_drewN | apply Kd.R_drew)); exact HO323.out), (by (with_reducible repeat (first | apply Kd.R_alloc | apply Kd.R_drewN | apply Kd.R_drew)); exact HO326.out), (by (with_reducible repeat (first | apply Kd.R_alloc | apply Kd.R_drewN | apply Kd.R_drew)); exact HO329.out), (by (with_reducible repeat (first | apply Kd.R_alloc | apply Kd.R_drewN | apply Kd.R_drew)); exact HO332.out), (by repeat (first | (with_reducible first | exact HB.out | apply below_alloc | apply pw_below_drewN | apply below_drew1) | exact HB.out))⟩)
              · skip
                rintro ⟨v325, v328⟩ w23 ⟨h0_, h1_, h2_, h3_, h4_, h5_⟩
                have n0_ : Aside0 (Kd.R (Kd.int .u32) 30 w23 w.heap.size (fun k_ => some k_ ≠ (.slice Ao15 t316.length co15 : Value).ownBlock) (.slice Ao14 t315.length co14) t315) := ⟨h0_⟩
                have n1_ : Aside0 (Kd.R (Kd.int .u32) 30 w23 w.heap.size (fun k_ => some k_ ≠ (.slice Ao14 t315.length co14 : Value).ownBlock) (.slice Ao15 t316.length co15) t316) := ⟨h1_⟩
                have n2_ : Aside0 (Kd.R (Kd.int .u8) 5 w23 w.heap.size (fun k_ => some k_ ≠ (v325 : Value).ownBlock ∧ some k_ ≠ (v328 : Value).ownBlock) v322 t321) := ⟨h2_⟩
                have n3_ : Aside0 (Kd.R (Kd.int .u8) 5 w23 w.heap.size (fun k_ => some k_ ≠ (v322 : Value).ownBlock ∧ some k_ ≠ (v328 : Value).ownBlock) v325 t324) := ⟨h3_⟩
                have n4_ : Aside0 (Kd.R (Kd.int .u8) 5 w23 w.heap.size (fun k_ => some k_ ≠ (v322 : Value).ownBlock ∧ some k_ ≠ (v325 : Value).ownBlock) v328 t327) := ⟨h4_⟩
                have n5_ : Aside0 (Below w.heap.size w w23) := ⟨h5_⟩
                clear HO318
                clear HO320
                clear HB
                clear h0_ h1_ h2_ h3_ h4_ h5_
                have HO318 := n0_
                have HO320 := n1_
                have HO323 := n2_
                have HO326 := n3_
                have HO329 := n4_
                have HB := n5_
                clear n0_ n1_ n2_ n3_ n4_ n5_
                have hHeld := trivial
                refine norm_ (a' := ?_) ?_ ?_
                rotate_left
                · simp only [putAll, Act.put, List.setIfInBounds_toArray, List.set_cons_zero, List.set_cons_succ]
                  rfl
                refine one_ (i := 14) (N := some 28) #[true, true, true, true, true, true, true, true, true, true, true, true, true, true, true, false, false, false, false] rfl rfl (one_of HT_.out (by kernel_rfl)) (by decide) (fun K hK => ?_)
                refine goes_ Try.func33 (by kernel_rfl) rfl #[.slice A0 l0.length c0] (by rfl) rfl rfl (by (try simp only [List.map_toArray, List.map_cons, List.map_nil]); first | done | rfl | (simp only [List.length_drop, List.length_take]; rfl)) ?_
                with_reducible refine (mootref01_Sha.calls _ _ l0 t330 _ ?side1 ?side2 A11.out).mono ?_
                (case side1 => repeat (first | exact (Kd.C_below HR0.out HB.out) | (with_reducible refine Kd.C_alloc ?_ _) | (with_reducible refine Kd.C_drewN ?_ _) | (with_reducible refine Kd.C_drew ?_)))
                (case side2 => exact HC0.out)
                rintro e w24 ⟨v331, rfl, ho0, hb⟩
                refine ⟨_, rfl, ?_⟩
                have n0_ := Aside0.mk (Kd.R_below (by (with_reducible repeat (first | apply Kd.R_alloc | apply Kd.R_drewN | apply Kd.R_drew)); exact HO318.out) hb)
                have n1_ := Aside0.mk (Kd.R_below (by (with_reducible repeat (first | apply Kd.R_alloc | apply Kd.R_drewN | apply Kd.R_drew)); exact HO320.out) hb)
                have n2_ := Aside0.mk (Kd.R_elder' (by (with_reducible repeat (first | apply Kd.R_alloc | apply Kd.R_drewN | apply Kd.R_drew)); exact HO323.out) (Kd.R_base ho0) hb)
                have n3_ := Aside0.mk (Kd.R_elder' (by (with_reducible repeat (first | apply Kd.R_alloc | apply Kd.R_drewN | apply Kd.R_drew)); exact HO326.out) (Kd.R_base ho0) hb)
                have n4_ := Aside0.mk (Kd.R_elder' (by (with_reducible repeat (first | apply Kd.R_alloc | apply Kd.R_drewN | apply Kd.R_drew)); exact HO329.out) (Kd.R_base ho0) hb)
                have n5_ := Aside0.mk (Kd.R_lower (Kd.R_new' (Kd.R_new' (Kd.R_new' ho0 (Kd.R_lt (by (with_reducible repeat (first | apply Kd.R_alloc | apply Kd.R_drewN | apply Kd.R_drew)); exact HO323.out))) (Kd.R_lt (by (with_reducible repeat (first | apply Kd.R_alloc | apply Kd.R_drewN | apply Kd.R_drew)); exact HO326.out))) (Kd.R_lt (by (with_reducible repeat (first | apply Kd.R_alloc | apply Kd.R_drewN | apply Kd.R_drew)); exact HO329.out))) (below_size (by repeat (first | (with_reducible first | exact HB.out | apply below_alloc | apply pw_below_drewN | apply below_drew1) | exact HB.out))))
                have n6_ := Aside0.mk (below_step (by repeat (first | (with_reducible first | exact HB.out | apply below_alloc | apply pw_below_drewN | apply below_drew1) | exact HB.out)) hb)
                clear HO318
                clear HO320
                clear HO323
                clear HO326
                clear HO329
                clear HB
                have HO318 := n0_
                have HO320 := n1_
                have HO323 := n2_
                have HO326 := n3_
                have HO329 := n4_
                have HO332 := n5_
                have HB := n6_
                clear n0_ n1_ n2_ n3_ n4_ n5_ n6_
                (try clear hb)
                (try clear hb2)
                (try clear hk)
                (try clear hi)
                (try clear ho0)
                refine hK.out _ _ trivial (fun hHeld => ?_)
                clear hK K
                refine norm_ (a' := ?_) ?_ ?_
                rotate_left
                · show Act.put _ (some 28) _ = _
                  simp only [Act.put, List.setIfInBounds_toArray, List.set_cons_zero, List.set_cons_succ, i64_w, i32_w]
                  rfl
                exact norm_ (by first | (simp only [putAll, Act.put, List.setIfInBounds_toArray, List.set_cons_zero, List.set_cons_succ]; done) | (simp only [putAll, Act.put, List.setIfInBounds_toArray, List.set_cons_zero, List.set_cons_succ]; rfl)) (hJ2_6_7_11_12_14 (v325, v328, v331) _ ⟨(by (with_reducible repeat (first | apply Kd.R_alloc | apply Kd.R_drewN | apply Kd.R_drew)); exact HO318.out), (by (with_reducible repeat (first | apply Kd.R_alloc | apply Kd.R_drewN | apply Kd.R_drew)); exact HO320.out), (by (with_reducible repeat (first | apply Kd.R_alloc | apply Kd.R_drewN | apply Kd.R_drew)); exact Kd.R_mono HO323.out (fun _ hk => ⟨hk.1.1, ⟨hk.1.2, hk.2⟩⟩)), (by (with_reducible repeat (first | apply Kd.R_alloc | apply Kd.R_drewN | apply Kd.R_drew)); exact Kd.R_mono HO326.out (fun _ hk => ⟨hk.1.1, ⟨hk.1.2, hk.2⟩⟩)), (by (with_reducible repeat (first | apply Kd.R_alloc | apply Kd.R_drewN | apply Kd.R_drew)); exact Kd.R_mono HO329.out (fun _ hk => ⟨hk.1.1, ⟨hk.1.2, hk.2⟩⟩)), (by (with_reducible repeat (first | apply Kd.R_alloc | apply Kd.R_drewN | apply Kd.R_drew)); exact Kd.R_mono HO332.out (fun _ hk => ⟨hk.1.1.2, ⟨hk.1.2, hk.2⟩⟩)), (by repeat (first | (with_reducible first | exact HB.out | apply below_alloc | apply pw_below_drewN | apply below_drew1) | exact HB.out))⟩)
            · skip
              rintro ⟨v325, v328, v331⟩ w24 ⟨h0_, h1_, h2_, h3_, h4_, h5_, h6_⟩
              have n0_ : Aside0 (Kd.R (Kd.int .u32) 30 w24 w.heap.size (fun k_ => some k_ ≠ (.slice Ao15 t316.length co15 : Value).ownBlock) (.slice Ao14 t315.length co14) t315) := ⟨h0_⟩
              have n1_ : Aside0 (Kd.R (Kd.int .u32) 30 w24 w.heap.size (fun k_ => some k_ ≠ (.slice Ao14 t315.length co14 : Value).ownBlock) (.slice Ao15 t316.length co15) t316) := ⟨h1_⟩
              have n2_ : Aside0 (Kd.R (Kd.int .u8) 5 w24 w.heap.size (fun k_ => some k_ ≠ (v325 : Value).ownBlock ∧ some k_ ≠ (v328 : Value).ownBlock ∧ some k_ ≠ (v331 : Value).ownBlock) v322 t321) := ⟨h2_⟩
              have n3_ : Aside0 (Kd.R (Kd.int .u8) 5 w24 w.heap.size (fun k_ => some k_ ≠ (v322 : Value).ownBlock ∧ some k_ ≠ (v328 : Value).ownBlock ∧ some k_ ≠ (v331 : Value).ownBlock) v325 t324) := ⟨h3_⟩
              have n4_ : Aside0 (Kd.R (Kd.int .u8) 5 w24 w.heap.size (fun k_ => some k_ ≠ (v322 : Value).ownBlock ∧ some k_ ≠ (v325 : Value).ownBlock ∧ some k_ ≠ (v331 : Value).ownBlock) v328 t327) := ⟨h4_⟩
              have n5_ : Aside0 (Kd.R (Kd.int .u8) 5 w24 w.heap.size (fun k_ => some k_ ≠ (v322 : Value).ownBlock ∧ some k_ ≠ (v325 : Value).ownBlock ∧ some k_ ≠ (v328 : Value).ownBlock) v331 t330) := ⟨h5_⟩
              have n6_ : Aside0 (Below w.heap.size w w24) := ⟨h6_⟩
              clear HO318
              clear HO320
              clear HB
              clear h0_ h1_ h2_ h3_ h4_ h5_ h6_
              have HO318 := n0_
              have HO320 := n1_
              have HO323 := n2_
              have HO326 := n3_
              have HO329 := n4_
              have HO332 := n5_
              have HB := n6_
              clear n0_ n1_ n2_ n3_ n4_ n5_ n6_
              have hHeld := trivial
              refine norm_ (a' := ?_) ?_ ?_
              rotate_left
              · simp only [putAll, Act.put, List.setIfInBounds_toArray, List.set_cons_zero, List.set_cons_succ]
                rfl
              refine one_ (i := 12) (N := some 26) #[true, true, true, true, true, true, true, true, true, true, true, true, true, true, true, true, false, false, false] rfl rfl (one_of HT_.out (by kernel_rfl)) (by decide) (fun K hK => ?_)
              have hcv25 := own_string (P := Try.prog) Try.underlying23 Try.underlying5 Try.underlying9 (Kd.own_of_R HO329.out)
              refine value_ (w1 := ?_) (v := ?_) (by rfl) rfl ?_ ?_
              rotate_left 2
              · go_simp
                constructor
                · rfl
                · rfl
              clear hcv25
              refine hK.out _ _ trivial (fun hHeld => ?_)
              clear hK K
              refine norm_ (a' := ?_) ?_ ?_
              rotate_left
              · show Act.put _ (some 26) _ = _
                simp only [Act.put, List.setIfInBounds_toArray, List.set_cons_zero, List.set_cons_succ, i64_w, i32_w]
                rfl
              exact norm_ (by first | (simp only [putAll, Act.put, List.setIfInBounds_toArray, List.set_cons_zero, List.set_cons_succ]; done) | (simp only [putAll, Act.put, List.setIfInBounds_toArray, List.set_cons_zero, List.set_cons_succ]; rfl)) (hJ2_6_7_11_12_14_15 (v325, v328, v331) _ ⟨(by (with_reducible repeat (first | apply Kd.R_alloc | apply Kd.R_drewN | apply Kd.R_drew)); exact HO318.out), (by (with_reducible repeat (first | apply Kd.R_alloc | apply Kd.R_drewN | apply Kd.R_drew)); exact HO320.out), (by (with_reducible repeat (first | apply Kd.R_alloc | apply Kd.R_drewN | apply Kd.R_drew)); exact HO323.out), (by (with_reducible repeat (first | apply Kd.R_alloc | apply Kd.R_drewN | apply Kd.R_drew)); exact HO326.out), (by (with_reducible repeat (first | apply Kd.R_alloc | apply Kd.R_drewN | apply Kd.R_drew)); exact HO329.out), (by (with_reducible repeat (first | apply Kd.R_alloc | apply Kd.R_drewN | apply Kd.R_drew)); exact HO332.out), (by repeat (first | (with_reducible first | exact HB.out | apply below_alloc | apply pw_below_drewN | apply below_drew1) | exact HB.out))⟩)
          · skip
            rintro ⟨v325, v328, v331⟩ w24 ⟨h0_, h1_, h2_, h3_, h4_, h5_, h6_⟩
            have n0_ : Aside0 (Kd.R (Kd.int .u32) 30 w24 w.heap.size (fun k_ => some k_ ≠ (.slice Ao15 t316.length co15 : Value).ownBlock) (.slice Ao14 t315.length co14) t315) := ⟨h0_⟩
            have n1_ : Aside0 (Kd.R (Kd.int .u32) 30 w24 w.heap.size (fun k_ => some k_ ≠ (.slice Ao14 t315.length co14 : Value).ownBlock) (.slice Ao15 t316.length co15) t316) := ⟨h1_⟩
            have n2_ : Aside0 (Kd.R (Kd.int .u8) 5 w24 w.heap.size (fun k_ => some k_ ≠ (v325 : Value).ownBlock ∧ some k_ ≠ (v328 : Value).ownBlock ∧ some k_ ≠ (v331 : Value).ownBlock) v322 t321) := ⟨h2_⟩
            have n3_ : Aside0 (Kd.R (Kd.int .u8) 5 w24 w.heap.size (fun k_ => some k_ ≠ (v322 : Value).ownBlock ∧ some k_ ≠ (v328 : Value).ownBlock ∧ some k_ ≠ (v331 : Value).ownBlock) v325 t324) := ⟨h3_⟩
            have n4_ : Aside0 (Kd.R (Kd.int .u8) 5 w24 w.heap.size (fun k_ => some k_ ≠ (v322 : Value).ownBlock ∧ some k_ ≠ (v325 : Value).ownBlock ∧ some k_ ≠ (v331 : Value).ownBlock) v328 t327) := ⟨h4_⟩
            have n5_ : Aside0 (Kd.R (Kd.int .u8) 5 w24 w.heap.size (fun k_ => some k_ ≠ (v322 : Value).ownBlock ∧ some k_ ≠ (v325 : Value).ownBlock ∧ some k_ ≠ (v328 : Value).ownBlock) v331 t330) := ⟨h5_⟩
            have n6_ : Aside0 (Below w.heap.size w w24) := ⟨h6_⟩
            clear HO318
            clear HO320
            clear HB
            clear h0_ h1_ h2_ h3_ h4_ h5_ h6_
            have HO318 := n0_
            have HO320 := n1_
            have HO323 := n2_
            have HO326 := n3_
            have HO329 := n4_
            have HO332 := n5_
            have HB := n6_
            clear n0_ n1_ n2_ n3_ n4_ n5_ n6_
            have hHeld := trivial
            refine norm_ (a' := ?_) ?_ ?_
            rotate_left
            · simp only [putAll, Act.put, List.setIfInBounds_toArray, List.set_cons_zero, List.set_cons_succ]
              rfl
            refine one_ (i := 15) (N := some 29) #[true, true, true, true, true, true, true, true, true, true, true, true, true, true, true, true, false, false, false] rfl rfl (one_of HT_.out (by kernel_rfl)) (by decide) (fun K hK => ?_)
            have hcv25 := own_string (P := Try.prog) Try.underlying23 Try.underlying5 Try.underlying9 (Kd.own_of_R HO332.out)
            refine value_ (w1 := ?_) (v := ?_) (by rfl) rfl ?_ ?_
            rotate_left 2
            · go_simp
              constructor
              · rfl
              · rfl
            clear hcv25
            refine hK.out _ _ trivial (fun hHeld => ?_)
            clear hK K
            refine norm_ (a' := ?_) ?_ ?_
            rotate_left
            · show Act.put _ (some 29) _ = _
              simp only [Act.put, List.setIfInBounds_toArray, List.set_cons_zero, List.set_cons_succ, i64_w, i32_w]
              rfl
            exact norm_ (by first | (simp only [putAll, Act.put, List.setIfInBounds_toArray, List.set_cons_zero, List.set_cons_succ]; done) | (simp only [putAll, Act.put, List.setIfInBounds_toArray, List.set_cons_zero, List.set_cons_succ]; rfl)) (hJ2_6_7_11_12_14_15 (v325, v328, v331) _ ⟨(by (with_reducible repeat (first | apply Kd.R_alloc | apply Kd.R_drewN | apply Kd.R_drew)); exact HO318.out), (by (with_reducible repeat (first | apply Kd.R_alloc | apply Kd.R_drewN | apply Kd.R_drew)); exact HO320.out), (by (with_reducible repeat (first | apply Kd.R_alloc | apply Kd.R_drewN | apply Kd.R_drew)); exact HO323.out), (by (with_reducible repeat (first | apply Kd.R_alloc | apply Kd.R_drewN | apply Kd.R_drew)); exact HO326.out), (by (with_reducible repeat (first | apply Kd.R_alloc | apply Kd.R_drewN | apply Kd.R_drew)); exact HO329.out), (by (with_reducible repeat (first | apply Kd.R_alloc | apply Kd.R_drewN | apply Kd.R_drew)); exact HO332.out), (by repeat (first | (with_reducible first | exact HB.out | apply below_alloc | apply pw_below_drewN | apply below_drew1) | exact HB.out))⟩)
        rintro ⟨v325, v328, v331⟩ w25 ⟨h0_, h1_, h2_, h3_, h4_, h5_, h6_⟩
        have n0_ : Aside0 (Kd.R (Kd.int .u32) 30 w25 w.heap.size (fun k_ => some k_ ≠ (.slice Ao15 t316.length co15 : Value).ownBlock) (.slice Ao14 t315.length co14) t315) := ⟨h0_⟩
        have n1_ : Aside0 (Kd.R (Kd.int .u32) 30 w25 w.heap.size (fun k_ => some k_ ≠ (.slice Ao14 t315.length co14 : Value).ownBlock) (.slice Ao15 t316.length co15) t316) := ⟨h1_⟩
        have n2_ : Aside0 (Kd.R (Kd.int .u8) 5 w25 w.heap.size (fun k_ => some k_ ≠ (v325 : Value).ownBlock ∧ some k_ ≠ (v328 : Value).ownBlock ∧ some k_ ≠ (v331 : Value).ownBlock) v322 t321) := ⟨h2_⟩
        have n3_ : Aside0 (Kd.R (Kd.int .u8) 5 w25 w.heap.size (fun k_ => some k_ ≠ (v322 : Value).ownBlock ∧ some k_ ≠ (v328 : Value).ownBlock ∧ some k_ ≠ (v331 : Value).ownBlock) v325 t324) := ⟨h3_⟩
        have n4_ : Aside0 (Kd.R (Kd.int .u8) 5 w25 w.heap.size (fun k_ => some k_ ≠ (v322 : Value).ownBlock ∧ some k_ ≠ (v325 : Value).ownBlock ∧ some k_ ≠ (v331 : Value).ownBlock) v328 t327) := ⟨h4_⟩
        have n5_ : Aside0 (Kd.R (Kd.int .u8) 5 w25 w.heap.size (fun k_ => some k_ ≠ (v322 : Value).ownBlock ∧ some k_ ≠ (v325 : Value).ownBlock ∧ some k_ ≠ (v328 : Value).ownBlock) v331 t330) := ⟨h5_⟩
        have n6_ : Aside0 (Below w.heap.size w w25) := ⟨h6_⟩
        clear HO318
        clear HO320
        clear HB
        clear h0_ h1_ h2_ h3_ h4_ h5_ h6_
        have HO318 := n0_
        have HO320 := n1_
        have HO323 := n2_
        have HO326 := n3_
        have HO329 := n4_
        have HO332 := n5_
        have HB := n6_
        clear n0_ n1_ n2_ n3_ n4_ n5_ n6_
        have hHeld := trivial
        refine norm_ (a' := ?_) ?_ ?_
        rotate_left
        · simp only [putAll, Act.put, List.setIfInBounds_toArray, List.set_cons_zero, List.set_cons_succ]
          rfl
        refine pure_ (i := 16) (N := some 30) (v := ?_) (a' := ?_) #[true, true, true, true, true, true, true, true, true, true, true, true, true, true, true, true, true, false, false] rfl rfl (any_of HT_.out (by kernel_rfl)) (fun _ _ _ h => h) (Or.inl ⟨by rfl, ?_⟩) ?_ ?_
        rotate_left
        · intro w'
          go_simp
          with_reducible rfl
        rotate_left
        · simp only [Act.put, List.setIfInBounds_toArray, List.set_cons_zero, List.set_cons_succ, i64_w, i32_w]
          rfl
        refine pure_ (i := 17) (N := some 31) (v := ?_) (a' := ?_) #[true, true, true, true, true, true, true, true, true, true, true, true, true, true, true, true, true, true, false] rfl rfl (any_of HT_.out (by kernel_rfl)) (fun _ _ _ h => h) (Or.inl ⟨by rfl, ?_⟩) ?_ ?_
        rotate_left
        · intro w'
          go_simp
          with_reducible rfl
        rotate_left
        · simp only [Act.put, List.setIfInBounds_toArray, List.set_cons_zero, List.set_cons_succ, i64_w, i32_w]
          rfl
        refine pure_ (i := 18) (N := some 2) (v := ?_) (a' := ?_) #[true, true, true, true, true, true, true, true, true, true, true, true, true, true, true, true, true, true, true] rfl rfl (any_of HT_.out (by kernel_rfl)) (fun _ _ _ h => h) (Or.inl ⟨by rfl, ?_⟩) ?_ ?_
        rotate_left
        · intro w'
          go_simp
          with_reducible rfl
        rotate_left
        · simp only [Act.put, List.setIfInBounds_toArray, List.set_cons_zero, List.set_cons_succ, i64_w, i32_w]
          rfl
        refine done_ (done_of HT_.out (by kernel_rfl)) ?_
        try go_wp2
        go_ret
        exact ⟨by first | rfl | (simp [errW_none, errW_some] <;> rfl) | (simp [*, errW_none, errW_some] <;> rfl), by repeat (first | (with_reducible first | exact HB.out | apply below_alloc | apply pw_below_drewN | apply below_drew1) | exact HB.out)⟩
      · rw [if_neg c9] at H
        have c9b0 : ((strOfNums t321).toList == (strOfNums t324).toList) = false := beq_eq_false_iff_ne.mpr c9
        have c9b1 : ((strOfNums t321).toList != (strOfNums t324).toList) = true := bne_iff_ne.mpr c9
        obtain rfl := Option.some.inj H
        go_enter Try.func8, Try.ntmps8
        try go_wp2_with (first | ((with_reducible refine gate_callee (f := 29) rfl ?_); refine goesL_ (some 5) rfl rfl Try.func29 (by kernel_rfl) rfl #[] rfl (by (try simp only [List.map_toArray, List.map_cons, List.map_nil]); first | done | rfl | (simp only [List.length_drop, List.length_take]; rfl)) ?_; (with_reducible refine (mootlaw02_alive.calls  true _ A2.out).mono ?_); rintro e w26 ⟨rfl, hb⟩; refine ⟨_, rfl, ?_⟩; have n0_ := Aside0.mk (below_step (by repeat (first | (with_reducible first | exact HB.out | apply below_alloc | apply pw_below_drewN | apply below_drew1) | exact HB.out)) hb); clear HB; have HB := n0_; clear n0_; (try clear hb); (try clear hb2); (try clear hk); (try clear hi)) | ((with_reducible refine gate_callee (f := 30) rfl ?_); refine goesL_ (some 11) rfl rfl Try.func30 (by kernel_rfl) rfl #[] rfl (by (try simp only [List.map_toArray, List.map_cons, List.map_nil]); first | done | rfl | (simp only [List.length_drop, List.length_take]; rfl)) ?_; (with_reducible refine (mootref01_Constants.calls k  t315 t316 _ A6.out).mono ?_); rintro e w27 ⟨v317, v319, rfl, ho0, ho1, hb⟩; refine ⟨_, rfl, ?_⟩; have n0_ := Aside0.mk (Kd.R_lower ho0 (below_size (by repeat (first | (with_reducible first | exact HB.out | apply below_alloc | apply pw_below_drewN | apply below_drew1) | exact HB.out)))); have n1_ := Aside0.mk (Kd.R_lower ho1 (below_size (by repeat (first | (with_reducible first | exact HB.out | apply below_alloc | apply pw_below_drewN | apply below_drew1) | exact HB.out)))); have n2_ := Aside0.mk (below_step (by repeat (first | (with_reducible first | exact HB.out | apply below_alloc | apply pw_below_drewN | apply below_drew1) | exact HB.out)) hb); clear HB; have HO318 := n0_; have HO320 := n1_; have HB := n2_; clear n0_ n1_ n2_; (try clear hb); (try clear hb2); (try clear hk); (try clear hi); (try clear ho0); (try clear ho1); obtain ⟨Ao28, co28, eo28⟩ := Kd.R_slice HO318.out; subst eo28; obtain ⟨Ao29, co29, eo29⟩ := Kd.R_slice HO320.out; subst eo29))
        have n0_ := Aside0.mk (Kd.R_drew HO318.out)
        have n1_ := Aside0.mk (Kd.R_drew HO320.out)
        have n2_ := Aside0.mk (below_drew1 HB.out)
        clear HO318
        clear HO320
        clear HB
        have HO318 := n0_
        have HO320 := n1_
        have HB := n2_
        clear n0_ n1_ n2_
        refine start_ (n := 19) (S := fun w' => True) (ds := []) #[false, false, false, false, false, false, false, false, false, false, false, false, false, false, false, false, false, false, false] (by kernel_rfl) rfl rfl trivial (fun hHeld => ?_); refine with_tabW mootlaw02_ShaTells.tab6 mootlaw02_ShaTells.bits6 (fun HT_ HW_ => ?_)
        generalize w27.drew = w30 at HO318 HO320 HB hHeld ⊢
        refine pure_ (i := 0) (N := some 14) (v := ?_) (a' := ?_) #[true, false, false, false, false, false, false, false, false, false, false, false, false, false, false, false, false, false, false] rfl rfl (any_of HT_.out (by kernel_rfl)) (fun _ _ _ h => h) (Or.inl ⟨by rfl, ?_⟩) ?_ ?_
        rotate_left
        · intro w'
          go_simp
          with_reducible rfl
        rotate_left
        · simp only [Act.put, List.setIfInBounds_toArray, List.set_cons_zero, List.set_cons_succ, i64_w, i32_w]
          rfl
        refine pure_ (i := 3) (N := some 17) (v := ?_) (a' := ?_) #[true, false, false, true, false, false, false, false, false, false, false, false, false, false, false, false, false, false, false] rfl rfl (any_of HT_.out (by kernel_rfl)) (fun _ _ _ h => h) (Or.inl ⟨by rfl, ?_⟩) ?_ ?_
        rotate_left
        · intro w'
          go_simp
          with_reducible rfl
        rotate_left
        · simp only [Act.put, List.setIfInBounds_toArray, List.set_cons_zero, List.set_cons_succ, i64_w, i32_w]
          rfl
        refine pure_ (i := 4) (N := some 18) (v := ?_) (a' := ?_) #[true, false, false, true, true, false, false, false, false, false, false, false, false, false, false, false, false, false, false] rfl rfl (any_of HT_.out (by kernel_rfl)) (fun _ _ _ h => h) (Or.inl ⟨by rfl, ?_⟩) ?_ ?_
        rotate_left
        · intro w'
          go_simp
          with_reducible rfl
        rotate_left
        · simp only [Act.put, List.setIfInBounds_toArray, List.set_cons_zero, List.set_cons_succ, i64_w, i32_w]
          rfl
        refine pure_ (i := 5) (N := some 19) (v := ?_) (a' := ?_) #[true, false, false, true, true, true, false, false, false, false, false, false, false, false, false, false, false, false, false] rfl rfl (any_of HT_.out (by kernel_rfl)) (fun _ _ _ h => h) (Or.inl ⟨by rfl, ?_⟩) ?_ ?_
        rotate_left
        · intro w'
          go_simp
          with_reducible rfl
        rotate_left
        · simp only [Act.put, List.setIfInBounds_toArray, List.set_cons_zero, List.set_cons_succ, i64_w, i32_w]
          rfl
        refine one_ (i := 1) (N := some 15) #[true, true, false, true, true, true, false, false, false, false, false, false, false, false, false, false, false, false, false] rfl rfl (one_of HT_.out (by kernel_rfl)) (by decide) (fun K hK => ?_)
        refine goes_ Try.func31 (by kernel_rfl) rfl #[.slice A0 l0.length c0] (by rfl) rfl rfl (by (try simp only [List.map_toArray, List.map_cons, List.map_nil]); first | done | rfl | (simp only [List.length_drop, List.length_take]; rfl)) ?_
        with_reducible refine (sha_Sum.calls _ _ l0 t321 _ ?side1 ?side2 A7.out).mono ?_
        (case side1 => repeat (first | exact (Kd.C_below HR0.out HB.out) | (with_reducible refine Kd.C_alloc ?_ _) | (with_reducible refine Kd.C_drewN ?_ _) | (with_reducible refine Kd.C_drew ?_)))
        (case side2 => exact HC0.out)
        rintro e w31 ⟨v322, rfl, ho0, hb⟩
        refine ⟨_, rfl, ?_⟩
        have n0_ := Aside0.mk (Kd.R_below (by (with_reducible repeat (first | apply Kd.R_alloc | apply Kd.R_drewN | apply Kd.R_drew)); exact HO318.out) hb)
        have n1_ := Aside0.mk (Kd.R_below (by (with_reducible repeat (first | apply Kd.R_alloc | apply Kd.R_drewN | apply Kd.R_drew)); exact HO320.out) hb)
        have n2_ := Aside0.mk (Kd.R_lower ho0 (below_size (by repeat (first | (with_reducible first | exact HB.out | apply below_alloc | apply pw_below_drewN | apply below_drew1) | exact HB.out))))
        have n3_ := Aside0.mk (below_step (by repeat (first | (with_reducible first | exact HB.out | apply below_alloc | apply pw_below_drewN | apply below_drew1) | exact HB.out)) hb)
        clear HO318
        clear HO320
        clear HB
        have HO318 := n0_
        have HO320 := n1_
        have HO323 := n2_
        have HB := n3_
        clear n0_ n1_ n2_ n3_
        (try clear hb)
        (try clear hb2)
        (try clear hk)
        (try clear hi)
        (try clear ho0)
        refine hK.out _ _ trivial (fun hHeld => ?_)
        clear hK K
        refine norm_ (a' := ?_) ?_ ?_
        rotate_left
        · show Act.put _ (some 15) _ = _
          simp only [Act.put, List.setIfInBounds_toArray, List.set_cons_zero, List.set_cons_succ, i64_w, i32_w]
          rfl
        refine join_ (σ := Value) 11 #[true, true, true, true, true, true, true, true, false, false, false, false, false, false, false, false, false, false, false] (fun s_ => [(16, .string (strOfNums t321)), (20, s_), (21, .string (strOfNums t324))]) (fun s_ w' => (Kd.R (Kd.int .u32) 30 w' w.heap.size (fun k_ => some k_ ≠ (.slice Ao29 t316.length co29 : Value).ownBlock) (.slice Ao28 t315.length co28) t315) ∧ (Kd.R (Kd.int .u32) 30 w' w.heap.size (fun k_ => some k_ ≠ (.slice Ao28 t315.length co28 : Value).ownBlock) (.slice Ao29 t316.length co29) t316) ∧ (Kd.R (Kd.int .u8) 5 w' w.heap.size (fun k_ => some k_ ≠ (s_ : Value).ownBlock) v322 t321) ∧ (Kd.R (Kd.int .u8) 5 w' w.heap.size (fun k_ => some k_ ≠ (v322 : Value).ownBlock) s_ t324) ∧ (Below w.heap.size w w')) ?_ ?_
        rotate_left
        · intro hCont
          refine two_ (i := 2) (j := 6) (Ni := some 16) (Nj := some 20) #[true, true, true, true, true, true, false, false, false, false, false, false, false, false, false, false, false, false, false] #[true, true, false, true, true, true, true, false, false, false, false, false, false, false, false, false, false, false, false] rfl rfl rfl rfl (two_of HT_.out (by kernel_rfl)) (by decide) (by decide) (fun K hK => ?_) (fun K hK => ?_)
          · skip
            have hcv32 := own_string (P := Try.prog) Try.underlying23 Try.underlying5 Try.underlying9 (Kd.own_of_R HO323.out)
            refine value_ (w1 := ?_) (v := ?_) (by rfl) rfl ?_ ?_
            rotate_left 2
            · go_simp
              constructor
              · rfl
              · rfl
            clear hcv32
            refine hK.out _ _ trivial (fun hHeld => ?_)
            clear hK K
            refine norm_ (a' := ?_) ?_ ?_
            rotate_left
            · show Act.put _ (some 16) _ = _
              simp only [Act.put, List.setIfInBounds_toArray, List.set_cons_zero, List.set_cons_succ, i64_w, i32_w]
              rfl
            refine one_ (i := 6) (N := some 20) #[true, true, true, true, true, true, true, false, false, false, false, false, false, false, false, false, false, false, false] rfl rfl (one_of HT_.out (by kernel_rfl)) (by decide) (fun K hK => ?_)
            refine goes_ Try.func32 (by kernel_rfl) rfl #[.slice A0 l0.length c0, .slice Ao28 t315.length co28, .slice Ao29 t316.length co29] (by rfl) rfl rfl (by (try simp only [List.map_toArray, List.map_cons, List.map_nil]); first | done | rfl | (simp only [List.length_drop, List.length_take]; rfl)) ?_
            with_reducible refine (mootref01_Sum.calls k _ _ l0 _ _ t315 _ _ t316 t324 _ ?side1 ?side2 ?side3 ?side4 ?side5 ?side6 A8.out).mono ?_
            (case side1 => repeat (first | exact (Kd.C_below HR0.out HB.out) | (with_reducible refine Kd.C_alloc ?_ _) | (with_reducible refine Kd.C_drewN ?_ _) | (with_reducible refine Kd.C_drew ?_)))
            (case side2 => exact HC0.out)
            (case side3 => repeat (first | exact (Kd.R_reads' HO318.out).2.2 | (with_reducible refine Kd.C_alloc ?_ _) | (with_reducible refine Kd.C_drewN ?_ _) | (with_reducible refine Kd.C_drew ?_)))
            (case side4 => exact (Kd.R_reads' HO318.out).2.1)
            (case side5 => repeat (first | exact (Kd.R_reads' HO320.out).2.2 | (with_reducible refine Kd.C_alloc ?_ _) | (with_reducible refine Kd.C_drewN ?_ _) | (with_reducible refine Kd.C_drew ?_)))
            (case side6 => exact (Kd.R_reads' HO320.out).2.1)
            rintro e w33 ⟨v325, rfl, ho0, hb⟩
            refine ⟨_, rfl, ?_⟩
            have n0_ := Aside0.mk (Kd.R_below (by (with_reducible repeat (first | apply Kd.R_alloc | apply Kd.R_drewN | apply Kd.R_drew)); exact HO318.out) hb)
            have n1_ := Aside0.mk (Kd.R_below (by (with_reducible repeat (first | apply Kd.R_alloc | apply Kd.R_drewN | apply Kd.R_drew)); exact HO320.out) hb)
            have n2_ := Aside0.mk (Kd.R_elder' (by (with_reducible repeat (first | apply Kd.R_alloc | apply Kd.R_drewN | apply Kd.R_drew)); exact HO323.out) (Kd.R_base ho0) hb)
            have n3_ := Aside0.mk (Kd.R_lower (Kd.R_new' ho0 (Kd.R_lt (by (with_reducible repeat (first | apply Kd.R_alloc | apply Kd.R_drewN | apply Kd.R_drew)); exact HO323.out))) (below_size (by repeat (first | (with_reducible first | exact HB.out | apply below_alloc | apply pw_below_drewN | apply below_drew1) | exact HB.out))))
            have n4_ := Aside0.mk (below_step (by repeat (first | (with_reducible first | exact HB.out | apply below_alloc | apply pw_below_drewN | apply below_drew1) | exact HB.out)) hb)
            clear HO318
            clear HO320
            clear HO323
            clear HB
            have HO318 := n0_
            have HO320 := n1_
            have HO323 := n2_
            have HO326 := n3_
            have HB := n4_
            clear n0_ n1_ n2_ n3_ n4_
            (try clear hb)
            (try clear hb2)
            (try clear hk)
            (try clear hi)
            (try clear ho0)
            refine hK.out _ _ trivial (fun hHeld => ?_)
            clear hK K
            refine norm_ (a' := ?_) ?_ ?_
            rotate_left
            · show Act.put _ (some 20) _ = _
              simp only [Act.put, List.setIfInBounds_toArray, List.set_cons_zero, List.set_cons_succ, i64_w, i32_w]
              rfl
            refine one_ (i := 7) (N := some 21) #[true, true, true, true, true, true, true, true, false, false, false, false, false, false, false, false, false, false, false] rfl rfl (one_of HT_.out (by kernel_rfl)) (by decide) (fun K hK => ?_)
            have hcv34 := own_string (P := Try.prog) Try.underlying23 Try.underlying5 Try.underlying9 (Kd.own_of_R HO326.out)
            refine value_ (w1 := ?_) (v := ?_) (by rfl) rfl ?_ ?_
            rotate_left 2
            · go_simp
              constructor
              · rfl
              · rfl
            clear hcv34
            refine hK.out _ _ trivial (fun hHeld => ?_)
            clear hK K
            refine norm_ (a' := ?_) ?_ ?_
            rotate_left
            · show Act.put _ (some 21) _ = _
              simp only [Act.put, List.setIfInBounds_toArray, List.set_cons_zero, List.set_cons_succ, i64_w, i32_w]
              rfl
            exact norm_ (by simp only [putAll, Act.put, List.setIfInBounds_toArray, List.set_cons_zero, List.set_cons_succ]) (hCont (v325) _ ⟨(by (with_reducible repeat (first | apply Kd.R_alloc | apply Kd.R_drewN | apply Kd.R_drew)); exact HO318.out), (by (with_reducible repeat (first | apply Kd.R_alloc | apply Kd.R_drewN | apply Kd.R_drew)); exact HO320.out), (by (with_reducible repeat (first | apply Kd.R_alloc | apply Kd.R_drewN | apply Kd.R_drew)); exact Kd.R_mono HO323.out (fun _ hk => hk.2)), (by (with_reducible repeat (first | apply Kd.R_alloc | apply Kd.R_drewN | apply Kd.R_drew)); exact Kd.R_mono HO326.out (fun _ hk => hk.2)), (by repeat (first | (with_reducible first | exact HB.out | apply below_alloc | apply pw_below_drewN | apply below_drew1) | exact HB.out))⟩)
          · skip
            refine goes_ Try.func32 (by kernel_rfl) rfl #[.slice A0 l0.length c0, .slice Ao28 t315.length co28, .slice Ao29 t316.length co29] (by rfl) rfl rfl (by (try simp only [List.map_toArray, List.map_cons, List.map_nil]); first | done | rfl | (simp only [List.length_drop, List.length_take]; rfl)) ?_
            with_reducible refine (mootref01_Sum.calls k _ _ l0 _ _ t315 _ _ t316 t324 _ ?side1 ?side2 ?side3 ?side4 ?side5 ?side6 A8.out).mono ?_
            (case side1 => repeat (first | exact (Kd.C_below HR0.out HB.out) | (with_reducible refine Kd.C_alloc ?_ _) | (with_reducible refine Kd.C_drewN ?_ _) | (with_reducible refine Kd.C_drew ?_)))
            (case side2 => exact HC0.out)
            (case side3 => repeat (first | exact (Kd.R_reads' HO318.out).2.2 | (with_reducible refine Kd.C_alloc ?_ _) | (with_reducible refine Kd.C_drewN ?_ _) | (with_reducible refine Kd.C_drew ?_)))
            (case side4 => exact (Kd.R_reads' HO318.out).2.1)
            (case side5 => repeat (first | exact (Kd.R_reads' HO320.out).2.2 | (with_reducible refine Kd.C_alloc ?_ _) | (with_reducible refine Kd.C_drewN ?_ _) | (with_reducible refine Kd.C_drew ?_)))
            (case side6 => exact (Kd.R_reads' HO320.out).2.1)
            rintro e w32 ⟨v325, rfl, ho0, hb⟩
            refine ⟨_, rfl, ?_⟩
            have n0_ := Aside0.mk (Kd.R_below (by (with_reducible repeat (first | apply Kd.R_alloc | apply Kd.R_drewN | apply Kd.R_drew)); exact HO318.out) hb)
            have n1_ := Aside0.mk (Kd.R_below (by (with_reducible repeat (first | apply Kd.R_alloc | apply Kd.R_drewN | apply Kd.R_drew)); exact HO320.out) hb)
            have n2_ := Aside0.mk (Kd.R_elder' (by (with_reducible repeat (first | apply Kd.R_alloc | apply Kd.R_drewN | apply Kd.R_drew)); exact HO323.out) (Kd.R_base ho0) hb)
            have n3_ := Aside0.mk (Kd.R_lower (Kd.R_new' ho0 (Kd.R_lt (by (with_reducible repeat (first | apply Kd.R_alloc | apply Kd.R_drewN | apply Kd.R_drew)); exact HO323.out))) (below_size (by repeat (first | (with_reducible first | exact HB.out | apply below_alloc | apply pw_below_drewN | apply below_drew1) | exact HB.out))))
            have n4_ := Aside0.mk (below_step (by repeat (first | (with_reducible first | exact HB.out | apply below_alloc | apply pw_below_drewN | apply below_drew1) | exact HB.out)) hb)
            clear HO318
            clear HO320
            clear HO323
            clear HB
            have HO318 := n0_
            have HO320 := n1_
            have HO323 := n2_
            have HO326 := n3_
            have HB := n4_
            clear n0_ n1_ n2_ n3_ n4_
            (try clear hb)
            (try clear hb2)
            (try clear hk)
            (try clear hi)
            (try clear ho0)
            refine hK.out _ _ trivial (fun hHeld => ?_)
            clear hK K
            refine norm_ (a' := ?_) ?_ ?_
            rotate_left
            · show Act.put _ (some 20) _ = _
              simp only [Act.put, List.setIfInBounds_toArray, List.set_cons_zero, List.set_cons_succ, i64_w, i32_w]
              rfl
            refine two_ (i := 2) (j := 7) (Ni := some 16) (Nj := some 21) #[true, true, true, true, true, true, true, false, false, false, false, false, false, false, false, false, false, false, false] #[true, true, false, true, true, true, true, true, false, false, false, false, false, false, false, false, false, false, false] rfl rfl rfl rfl (two_of HT_.out (by kernel_rfl)) (by decide) (by decide) (fun K hK => ?_) (fun K hK => ?_)
            · skip
              have hcv33 := own_string (P := Try.prog) Try.underlying23 Try.underlying5 Try.underlying9 (Kd.own_of_R HO323.out)
              refine value_ (w1 := ?_) (v := ?_) (by rfl) rfl ?_ ?_
              rotate_left 2
              · go_simp
                constructor
                · rfl
                · rfl
              clear hcv33
              refine hK.out _ _ trivial (fun hHeld => ?_)
              clear hK K
              refine norm_ (a' := ?_) ?_ ?_
              rotate_left
              · show Act.put _ (some 16) _ = _
                simp only [Act.put, List.setIfInBounds_toArray, List.set_cons_zero, List.set_cons_succ, i64_w, i32_w]
                rfl
              refine one_ (i := 7) (N := some 21) #[true, true, true, true, true, true, true, true, false, false, false, false, false, false, false, false, false, false, false] rfl rfl (one_of HT_.out (by kernel_rfl)) (by decide) (fun K hK => ?_)
              have hcv34 := own_string (P := Try.prog) Try.underlying23 Try.underlying5 Try.underlying9 (Kd.own_of_R HO326.out)
              refine value_ (w1 := ?_) (v := ?_) (by rfl) rfl ?_ ?_
              rotate_left 2
              · go_simp
                constructor
                · rfl
                · rfl
              clear hcv34
              refine hK.out _ _ trivial (fun hHeld => ?_)
              clear hK K
              refine norm_ (a' := ?_) ?_ ?_
              rotate_left
              · show Act.put _ (some 21) _ = _
                simp only [Act.put, List.setIfInBounds_toArray, List.set_cons_zero, List.set_cons_succ, i64_w, i32_w]
                rfl
              exact norm_ (by simp only [putAll, Act.put, List.setIfInBounds_toArray, List.set_cons_zero, List.set_cons_succ]) (hCont (v325) _ ⟨(by (with_reducible repeat (first | apply Kd.R_alloc | apply Kd.R_drewN | apply Kd.R_drew)); exact HO318.out), (by (with_reducible repeat (first | apply Kd.R_alloc | apply Kd.R_drewN | apply Kd.R_drew)); exact HO320.out), (by (with_reducible repeat (first | apply Kd.R_alloc | apply Kd.R_drewN | apply Kd.R_drew)); exact Kd.R_mono HO323.out (fun _ hk => hk.2)), (by (with_reducible repeat (first | apply Kd.R_alloc | apply Kd.R_drewN | apply Kd.R_drew)); exact Kd.R_mono HO326.out (fun _ hk => hk.2)), (by repeat (first | (with_reducible first | exact HB.out | apply below_alloc | apply pw_below_drewN | apply below_drew1) | exact HB.out))⟩)
            · skip
              have hcv33 := own_string (P := Try.prog) Try.underlying23 Try.underlying5 Try.underlying9 (Kd.own_of_R HO326.out)
              refine value_ (w1 := ?_) (v := ?_) (by rfl) rfl ?_ ?_
              rotate_left 2
              · go_simp
                constructor
                · rfl
                · rfl
              clear hcv33
              refine hK.out _ _ trivial (fun hHeld => ?_)
              clear hK K
              refine norm_ (a' := ?_) ?_ ?_
              rotate_left
              · show Act.put _ (some 21) _ = _
                simp only [Act.put, List.setIfInBounds_toArray, List.set_cons_zero, List.set_cons_succ, i64_w, i32_w]
                rfl
              refine one_ (i := 2) (N := some 16) #[true, true, true, true, true, true, true, true, false, false, false, false, false, false, false, false, false, false, false] rfl rfl (one_of HT_.out (by kernel_rfl)) (by decide) (fun K hK => ?_)
              have hcv34 := own_string (P := Try.prog) Try.underlying23 Try.underlying5 Try.underlying9 (Kd.own_of_R HO323.out)
              refine value_ (w1 := ?_) (v := ?_) (by rfl) rfl ?_ ?_
              rotate_left 2
              · go_simp
                constructor
                · rfl
                · rfl
              clear hcv34
              refine hK.out _ _ trivial (fun hHeld => ?_)
              clear hK K
              refine norm_ (a' := ?_) ?_ ?_
              rotate_left
              · show Act.put _ (some 16) _ = _
                simp only [Act.put, List.setIfInBounds_toArray, List.set_cons_zero, List.set_cons_succ, i64_w, i32_w]
                rfl
              exact norm_ (by simp only [putAll, Act.put, List.setIfInBounds_toArray, List.set_cons_zero, List.set_cons_succ]) (hCont (v325) _ ⟨(by (with_reducible repeat (first | apply Kd.R_alloc | apply Kd.R_drewN | apply Kd.R_drew)); exact HO318.out), (by (with_reducible repeat (first | apply Kd.R_alloc | apply Kd.R_drewN | apply Kd.R_drew)); exact HO320.out), (by (with_reducible repeat (first | apply Kd.R_alloc | apply Kd.R_drewN | apply Kd.R_drew)); exact Kd.R_mono HO323.out (fun _ hk => hk.2)), (by (with_reducible repeat (first | apply Kd.R_alloc | apply Kd.R_drewN | apply Kd.R_drew)); exact Kd.R_mono HO326.out (fun _ hk => hk.2)), (by repeat (first | (with_reducible first | exact HB.out | apply below_alloc | apply pw_below_drewN | apply below_drew1) | exact HB.out))⟩)
        rintro v325 w35 ⟨h0_, h1_, h2_, h3_, h4_⟩
        have n0_ : Aside0 (Kd.R (Kd.int .u32) 30 w35 w.heap.size (fun k_ => some k_ ≠ (.slice Ao29 t316.length co29 : Value).ownBlock) (.slice Ao28 t315.length co28) t315) := ⟨h0_⟩
        have n1_ : Aside0 (Kd.R (Kd.int .u32) 30 w35 w.heap.size (fun k_ => some k_ ≠ (.slice Ao28 t315.length co28 : Value).ownBlock) (.slice Ao29 t316.length co29) t316) := ⟨h1_⟩
        have n2_ : Aside0 (Kd.R (Kd.int .u8) 5 w35 w.heap.size (fun k_ => some k_ ≠ (v325 : Value).ownBlock) v322 t321) := ⟨h2_⟩
        have n3_ : Aside0 (Kd.R (Kd.int .u8) 5 w35 w.heap.size (fun k_ => some k_ ≠ (v322 : Value).ownBlock) v325 t324) := ⟨h3_⟩
        have n4_ : Aside0 (Below w.heap.size w w35) := ⟨h4_⟩
        clear HO318
        clear HO320
        clear HB
        clear h0_ h1_ h2_ h3_ h4_
        have HO318 := n0_
        have HO320 := n1_
        have HO323 := n2_
        have HO326 := n3_
        have HB := n4_
        clear n0_ n1_ n2_ n3_ n4_
        have hHeld := trivial
        refine norm_ (a' := ?_) ?_ ?_
        rotate_left
        · simp only [putAll, Act.put, List.setIfInBounds_toArray, List.set_cons_zero, List.set_cons_succ]
          rfl
        refine pure_ (i := 8) (N := some 22) (v := ?_) (a' := ?_) #[true, true, true, true, true, true, true, true, true, false, false, false, false, false, false, false, false, false, false] rfl rfl (any_of HT_.out (by kernel_rfl)) (fun _ _ _ h => h) (Or.inl ⟨by rfl, ?_⟩) ?_ ?_
        rotate_left
        · intro w'
          go_simp
          with_reducible rfl
        rotate_left
        · simp only [Act.put, List.setIfInBounds_toArray, List.set_cons_zero, List.set_cons_succ, i64_w, i32_w]
          rfl
        refine pure_ (i := 9) (N := some 23) (v := ?_) (a' := ?_) #[true, true, true, true, true, true, true, true, true, true, false, false, false, false, false, false, false, false, false] rfl rfl (any_of HT_.out (by kernel_rfl)) (fun _ _ _ h => h) (Or.inl ⟨by rfl, ?_⟩) ?_ ?_
        rotate_left
        · intro w'
          go_simp
          with_reducible rfl
        rotate_left
        · simp only [Act.put, List.setIfInBounds_toArray, List.set_cons_zero, List.set_cons_succ, i64_w, i32_w]
          rfl
        refine pure_ (i := 10) (N := some 24) (v := undef) (a' := ?_) #[true, true, true, true, true, true, true, true, true, true, true, false, false, false, false, false, false, false, false] rfl rfl (any_of HT_.out (by kernel_rfl)) (fun _ _ _ h => h) (Or.inr ⟨by rfl, rfl⟩) ?_ ?_
        rotate_left
        · simp only [Act.put, List.setIfInBounds_toArray, List.set_cons_zero, List.set_cons_succ, i64_w, i32_w]
          rfl
        refine pure_ (i := 11) (N := some 25) (v := undef) (a' := ?_) #[true, true, true, true, true, true, true, true, true, true, true, true, false, false, false, false, false, false, false] rfl rfl (any_of HT_.out (by kernel_rfl)) (fun _ _ _ h => h) (Or.inr ⟨by rfl, rfl⟩) ?_ ?_
        rotate_left
        · simp only [Act.put, List.setIfInBounds_toArray, List.set_cons_zero, List.set_cons_succ, i64_w, i32_w]
          rfl
        refine pure_ (i := 12) (N := some 26) (v := undef) (a' := ?_) #[true, true, true, true, true, true, true, true, true, true, true, true, true, false, false, false, false, false, false] rfl rfl (any_of HT_.out (by kernel_rfl)) (fun _ _ _ h => h) (Or.inr ⟨by rfl, rfl⟩) ?_ ?_
        rotate_left
        · simp only [Act.put, List.setIfInBounds_toArray, List.set_cons_zero, List.set_cons_succ, i64_w, i32_w]
          rfl
        refine pure_ (i := 13) (N := some 27) (v := undef) (a' := ?_) #[true, true, true, true, true, true, true, true, true, true, true, true, true, true, false, false, false, false, false] rfl rfl (any_of HT_.out (by kernel_rfl)) (fun _ _ _ h => h) (Or.inr ⟨by rfl, rfl⟩) ?_ ?_
        rotate_left
        · simp only [Act.put, List.setIfInBounds_toArray, List.set_cons_zero, List.set_cons_succ, i64_w, i32_w]
          rfl
        refine pure_ (i := 14) (N := some 28) (v := undef) (a' := ?_) #[true, true, true, true, true, true, true, true, true, true, true, true, true, true, true, false, false, false, false] rfl rfl (any_of HT_.out (by kernel_rfl)) (fun _ _ _ h => h) (Or.inr ⟨by rfl, rfl⟩) ?_ ?_
        rotate_left
        · simp only [Act.put, List.setIfInBounds_toArray, List.set_cons_zero, List.set_cons_succ, i64_w, i32_w]
          rfl
        refine pure_ (i := 15) (N := some 29) (v := undef) (a' := ?_) #[true, true, true, true, true, true, true, true, true, true, true, true, true, true, true, true, false, false, false] rfl rfl (any_of HT_.out (by kernel_rfl)) (fun _ _ _ h => h) (Or.inr ⟨by rfl, rfl⟩) ?_ ?_
        rotate_left
        · simp only [Act.put, List.setIfInBounds_toArray, List.set_cons_zero, List.set_cons_succ, i64_w, i32_w]
          rfl
        refine pure_ (i := 16) (N := some 30) (v := undef) (a' := ?_) #[true, true, true, true, true, true, true, true, true, true, true, true, true, true, true, true, true, false, false] rfl rfl (any_of HT_.out (by kernel_rfl)) (fun _ _ _ h => h) (Or.inr ⟨by rfl, rfl⟩) ?_ ?_
        rotate_left
        · simp only [Act.put, List.setIfInBounds_toArray, List.set_cons_zero, List.set_cons_succ, i64_w, i32_w]
          rfl
        refine pure_ (i := 17) (N := some 31) (v := ?_) (a' := ?_) #[true, true, true, true, true, true, true, true, true, true, true, true, true, true, true, true, true, true, false] rfl rfl (any_of HT_.out (by kernel_rfl)) (fun _ _ _ h => h) (Or.inl ⟨by rfl, ?_⟩) ?_ ?_
        rotate_left
        · intro w'
          go_simp
          with_reducible rfl
        rotate_left
        · simp only [Act.put, List.setIfInBounds_toArray, List.set_cons_zero, List.set_cons_succ, i64_w, i32_w]
          rfl
        refine pure_ (i := 18) (N := some 2) (v := ?_) (a' := ?_) #[true, true, true, true, true, true, true, true, true, true, true, true, true, true, true, true, true, true, true] rfl rfl (any_of HT_.out (by kernel_rfl)) (fun _ _ _ h => h) (Or.inl ⟨by rfl, ?_⟩) ?_ ?_
        rotate_left
        · intro w'
          go_simp
          with_reducible rfl
        rotate_left
        · simp only [Act.put, List.setIfInBounds_toArray, List.set_cons_zero, List.set_cons_succ, i64_w, i32_w]
          rfl
        refine done_ (done_of HT_.out (by kernel_rfl)) ?_
        try go_wp2
        go_ret
        exact ⟨by first | rfl | (simp [errW_none, errW_some] <;> rfl) | (simp [*, errW_none, errW_some] <;> rfl), by repeat (first | (with_reducible first | exact HB.out | apply below_alloc | apply pw_below_drewN | apply below_drew1) | exact HB.out)⟩
  · replace c3 := Bool.eq_false_iff.mpr c3
    subst c3
    have H1 : (some false) = some r := by rw [if_neg (show ¬ (false = true) by decide)] at H; exact H
    clear H
    have H := H1
    clear H1
    obtain rfl := Option.some.inj H
    go_enter Try.func8, Try.ntmps8
    go_wp2_with (first | ((with_reducible refine gate_callee (f := 29) rfl ?_); refine goesL_ (some 5) rfl rfl Try.func29 (by kernel_rfl) rfl #[] rfl (by (try simp only [List.map_toArray, List.map_cons, List.map_nil]); first | done | rfl | (simp only [List.length_drop, List.length_take]; rfl)) ?_; (with_reducible refine (mootlaw02_alive.calls  false _ A2.out).mono ?_); rintro e w36 ⟨rfl, hb⟩; refine ⟨_, rfl, ?_⟩; have n0_ := Aside0.mk (below_step (by repeat (first | (with_reducible first | exact HB.out | apply below_alloc | apply pw_below_drewN | apply below_drew1) | exact HB.out)) hb); clear HB; have HB := n0_; clear n0_; (try clear hb); (try clear hb2); (try clear hk); (try clear hi)))
    go_ret
    exact ⟨by first | rfl | (simp [errW_none, errW_some] <;> rfl) | (simp [*, errW_none, errW_some] <;> rfl), by repeat (first | (with_reducible first | exact HB.out | apply below_alloc | apply pw_below_drewN | apply below_drew1) | exact HB.out)⟩

/-- THE ONE PURE STATEMENT of mootlaw02_ShaTells: yours. -/
def mootlaw02_ShaTells.Pure : Prop := ∀ (l0 : List Int), l0.length ≤ maxLen → l0.length * 1 ≤ 140737488351232 → (∀ x ∈ l0, (Lit.int .u8 x).wf = true) → ∃ k, mootlaw02_ShaTells.f k l0 = some true
theorem mootlaw02_ShaTells.walk (P : mootlaw02_ShaTells.Pure) (a0 : Option Addr) (len0 cap0 : Nat) (z0 : List Int) (w : World) (w0 : (a0 = none ∧ len0 = 0 ∧ cap0 = 0 ∧ z0 = []) ∨ ∃ x, a0 = some x ∧ len0 ≤ cap0 ∧ cap0 ≤ maxLen ∧ z0.length = cap0 ∧ (∀ i, i < z0.length → w.cell? (x.add i) = some (.int .u8 (z0.getD i 0))) ∧ ∀ n ∈ z0, (Lit.int .u8 n).wf = true) (y0 : len0 * 1 ≤ 140737488351232) :
    Calls Try.prog 8 #[.slice a0 len0 cap0] w fun e w' => e = .returned (.bool true) ∧ Below w.heap.size w w' := by
  obtain ⟨l0, rfl, hr0, hm0, hw0, hc0⟩ := ReadsInt.ofRowC w0
  obtain ⟨k, h⟩ := P l0 hm0 y0 hw0
  refine (mootlaw02_ShaTells.calls k _ _ l0 true w (Kd.C_of_reads (d := (0 : Int)) (h1 := fun _ => rfl) hr0) hc0 h).mono ?_
  rintro e w' ⟨rfl, hd⟩
  exact ⟨rfl, hd⟩

end Go.Proofs.Ytclmikbbjhdplaa.X
-- Written by a program of this session (a turn of the kit's print with contracts by hand). Not trusted: Lean checks it.
namespace Go.Proofs.Ytclmikbbjhdplaa.X
open Go.RowKit Go.Proofs.YtclmikbbjhdplaaW.PrintWords Go.Proofs.YtclmikbbjhdplaaW.PrintLast Go.Proofs.YtclmikbbjhdplaaW.PrintMore
attribute [local go_sem] max2_int min2_int max_two min_two max_three min_three max_four min_four   -- for this text's walks alone
set_option linter.unusedVariables false
set_option linter.unusedSimpArgs false

/-! ### mootref01_Get: function 26 -/
def mootref01_Get.l0 : Nat → List Int → Int → Int → Option (Int)
  | 0, _, _, _ => none
  | k + 1, x0, x3, x4 => if x4 < (x0.length : Int) then (if 0 ≤ x4 then (mootref01_Get.l0 k x0 (Int.tmod (IntKind.u64.wrap ((IntKind.u64.wrap (x3 * 256)) + (IntKind.u64.wrap (rd x0 x4)))) 4611686018427387904) (wrap64 (x4 + 1))) else (none)) else (some (wrap64 (x3)))
def mootref01_Get.f (k : Nat) (l0 : List Int) : Option (Int) := mootref01_Get.l0 k l0 0 0
theorem mootref01_Get.mono_l : ∀ k, (∀ y0 y1 y2, LeO (mootref01_Get.l0 k y0 y1 y2) (mootref01_Get.l0 (k + 1) y0 y1 y2))
  | 0 => fun _ _ _ r h => by simp [mootref01_Get.l0] at h
  | k + 1 => by
    have ih0 := mootref01_Get.mono_l k
    · intro y0 y1 y2
      unfold mootref01_Get.l0
      repeat' first
      | (with_reducible exact ih0 _ _ _)
      | (with_reducible exact LeO.refl _)
      | (with_reducible exact LeO.none _)
      | (with_reducible refine LeO.ite ?_ ?_)
      | (with_reducible refine LeO.bind ?_ (fun _ => ?_))
      | exact ih0 _ _ _
      | exact LeO.none _
      | refine LeO.ite ?_ ?_
      | refine LeO.bind ?_ (fun _ => ?_)
theorem mootref01_Get.mono : ∀ a0 k, LeO (mootref01_Get.f k a0) (mootref01_Get.f (k + 1) a0) := by
  intro a0 k
  have ih0 := mootref01_Get.mono_l k
  unfold mootref01_Get.f
  repeat' first
      | (with_reducible exact ih0 _ _ _)
      | (with_reducible exact LeO.refl _)
      | (with_reducible exact LeO.none _)
      | (with_reducible refine LeO.ite ?_ ?_)
      | (with_reducible refine LeO.bind ?_ (fun _ => ?_))
      | exact ih0 _ _ _
      | exact LeO.none _
      | refine LeO.ite ?_ ?_
      | refine LeO.bind ?_ (fun _ => ?_)
set_option maxHeartbeats 8000000 in
set_option maxRecDepth 100000 in
theorem mootref01_Get.calls (k : Nat) (A0 : Option Addr) (c0 : Nat) (l0 : List Int) (r : Int) (w : World) (hr0 : Kd.C (Kd.int .u8) w A0 l0.length l0) (hc0 : l0.length ≤ c0) (h : mootref01_Get.f k l0 = some r) :
    Calls Try.prog 26 #[.slice A0 l0.length c0] w fun e w' => e = .returned (.int .i64 r) ∧ Drawn0 w w' := by
  have HR0 := Aside0.mk hr0
  have HC0 := Aside0.mk hc0
  clear hr0 hc0
  have H : (mootref01_Get.l0 k l0 0 0) = some r := h
  clear h
  have H' := Aside0.mk H
  clear H
  go_enter Try.func26, Try.ntmps26
  go_wp2
  go_loopg [3, 4] k (fun kq v3 v4 w' => ∃ (x3_1 : Int) (x4_1 : Int), v3 = .int .u64 x3_1 ∧ v4 = .int .i64 x4_1 ∧ Aside0 (mootref01_Get.l0 kq l0 x3_1 x4_1 = some r) ∧ Aside0 (kq ≤ k) ∧ Drawn0 w w')
  case atStart => exact ⟨(0), (0), (by first | rfl | (simp; done) | (simp [*]; done)), (by first | rfl | (simp; done) | (simp [*]; done)), H', ⟨Nat.le_refl _⟩, by repeat (first | exact Drawn0.refl _ | apply Drawn0.step)⟩
  case round =>
    clear H'
    obtain ⟨x3_1, x4_1, rfl, rfl, HA, HK1, ⟨m1, rfl⟩⟩ := hrel
    cases gk with
    | zero => exact absurd HA.out (by simp [mootref01_Get.l0])
    | succ k1 =>
      have H := HA.out
      clear HA
      simp only [mootref01_Get.l0] at H
      by_cases c2 : x4_1 < (l0.length : Int)
      · rw [if_pos c2] at H
        have c2b0 : decide (x4_1 < (l0.length : Int)) = true := decide_eq_true c2
        clear c2
        by_cases c3 : 0 ≤ x4_1
        · rw [if_pos c3] at H
          have c3b0 : decide (0 ≤ x4_1) = true := decide_eq_true c3
          clear c3
          have H' := Aside0.mk H
          clear H
          have p149 : 0 ≤ (x4_1 : Int) := of_decide_eq_true (by first | (with_reducible assumption) | assumption)
          have q149 : x4_1 < (l0.length : Int) := of_decide_eq_true (by first | (with_reducible assumption) | assumption)
          obtain ⟨ad149, e149, hx149_0⟩ := Kd.at_int HR0.out x4_1 p149 q149
          cases e149
          replace p149 := eq_true p149
          replace q149 := eq_true q149
          go_wp2
          go_roundg k1
          case measure => have := HK1.out; omega
          case rel => exact ⟨(Int.tmod (IntKind.u64.wrap ((IntKind.u64.wrap (x3_1 * 256)) + (IntKind.u64.wrap (rd l0 x4_1)))) 4611686018427387904), (wrap64 (x4_1 + 1)), (by first | rfl | (simp; done) | (simp [*]; done)), (by first | rfl | (simp; done) | (simp [*]; done)), H', ⟨by have := HK1.out; omega⟩, by repeat (first | exact Drawn0.refl _ | apply Drawn0.step)⟩
        · rw [if_neg c3] at H
          exact absurd H (by simp)
      · rw [if_neg c2] at H
        have c2b0 : decide (x4_1 < (l0.length : Int)) = false := decide_eq_false c2
        clear c2
        obtain rfl := Option.some.inj H
        go_wp2
        go_ret
        exact ⟨by first | rfl | (simp; done) | (simp [*]; done), by repeat (first | exact Drawn0.refl _ | apply Drawn0.step)⟩

end Go.Proofs.Ytclmikbbjhdplaa.X
/- The reference's Get and Word, as plain lists. -/
namespace Go.Proofs.Ytclmikbbjhdplaa.X
open Go.RowKit Go.Proofs.YtclmikbbjhdplaaW.PrintWords
set_option linter.unusedVariables false
set_option linter.unusedSimpArgs false
theorem or_word (x c : Int) (h0 : 0 ≤ x) (hc : 0 ≤ c ∧ c < 256) : Go.bits .or .u32 ((x * 256) % 4294967296) (c % 4294967296) = (((x * 256) % 4294967296) + (c % 4294967296)) % 4294967296 := by
  have e : (x * 256) % 4294967296 = ((x % 16777216) * 256) % 4294967296 := by omega
  rw [e, or8 (x % 16777216) c (by omega) (by omega) hc]
  omega
theorem word_same (l : List Int) (hl : Octets l) (a : Int) : ∀ (k : Nat) (x i : Int), 0 ≤ x → octets_Word.l0 k l a x i = mootref01_Word.l0 k l a x i
  | 0, x, i, h0 => rfl
  | k + 1, x, i, h0 => by
    rw [octets_Word.l0, mootref01_Word.l0]
    have hr : ∀ j : Int, 0 ≤ rd l j ∧ rd l j < 256 := by
      intro j
      unfold rd
      by_cases c : j.toNat < l.length
      · rw [List.getD_eq_getElem?_getD, List.getElem?_eq_getElem c]
        exact hl _ (List.getElem_mem c)
      · rw [List.getD_eq_getElem?_getD, List.getElem?_eq_none (by omega)]
        decide
    rw [or_word x _ h0 (hr _)]
    rw [word_same l hl a k _ _ (by omega), word_same l hl a k ((x * 256) % 4294967296) _ (by omega)]
theorem word_some (l : List Int) (hl : l.length < 4611686018427387904) (a : Int) : ∀ (k i : Nat) (x : Int), i ≤ 4 → 4 < k + i → ∃ v, octets_Word.l0 k l a x (i : Int) = some v
  | 0, i, x, h, hk => by omega
  | k + 1, i, x, h, hk => by
    rw [octets_Word.l0]
    by_cases c : (i : Int) < 4
    · have e3 : wrap64 ((i : Int) + 1) = ((i + 1 : Nat) : Int) := by rw [wrap64_id _ (by omega) (by omega)]; rfl
      have e1 : wrap64 ((l.length : Int) - (i : Int)) = (l.length : Int) - i := wrap64_id _ (by omega) (by omega)
      rw [if_pos c, e3, e1]
      by_cases c1 : a ≥ 0
      · rw [if_pos c1]
        by_cases c2 : a < (l.length : Int) - i
        · have e2 : wrap64 (a + (i : Int)) = a + i := wrap64_id _ (by omega) (by omega)
          rw [if_pos c2, e2, if_pos (by omega), if_pos (by omega)]
          exact word_some l hl a k (i + 1) _ (by omega) (by omega)
        · rw [if_neg c2]
          exact word_some l hl a k (i + 1) _ (by omega) (by omega)
      · rw [if_neg c1]
        exact word_some l hl a k (i + 1) _ (by omega) (by omega)
    · rw [if_neg c]
      exact ⟨x, rfl⟩
/-- Both words, whatever the place. -/
theorem words_same (l : List Int) (hl : Octets l) (hn : l.length < 4611686018427387904) (a : Int) : ∃ v, octets_Word.f 6 l a = some v ∧ mootref01_Word.f 6 l a = some v := by
  obtain ⟨v, hv⟩ := word_some l hn a 6 0 0 (by omega) (by omega)
  have h2 := word_same l hl a 6 0 0 (by omega)
  refine ⟨v, hv, ?_⟩
  unfold mootref01_Word.f
  rw [← h2]
  exact hv
theorem refget_l0 (l : List Int) (hl : Octets l) (hm : l.length < 4611686018427387904) (d : Nat) : ∀ (k i : Nat) (acc u : Int), 0 ≤ u → u < 18446744073709551616 → acc = u % 4611686018427387904 → i + d = l.length → d < k →
    mootref01_Get.l0 k l acc (i : Int) = some (getF u (l.drop i) % 4611686018427387904) := by
  induction d with
  | zero =>
    intro k i acc u h0 h1 ha hd hk
    obtain ⟨k, rfl⟩ : ∃ m, k = m + 1 := ⟨k - 1, by omega⟩
    rw [mootref01_Get.l0, if_neg (by omega), List.drop_of_length_le (by omega)]
    simp only [getF, List.foldl_nil, Option.some.injEq]
    unfold wrap64
    omega
  | succ d ih =>
    intro k i acc u h0 h1 ha hd hk
    obtain ⟨k, rfl⟩ : ∃ m, k = m + 1 := ⟨k - 1, by omega⟩
    have hi : i < l.length := by omega
    have hr := hl _ (List.getElem_mem hi)
    have e3 : wrap64 ((i : Int) + 1) = ((i + 1 : Nat) : Int) := by rw [wrap64_id _ (by omega) (by omega)]; rfl
    rw [mootref01_Get.l0, if_pos (by omega), if_pos (by omega), e3, rd_at l i hi, List.drop_eq_getElem_cons hi]
    rw [show getF u (l[i] :: l.drop (i + 1)) = getF ((u * 256 + l[i]) % 18446744073709551616) (l.drop (i + 1)) from rfl]
    refine ih k (i + 1) _ _ (by omega) (by omega) ?_ (by omega) (by omega)
    rw [IntKind.wrap_u64, IntKind.wrap_u64, IntKind.wrap_u64]
    generalize l[i] = c at hr ⊢
    rw [Int.tmod_eq_emod_of_nonneg (by omega)]
    omega
theorem refget_f (l : List Int) (hl : Octets l) (hm : l.length < 4611686018427387904) (k : Nat) (hk : l.length < k) : mootref01_Get.f k l = some (getF 0 l % 4611686018427387904) := by
  have := refget_l0 l hl hm l.length k 0 0 0 (by omega) (by omega) (by omega) (by omega) hk
  simpa [mootref01_Get.f] using this
theorem put_word (x : Int) (h0 : 0 ≤ x) (h1 : x < 4294967296) (k : Nat) (hk : 9 ≤ k) : mootref01_Put.f k x 4 = some (oct4 x) := by
  rw [refput_f x 4 k hk]
  have hw : IntKind.u64.wrap x = x := wraps_u64 x h0 (by omega)
  unfold octets_Put.f
  rw [hw, show (mn (mx 4 0) 8).toNat = 4 from by decide]
  simp only [putL, oct4, Option.some.injEq]
  rw [show (256 : Int) ^ 3 = 16777216 from by decide, show (256 : Int) ^ 2 = 65536 from by decide, show (256 : Int) ^ 1 = 256 from by decide, show (256 : Int) ^ 0 = 1 from by decide, Int.ediv_one]
end Go.Proofs.Ytclmikbbjhdplaa.X
/- The reference's sum of its constants comes to the same. -/
namespace Go.Proofs.Ytclmikbbjhdplaa.X
open Go.RowKit Go.Proofs.YtclmikbbjhdplaaW.PrintWords Go.Proofs.YtclmikbbjhdplaaW.PrintLast Go.Proofs.YtclmikbbjhdplaaW.PrintMore
set_option linter.unusedVariables false
set_option linter.unusedSimpArgs false

theorem tn2 (x : Int) : mootref01_turn.f x 2 = some (rotA x 2) := turn_of x 2 30 (by decide +kernel) (by omega) (by omega) (by omega)
theorem tn6 (x : Int) : mootref01_turn.f x 6 = some (rotA x 6) := turn_of x 6 26 (by decide +kernel) (by omega) (by omega) (by omega)
theorem tn7 (x : Int) : mootref01_turn.f x 7 = some (rotA x 7) := turn_of x 7 25 (by decide +kernel) (by omega) (by omega) (by omega)
theorem tn11 (x : Int) : mootref01_turn.f x 11 = some (rotA x 11) := turn_of x 11 21 (by decide +kernel) (by omega) (by omega) (by omega)
theorem tn13 (x : Int) : mootref01_turn.f x 13 = some (rotA x 13) := turn_of x 13 19 (by decide +kernel) (by omega) (by omega) (by omega)
theorem tn17 (x : Int) : mootref01_turn.f x 17 = some (rotA x 17) := turn_of x 17 15 (by decide +kernel) (by omega) (by omega) (by omega)
theorem tn18 (x : Int) : mootref01_turn.f x 18 = some (rotA x 18) := turn_of x 18 14 (by decide +kernel) (by omega) (by omega) (by omega)
theorem tn19 (x : Int) : mootref01_turn.f x 19 = some (rotA x 19) := turn_of x 19 13 (by decide +kernel) (by omega) (by omega) (by omega)
theorem tn22 (x : Int) : mootref01_turn.f x 22 = some (rotA x 22) := turn_of x 22 10 (by decide +kernel) (by omega) (by omega) (by omega)
theorem tn25 (x : Int) : mootref01_turn.f x 25 = some (rotA x 25) := turn_of x 25 7 (by decide +kernel) (by omega) (by omega) (by omega)
theorem word_more : ∀ (k : Nat) (l : List Int) (a v : Int), mootref01_Word.f 6 l a = some v → mootref01_Word.f (6 + k) l a = some v
  | 0, l, a, v, h => h
  | k + 1, l, a, v, h => mootref01_Word.mono l a (6 + k) v (word_more k l a v h)
theorem refword_at (p : List Int) (hp : Octets p) (n t : Nat) (ht : t < 16) (hn : 64 * n + 64 ≤ p.length) (hpl : p.length ≤ 100000) (k : Nat) (hk : 6 ≤ k) :
    mootref01_Word.f k p ((64 * n + 4 * t : Nat) : Int) = some (wordA ((p.drop (64 * n)).take 64) (4 * (t : Int))) := by
  obtain ⟨j, rfl⟩ : ∃ j, k = 6 + j := ⟨k - 6, by omega⟩
  refine word_more j _ _ _ ?_
  obtain ⟨v, h1, h2⟩ := words_same p hp (by omega) ((64 * n + 4 * t : Nat) : Int)
  rw [h2]
  rw [word_at p _ (by omega) (by omega) (by omega)] at h1
  rw [wordA_block p hp n t ht hn, ← Option.some.inj h1]
  have hb : ∀ j : Nat, j < 4 → 0 ≤ rd p ((64 * n + 4 * t + j : Nat) : Int) ∧ rd p ((64 * n + 4 * t + j : Nat) : Int) < 256 := by
    intro j hj
    rw [rd_at p (64 * n + 4 * t + j) (by omega)]
    exact hp _ (List.getElem_mem _)
  congr 1
  exact word4_join _ _ _ _ _ _ rfl rfl rfl rfl (hb 0 (by omega)) (hb 1 (by omega)) (hb 2 (by omega)) (hb 3 (by omega))
theorem sum_l1 (s p : List Int) (hp : Octets p) (n : Nat) (hn : 64 * n + 64 ≤ p.length) (hpl : p.length ≤ 100000) (hs : s.length = 8) : ∀ (d k t : Nat), t + d = 64 → 10 ≤ k →
    mootref01_Sum.l1 (k + d + 1) K0 s p ((64 * n : Nat) : Int) (wsA ((p.drop (64 * n)).take 64) t) (t : Int) = mootref01_Sum.l2 k K0 s p ((64 * n : Nat) : Int) (wsA ((p.drop (64 * n)).take 64) 64) s 0
  | 0, k, t, ht, hk => by
    obtain rfl : t = 64 := by omega
    rw [Nat.add_zero, mootref01_Sum.l1, if_neg (by omega), Option.bind_some, if_pos (by rw [hs]; decide), List.nil_append]
  | d + 1, k, t, ht, hk => by
    have hw : wrap64 ((t : Int) + 1) = ((t + 1 : Nat) : Int) := by rw [wrap64_id _ (by omega) (by omega)]; rfl
    have hl := wsA_len ((p.drop (64 * n)).take 64) t
    obtain ⟨ws, hws⟩ : ∃ ws, wsA ((p.drop (64 * n)).take 64) t = ws := ⟨_, rfl⟩
    rw [hws] at hl
    have ih := sum_l1 s p hp n hn hpl hs d k (t + 1) (by omega) hk
    rw [wsA, hws] at ih
    rw [show k + (d + 1) + 1 = (k + d + 1) + 1 by omega, mootref01_Sum.l1, if_pos (by omega), hws]
    by_cases c : t < 16
    · rw [if_pos c] at ih
      rw [if_pos (by omega), wrap64_id (4 * (t : Int)) (by omega) (by omega), wrap64_id _ (by omega) (by omega), show (((64 * n : Nat) : Int) + 4 * (t : Int)) = ((64 * n + 4 * t : Nat) : Int) by omega, refword_at p hp n t c hn hpl _ (by omega), Option.bind_some, if_pos (by omega), hw]
      exact ih
    · rw [if_neg c] at ih
      have e15 : wrap64 ((t : Int) - 15) = (t : Int) - 15 := wrap64_id _ (by omega) (by omega)
      have e2 : wrap64 ((t : Int) - 2) = (t : Int) - 2 := wrap64_id _ (by omega) (by omega)
      have e7 : wrap64 ((t : Int) - 7) = (t : Int) - 7 := wrap64_id _ (by omega) (by omega)
      have e16 : wrap64 ((t : Int) - 16) = (t : Int) - 16 := wrap64_id _ (by omega) (by omega)
      rw [if_neg (by omega), e15, e2, e7, e16, if_pos (by omega), if_pos (by omega), if_pos (by omega), if_pos (by omega), tn17, Option.bind_some, tn19, Option.bind_some, if_pos (by omega), if_pos (by omega), tn7, Option.bind_some, tn18, Option.bind_some, if_pos (by omega), if_pos (by omega), if_pos (by omega), hw]
      have hv : ((((((Go.bits .xor .u32 (Go.bits .xor .u32 (rotA (rd ws ((t : Int) - 2)) 17) (rotA (rd ws ((t : Int) - 2)) 19)) ((rd ws ((t : Int) - 2)) / 1024)) + (rd ws ((t : Int) - 7))) % 4294967296) + (Go.bits .xor .u32 (Go.bits .xor .u32 (rotA (rd ws ((t : Int) - 15)) 7) (rotA (rd ws ((t : Int) - 15)) 18)) ((rd ws ((t : Int) - 15)) / 8))) % 4294967296) + (rd ws ((t : Int) - 16))) % 4294967296 = nextW ws (t : Int) := by
        unfold nextW
        omega
      rw [hv]
      exact ih
theorem sum_l2 (s p ws : List Int) (x9 : Int) (hs : s.length = 8) (hw : ws.length = 64) : ∀ (d k t : Nat), t + d = 64 →
    mootref01_Sum.l2 (k + d + 1) K0 s p x9 ws (roundsA s K0 ws t) (t : Int) = mootref01_Sum.l3 k K0 s p x9 (roundsA s K0 ws 64) 0
  | 0, k, t, ht => by
    obtain rfl : t = 64 := by omega
    rw [Nat.add_zero, mootref01_Sum.l2, if_neg (by omega)]
  | d + 1, k, t, ht => by
    have hwr : wrap64 ((t : Int) + 1) = ((t + 1 : Nat) : Int) := by rw [wrap64_id _ (by omega) (by omega)]; rfl
    have hl := roundsA_len (ks := K0) (ws := ws) hs t
    have ih := sum_l2 s p ws x9 hs hw d k (t + 1) (by omega)
    rw [roundsA] at ih
    obtain ⟨v, hv⟩ : ∃ v, roundsA s K0 ws t = v := ⟨_, rfl⟩
    rw [hv] at hl ih
    have hk0 := K0_len
    rw [show k + (d + 1) + 1 = (k + d + 1) + 1 by omega, mootref01_Sum.l2, hv, if_pos (by omega), if_pos (by omega), if_pos (by omega), if_pos (by omega), tn6, Option.bind_some, tn11, Option.bind_some, tn25, Option.bind_some, if_pos (by omega), if_pos (by omega), if_pos (by omega), if_pos (by omega), if_pos (by omega), tn2, Option.bind_some, tn13, Option.bind_some, tn22, Option.bind_some, if_pos (by omega), if_pos (by omega), if_pos (by omega), hwr]
    have hT : ((((((((rd v 7) + (Go.bits .xor .u32 (Go.bits .xor .u32 (rotA (rd v 4) 6) (rotA (rd v 4) 11)) (rotA (rd v 4) 25))) % 4294967296) + (Go.bits .xor .u32 (Go.bits .and .u32 (rd v 4) (rd v 5)) (Go.bits .and .u32 (Go.bits .xor .u32 4294967295 (rd v 4)) (rd v 6)))) % 4294967296) + (rd K0 (t : Int))) % 4294967296) + (rd ws (t : Int))) % 4294967296 = t1f v (rd K0 (t : Int)) (rd ws (t : Int)) := by
      unfold t1f S1f
      omega
    rw [hT]
    have hT2 : (t1f v (rd K0 (t : Int)) (rd ws (t : Int)) + (((Go.bits .xor .u32 (Go.bits .xor .u32 (rotA (rd v 0) 2) (rotA (rd v 0) 13)) (rotA (rd v 0) 22)) + (Go.bits .xor .u32 (Go.bits .xor .u32 (Go.bits .and .u32 (rd v 0) (rd v 1)) (Go.bits .and .u32 (rd v 0) (rd v 2))) (Go.bits .and .u32 (rd v 1) (rd v 2)))) % 4294967296)) % 4294967296 = (t1f v (rd K0 (t : Int)) (rd ws (t : Int)) + t2f v) % 4294967296 := by
      unfold t2f S0f
      omega
    rw [hT2]
    exact ih
theorem sum_l3 (s p v : List Int) (x9 : Int) (hs : s.length = 8) (hv : v.length = 8) : ∀ (d k t : Nat), t + d = 8 →
    mootref01_Sum.l3 (k + d + 1) K0 (addA s v t) p x9 v (t : Int) = mootref01_Sum.l0 k K0 (addA s v 8) p (wrap64 (x9 + 64))
  | 0, k, t, ht => by
    obtain rfl : t = 8 := by omega
    rw [Nat.add_zero, mootref01_Sum.l3, if_neg (by omega)]
  | d + 1, k, t, ht => by
    have hwr : wrap64 ((t : Int) + 1) = ((t + 1 : Nat) : Int) := by rw [wrap64_id _ (by omega) (by omega)]; rfl
    have hl : (addA s v t).length = 8 := by rw [addA_len]; exact hs
    have ih := sum_l3 s p v x9 hs hv d k (t + 1) (by omega)
    rw [addA] at ih
    rw [show k + (d + 1) + 1 = (k + d + 1) + 1 by omega, mootref01_Sum.l3, if_pos (by omega), if_pos (by omega), if_pos (by omega), if_pos (by omega), Int.toNat_natCast, hwr]
    exact ih
theorem sum_block (p : List Int) (hp : Octets p) (n : Nat) (hn : 64 * n + 64 ≤ p.length) (hpl : p.length ≤ 100000) (k : Nat) (hk : 10 ≤ k) :
    mootref01_Sum.l0 (k + 140) K0 (statesA p n) p ((64 * n : Nat) : Int) = mootref01_Sum.l0 k K0 (statesA p (n + 1)) p ((64 * (n + 1) : Nat) : Int) := by
  have hs := statesA_len p n
  rw [statesA, blockA]
  obtain ⟨s, hss⟩ : ∃ s, statesA p n = s := ⟨_, rfl⟩
  rw [hss] at hs ⊢
  have hv := roundsA_len (ks := K0) (ws := wsA ((p.drop (64 * n)).take 64) 64) hs 64
  rw [show k + 140 = (k + 139) + 1 by omega, mootref01_Sum.l0, if_pos (by omega)]
  have h1 := sum_l1 s p hp n hn hpl hs 64 (k + 74) 0 (by omega) (by omega)
  rw [show k + 74 + 64 + 1 = k + 139 by omega, wsA] at h1
  have h2 := sum_l2 s p (wsA ((p.drop (64 * n)).take 64) 64) ((64 * n : Nat) : Int) hs (wsA_len _ 64) 64 (k + 9) 0 (by omega)
  rw [show k + 9 + 64 + 1 = k + 74 by omega, roundsA] at h2
  have h3 := sum_l3 s p (roundsA s K0 (wsA ((p.drop (64 * n)).take 64) 64) 64) ((64 * n : Nat) : Int) hs hv 8 k 0 (by omega)
  rw [show k + 8 + 1 = k + 9 by omega, addA] at h3
  have e0 : ((0 : Nat) : Int) = 0 := rfl
  rw [e0] at h1 h2 h3
  rw [h1, h2, h3, addA_turn _ s hv hs, wrap64_id _ (by omega) (by omega)]
  congr 1
theorem sum_l0 (p : List Int) (hp : Octets p) (hpl : p.length ≤ 100000) (m : Nat) (hm : p.length = 64 * m) : ∀ (d k n : Nat), n + d = m → 10 ≤ k →
    mootref01_Sum.l0 (k + 140 * d) K0 (statesA p n) p ((64 * n : Nat) : Int) = mootref01_Sum.l0 k K0 (statesA p m) p ((64 * m : Nat) : Int)
  | 0, k, n, hn, hk => by
    obtain rfl : n = m := by omega
    rfl
  | d + 1, k, n, hn, hk => by
    rw [show k + 140 * (d + 1) = (k + 140 * d) + 140 by omega, sum_block p hp n (by omega) hpl (k + 140 * d) (by omega)]
    exact sum_l0 p hp hpl m hm d k (n + 1) (by omega) hk
theorem addA_all (v s : List Int) (hv : v.length = 8) (hs : s.length = 8) : ∀ x ∈ addA v s 8, 0 ≤ x ∧ x < 4294967296 := by
  match v, s, hv, hs with
  | [a0, a1, a2, a3, a4, a5, a6, a7], [b0, b1, b2, b3, b4, b5, b6, b7], _, _ =>
    intro x hx
    simp [addA, rd] at hx
    rcases hx with rfl | rfl | rfl | rfl | rfl | rfl | rfl | rfl <;> omega
theorem states_range (p : List Int) : ∀ n, ∀ x ∈ statesA p n, 0 ≤ x ∧ x < 4294967296
  | 0 => by
    show ∀ x ∈ H0, 0 ≤ x ∧ x < 4294967296
    decide +kernel
  | n + 1 => by
    rw [statesA, blockA]
    exact addA_all _ _ (roundsA_len (statesA_len p n) 64) (statesA_len p n)
theorem sum_l4 (s : List Int) (hs : s.length = 8) (hr : ∀ x ∈ s, 0 ≤ x ∧ x < 4294967296) : ∀ (d k t : Nat), t + d = 8 → 30 ≤ k →
    mootref01_Sum.l4 (k + d + 1) s (octs (s.take t)) (t : Int) = some (octs s)
  | 0, k, t, ht, hk => by
    obtain rfl : t = 8 := by omega
    rw [Nat.add_zero, mootref01_Sum.l4, if_neg (by omega), List.take_of_length_le (by omega)]
  | d + 1, k, t, ht, hk => by
    have hwr : wrap64 ((t : Int) + 1) = ((t + 1 : Nat) : Int) := by rw [wrap64_id _ (by omega) (by omega)]; rfl
    have hlt : t < s.length := by omega
    have hx := hr s[t] (List.getElem_mem hlt)
    have ih := sum_l4 s hs hr d k (t + 1) (by omega) hk
    have hsn : octs (s.take t) ++ oct4 s[t] = octs (s.take (t + 1)) := by
      rw [List.take_succ_eq_append_getElem hlt, octs, octs, List.flatMap_append, List.flatMap_singleton]
    have hol : (octs (s.take t)).length ≤ 32 := by rw [octs_len, List.length_take]; omega
    have hpw := put_word s[t] hx.1 hx.2 (k + d + 1) (by omega)
    have hl4 : (oct4 s[t]).length = 4 := rfl
    rw [show k + (d + 1) + 1 = (k + d + 1) + 1 by omega, mootref01_Sum.l4, if_pos (by omega), if_pos (by omega), rd_at s t hlt, wrap64_id _ (by omega) (by omega), hpw, Option.bind_some, if_pos (by omega), hsn, hwr]
    exact ih
theorem refsum_f (l : List Int) (ho : Octets l) (hl : l.length ≤ 400) : mootref01_Sum.f 3000 l H0 K0 = some (sumL l) := by
  obtain ⟨p, hp⟩ : ∃ p, padL l = p := ⟨_, rfl⟩
  have hpo : Octets p := by rw [← hp]; exact padL_octets l ho
  have hlen := padL_len l
  have hmod := padL_mod l
  rw [hp] at hlen hmod
  obtain ⟨m, hm⟩ : ∃ m, p.length / 64 = m := ⟨_, rfl⟩
  have hpm : p.length = 64 * m := by omega
  have h0 := sum_l0 p hpo (by omega) m hpm m (3000 - 140 * m) 0 (by omega) (by omega)
  rw [show 3000 - 140 * m + 140 * m = 3000 by omega, statesA] at h0
  unfold mootref01_Sum.f
  rw [Option.bind_some, if_pos (by decide), refpad_f l (by omega) 3000 (by omega), Option.bind_some, hp, List.nil_append]
  have e0 : ((64 * 0 : Nat) : Int) = 0 := rfl
  rw [e0] at h0
  rw [h0]
  obtain ⟨k, hk⟩ : ∃ k, 3000 - 140 * m = (k + 8 + 1) + 1 := ⟨3000 - 140 * m - 10, by omega⟩
  rw [hk, mootref01_Sum.l0, if_neg (by omega)]
  have h4 := sum_l4 (statesA p m) (statesA_len p m) (states_range p m) 8 k 0 (by omega) (by omega)
  rw [List.take_zero] at h4
  rw [show octs [] = [] from rfl] at h4
  have e1 : ((0 : Nat) : Int) = 0 := rfl
  rw [e1] at h4
  rw [h4, sumL, stateL, hp, hm]
end Go.Proofs.Ytclmikbbjhdplaa.X
/- The constants: of primes, they are the words as they are told. -/
namespace Go.Proofs.Ytclmikbbjhdplaa.X
open Go.RowKit Go.Proofs.YtclmikbbjhdplaaW.PrintWords Go.Proofs.YtclmikbbjhdplaaW.PrintLast Go.Proofs.YtclmikbbjhdplaaW.PrintMore
set_option linter.unusedVariables false
set_option linter.unusedSimpArgs false

set_option maxRecDepth 1000000 in
theorem primes_f : mootref01_primes.f 1000 = some [2, 3, 5, 7, 11, 13, 17, 19, 23, 29, 31, 37, 41, 43, 47, 53, 59, 61, 67, 71, 73, 79, 83, 89, 97, 101, 103, 107, 109, 113, 127, 131, 137, 139, 149, 151, 157, 163, 167, 173, 179, 181, 191, 193, 197, 199, 211, 223, 227, 229, 233, 239, 241, 251, 257, 263, 269, 271, 277, 281, 283, 293, 307, 311] := by decide +kernel
set_option maxRecDepth 1000000 in
theorem constants_f : mootref01_Constants.f 3000 = some (H0, K0) := by decide +kernel
end Go.Proofs.Ytclmikbbjhdplaa.X
/- The law ShaTells over numbers and lists: any text's sum is as the page says, of words that are reckoned from primes. No condition. -/
namespace Go.Proofs.Ytclmikbbjhdplaa.Pure
open Go.RowKit Go.Proofs.Ytclmikbbjhdplaa.X Go.Proofs.YtclmikbbjhdplaaW.PrintWords Go.Proofs.YtclmikbbjhdplaaW.PrintLast Go.Proofs.YtclmikbbjhdplaaW.PrintMore
set_option linter.unusedVariables false
set_option linter.unusedSimpArgs false

/-- Any text's sum. -/
theorem ShaTells : mootlaw02_ShaTells.Pure := by
  intro l hm hl hw
  refine ⟨3000, ?_⟩
  have ho : Octets l := by
    intro x hx
    have := hw x hx
    simp [Lit.wf, IntKind.min, IntKind.max, IntKind.signed, IntKind.bits] at this
    omega
  have ha : mootlaw02_alive.f = some true := rfl
  unfold mootlaw02_ShaTells.f
  rw [ha, Option.bind_some, if_pos rfl]
  by_cases c : (l.length : Int) > 400
  · rw [if_pos c]
  · rw [if_neg c, constants_f, Option.bind_some, sum_f l (by omega), Option.bind_some, refsum_f l ho (by omega), Option.bind_some, if_pos rfl, Option.bind_some]
    unfold mootref01_Sha.f
    rw [if_pos ⟨ho, by omega⟩, Option.bind_some]
    simp
end Go.Proofs.Ytclmikbbjhdplaa.Pure
