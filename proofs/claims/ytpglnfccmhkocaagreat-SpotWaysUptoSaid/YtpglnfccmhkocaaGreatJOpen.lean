/- SpotWays, the walk. Condition: what comes in reads; fewer than 2^25 words. How spots come in: an argument of type api.Spot reads as two fractions, of no more words than its reading's bulk. Conditions: none. -/
import Derived.Test.YtpglnfccmhkocaaGreatJSpot4
import Derived.Test.YtpglnfccmhkocaaGreatJR5a
import Derived.Test.YtpglnfccmhkocaaGreatRows
import Derived.WalkKit
import Derived.ProofKit
import Derived.OpenShut
import Derived.JoinedCond
import Derived.ChangeSlices
import Derived.Carry
namespace Go.Proofs.YtpglnfccmhkocaaGreat
open Go.RowKit

theorem half_way (a b : Rat) : a + mkRat 1 2 * (b - a) = (a + b) * mkRat 1 2 := by
  have h := half_two
  generalize mkRat 1 2 = t at *
  have : a * (t + t) = a := by rw [h, Rat.mul_one]
  grind

set_option maxRecDepth 100000 in
set_option maxHeartbeats 8000000 in
theorem waysl_any (Va Vb Vc : Value) (ax ay bx b_y t : Rat) (k : Nat) (w : World) (ha : SpotR w Va ax ay k) (hb : SpotR w Vb bx b_y k) (hc : FracR w Vc t k) (hk : 1 ≤ k) (hs : k < 67108864) :
    Calls Tryz.prog 5 #[Va, Vb, Vc] w fun e w' => e = .returned (.bool true) ∧ Grew w w' := by
  obtain ⟨b1, A1, n1, c1, C1, m1, d1, b2, A2, n2, c2, C2, m2, d2, rfl, -, -, Sa⟩ := ha.laid
  obtain ⟨b3, A3, n3, c3, C3, m3, d3, b4, A4, n4, c4, C4, m4, d4, rfl, -, -, Sb⟩ := hb.laid
  obtain ⟨b5, A5, n5, c5, C5, m5, d5, rfl, Fe⟩ := hc.laid
  have hks : k < 1073741824 := by omega
  have h1s : 1 < 67108864 := by omega
  obtain ⟨x, hx⟩ : ∃ x, spotCmp ax ay bx b_y = x := ⟨_, rfl⟩
  replace hx := Lib.hid hx
  obtain ⟨z, hz⟩ : ∃ z, (x == 0) = z := ⟨_, rfl⟩
  have e1 := Lib.hid (half_way ax bx)
  have e2 := Lib.hid (half_way ay b_y)
  have e3 := Lib.hid (show ax + t * (bx - ax) = ax + (bx - ax) * t by rw [Rat.mul_comm])
  have e4 := Lib.hid (show ay + t * (b_y - ay) = ay + (b_y - ay) * t by rw [Rat.mul_comm])
  clear ha hb hc
  go_enter Tryz.func5, Tryz.ntmps5
  go_wp2_with fail
  refine gen_calls ?_
  intro W0 hW0
  have G0 : Grew w W0 := by rw [hW0]; exact (((Grew.refl w).alloc _).alloc _).alloc _
  have P : Box3 W0 (w.heap.size) 0 (.bool b1) (.slice A1 n1 c1) (.slice C1 m1 d1) := by rw [hW0]; exact ⟨by simp [go_sem], by simp [go_sem], by simp [go_sem]⟩
  replace P := Lib.hid P
  have Py : Box3 W0 (w.heap.size) 3 (.bool b2) (.slice A2 n2 c2) (.slice C2 m2 d2) := by rw [hW0]; exact ⟨by simp [go_sem], by simp [go_sem], by simp [go_sem]⟩
  replace Py := Lib.hid Py
  have Q : Box3 W0 (w.heap.size + 1) 0 (.bool b3) (.slice A3 n3 c3) (.slice C3 m3 d3) := by rw [hW0]; exact ⟨by simp [go_sem], by simp [go_sem], by simp [go_sem]⟩
  replace Q := Lib.hid Q
  have Qy : Box3 W0 (w.heap.size + 1) 3 (.bool b4) (.slice A4 n4 c4) (.slice C4 m4 d4) := by rw [hW0]; exact ⟨by simp [go_sem], by simp [go_sem], by simp [go_sem]⟩
  replace Qy := Lib.hid Qy
  have S : Box3 W0 (w.heap.size + 1 + 1) 0 (.bool b5) (.slice A5 n5 c5) (.slice C5 m5 d5) := by rw [hW0]; exact ⟨by simp [go_sem], by simp [go_sem], by simp [go_sem]⟩
  replace S := Lib.hid S
  have z0 : w.heap.size < W0.heap.size := by rw [hW0]; simp <;> omega
  replace z0 := Lib.hid z0
  have z1 : w.heap.size + 1 < W0.heap.size := by rw [hW0]; simp <;> omega
  replace z1 := Lib.hid z1
  have z2 : w.heap.size + 1 + 1 < W0.heap.size := by rw [hW0]; simp <;> omega
  replace z2 := Lib.hid z2
  clear hW0
  replace Sa := Lib.hid (Sa.out.kept G0.keeps)
  replace Sb := Lib.hid (Sb.out.kept G0.keeps)
  replace Fe := Lib.hid (Fe.out.kept G0.keeps)
  replace G0 := Lib.hid G0
  refine (rfhalf_any _).mono ?_
  rintro e w1 ⟨V1, rfl, hV1, g1⟩
  have Y1 := Lib.hid (hV1.r QB_half)
  obtain ⟨b7, A7, n7, c7, C7, m7, d7, rfl, hX1⟩ := hV1.laid
  have Fh := Y1
  clear hV1 hX1 Y1
  replace P := Lib.hid (P.out.grew g1)
  replace Py := Lib.hid (Py.out.grew g1)
  replace Q := Lib.hid (Q.out.grew g1)
  replace Qy := Lib.hid (Qy.out.grew g1)
  replace S := Lib.hid (S.out.grew g1)
  replace z0 := Lib.hid (lt_grew z0.out g1)
  replace z1 := Lib.hid (lt_grew z1.out g1)
  replace z2 := Lib.hid (lt_grew z2.out g1)
  replace Sa := Lib.hid (Sa.out.kept g1.keeps)
  replace Sb := Lib.hid (Sb.out.kept g1.keeps)
  replace Fe := Lib.hid (Fe.out.kept g1.keeps)
  replace G0 := Lib.hid (G0.out.trans g1)
  clear g1
  go_upto_region 2 with fail
  refine gen_wp ?_
  intro W1 hW1
  have gl : Grew w1 W1 := by rw [hW1]; exact (Grew.refl _).alloc _
  replace P := Lib.hid (P.out.grew gl)
  replace Py := Lib.hid (Py.out.grew gl)
  replace Q := Lib.hid (Q.out.grew gl)
  replace Qy := Lib.hid (Qy.out.grew gl)
  replace S := Lib.hid (S.out.grew gl)
  replace z0 := Lib.hid (lt_grew z0.out gl)
  replace z1 := Lib.hid (lt_grew z1.out gl)
  replace z2 := Lib.hid (lt_grew z2.out gl)
  replace Sa := Lib.hid (Sa.out.kept gl.keeps)
  replace Sb := Lib.hid (Sb.out.kept gl.keeps)
  replace Fe := Lib.hid (Fe.out.kept gl.keeps)
  replace Fh := Lib.hid (Fh.out.kept gl.keeps)
  have L : Box3 W1 (w1.heap.size) 0 (.bool b7) (.slice A7 n7 c7) (.slice C7 m7 d7) := by rw [hW1]; exact ⟨by simp [go_sem], by simp [go_sem], by simp [go_sem]⟩
  replace L := Lib.hid L
  have z3 : w1.heap.size < W1.heap.size := by rw [hW1]; simp <;> omega
  replace z3 := Lib.hid z3
  clear hW1
  replace G0 := Lib.hid (G0.out.trans gl)
  clear gl
  have gd : Grew W1 W1.drew := (Grew.refl W1).drew
  replace P := Lib.hid (P.out.grew gd)
  replace Py := Lib.hid (Py.out.grew gd)
  replace Q := Lib.hid (Q.out.grew gd)
  replace Qy := Lib.hid (Qy.out.grew gd)
  replace S := Lib.hid (S.out.grew gd)
  replace L := Lib.hid (L.out.grew gd)
  replace z0 := Lib.hid (lt_grew z0.out gd)
  replace z1 := Lib.hid (lt_grew z1.out gd)
  replace z2 := Lib.hid (lt_grew z2.out gd)
  replace z3 := Lib.hid (lt_grew z3.out gd)
  replace Sa := Lib.hid (Sa.out.kept gd.keeps)
  replace Sb := Lib.hid (Sb.out.kept gd.keeps)
  replace Fe := Lib.hid (Fe.out.kept gd.keeps)
  replace Fh := Lib.hid (Fh.out.kept gd.keeps)
  replace gd := Lib.hid gd
  have ZP := P
  have ZPy := Py
  have ZQ := Q
  have ZQy := Qy
  have ZS := S
  have ZL := L
  go_region_held3 (fun w' => w'.cell? ⟨w.heap.size, 0, none⟩ = some (.bool b1) ∧ w'.cell? ⟨w.heap.size, 1, none⟩ = some (.slice A1 n1 c1) ∧ w'.cell? ⟨w.heap.size, 2, none⟩ = some (.slice C1 m1 d1) ∧ w'.cell? ⟨w.heap.size, 3, none⟩ = some (.bool b2) ∧ w'.cell? ⟨w.heap.size, 4, none⟩ = some (.slice A2 n2 c2) ∧ w'.cell? ⟨w.heap.size, 5, none⟩ = some (.slice C2 m2 d2) ∧ w'.cell? ⟨w.heap.size + 1, 0, none⟩ = some (.bool b3) ∧ w'.cell? ⟨w.heap.size + 1, 1, none⟩ = some (.slice A3 n3 c3) ∧ w'.cell? ⟨w.heap.size + 1, 2, none⟩ = some (.slice C3 m3 d3) ∧ w'.cell? ⟨w.heap.size + 1, 3, none⟩ = some (.bool b4) ∧ w'.cell? ⟨w.heap.size + 1, 4, none⟩ = some (.slice A4 n4 c4) ∧ w'.cell? ⟨w.heap.size + 1, 5, none⟩ = some (.slice C4 m4 d4) ∧ w'.cell? ⟨w.heap.size + 1 + 1, 0, none⟩ = some (.bool b5) ∧ w'.cell? ⟨w.heap.size + 1 + 1, 1, none⟩ = some (.slice A5 n5 c5) ∧ w'.cell? ⟨w.heap.size + 1 + 1, 2, none⟩ = some (.slice C5 m5 d5) ∧ w'.cell? ⟨w1.heap.size, 0, none⟩ = some (.bool b7) ∧ w'.cell? ⟨w1.heap.size, 1, none⟩ = some (.slice A7 n7 c7) ∧ w'.cell? ⟨w1.heap.size, 2, none⟩ = some (.slice C7 m7 d7))
    (first | (with_reducible exact ⟨ZP.out.p0, ZP.out.p1, ZP.out.p2, ZPy.out.p0, ZPy.out.p1, ZPy.out.p2, ZQ.out.p0, ZQ.out.p1, ZQ.out.p2, ZQy.out.p0, ZQy.out.p1, ZQy.out.p2, ZS.out.p0, ZS.out.p1, ZS.out.p2, ZL.out.p0, ZL.out.p1, ZL.out.p2⟩) | (with_reducible exact ⟨g2.cell ZP.out.p0, g2.cell ZP.out.p1, g2.cell ZP.out.p2, g2.cell ZPy.out.p0, g2.cell ZPy.out.p1, g2.cell ZPy.out.p2, g2.cell ZQ.out.p0, g2.cell ZQ.out.p1, g2.cell ZQ.out.p2, g2.cell ZQy.out.p0, g2.cell ZQy.out.p1, g2.cell ZQy.out.p2, g2.cell ZS.out.p0, g2.cell ZS.out.p1, g2.cell ZS.out.p2, g2.cell ZL.out.p0, g2.cell ZL.out.p1, g2.cell ZL.out.p2⟩) | (with_reducible exact ⟨(g2.trans g3).cell ZP.out.p0, (g2.trans g3).cell ZP.out.p1, (g2.trans g3).cell ZP.out.p2, (g2.trans g3).cell ZPy.out.p0, (g2.trans g3).cell ZPy.out.p1, (g2.trans g3).cell ZPy.out.p2, (g2.trans g3).cell ZQ.out.p0, (g2.trans g3).cell ZQ.out.p1, (g2.trans g3).cell ZQ.out.p2, (g2.trans g3).cell ZQy.out.p0, (g2.trans g3).cell ZQy.out.p1, (g2.trans g3).cell ZQy.out.p2, (g2.trans g3).cell ZS.out.p0, (g2.trans g3).cell ZS.out.p1, (g2.trans g3).cell ZS.out.p2, (g2.trans g3).cell ZL.out.p0, (g2.trans g3).cell ZL.out.p1, (g2.trans g3).cell ZL.out.p2⟩) | (with_reducible exact ⟨((g2.trans g3).trans g4).cell ZP.out.p0, ((g2.trans g3).trans g4).cell ZP.out.p1, ((g2.trans g3).trans g4).cell ZP.out.p2, ((g2.trans g3).trans g4).cell ZPy.out.p0, ((g2.trans g3).trans g4).cell ZPy.out.p1, ((g2.trans g3).trans g4).cell ZPy.out.p2, ((g2.trans g3).trans g4).cell ZQ.out.p0, ((g2.trans g3).trans g4).cell ZQ.out.p1, ((g2.trans g3).trans g4).cell ZQ.out.p2, ((g2.trans g3).trans g4).cell ZQy.out.p0, ((g2.trans g3).trans g4).cell ZQy.out.p1, ((g2.trans g3).trans g4).cell ZQy.out.p2, ((g2.trans g3).trans g4).cell ZS.out.p0, ((g2.trans g3).trans g4).cell ZS.out.p1, ((g2.trans g3).trans g4).cell ZS.out.p2, ((g2.trans g3).trans g4).cell ZL.out.p0, ((g2.trans g3).trans g4).cell ZL.out.p1, ((g2.trans g3).trans g4).cell ZL.out.p2⟩) | (with_reducible exact ⟨(((g2.trans g3).trans g4).trans g5).cell ZP.out.p0, (((g2.trans g3).trans g4).trans g5).cell ZP.out.p1, (((g2.trans g3).trans g4).trans g5).cell ZP.out.p2, (((g2.trans g3).trans g4).trans g5).cell ZPy.out.p0, (((g2.trans g3).trans g4).trans g5).cell ZPy.out.p1, (((g2.trans g3).trans g4).trans g5).cell ZPy.out.p2, (((g2.trans g3).trans g4).trans g5).cell ZQ.out.p0, (((g2.trans g3).trans g4).trans g5).cell ZQ.out.p1, (((g2.trans g3).trans g4).trans g5).cell ZQ.out.p2, (((g2.trans g3).trans g4).trans g5).cell ZQy.out.p0, (((g2.trans g3).trans g4).trans g5).cell ZQy.out.p1, (((g2.trans g3).trans g4).trans g5).cell ZQy.out.p2, (((g2.trans g3).trans g4).trans g5).cell ZS.out.p0, (((g2.trans g3).trans g4).trans g5).cell ZS.out.p1, (((g2.trans g3).trans g4).trans g5).cell ZS.out.p2, (((g2.trans g3).trans g4).trans g5).cell ZL.out.p0, (((g2.trans g3).trans g4).trans g5).cell ZL.out.p1, (((g2.trans g3).trans g4).trans g5).cell ZL.out.p2⟩) | (with_reducible exact ⟨((((g2.trans g3).trans g4).trans g5).trans g6).cell ZP.out.p0, ((((g2.trans g3).trans g4).trans g5).trans g6).cell ZP.out.p1, ((((g2.trans g3).trans g4).trans g5).trans g6).cell ZP.out.p2, ((((g2.trans g3).trans g4).trans g5).trans g6).cell ZPy.out.p0, ((((g2.trans g3).trans g4).trans g5).trans g6).cell ZPy.out.p1, ((((g2.trans g3).trans g4).trans g5).trans g6).cell ZPy.out.p2, ((((g2.trans g3).trans g4).trans g5).trans g6).cell ZQ.out.p0, ((((g2.trans g3).trans g4).trans g5).trans g6).cell ZQ.out.p1, ((((g2.trans g3).trans g4).trans g5).trans g6).cell ZQ.out.p2, ((((g2.trans g3).trans g4).trans g5).trans g6).cell ZQy.out.p0, ((((g2.trans g3).trans g4).trans g5).trans g6).cell ZQy.out.p1, ((((g2.trans g3).trans g4).trans g5).trans g6).cell ZQy.out.p2, ((((g2.trans g3).trans g4).trans g5).trans g6).cell ZS.out.p0, ((((g2.trans g3).trans g4).trans g5).trans g6).cell ZS.out.p1, ((((g2.trans g3).trans g4).trans g5).trans g6).cell ZS.out.p2, ((((g2.trans g3).trans g4).trans g5).trans g6).cell ZL.out.p0, ((((g2.trans g3).trans g4).trans g5).trans g6).cell ZL.out.p1, ((((g2.trans g3).trans g4).trans g5).trans g6).cell ZL.out.p2⟩) | (with_reducible exact ⟨(((((g2.trans g3).trans g4).trans g5).trans g6).trans g7).cell ZP.out.p0, (((((g2.trans g3).trans g4).trans g5).trans g6).trans g7).cell ZP.out.p1, (((((g2.trans g3).trans g4).trans g5).trans g6).trans g7).cell ZP.out.p2, (((((g2.trans g3).trans g4).trans g5).trans g6).trans g7).cell ZPy.out.p0, (((((g2.trans g3).trans g4).trans g5).trans g6).trans g7).cell ZPy.out.p1, (((((g2.trans g3).trans g4).trans g5).trans g6).trans g7).cell ZPy.out.p2, (((((g2.trans g3).trans g4).trans g5).trans g6).trans g7).cell ZQ.out.p0, (((((g2.trans g3).trans g4).trans g5).trans g6).trans g7).cell ZQ.out.p1, (((((g2.trans g3).trans g4).trans g5).trans g6).trans g7).cell ZQ.out.p2, (((((g2.trans g3).trans g4).trans g5).trans g6).trans g7).cell ZQy.out.p0, (((((g2.trans g3).trans g4).trans g5).trans g6).trans g7).cell ZQy.out.p1, (((((g2.trans g3).trans g4).trans g5).trans g6).trans g7).cell ZQy.out.p2, (((((g2.trans g3).trans g4).trans g5).trans g6).trans g7).cell ZS.out.p0, (((((g2.trans g3).trans g4).trans g5).trans g6).trans g7).cell ZS.out.p1, (((((g2.trans g3).trans g4).trans g5).trans g6).trans g7).cell ZS.out.p2, (((((g2.trans g3).trans g4).trans g5).trans g6).trans g7).cell ZL.out.p0, (((((g2.trans g3).trans g4).trans g5).trans g6).trans g7).cell ZL.out.p1, (((((g2.trans g3).trans g4).trans g5).trans g6).trans g7).cell ZL.out.p2⟩) | (with_reducible exact ⟨((((((g2.trans g3).trans g4).trans g5).trans g6).trans g7).trans g8).cell ZP.out.p0, ((((((g2.trans g3).trans g4).trans g5).trans g6).trans g7).trans g8).cell ZP.out.p1, ((((((g2.trans g3).trans g4).trans g5).trans g6).trans g7).trans g8).cell ZP.out.p2, ((((((g2.trans g3).trans g4).trans g5).trans g6).trans g7).trans g8).cell ZPy.out.p0, ((((((g2.trans g3).trans g4).trans g5).trans g6).trans g7).trans g8).cell ZPy.out.p1, ((((((g2.trans g3).trans g4).trans g5).trans g6).trans g7).trans g8).cell ZPy.out.p2, ((((((g2.trans g3).trans g4).trans g5).trans g6).trans g7).trans g8).cell ZQ.out.p0, ((((((g2.trans g3).trans g4).trans g5).trans g6).trans g7).trans g8).cell ZQ.out.p1, ((((((g2.trans g3).trans g4).trans g5).trans g6).trans g7).trans g8).cell ZQ.out.p2, ((((((g2.trans g3).trans g4).trans g5).trans g6).trans g7).trans g8).cell ZQy.out.p0, ((((((g2.trans g3).trans g4).trans g5).trans g6).trans g7).trans g8).cell ZQy.out.p1, ((((((g2.trans g3).trans g4).trans g5).trans g6).trans g7).trans g8).cell ZQy.out.p2, ((((((g2.trans g3).trans g4).trans g5).trans g6).trans g7).trans g8).cell ZS.out.p0, ((((((g2.trans g3).trans g4).trans g5).trans g6).trans g7).trans g8).cell ZS.out.p1, ((((((g2.trans g3).trans g4).trans g5).trans g6).trans g7).trans g8).cell ZS.out.p2, ((((((g2.trans g3).trans g4).trans g5).trans g6).trans g7).trans g8).cell ZL.out.p0, ((((((g2.trans g3).trans g4).trans g5).trans g6).trans g7).trans g8).cell ZL.out.p1, ((((((g2.trans g3).trans g4).trans g5).trans g6).trans g7).trans g8).cell ZL.out.p2⟩) | (with_reducible exact ⟨(((((((g2.trans g3).trans g4).trans g5).trans g6).trans g7).trans g8).trans g9).cell ZP.out.p0, (((((((g2.trans g3).trans g4).trans g5).trans g6).trans g7).trans g8).trans g9).cell ZP.out.p1, (((((((g2.trans g3).trans g4).trans g5).trans g6).trans g7).trans g8).trans g9).cell ZP.out.p2, (((((((g2.trans g3).trans g4).trans g5).trans g6).trans g7).trans g8).trans g9).cell ZPy.out.p0, (((((((g2.trans g3).trans g4).trans g5).trans g6).trans g7).trans g8).trans g9).cell ZPy.out.p1, (((((((g2.trans g3).trans g4).trans g5).trans g6).trans g7).trans g8).trans g9).cell ZPy.out.p2, (((((((g2.trans g3).trans g4).trans g5).trans g6).trans g7).trans g8).trans g9).cell ZQ.out.p0, (((((((g2.trans g3).trans g4).trans g5).trans g6).trans g7).trans g8).trans g9).cell ZQ.out.p1, (((((((g2.trans g3).trans g4).trans g5).trans g6).trans g7).trans g8).trans g9).cell ZQ.out.p2, (((((((g2.trans g3).trans g4).trans g5).trans g6).trans g7).trans g8).trans g9).cell ZQy.out.p0, (((((((g2.trans g3).trans g4).trans g5).trans g6).trans g7).trans g8).trans g9).cell ZQy.out.p1, (((((((g2.trans g3).trans g4).trans g5).trans g6).trans g7).trans g8).trans g9).cell ZQy.out.p2, (((((((g2.trans g3).trans g4).trans g5).trans g6).trans g7).trans g8).trans g9).cell ZS.out.p0, (((((((g2.trans g3).trans g4).trans g5).trans g6).trans g7).trans g8).trans g9).cell ZS.out.p1, (((((((g2.trans g3).trans g4).trans g5).trans g6).trans g7).trans g8).trans g9).cell ZS.out.p2, (((((((g2.trans g3).trans g4).trans g5).trans g6).trans g7).trans g8).trans g9).cell ZL.out.p0, (((((((g2.trans g3).trans g4).trans g5).trans g6).trans g7).trans g8).trans g9).cell ZL.out.p1, (((((((g2.trans g3).trans g4).trans g5).trans g6).trans g7).trans g8).trans g9).cell ZL.out.p2⟩) | (with_reducible exact ⟨((((((((g2.trans g3).trans g4).trans g5).trans g6).trans g7).trans g8).trans g9).trans g10).cell ZP.out.p0, ((((((((g2.trans g3).trans g4).trans g5).trans g6).trans g7).trans g8).trans g9).trans g10).cell ZP.out.p1, ((((((((g2.trans g3).trans g4).trans g5).trans g6).trans g7).trans g8).trans g9).trans g10).cell ZP.out.p2, ((((((((g2.trans g3).trans g4).trans g5).trans g6).trans g7).trans g8).trans g9).trans g10).cell ZPy.out.p0, ((((((((g2.trans g3).trans g4).trans g5).trans g6).trans g7).trans g8).trans g9).trans g10).cell ZPy.out.p1, ((((((((g2.trans g3).trans g4).trans g5).trans g6).trans g7).trans g8).trans g9).trans g10).cell ZPy.out.p2, ((((((((g2.trans g3).trans g4).trans g5).trans g6).trans g7).trans g8).trans g9).trans g10).cell ZQ.out.p0, ((((((((g2.trans g3).trans g4).trans g5).trans g6).trans g7).trans g8).trans g9).trans g10).cell ZQ.out.p1, ((((((((g2.trans g3).trans g4).trans g5).trans g6).trans g7).trans g8).trans g9).trans g10).cell ZQ.out.p2, ((((((((g2.trans g3).trans g4).trans g5).trans g6).trans g7).trans g8).trans g9).trans g10).cell ZQy.out.p0, ((((((((g2.trans g3).trans g4).trans g5).trans g6).trans g7).trans g8).trans g9).trans g10).cell ZQy.out.p1, ((((((((g2.trans g3).trans g4).trans g5).trans g6).trans g7).trans g8).trans g9).trans g10).cell ZQy.out.p2, ((((((((g2.trans g3).trans g4).trans g5).trans g6).trans g7).trans g8).trans g9).trans g10).cell ZS.out.p0, ((((((((g2.trans g3).trans g4).trans g5).trans g6).trans g7).trans g8).trans g9).trans g10).cell ZS.out.p1, ((((((((g2.trans g3).trans g4).trans g5).trans g6).trans g7).trans g8).trans g9).trans g10).cell ZS.out.p2, ((((((((g2.trans g3).trans g4).trans g5).trans g6).trans g7).trans g8).trans g9).trans g10).cell ZL.out.p0, ((((((((g2.trans g3).trans g4).trans g5).trans g6).trans g7).trans g8).trans g9).trans g10).cell ZL.out.p1, ((((((((g2.trans g3).trans g4).trans g5).trans g6).trans g7).trans g8).trans g9).trans g10).cell ZL.out.p2⟩) | (with_reducible exact ⟨(((((((((g2.trans g3).trans g4).trans g5).trans g6).trans g7).trans g8).trans g9).trans g10).trans g11).cell ZP.out.p0, (((((((((g2.trans g3).trans g4).trans g5).trans g6).trans g7).trans g8).trans g9).trans g10).trans g11).cell ZP.out.p1, (((((((((g2.trans g3).trans g4).trans g5).trans g6).trans g7).trans g8).trans g9).trans g10).trans g11).cell ZP.out.p2, (((((((((g2.trans g3).trans g4).trans g5).trans g6).trans g7).trans g8).trans g9).trans g10).trans g11).cell ZPy.out.p0, (((((((((g2.trans g3).trans g4).trans g5).trans g6).trans g7).trans g8).trans g9).trans g10).trans g11).cell ZPy.out.p1, (((((((((g2.trans g3).trans g4).trans g5).trans g6).trans g7).trans g8).trans g9).trans g10).trans g11).cell ZPy.out.p2, (((((((((g2.trans g3).trans g4).trans g5).trans g6).trans g7).trans g8).trans g9).trans g10).trans g11).cell ZQ.out.p0, (((((((((g2.trans g3).trans g4).trans g5).trans g6).trans g7).trans g8).trans g9).trans g10).trans g11).cell ZQ.out.p1, (((((((((g2.trans g3).trans g4).trans g5).trans g6).trans g7).trans g8).trans g9).trans g10).trans g11).cell ZQ.out.p2, (((((((((g2.trans g3).trans g4).trans g5).trans g6).trans g7).trans g8).trans g9).trans g10).trans g11).cell ZQy.out.p0, (((((((((g2.trans g3).trans g4).trans g5).trans g6).trans g7).trans g8).trans g9).trans g10).trans g11).cell ZQy.out.p1, (((((((((g2.trans g3).trans g4).trans g5).trans g6).trans g7).trans g8).trans g9).trans g10).trans g11).cell ZQy.out.p2, (((((((((g2.trans g3).trans g4).trans g5).trans g6).trans g7).trans g8).trans g9).trans g10).trans g11).cell ZS.out.p0, (((((((((g2.trans g3).trans g4).trans g5).trans g6).trans g7).trans g8).trans g9).trans g10).trans g11).cell ZS.out.p1, (((((((((g2.trans g3).trans g4).trans g5).trans g6).trans g7).trans g8).trans g9).trans g10).trans g11).cell ZS.out.p2, (((((((((g2.trans g3).trans g4).trans g5).trans g6).trans g7).trans g8).trans g9).trans g10).trans g11).cell ZL.out.p0, (((((((((g2.trans g3).trans g4).trans g5).trans g6).trans g7).trans g8).trans g9).trans g10).trans g11).cell ZL.out.p1, (((((((((g2.trans g3).trans g4).trans g5).trans g6).trans g7).trans g8).trans g9).trans g10).trans g11).cell ZL.out.p2⟩) | (with_reducible exact ⟨((((((((((g2.trans g3).trans g4).trans g5).trans g6).trans g7).trans g8).trans g9).trans g10).trans g11).trans g12).cell ZP.out.p0, ((((((((((g2.trans g3).trans g4).trans g5).trans g6).trans g7).trans g8).trans g9).trans g10).trans g11).trans g12).cell ZP.out.p1, ((((((((((g2.trans g3).trans g4).trans g5).trans g6).trans g7).trans g8).trans g9).trans g10).trans g11).trans g12).cell ZP.out.p2, ((((((((((g2.trans g3).trans g4).trans g5).trans g6).trans g7).trans g8).trans g9).trans g10).trans g11).trans g12).cell ZPy.out.p0, ((((((((((g2.trans g3).trans g4).trans g5).trans g6).trans g7).trans g8).trans g9).trans g10).trans g11).trans g12).cell ZPy.out.p1, ((((((((((g2.trans g3).trans g4).trans g5).trans g6).trans g7).trans g8).trans g9).trans g10).trans g11).trans g12).cell ZPy.out.p2, ((((((((((g2.trans g3).trans g4).trans g5).trans g6).trans g7).trans g8).trans g9).trans g10).trans g11).trans g12).cell ZQ.out.p0, ((((((((((g2.trans g3).trans g4).trans g5).trans g6).trans g7).trans g8).trans g9).trans g10).trans g11).trans g12).cell ZQ.out.p1, ((((((((((g2.trans g3).trans g4).trans g5).trans g6).trans g7).trans g8).trans g9).trans g10).trans g11).trans g12).cell ZQ.out.p2, ((((((((((g2.trans g3).trans g4).trans g5).trans g6).trans g7).trans g8).trans g9).trans g10).trans g11).trans g12).cell ZQy.out.p0, ((((((((((g2.trans g3).trans g4).trans g5).trans g6).trans g7).trans g8).trans g9).trans g10).trans g11).trans g12).cell ZQy.out.p1, ((((((((((g2.trans g3).trans g4).trans g5).trans g6).trans g7).trans g8).trans g9).trans g10).trans g11).trans g12).cell ZQy.out.p2, ((((((((((g2.trans g3).trans g4).trans g5).trans g6).trans g7).trans g8).trans g9).trans g10).trans g11).trans g12).cell ZS.out.p0, ((((((((((g2.trans g3).trans g4).trans g5).trans g6).trans g7).trans g8).trans g9).trans g10).trans g11).trans g12).cell ZS.out.p1, ((((((((((g2.trans g3).trans g4).trans g5).trans g6).trans g7).trans g8).trans g9).trans g10).trans g11).trans g12).cell ZS.out.p2, ((((((((((g2.trans g3).trans g4).trans g5).trans g6).trans g7).trans g8).trans g9).trans g10).trans g11).trans g12).cell ZL.out.p0, ((((((((((g2.trans g3).trans g4).trans g5).trans g6).trans g7).trans g8).trans g9).trans g10).trans g11).trans g12).cell ZL.out.p1, ((((((((((g2.trans g3).trans g4).trans g5).trans g6).trans g7).trans g8).trans g9).trans g10).trans g11).trans g12).cell ZL.out.p2⟩))
    (first | (have chk := g11; clear chk; go_at_call 12; refine (lives05_any _).mono ?_; rintro e w12 ⟨rfl, g12⟩; replace P := Lib.hid (P.out.grew g12); replace Py := Lib.hid (Py.out.grew g12); replace Q := Lib.hid (Q.out.grew g12); replace Qy := Lib.hid (Qy.out.grew g12); replace S := Lib.hid (S.out.grew g12); replace L := Lib.hid (L.out.grew g12); replace z0 := Lib.hid (lt_grew z0.out g12); replace z1 := Lib.hid (lt_grew z1.out g12); replace z2 := Lib.hid (lt_grew z2.out g12); replace z3 := Lib.hid (lt_grew z3.out g12); replace Sa := Lib.hid (Sa.out.kept g12.keeps); replace Sb := Lib.hid (Sb.out.kept g12.keeps); replace Fe := Lib.hid (Fe.out.kept g12.keeps); replace Fh := Lib.hid (Fh.out.kept g12.keeps); replace X6 := Lib.hid (X6.out.kept g12.keeps); replace X7 := Lib.hid (X7.out.kept g12.keeps); replace X9 := Lib.hid (X9.out.kept g12.keeps); replace X10 := Lib.hid (X10.out.kept g12.keeps)) | (have chk := g10; clear chk; go_at_call 16; refine (r5same_yes _ _ _ _ _ X9.out X10.out).mono ?_; rintro e w11 ⟨rfl, g11⟩; replace P := Lib.hid (P.out.grew g11); replace Py := Lib.hid (Py.out.grew g11); replace Q := Lib.hid (Q.out.grew g11); replace Qy := Lib.hid (Qy.out.grew g11); replace S := Lib.hid (S.out.grew g11); replace L := Lib.hid (L.out.grew g11); replace z0 := Lib.hid (lt_grew z0.out g11); replace z1 := Lib.hid (lt_grew z1.out g11); replace z2 := Lib.hid (lt_grew z2.out g11); replace z3 := Lib.hid (lt_grew z3.out g11); replace Sa := Lib.hid (Sa.out.kept g11.keeps); replace Sb := Lib.hid (Sb.out.kept g11.keeps); replace Fe := Lib.hid (Fe.out.kept g11.keeps); replace Fh := Lib.hid (Fh.out.kept g11.keeps); replace X6 := Lib.hid (X6.out.kept g11.keeps); replace X7 := Lib.hid (X7.out.kept g11.keeps); replace X9 := Lib.hid (X9.out.kept g11.keeps); replace X10 := Lib.hid (X10.out.kept g11.keeps)) | (have chk := g9; clear chk; go_at_call 23; refine (rtoward_any _ _ _ ax ay bx b_y t k k _ Sa.out Sb.out Fe.out hk hk hs hs).mono ?_; rintro e w10 ⟨V10, rfl, hV10, g10⟩; rw [e3.out, e4.out] at hV10; obtain ⟨b19, A19, n19, c19, C19, m19, d19, b20, A20, n20, c20, C20, m20, d20, rfl, -, -, X10⟩ := hV10.laid; clear hV10; replace P := Lib.hid (P.out.grew g10); replace Py := Lib.hid (Py.out.grew g10); replace Q := Lib.hid (Q.out.grew g10); replace Qy := Lib.hid (Qy.out.grew g10); replace S := Lib.hid (S.out.grew g10); replace L := Lib.hid (L.out.grew g10); replace z0 := Lib.hid (lt_grew z0.out g10); replace z1 := Lib.hid (lt_grew z1.out g10); replace z2 := Lib.hid (lt_grew z2.out g10); replace z3 := Lib.hid (lt_grew z3.out g10); replace Sa := Lib.hid (Sa.out.kept g10.keeps); replace Sb := Lib.hid (Sb.out.kept g10.keeps); replace Fe := Lib.hid (Fe.out.kept g10.keeps); replace Fh := Lib.hid (Fh.out.kept g10.keeps); replace X6 := Lib.hid (X6.out.kept g10.keeps); replace X7 := Lib.hid (X7.out.kept g10.keeps); replace X9 := Lib.hid (X9.out.kept g10.keeps)) | (have chk := g8; clear chk; go_at_call 24; refine (stoward_any _ _ _ ax ay bx b_y t k k _ Sa.out.v Sb.out.v Fe.out.v hk hk hs hs).mono ?_; rintro e w9 ⟨V9, rfl, hV9, g9⟩; obtain ⟨b17, A17, n17, c17, C17, m17, d17, b18, A18, n18, c18, C18, m18, d18, rfl, -, -, X9⟩ := hV9.laid; clear hV9; replace P := Lib.hid (P.out.grew g9); replace Py := Lib.hid (Py.out.grew g9); replace Q := Lib.hid (Q.out.grew g9); replace Qy := Lib.hid (Qy.out.grew g9); replace S := Lib.hid (S.out.grew g9); replace L := Lib.hid (L.out.grew g9); replace z0 := Lib.hid (lt_grew z0.out g9); replace z1 := Lib.hid (lt_grew z1.out g9); replace z2 := Lib.hid (lt_grew z2.out g9); replace z3 := Lib.hid (lt_grew z3.out g9); replace Sa := Lib.hid (Sa.out.kept g9.keeps); replace Sb := Lib.hid (Sb.out.kept g9.keeps); replace Fe := Lib.hid (Fe.out.kept g9.keeps); replace Fh := Lib.hid (Fh.out.kept g9.keeps); replace X6 := Lib.hid (X6.out.kept g9.keeps); replace X7 := Lib.hid (X7.out.kept g9.keeps)) | (have chk := g7; clear chk; go_at_call_of 16 (Value.bool b13); refine (r5same_yes _ _ _ _ _ X6.out X7.out).mono ?_; rintro e w8 ⟨rfl, g8⟩; replace P := Lib.hid (P.out.grew g8); replace Py := Lib.hid (Py.out.grew g8); replace Q := Lib.hid (Q.out.grew g8); replace Qy := Lib.hid (Qy.out.grew g8); replace S := Lib.hid (S.out.grew g8); replace L := Lib.hid (L.out.grew g8); replace z0 := Lib.hid (lt_grew z0.out g8); replace z1 := Lib.hid (lt_grew z1.out g8); replace z2 := Lib.hid (lt_grew z2.out g8); replace z3 := Lib.hid (lt_grew z3.out g8); replace Sa := Lib.hid (Sa.out.kept g8.keeps); replace Sb := Lib.hid (Sb.out.kept g8.keeps); replace Fe := Lib.hid (Fe.out.kept g8.keeps); replace Fh := Lib.hid (Fh.out.kept g8.keeps); replace X6 := Lib.hid (X6.out.kept g8.keeps); replace X7 := Lib.hid (X7.out.kept g8.keeps)) | (have chk := g6; clear chk; go_at_call_of 23 (Value.agg #[.bool b7, .slice A7 n7 c7, .slice C7 m7 d7]); refine (rtoward_any _ _ _ ax ay bx b_y (mkRat 1 2) k 1 _ Sa.out Sb.out Fh.out hk (Nat.le_refl 1) hs h1s).mono ?_; rintro e w7 ⟨V7, rfl, hV7, g7⟩; rw [e1.out, e2.out] at hV7; obtain ⟨b15, A15, n15, c15, C15, m15, d15, b16, A16, n16, c16, C16, m16, d16, rfl, -, -, X7⟩ := hV7.laid; clear hV7; replace P := Lib.hid (P.out.grew g7); replace Py := Lib.hid (Py.out.grew g7); replace Q := Lib.hid (Q.out.grew g7); replace Qy := Lib.hid (Qy.out.grew g7); replace S := Lib.hid (S.out.grew g7); replace L := Lib.hid (L.out.grew g7); replace z0 := Lib.hid (lt_grew z0.out g7); replace z1 := Lib.hid (lt_grew z1.out g7); replace z2 := Lib.hid (lt_grew z2.out g7); replace z3 := Lib.hid (lt_grew z3.out g7); replace Sa := Lib.hid (Sa.out.kept g7.keeps); replace Sb := Lib.hid (Sb.out.kept g7.keeps); replace Fe := Lib.hid (Fe.out.kept g7.keeps); replace Fh := Lib.hid (Fh.out.kept g7.keeps); replace X6 := Lib.hid (X6.out.kept g7.keeps)) | (have chk := g5; clear chk; go_at_call 22; refine (mid_any _ _ ax ay bx b_y k _ Sa.out.v Sb.out.v hk hks).mono ?_; rintro e w6 ⟨V6, rfl, hV6, g6⟩; obtain ⟨b13, A13, n13, c13, C13, m13, d13, b14, A14, n14, c14, C14, m14, d14, rfl, -, -, X6⟩ := hV6.laid; clear hV6; replace P := Lib.hid (P.out.grew g6); replace Py := Lib.hid (Py.out.grew g6); replace Q := Lib.hid (Q.out.grew g6); replace Qy := Lib.hid (Qy.out.grew g6); replace S := Lib.hid (S.out.grew g6); replace L := Lib.hid (L.out.grew g6); replace z0 := Lib.hid (lt_grew z0.out g6); replace z1 := Lib.hid (lt_grew z1.out g6); replace z2 := Lib.hid (lt_grew z2.out g6); replace z3 := Lib.hid (lt_grew z3.out g6); replace Sa := Lib.hid (Sa.out.kept g6.keeps); replace Sb := Lib.hid (Sb.out.kept g6.keeps); replace Fe := Lib.hid (Fe.out.kept g6.keeps); replace Fh := Lib.hid (Fh.out.kept g6.keeps)) | (have chk := g4; clear chk; go_at_call 20; refine (rscmp_any _ _ ax ay bx b_y k _ Sa.out Sb.out hk hs).mono ?_; rintro e w5 ⟨rfl, g5⟩; rw [hx.out]; replace P := Lib.hid (P.out.grew g5); replace Py := Lib.hid (Py.out.grew g5); replace Q := Lib.hid (Q.out.grew g5); replace Qy := Lib.hid (Qy.out.grew g5); replace S := Lib.hid (S.out.grew g5); replace L := Lib.hid (L.out.grew g5); replace z0 := Lib.hid (lt_grew z0.out g5); replace z1 := Lib.hid (lt_grew z1.out g5); replace z2 := Lib.hid (lt_grew z2.out g5); replace z3 := Lib.hid (lt_grew z3.out g5); replace Sa := Lib.hid (Sa.out.kept g5.keeps); replace Sb := Lib.hid (Sb.out.kept g5.keeps); replace Fe := Lib.hid (Fe.out.kept g5.keeps); replace Fh := Lib.hid (Fh.out.kept g5.keeps)) | (have chk := g3; clear chk; go_at_call 21; refine (ssame_any _ _ ax ay bx b_y k _ Sa.out.v Sb.out.v hk hs).mono ?_; rintro e w4 ⟨rfl, g4⟩; rw [hx.out]; replace P := Lib.hid (P.out.grew g4); replace Py := Lib.hid (Py.out.grew g4); replace Q := Lib.hid (Q.out.grew g4); replace Qy := Lib.hid (Qy.out.grew g4); replace S := Lib.hid (S.out.grew g4); replace L := Lib.hid (L.out.grew g4); replace z0 := Lib.hid (lt_grew z0.out g4); replace z1 := Lib.hid (lt_grew z1.out g4); replace z2 := Lib.hid (lt_grew z2.out g4); replace z3 := Lib.hid (lt_grew z3.out g4); replace Sa := Lib.hid (Sa.out.kept g4.keeps); replace Sb := Lib.hid (Sb.out.kept g4.keeps); replace Fe := Lib.hid (Fe.out.kept g4.keeps); replace Fh := Lib.hid (Fh.out.kept g4.keeps)) | (have chk := g2; clear chk; go_at_call 20; refine (rscmp_any _ _ ax ay bx b_y k _ Sa.out Sb.out hk hs).mono ?_; rintro e w3 ⟨rfl, g3⟩; rw [hx.out]; replace P := Lib.hid (P.out.grew g3); replace Py := Lib.hid (Py.out.grew g3); replace Q := Lib.hid (Q.out.grew g3); replace Qy := Lib.hid (Qy.out.grew g3); replace S := Lib.hid (S.out.grew g3); replace L := Lib.hid (L.out.grew g3); replace z0 := Lib.hid (lt_grew z0.out g3); replace z1 := Lib.hid (lt_grew z1.out g3); replace z2 := Lib.hid (lt_grew z2.out g3); replace z3 := Lib.hid (lt_grew z3.out g3); replace Sa := Lib.hid (Sa.out.kept g3.keeps); replace Sb := Lib.hid (Sb.out.kept g3.keeps); replace Fe := Lib.hid (Fe.out.kept g3.keeps); replace Fh := Lib.hid (Fh.out.kept g3.keeps)) | (go_at_call 19; refine (scmp_any _ _ ax ay bx b_y k _ Sa.out.v Sb.out.v hk hs).mono ?_; rintro e w2 ⟨rfl, g2⟩; rw [hx.out]; replace P := Lib.hid (P.out.grew g2); replace Py := Lib.hid (Py.out.grew g2); replace Q := Lib.hid (Q.out.grew g2); replace Qy := Lib.hid (Qy.out.grew g2); replace S := Lib.hid (S.out.grew g2); replace L := Lib.hid (L.out.grew g2); replace z0 := Lib.hid (lt_grew z0.out g2); replace z1 := Lib.hid (lt_grew z1.out g2); replace z2 := Lib.hid (lt_grew z2.out g2); replace z3 := Lib.hid (lt_grew z3.out g2); replace Sa := Lib.hid (Sa.out.kept g2.keeps); replace Sb := Lib.hid (Sb.out.kept g2.keeps); replace Fe := Lib.hid (Fe.out.kept g2.keeps); replace Fh := Lib.hid (Fh.out.kept g2.keeps)))
  replace G0 := Lib.hid ((((((((((((G0.out.trans gd.out).trans g2).trans g3).trans g4).trans g5).trans g6).trans g7).trans g8).trans g9).trans g10).trans g11).trans g12)
  clear gd g2 g3 g4 g5 g6 g7 g8 g9 g10 g11 g12 ZP ZPy ZQ ZQy ZS ZL
  go_wp2_with fail
  go_ret
  exact ⟨by rfl, G0.out⟩
end Go.Proofs.YtpglnfccmhkocaaGreat
namespace Go.Proofs.YtpglnfccmhkocaaGreat
open Go.ChangeShapes Go.WideShapes Go.ChangeAt Go.RowKit

theorem cells_u32 : Tryz.prog.cellsOf 68 = 1 := by kernel_rfl

section
variable {H : Type} {enc : TypeId × Value → H} {w : World} {base : Nat} {spare : Nat → Bool} {held : Bool}

theorem bulk_lits (k : IntKind) : ∀ zs : List Int, Rows.uptoBulkAll (H := H) (lits k zs) = zs.length
  | [] => by simp [lits, Rows.uptoBulkAll]
  | z :: zs => by
    have h := bulk_lits k zs
    unfold lits at h ⊢
    simp only [List.map_cons, Rows.uptoBulkAll, Rows.uptoBulk, h, List.length_cons]
    omega

/-- A slice of words that comes in reads as a number. -/
theorem open_words {fuel : Nat} {cs : List Value} {x : DataW H × List MemPlace} (h : DataW.trod enc Tryz.prog w base spare held fuel 22 cs = some x) :
    ∃ A n c N, cs = [.slice A n c] ∧ Num 4294967296 .u32 w (.slice A n c) N n ∧ n ≤ Rows.uptoBulk x.1 := by
  rcases open_ints Tryz.underlying22 Tryz.underlying68 cells_u32 h with ⟨rfl, rfl⟩ | ⟨a, ln, cap, zs, rfl, _, hl, hm, hz, rfl, hcell, hwz⟩
  · exact ⟨none, 0, 0, 0, rfl, Num.nil _ _ _, by omega⟩
  · have hzl : ln ≤ zs.length := by rw [hz]; split <;> omega
    have hu : ∀ z ∈ zs, 0 ≤ z ∧ z < 4294967296 := by
      intro z hzm
      have h1 := hwz z hzm
      have h2 : IntKind.u32.min = 0 := rfl
      have h3 : IntKind.u32.max = 4294967295 := rfl
      simp only [Lit.wf, Bool.and_eq_true, decide_eq_true_eq] at h1
      omega
    let xs : List Nat := (zs.take ln).map Int.toNat
    have hxl : xs.length = ln := by simp [xs]; omega
    have hxb : ∀ y ∈ xs, y < 4294967296 := by
      intro y hy
      obtain ⟨z, hz1, rfl⟩ := List.mem_map.1 hy
      have := hu z (List.mem_of_mem_take hz1)
      omega
    have hN : val 4294967296 xs < 4294967296 ^ ln := by rw [← hxl]; exact val_lt (by omega) xs hxb
    have hnum : Num 4294967296 .u32 w (.slice (some a) ln cap) (val 4294967296 xs) ln := by
      refine ⟨some a, cap, rfl, hl, by unfold maxLen at hm; omega, hN, fun h0 => ?_⟩
      obtain ⟨b, off, sp⟩ := a
      have hsp : sp = none := by simpa [Addr.add] using World.cell?_spot (hcell 0 (by omega))
      subst hsp
      refine ⟨b, off, rfl, fun i hi => ?_⟩
      have hc := hcell i (by omega)
      rw [add_plain] at hc
      rw [hc, dig_val (by omega) xs hxb i]
      have hi' : i < zs.length := by omega
      have e : xs.getD i 0 = (zs.getD i 0).toNat := by simp [xs, hi, hi']
      have hz0 := hu (zs.getD i 0) (by simp [hi'])
      rw [e, Int.toNat_of_nonneg hz0.1]
    refine ⟨some a, ln, cap, _, rfl, hnum, ?_⟩
    have h2 : Rows.uptoBulk (DataW.slice (lits (H := H) .u32 (zs.take ln)) (lits .u32 (zs.drop ln))) ≥ ln := by
      simp only [Rows.uptoBulk, bulk_lits, List.length_take, List.length_drop]
      omega
    exact h2

set_option maxRecDepth 100000 in
theorem open_frac {fuel : Nat} {cs : List Value} {x : DataW H × List MemPlace} (h : DataW.trod enc Tryz.prog w base spare held fuel 26 cs = some x) :
    ∃ b A n c C m d q, cs = [.bool b, .slice A n c, .slice C m d] ∧ FracR w (.agg #[.bool b, .slice A n c, .slice C m d]) q (Rows.uptoBulk x.1) := by
  obtain ⟨y0, y1, n1, rfl, hl, h0, h1⟩ := trod_struct2 Tryz.underlying26 h
  obtain ⟨z0, z1, n2, rfl, hl2, g0, g1⟩ := trod_struct2 Tryz.underlying24 h0
  have e3 : Tryz.prog.cellsOf 26 = 3 := by kernel_rfl
  have e2 : Tryz.prog.cellsOf 24 = 2 := by kernel_rfl
  have e1 : Tryz.prog.cellsOf 22 = 1 := by kernel_rfl
  have e0 : Tryz.prog.cellsOf 4 = 1 := by kernel_rfl
  rw [e3] at hl
  match cs, hl with
  | [a0, a1, a2], _ =>
    simp only [e0, e1, e2, List.drop_zero, List.drop_succ_cons, List.take_succ_cons, List.take_zero] at h1 g0 g1
    obtain ⟨b, hb, -⟩ := DataW.trod_bool Tryz.underlying4 g0
    obtain ⟨A, n, c, N, hA, hN, hNl⟩ := open_words g1
    obtain ⟨C, m, d, D, hC, hD, hDl⟩ := open_words h1
    injection hb with hb
    injection hA with hA
    injection hC with hC
    subst hb; subst hA; subst hC
    refine ⟨b, A, n, c, C, m, d, _, rfl, b, N, D, n, m, _, _, rfl, hN, hD, rfl, ?_, ?_⟩
    · simp only [Rows.uptoBulk, Rows.uptoBulkAll]; omega
    · simp only [Rows.uptoBulk, Rows.uptoBulkAll]; omega

set_option maxRecDepth 100000 in
theorem open_spot {fuel : Nat} {cs : List Value} {x : DataW H × List MemPlace} (h : DataW.trod enc Tryz.prog w base spare held fuel 28 cs = some x) :
    ∃ p q, SpotR w (.agg cs.toArray) p q (Rows.uptoBulk x.1) := by
  obtain ⟨y0, y1, n1, rfl, hl, h0, h1⟩ := trod_struct2 Tryz.underlying28 h
  have e6 : Tryz.prog.cellsOf 28 = 6 := by kernel_rfl
  have e3 : Tryz.prog.cellsOf 26 = 3 := by kernel_rfl
  rw [e6] at hl
  match cs, hl with
  | [a0, a1, a2, a3, a4, a5], _ =>
    simp only [e3, List.drop_zero, List.drop_succ_cons, List.take_succ_cons, List.take_zero] at h0 h1
    obtain ⟨b, A, n, c, C, m, d, p, e, hp⟩ := open_frac h0
    obtain ⟨b', A', n', c', C', m', d', q, e', hq⟩ := open_frac h1
    injection e with i0 e; injection e with i1 e; injection e with i2 e
    injection e' with i3 e'; injection e' with i4 e'; injection e' with i5 e'
    subst i0; subst i1; subst i2; subst i3; subst i4; subst i5
    obtain ⟨neg, N, D, n1, m1, va, vd, w1, w2, w3, w4, w5, w6⟩ := hp
    obtain ⟨neg', N', D', n1', m1', va', vd', w1', w2', w3', w4', w5', w6'⟩ := hq
    refine ⟨p, q, b, A, n, c, C, m, d, b', A', n', c', C', m', d', rfl, ⟨neg, N, D, n1, m1, va, vd, w1, w2, w3, w4, ?_, ?_⟩, ⟨neg', N', D', n1', m1', va', vd', w1', w2', w3', w4', ?_, ?_⟩⟩ <;>
      (simp only [Rows.uptoBulk, Rows.uptoBulkAll]; omega)
end

/-- The row's last step where only new memory was made. -/
theorem post_grew {H : Type} {enc : TypeId × Value → H} {P : Program} {f : Func} {s : ChangeSpec} {apart fresh handsOn again : Bool} {W W' : World} {args : Array Value} {v : Value} {ds gs : List (DataW H)} {before pa pv : List MemPlace}
    (hW : DataW.Whole enc P f.params.toList s.vars apart W args.toList ds gs before)
    (hres : ∀ (b : Nat) (sp : Nat → Bool) (hd : Bool), DataW.TrodAll enc P W' b sp hd f.resultTypes.toList (v.resultList f.resultTypes.size) (s.fn H (ds ++ gs)).results [])
    (hargs : ∀ sp : Nat → Bool, (∀ p ∈ before, sp p.block = true) → DataW.TrodAll enc P W' 0 sp true f.params.toList args.toList (s.fn H (ds ++ gs)).args pa)
    (hvars : ∀ sp : Nat → Bool, (∀ p ∈ before, sp p.block = true) → DataW.TrodVars enc P W' sp s.vars (s.fn H (ds ++ gs)).vars pv)
    (hps : before = pa ++ pv) (g : Grew W W')
    (hok : ∀ (j : Nat) (t : TypeId) (r : Value), f.resultTypes[j]? = some t → (v.resultList f.resultTypes.size)[j]? = some r → Value.okWide P W' .any 0 t r) :
    s.post enc P f apart fresh handsOn again W args v W' := by
  have hb := g.below
  have hlt : ∀ p ∈ before, p.block < W.heap.size := fun p hp => hW.lt p hp
  have hold : ∀ p ∈ before, (fun b => decide (b < W.heap.size)) p.block = true := fun p hp => by simpa using hlt p hp
  refine ⟨ds, gs, before, [], pa, pv, hW, hres _ _ _, hargs _ hold, hvars _ hold, World.keptBut_mono (fun p hp => ⟨hp, ?_⟩) (hb.frame (· ∈ before)), fun _ => ?_⟩
  · rw [hps, List.mem_append] at hp
    exact Or.inr hp
  · obtain ⟨_, _, _, _, _, hz, hn⟩ := hW
    refine ⟨hok, _, _, ([] ++ pa) ++ pv, ⟨[] ++ pa, pv, trodAll_append (hargs _ (fun _ _ => rfl)) (hres _ _ _), hvars _ (fun _ _ => rfl), rfl, ?_, ?_⟩, ?_⟩
    · intro b off hp
      have hin : MemPlace.cell b off ∈ before := by rw [hps]; simpa using hp
      rw [hb.frozen (hlt _ hin)]
      exact hz b off hin
    · intro ha
      have := hn ha
      rw [hps] at this
      simpa using this
    · intro p hp _
      rw [hps]
      simpa using hp
end Go.Proofs.YtpglnfccmhkocaaGreat
