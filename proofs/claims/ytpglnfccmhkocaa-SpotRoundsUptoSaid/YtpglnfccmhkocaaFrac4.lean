/- (ratio).add. Condition: what comes in reads; fewer than 2^39 words. -/
import Derived.Test.YtpglnfccmhkocaaFrac3
namespace Go.Proofs.Ytpglnfccmhkocaa
open Go.RowKit

set_option maxRecDepth 100000 in
set_option maxHeartbeats 4000000 in
theorem radd_any (Va Vb : Value) (p q : Rat) (k l : Nat) (w : World) (ha : RatQ w Va p k) (hb : RatQ w Vb q l) (hs : k + l < 549755813887) :
    Calls Try.prog 55 #[Va, Vb] w fun e w' => ∃ V, e = .returned V ∧ RatQ w' V (p + q) (k + l + 1) ∧ Grew w w' := by
  obtain ⟨z, D, b1, A1, n1, c1, C1, m1, d1, rfl, Ea, hD, Wa, Na, k1, k2, Ma, -⟩ := ha.open
  obtain ⟨y, E, b2, A2, n2, c2, C2, m2, d2, rfl, Eb, hE, Wb, Nb, l1, l2, Mb, -⟩ := hb.open
  clear ha hb
  go_enter Try.func55, Try.ntmps55
  go_wp2_with fail
  refine gen_calls ?_
  intro W0 hW0
  have G0 : Grew w W0 := by rw [hW0]; exact (((Grew.refl w).alloc _).alloc _).alloc _
  have P : Box3 W0 (w.heap.size) 0 (.bool b1) (.slice A1 n1 c1) (.slice C1 m1 d1) := by rw [hW0]; exact ⟨by simp [go_sem], by simp [go_sem], by simp [go_sem]⟩
  replace P := Lib.hid P
  have Q : Box3 W0 (w.heap.size + 1) 0 (.bool b2) (.slice A2 n2 c2) (.slice C2 m2 d2) := by rw [hW0]; exact ⟨by simp [go_sem], by simp [go_sem], by simp [go_sem]⟩
  replace Q := Lib.hid Q
  have R : Res3 W0 (w.heap.size + 1 + 1) 0 (.bool false) (.slice none 0 0) (.slice none 0 0) := by rw [hW0]; exact ⟨by simp [go_sem], by simp [go_sem], by simp [go_sem], by simp [go_sem], by simp [go_sem], by simp [go_sem], by simp⟩
  replace R := Lib.hid R
  have z0 : w.heap.size < W0.heap.size := by rw [hW0]; simp <;> omega
  replace z0 := Lib.hid z0
  have z1 : w.heap.size + 1 < W0.heap.size := by rw [hW0]; simp <;> omega
  replace z1 := Lib.hid z1
  have z2 : w.heap.size + 1 + 1 < W0.heap.size := by rw [hW0]; simp <;> omega
  replace z2 := Lib.hid z2
  clear hW0
  replace Wa := Lib.hid (Wa.out.kept G0.keeps)
  replace Na := Lib.hid (Na.out.kept G0.keeps)
  replace Wb := Lib.hid (Wb.out.kept G0.keeps)
  replace Nb := Lib.hid (Nb.out.kept G0.keeps)
  replace G0 := Lib.hid G0
  refine (cmp_any _ _ D E _ _ _ Na.out Nb.out).mono ?_
  rintro e w1 ⟨rfl, g1⟩
  replace R := Lib.hid (R.out.grew g1)
  replace P := Lib.hid (P.out.grew g1)
  replace Q := Lib.hid (Q.out.grew g1)
  replace z0 := Lib.hid (lt_grew z0.out g1)
  replace z1 := Lib.hid (lt_grew z1.out g1)
  replace z2 := Lib.hid (lt_grew z2.out g1)
  replace Wa := Lib.hid (Wa.out.kept g1.keeps)
  replace Na := Lib.hid (Na.out.kept g1.keeps)
  replace Wb := Lib.hid (Wb.out.kept g1.keeps)
  replace Nb := Lib.hid (Nb.out.kept g1.keeps)
  replace G0 := Lib.hid (G0.out.trans g1)
  clear g1

  by_cases hDE : D = E
  · as_aux_lemma =>
    subst hDE
    have hlen := Lib.hid (len_addz z y (k + l) (by omega) (by omega))
    have k22 : len 4294967296 D ≤ k + l + 1 := by omega
    replace k22 := Lib.hid k22
    replace hD := Lib.hid hD
    have hs2 : k < 549755813888 ∧ l < 549755813888 := by omega
    replace hs2 := Lib.hid hs2
    clear k1 k2 l1 l2 hE hs
    rw [cmpN_self]
    obtain ⟨P0, P1, P2⟩ := P.out
    obtain ⟨Q0, Q1, Q2⟩ := Q.out
    go_wp2_with fail
    clear P0 P1 P2 Q0 Q1 Q2
    have gd : Grew w1 w1.drew := (Grew.refl w1).drew
    replace R := Lib.hid (R.out.grew gd)
    replace P := Lib.hid (P.out.grew gd)
    replace Q := Lib.hid (Q.out.grew gd)
    replace z0 := Lib.hid (lt_grew z0.out gd)
    replace z1 := Lib.hid (lt_grew z1.out gd)
    replace z2 := Lib.hid (lt_grew z2.out gd)
    replace Wa := Lib.hid (Wa.out.kept gd.keeps)
    replace Na := Lib.hid (Na.out.kept gd.keeps)
    replace Wb := Lib.hid (Wb.out.kept gd.keeps)
    replace Nb := Lib.hid (Nb.out.kept gd.keeps)
    replace gd := Lib.hid gd
    have ZP := P
    have ZQ := Q
    go_region_held3 (fun w' => w'.cell? ⟨w.heap.size, 0, none⟩ = some (.bool b1) ∧ w'.cell? ⟨w.heap.size, 1, none⟩ = some (.slice A1 n1 c1) ∧ w'.cell? ⟨w.heap.size, 2, none⟩ = some (.slice C1 m1 d1) ∧ w'.cell? ⟨w.heap.size + 1, 0, none⟩ = some (.bool b2) ∧ w'.cell? ⟨w.heap.size + 1, 1, none⟩ = some (.slice A2 n2 c2) ∧ w'.cell? ⟨w.heap.size + 1, 2, none⟩ = some (.slice C2 m2 d2))
      (first | (with_reducible exact ⟨ZP.out.p0, ZP.out.p1, ZP.out.p2, ZQ.out.p0, ZQ.out.p1, ZQ.out.p2⟩) | (with_reducible exact ⟨g2.cell ZP.out.p0, g2.cell ZP.out.p1, g2.cell ZP.out.p2, g2.cell ZQ.out.p0, g2.cell ZQ.out.p1, g2.cell ZQ.out.p2⟩) | (with_reducible exact ⟨other3 (o := 0) (by omega) (g2.cell ZP.out.p0), other3 (o := 0) (by omega) (g2.cell ZP.out.p1), other3 (o := 0) (by omega) (g2.cell ZP.out.p2), other3 (o := 0) (by omega) (g2.cell ZQ.out.p0), other3 (o := 0) (by omega) (g2.cell ZQ.out.p1), other3 (o := 0) (by omega) (g2.cell ZQ.out.p2)⟩))
      (first | (go_at_call 93; refine (wadd_v _ _ z y k l _ Wa.out Wb.out hs2.out).mono ?_; rintro e w2 ⟨V1, rfl, hV1, g2⟩; obtain ⟨b3, A3, n3, c3, rfl, X1, -⟩ := hV1.laid; clear hV1; replace R := Lib.hid (R.out.grew g2); replace P := Lib.hid (P.out.grew g2); replace Q := Lib.hid (Q.out.grew g2); replace z0 := Lib.hid (lt_grew z0.out g2); replace z1 := Lib.hid (lt_grew z1.out g2); replace z2 := Lib.hid (lt_grew z2.out g2); replace Wa := Lib.hid (Wa.out.kept g2.keeps); replace Na := Lib.hid (Na.out.kept g2.keeps); replace Wb := Lib.hid (Wb.out.kept g2.keeps); replace Nb := Lib.hid (Nb.out.kept g2.keeps); obtain ⟨R0, R1, R2, Rf0, Rf1, Rf2, Rs⟩ := R.out))
    replace G0 := Lib.hid ((G0.out.trans gd.out).trans g2)
    clear gd g2 ZP ZQ
    refine gen_then ?_
    intro W9 hW9
    obtain ⟨q0, q1, q2, qK, -, -, qs, qG⟩ := store3 (o := 0) R0 R1 R2 hW9
    have GE := qG w (.inr (by omega)) G0.out
    have QK := Lib.hid qK
    clear qK qG hW9 R0 R1 R2
    go_wp2_with fail
    exact bodyPost_ret (v := .agg #[.bool b3, .slice A3 n3 c3, .slice C1 m1 d1]) (by simp [results, Try.results55, go_sem, q0, q1, q2]) rfl ⟨_, rfl, RatQ.mk (X1.out.kept QK.out) (Na.out.kept QK.out) Ma.out hD.out (by rw [mkRat_add_same _ _ _ hD.out, Ea.out, Eb.out]) hlen.out k22.out, GE⟩
  · as_aux_lemma =>

    have hc : cmpN D E ≠ 0 := by
      unfold cmpN
      split
      · omega
      · split <;> omega
    generalize cmpN D E = cm at *
    have hcb : (cm == 0) = false := by simpa using hc
    have hl1 := Lib.hid (len_mulz z E k l k1 (by simpa using l2))
    have hl2 := Lib.hid (len_mulz y D l k l1 (by simpa using k2))
    have hlen := Lib.hid (len_addz (z * E) (y * D) (k + l) hl1.out (by rw [Nat.add_comm k l]; exact hl2.out))
    have hlen2 := Lib.hid (Nat.le_succ_of_le (len_mul (B := 4294967296) (by omega) D E k l k2 l2))
    have hlen3 : len 4294967296 D + len 4294967296 E < 1099511627776 := by omega
    have hkl : k + l < 1099511627776 ∧ l + k < 1099511627776 ∧ (k + l < 549755813888 ∧ l + k < 549755813888) := by omega
    replace hlen3 := Lib.hid hlen3
    have hDE2 := Lib.hid (Nat.mul_ne_zero hD hE)
    replace hD := Lib.hid hD
    replace hE := Lib.hid hE
    replace hkl := Lib.hid hkl
    replace l2 := Lib.hid l2
    replace k2 := Lib.hid k2
    clear hc hDE k1 l1 hs
    obtain ⟨P0, P1, P2⟩ := P.out
    obtain ⟨Q0, Q1, Q2⟩ := Q.out
    go_wp2_with fail
    clear P0 P1 P2 Q0 Q1 Q2
    refine (wmul_v _ _ z E k l _ Wa.out (Nb.out.whl l2.out) hkl.out.1).mono ?_
    rintro e w2 ⟨V1, rfl, hV1, g2⟩
    obtain ⟨b3, A3, n3, c3, rfl, hV1, -⟩ := hV1.laid
    have X1 := Lib.hid (hV1.out.v hl1.out)
    clear hV1
    replace R := Lib.hid (R.out.grew g2)
    replace P := Lib.hid (P.out.grew g2)
    replace Q := Lib.hid (Q.out.grew g2)
    replace z0 := Lib.hid (lt_grew z0.out g2)
    replace z1 := Lib.hid (lt_grew z1.out g2)
    replace z2 := Lib.hid (lt_grew z2.out g2)
    replace Wa := Lib.hid (Wa.out.kept g2.keeps)
    replace Na := Lib.hid (Na.out.kept g2.keeps)
    replace Wb := Lib.hid (Wb.out.kept g2.keeps)
    replace Nb := Lib.hid (Nb.out.kept g2.keeps)
    replace G0 := Lib.hid (G0.out.trans g2)
    clear g2
    obtain ⟨P0, P1, P2⟩ := P.out
    obtain ⟨Q0, Q1, Q2⟩ := Q.out
    have oz0 := z0.out
    have oz1 := z1.out
    have oz2 := z2.out
    go_wp2_with fail
    clear P0 P1 P2 Q0 Q1 Q2 oz0 oz1 oz2
    refine gen_calls ?_
    intro W1 hW1
    have gl : Grew w2 W1 := by rw [hW1]; exact (Grew.refl _).alloc _
    have y1 := Lib.hid (R.out).2.2.2.2.2.2
    replace R := Lib.hid (R.out.grew gl)
    replace P := Lib.hid (P.out.grew gl)
    replace Q := Lib.hid (Q.out.grew gl)
    replace z0 := Lib.hid (lt_grew z0.out gl)
    replace z1 := Lib.hid (lt_grew z1.out gl)
    replace z2 := Lib.hid (lt_grew z2.out gl)
    replace Wa := Lib.hid (Wa.out.kept gl.keeps)
    replace Na := Lib.hid (Na.out.kept gl.keeps)
    replace Wb := Lib.hid (Wb.out.kept gl.keeps)
    replace Nb := Lib.hid (Nb.out.kept gl.keeps)
    replace X1 := Lib.hid (X1.out.kept gl.keeps)
    have L : Box2 W1 (w2.heap.size) 0 (.bool b3) (.slice A3 n3 c3) := by rw [hW1]; exact ⟨by simp [go_sem], by simp [go_sem]⟩
    replace L := Lib.hid L
    have z3 : w2.heap.size < W1.heap.size := by rw [hW1]; simp <;> omega
    replace z3 := Lib.hid z3
    clear hW1
    replace G0 := Lib.hid (G0.out.trans gl)
    clear gl
    refine (wmul_v _ _ y D l k _ Wb.out (Na.out.whl k2.out) hkl.out.2.1).mono ?_
    rintro e w3 ⟨V2, rfl, hV2, g3⟩
    obtain ⟨b4, A4, n4, c4, rfl, hV2, -⟩ := hV2.laid
    have X2 := Lib.hid (hV2.out.v hl2.out)
    clear hV2
    replace R := Lib.hid (R.out.grew g3)
    replace P := Lib.hid (P.out.grew g3)
    replace Q := Lib.hid (Q.out.grew g3)
    replace L := Lib.hid (L.out.grew g3)
    replace z0 := Lib.hid (lt_grew z0.out g3)
    replace z1 := Lib.hid (lt_grew z1.out g3)
    replace z2 := Lib.hid (lt_grew z2.out g3)
    replace z3 := Lib.hid (lt_grew z3.out g3)
    replace Wa := Lib.hid (Wa.out.kept g3.keeps)
    replace Na := Lib.hid (Na.out.kept g3.keeps)
    replace Wb := Lib.hid (Wb.out.kept g3.keeps)
    replace Nb := Lib.hid (Nb.out.kept g3.keeps)
    replace X1 := Lib.hid (X1.out.kept g3.keeps)
    replace G0 := Lib.hid (G0.out.trans g3)
    clear g3
    obtain ⟨P0, P1, P2⟩ := P.out
    obtain ⟨Q0, Q1, Q2⟩ := Q.out
    obtain ⟨L0, L1⟩ := L.out
    have oz0 := z0.out
    have oz1 := z1.out
    have oz2 := z2.out
    have oz3 := z3.out
    go_wp2_with fail
    clear P0 P1 P2 Q0 Q1 Q2 L0 L1 oz0 oz1 oz2 oz3
    refine gen_wp ?_
    intro W2 hW2
    have gl : Grew w3 W2 := by rw [hW2]; exact (Grew.refl _).alloc _
    have y2 := Lib.hid (R.out).2.2.2.2.2.2
    replace R := Lib.hid (R.out.grew gl)
    replace P := Lib.hid (P.out.grew gl)
    replace Q := Lib.hid (Q.out.grew gl)
    replace L := Lib.hid (L.out.grew gl)
    replace z0 := Lib.hid (lt_grew z0.out gl)
    replace z1 := Lib.hid (lt_grew z1.out gl)
    replace z2 := Lib.hid (lt_grew z2.out gl)
    replace z3 := Lib.hid (lt_grew z3.out gl)
    replace Wa := Lib.hid (Wa.out.kept gl.keeps)
    replace Na := Lib.hid (Na.out.kept gl.keeps)
    replace Wb := Lib.hid (Wb.out.kept gl.keeps)
    replace Nb := Lib.hid (Nb.out.kept gl.keeps)
    replace X1 := Lib.hid (X1.out.kept gl.keeps)
    replace X2 := Lib.hid (X2.out.kept gl.keeps)
    have M : Box2 W2 (w3.heap.size) 0 (.bool b4) (.slice A4 n4 c4) := by rw [hW2]; exact ⟨by simp [go_sem], by simp [go_sem]⟩
    replace M := Lib.hid M
    have z4 : w3.heap.size < W2.heap.size := by rw [hW2]; simp <;> omega
    replace z4 := Lib.hid z4
    clear hW2
    replace G0 := Lib.hid (G0.out.trans gl)
    clear gl
    have gd : Grew W2 W2.drew := (Grew.refl W2).drew
    replace R := Lib.hid (R.out.grew gd)
    replace P := Lib.hid (P.out.grew gd)
    replace Q := Lib.hid (Q.out.grew gd)
    replace L := Lib.hid (L.out.grew gd)
    replace M := Lib.hid (M.out.grew gd)
    replace z0 := Lib.hid (lt_grew z0.out gd)
    replace z1 := Lib.hid (lt_grew z1.out gd)
    replace z2 := Lib.hid (lt_grew z2.out gd)
    replace z3 := Lib.hid (lt_grew z3.out gd)
    replace z4 := Lib.hid (lt_grew z4.out gd)
    replace Wa := Lib.hid (Wa.out.kept gd.keeps)
    replace Na := Lib.hid (Na.out.kept gd.keeps)
    replace Wb := Lib.hid (Wb.out.kept gd.keeps)
    replace Nb := Lib.hid (Nb.out.kept gd.keeps)
    replace X1 := Lib.hid (X1.out.kept gd.keeps)
    replace X2 := Lib.hid (X2.out.kept gd.keeps)
    replace gd := Lib.hid gd
    have ZP := P
    have ZQ := Q
    have ZL := L
    have ZM := M
    go_region_held3 (fun w' => w'.cell? ⟨w.heap.size, 0, none⟩ = some (.bool b1) ∧ w'.cell? ⟨w.heap.size, 1, none⟩ = some (.slice A1 n1 c1) ∧ w'.cell? ⟨w.heap.size, 2, none⟩ = some (.slice C1 m1 d1) ∧ w'.cell? ⟨w.heap.size + 1, 0, none⟩ = some (.bool b2) ∧ w'.cell? ⟨w.heap.size + 1, 1, none⟩ = some (.slice A2 n2 c2) ∧ w'.cell? ⟨w.heap.size + 1, 2, none⟩ = some (.slice C2 m2 d2) ∧ w'.cell? ⟨w2.heap.size, 0, none⟩ = some (.bool b3) ∧ w'.cell? ⟨w2.heap.size, 1, none⟩ = some (.slice A3 n3 c3) ∧ w'.cell? ⟨w3.heap.size, 0, none⟩ = some (.bool b4) ∧ w'.cell? ⟨w3.heap.size, 1, none⟩ = some (.slice A4 n4 c4))
      (first | (with_reducible exact ⟨ZP.out.p0, ZP.out.p1, ZP.out.p2, ZQ.out.p0, ZQ.out.p1, ZQ.out.p2, ZL.out.p0, ZL.out.p1, ZM.out.p0, ZM.out.p1⟩) | (with_reducible exact ⟨g4.cell ZP.out.p0, g4.cell ZP.out.p1, g4.cell ZP.out.p2, g4.cell ZQ.out.p0, g4.cell ZQ.out.p1, g4.cell ZQ.out.p2, g4.cell ZL.out.p0, g4.cell ZL.out.p1, g4.cell ZM.out.p0, g4.cell ZM.out.p1⟩) | (with_reducible exact ⟨(g4.trans g5).cell ZP.out.p0, (g4.trans g5).cell ZP.out.p1, (g4.trans g5).cell ZP.out.p2, (g4.trans g5).cell ZQ.out.p0, (g4.trans g5).cell ZQ.out.p1, (g4.trans g5).cell ZQ.out.p2, (g4.trans g5).cell ZL.out.p0, (g4.trans g5).cell ZL.out.p1, (g4.trans g5).cell ZM.out.p0, (g4.trans g5).cell ZM.out.p1⟩) | (with_reducible exact ⟨other3 (o := 0) (by omega) ((g4.trans g5).cell ZP.out.p0), other3 (o := 0) (by omega) ((g4.trans g5).cell ZP.out.p1), other3 (o := 0) (by omega) ((g4.trans g5).cell ZP.out.p2), other3 (o := 0) (by omega) ((g4.trans g5).cell ZQ.out.p0), other3 (o := 0) (by omega) ((g4.trans g5).cell ZQ.out.p1), other3 (o := 0) (by omega) ((g4.trans g5).cell ZQ.out.p2), other3 (o := 0) (by have := y1.out; omega) ((g4.trans g5).cell ZL.out.p0), other3 (o := 0) (by have := y1.out; omega) ((g4.trans g5).cell ZL.out.p1), other3 (o := 0) (by have := y2.out; omega) ((g4.trans g5).cell ZM.out.p0), other3 (o := 0) (by have := y2.out; omega) ((g4.trans g5).cell ZM.out.p1)⟩))
      (first | (go_at_call 93; refine (wadd_v _ _ (z * E) (y * D) (k + l) (l + k) _ X1.out X2.out hkl.out.2.2).mono ?_; rintro e w4 ⟨V3, rfl, hV3, g4⟩; obtain ⟨b5, A5, n5, c5, rfl, X3, -⟩ := hV3.laid; clear hV3; replace R := Lib.hid (R.out.grew g4); replace P := Lib.hid (P.out.grew g4); replace Q := Lib.hid (Q.out.grew g4); replace L := Lib.hid (L.out.grew g4); replace M := Lib.hid (M.out.grew g4); replace z0 := Lib.hid (lt_grew z0.out g4); replace z1 := Lib.hid (lt_grew z1.out g4); replace z2 := Lib.hid (lt_grew z2.out g4); replace z3 := Lib.hid (lt_grew z3.out g4); replace z4 := Lib.hid (lt_grew z4.out g4); replace Wa := Lib.hid (Wa.out.kept g4.keeps); replace Na := Lib.hid (Na.out.kept g4.keeps); replace Wb := Lib.hid (Wb.out.kept g4.keeps); replace Nb := Lib.hid (Nb.out.kept g4.keeps); replace X1 := Lib.hid (X1.out.kept g4.keeps); replace X2 := Lib.hid (X2.out.kept g4.keeps)) | (go_at_call 73; refine (mul_any _ _ D E _ _ _ Na.out Nb.out hlen3.out).mono ?_; rintro e w5 ⟨V4, rfl, hV4, g5⟩; obtain ⟨A6, c6, rfl, X4⟩ := hV4.slice; clear hV4; replace R := Lib.hid (R.out.grew g5); replace P := Lib.hid (P.out.grew g5); replace Q := Lib.hid (Q.out.grew g5); replace L := Lib.hid (L.out.grew g5); replace M := Lib.hid (M.out.grew g5); replace z0 := Lib.hid (lt_grew z0.out g5); replace z1 := Lib.hid (lt_grew z1.out g5); replace z2 := Lib.hid (lt_grew z2.out g5); replace z3 := Lib.hid (lt_grew z3.out g5); replace z4 := Lib.hid (lt_grew z4.out g5); replace Wa := Lib.hid (Wa.out.kept g5.keeps); replace Na := Lib.hid (Na.out.kept g5.keeps); replace Wb := Lib.hid (Wb.out.kept g5.keeps); replace Nb := Lib.hid (Nb.out.kept g5.keeps); replace X1 := Lib.hid (X1.out.kept g5.keeps); replace X2 := Lib.hid (X2.out.kept g5.keeps); replace X3 := Lib.hid (X3.out.kept g5.keeps); obtain ⟨R0, R1, R2, Rf0, Rf1, Rf2, Rs⟩ := R.out))
    replace G0 := Lib.hid (((G0.out.trans gd.out).trans g4).trans g5)
    clear gd g4 g5 ZP ZQ ZL ZM
    refine gen_then ?_
    intro W9 hW9
    obtain ⟨q0, q1, q2, qK, -, -, qs, qG⟩ := store3 (o := 0) R0 R1 R2 hW9
    have GE := qG w (.inr (by omega)) G0.out
    have QK := Lib.hid qK
    clear qK qG hW9 R0 R1 R2
    go_wp2_with fail
    exact bodyPost_ret (v := .agg #[.bool b5, .slice A5 n5 c5, .slice A6 (len 4294967296 (D * E)) c6]) (by simp [results, Try.results55, go_sem, q0, q1, q2]) rfl ⟨_, rfl, RatQ.mk (X3.out.kept QK.out) (X4.out.kept QK.out) rfl hDE2.out (by rw [mkRat_add _ _ _ _ hD.out hE.out, Ea.out, Eb.out]) hlen.out hlen2.out, GE⟩
end Go.Proofs.Ytpglnfccmhkocaa
