/- (ratio).mul. Condition: what comes in reads; fewer than 2^39 words. (ratio).add. Condition: what comes in reads; fewer than 2^39 words. (ratio).sub, (ratio).frac. Condition: what comes in reads; fewer than 2^39 words. frac.two of add, sub, mul; frac.Add, Sub, Mul; frac.Reduce, Int, Half. Condition: what comes in reads; fewer than 2^39 words. -/
import Derived.Test.YtmommicmblfibaaGreatJWv
set_option maxRecDepth 100000
namespace Go.Proofs.YtmommicmblfibaaGreat
open Go.RowKit
set_option maxHeartbeats 4000000 in
theorem radd_any (Va Vb : Value) (p q : Rat) (k l : Nat) (w : World) (ha : RatQ w Va p k) (hb : RatQ w Vb q l) (hs : k + l < 549755813887) :
  Calls Tryz.prog 149 #[Va, Vb] w fun e w' => ∃ V, e = .returned V ∧ RatQ w' V (p + q) (k + l + 1) ∧ Grew w w' := by
 obtain ⟨z, D, b1, A1, n1, c1, C1, m1, d1, rfl, Ea, hD, Wa, Na, k1, k2, Ma, -⟩ := ha.open
 obtain ⟨y, E, b2, A2, n2, c2, C2, m2, d2, rfl, Eb, hE, Wb, Nb, l1, l2, Mb, -⟩ := hb.open
 clear ha hb
 go_enter Tryz.func149, Tryz.ntmps149
 go_wp2_with fail
 refine gen_calls ?_
 intro W0 hW0
 have G0 : Grew w W0 := by rw [hW0]; exact (((Grew.refl w).alloc _).alloc _).alloc _
 have P : Box3 W0 (w.heap.size) 0 (.bool b1) (.slice A1 n1 c1) (.slice C1 m1 d1) := by rw [hW0]; exact ⟨by simp [go_sem], by simp [go_sem], by simp [go_sem]⟩
 replace P := hZ P
 have Q : Box3 W0 (w.heap.size + 1) 0 (.bool b2) (.slice A2 n2 c2) (.slice C2 m2 d2) := by rw [hW0]; exact ⟨by simp [go_sem], by simp [go_sem], by simp [go_sem]⟩
 replace Q := hZ Q
 have R : Res3 W0 (w.heap.size + 1 + 1) 0 (.bool false) (.slice none 0 0) (.slice none 0 0) := by rw [hW0]; exact ⟨by simp [go_sem], by simp [go_sem], by simp [go_sem], by simp [go_sem], by simp [go_sem], by simp [go_sem], by simp⟩
 replace R := hZ R
 have z0 : w.heap.size < W0.heap.size := by rw [hW0]; simp <;> omega
 replace z0 := hZ z0
 have z1 : w.heap.size + 1 < W0.heap.size := by rw [hW0]; simp <;> omega
 replace z1 := hZ z1
 have z2 : w.heap.size + 1 + 1 < W0.heap.size := by rw [hW0]; simp <;> omega
 replace z2 := hZ z2
 clear hW0
 replace Wa := hZ (Wa.out.kept G0.keeps)
 replace Na := hZ (Na.out.kept G0.keeps)
 replace Wb := hZ (Wb.out.kept G0.keeps)
 replace Nb := hZ (Nb.out.kept G0.keeps)
 replace G0 := hZ G0
 refine (cmp_any _ _ D E _ _ _ Na.out Nb.out).mono ?_
 rintro e w1 ⟨rfl, g1⟩
 replace R := hZ (R.out.grew g1)
 replace P := hZ (P.out.grew g1)
 replace Q := hZ (Q.out.grew g1)
 replace z0 := hZ (lt_grew z0.out g1)
 replace z1 := hZ (lt_grew z1.out g1)
 replace z2 := hZ (lt_grew z2.out g1)
 replace Wa := hZ (Wa.out.kept g1.keeps)
 replace Na := hZ (Na.out.kept g1.keeps)
 replace Wb := hZ (Wb.out.kept g1.keeps)
 replace Nb := hZ (Nb.out.kept g1.keeps)
 replace G0 := hZ (G0.out.trans g1)
 clear g1
 by_cases hDE : D = E
 ·as_aux_lemma =>
  subst hDE
  have hlen := hZ (len_addz z y (k + l) (by omega) (by omega))
  have k22 : len 4294967296 D ≤ k + l + 1 := by omega
  replace k22 := hZ k22
  replace hD := hZ hD
  have hs2 : k < 549755813888 ∧ l < 549755813888 := by omega
  replace hs2 := hZ hs2
  clear k1 k2 l1 l2 hE hs
  rw [cmpN_self]
  obtain ⟨P0, P1, P2⟩ := P.out
  obtain ⟨Q0, Q1, Q2⟩ := Q.out
  go_wp2_with fail
  clear P0 P1 P2 Q0 Q1 Q2
  have gd : Grew w1 w1.drew := (Grew.refl w1).drew
  replace R := hZ (R.out.grew gd)
  replace P := hZ (P.out.grew gd)
  replace Q := hZ (Q.out.grew gd)
  replace z0 := hZ (lt_grew z0.out gd)
  replace z1 := hZ (lt_grew z1.out gd)
  replace z2 := hZ (lt_grew z2.out gd)
  replace Wa := hZ (Wa.out.kept gd.keeps)
  replace Na := hZ (Na.out.kept gd.keeps)
  replace Wb := hZ (Wb.out.kept gd.keeps)
  replace Nb := hZ (Nb.out.kept gd.keeps)
  replace gd := hZ gd
  have ZP := P
  have ZQ := Q
  go_region_held3 (fun w' => w'.cell? ⟨w.heap.size, 0, none⟩ = some (.bool b1) ∧ w'.cell? ⟨w.heap.size, 1, none⟩ = some (.slice A1 n1 c1) ∧ w'.cell? ⟨w.heap.size, 2, none⟩ = some (.slice C1 m1 d1) ∧ w'.cell? ⟨w.heap.size + 1, 0, none⟩ = some (.bool b2) ∧ w'.cell? ⟨w.heap.size + 1, 1, none⟩ = some (.slice A2 n2 c2) ∧ w'.cell? ⟨w.heap.size + 1, 2, none⟩ = some (.slice C2 m2 d2))
   (first | (with_reducible exact ⟨ZP.out.p0, ZP.out.p1, ZP.out.p2, ZQ.out.p0, ZQ.out.p1, ZQ.out.p2⟩) | (with_reducible exact ⟨g2.cell ZP.out.p0, g2.cell ZP.out.p1, g2.cell ZP.out.p2, g2.cell ZQ.out.p0, g2.cell ZQ.out.p1, g2.cell ZQ.out.p2⟩) | (with_reducible exact ⟨other3 (o := 0) (by omega) (g2.cell ZP.out.p0), other3 (o := 0) (by omega) (g2.cell ZP.out.p1), other3 (o := 0) (by omega) (g2.cell ZP.out.p2), other3 (o := 0) (by omega) (g2.cell ZQ.out.p0), other3 (o := 0) (by omega) (g2.cell ZQ.out.p1), other3 (o := 0) (by omega) (g2.cell ZQ.out.p2)⟩))
   (first | (go_at_call 180; refine (wadd_v _ _ z y k l _ Wa.out Wb.out hs2.out).mono ?_; rintro e w2 ⟨V1, rfl, hV1, g2⟩; obtain ⟨b3, A3, n3, c3, rfl, X1, -⟩ := hV1.laid; clear hV1; replace R := hZ (R.out.grew g2); replace P := hZ (P.out.grew g2); replace Q := hZ (Q.out.grew g2); replace z0 := hZ (lt_grew z0.out g2); replace z1 := hZ (lt_grew z1.out g2); replace z2 := hZ (lt_grew z2.out g2); replace Wa := hZ (Wa.out.kept g2.keeps); replace Na := hZ (Na.out.kept g2.keeps); replace Wb := hZ (Wb.out.kept g2.keeps); replace Nb := hZ (Nb.out.kept g2.keeps); obtain ⟨R0, R1, R2, Rf0, Rf1, Rf2, Rs⟩ := R.out))
  replace G0 := hZ ((G0.out.trans gd.out).trans g2)
  clear gd g2 ZP ZQ
  refine gen_then ?_
  intro W9 hW9
  obtain ⟨q0, q1, q2, qK, -, -, qs, qG⟩ := store3 (o := 0) R0 R1 R2 hW9
  have GE := qG w (.inr (by omega)) G0.out
  have QK := hZ qK
  clear qK qG hW9 R0 R1 R2
  go_wp2_with fail
  exact bodyPost_ret (v := .agg #[.bool b3, .slice A3 n3 c3, .slice C1 m1 d1]) (by simp [results, Tryz.results149, go_sem, q0, q1, q2]) rfl ⟨_, rfl, RatQ.mk (X1.out.kept QK.out) (Na.out.kept QK.out) Ma.out hD.out (by rw [mkRat_add_same _ _ _ hD.out, Ea.out, Eb.out]) hlen.out k22.out, GE⟩
 ·as_aux_lemma =>
  have hc : cmpN D E ≠ 0 := by
   unfold cmpN
   split
   ·omega
   ·split <;> omega
  generalize cmpN D E = cm at *
  have hcb : (cm == 0) = false := by simpa using hc
  have hl1 := hZ (len_mulz z E k l k1 (by simpa using l2))
  have hl2 := hZ (len_mulz y D l k l1 (by simpa using k2))
  have hlen := hZ (len_addz (z * E) (y * D) (k + l) hl1.out (by rw [Nat.add_comm k l]; exact hl2.out))
  have hlen2 := hZ (Nat.le_succ_of_le (len_mul (B := 4294967296) (by omega) D E k l k2 l2))
  have hlen3 : len 4294967296 D + len 4294967296 E < 1099511627776 := by omega
  have hkl : k + l < 1099511627776 ∧ l + k < 1099511627776 ∧ (k + l < 549755813888 ∧ l + k < 549755813888) := by omega
  replace hlen3 := hZ hlen3
  have hDE2 := hZ (Nat.mul_ne_zero hD hE)
  replace hD := hZ hD
  replace hE := hZ hE
  replace hkl := hZ hkl
  replace l2 := hZ l2
  replace k2 := hZ k2
  clear hc hDE k1 l1 hs
  obtain ⟨P0, P1, P2⟩ := P.out
  obtain ⟨Q0, Q1, Q2⟩ := Q.out
  go_wp2_with fail
  clear P0 P1 P2 Q0 Q1 Q2
  refine (wmul_v _ _ z E k l _ Wa.out (Nb.out.whl l2.out) hkl.out.1).mono ?_
  rintro e w2 ⟨V1, rfl, hV1, g2⟩
  obtain ⟨b3, A3, n3, c3, rfl, hV1, -⟩ := hV1.laid
  have X1 := hZ (hV1.out.v hl1.out)
  clear hV1
  replace R := hZ (R.out.grew g2)
  replace P := hZ (P.out.grew g2)
  replace Q := hZ (Q.out.grew g2)
  replace z0 := hZ (lt_grew z0.out g2)
  replace z1 := hZ (lt_grew z1.out g2)
  replace z2 := hZ (lt_grew z2.out g2)
  replace Wa := hZ (Wa.out.kept g2.keeps)
  replace Na := hZ (Na.out.kept g2.keeps)
  replace Wb := hZ (Wb.out.kept g2.keeps)
  replace Nb := hZ (Nb.out.kept g2.keeps)
  replace G0 := hZ (G0.out.trans g2)
  clear g2
  obtain ⟨P0, P1, P2⟩ := P.out
  obtain ⟨Q0, Q1, Q2⟩ := Q.out
  have oz0 := z0.out
  have oz1 := z1.out
  have oz2 := z2.out
  go_wp2_with fail
  clear P0 P1 P2 Q0 Q1 Q2 oz0 oz1 oz2
  refine gen_calls ?_
  intro W1 hW1
  have gl : Grew w2 W1 := by rw [hW1]; exact (Grew.refl _).alloc _
  have y1 := hZ (R.out).2.2.2.2.2.2
  replace R := hZ (R.out.grew gl)
  replace P := hZ (P.out.grew gl)
  replace Q := hZ (Q.out.grew gl)
  replace z0 := hZ (lt_grew z0.out gl)
  replace z1 := hZ (lt_grew z1.out gl)
  replace z2 := hZ (lt_grew z2.out gl)
  replace Wa := hZ (Wa.out.kept gl.keeps)
  replace Na := hZ (Na.out.kept gl.keeps)
  replace Wb := hZ (Wb.out.kept gl.keeps)
  replace Nb := hZ (Nb.out.kept gl.keeps)
  replace X1 := hZ (X1.out.kept gl.keeps)
  have L : Box2 W1 (w2.heap.size) 0 (.bool b3) (.slice A3 n3 c3) := by rw [hW1]; exact ⟨by simp [go_sem], by simp [go_sem]⟩
  replace L := hZ L
  have z3 : w2.heap.size < W1.heap.size := by rw [hW1]; simp <;> omega
  replace z3 := hZ z3
  clear hW1
  replace G0 := hZ (G0.out.trans gl)
  clear gl
  refine (wmul_v _ _ y D l k _ Wb.out (Na.out.whl k2.out) hkl.out.2.1).mono ?_
  rintro e w3 ⟨V2, rfl, hV2, g3⟩
  obtain ⟨b4, A4, n4, c4, rfl, hV2, -⟩ := hV2.laid
  have X2 := hZ (hV2.out.v hl2.out)
  clear hV2
  replace R := hZ (R.out.grew g3)
  replace P := hZ (P.out.grew g3)
  replace Q := hZ (Q.out.grew g3)
  replace L := hZ (L.out.grew g3)
  replace z0 := hZ (lt_grew z0.out g3)
  replace z1 := hZ (lt_grew z1.out g3)
  replace z2 := hZ (lt_grew z2.out g3)
  replace z3 := hZ (lt_grew z3.out g3)
  replace Wa := hZ (Wa.out.kept g3.keeps)
  replace Na := hZ (Na.out.kept g3.keeps)
  replace Wb := hZ (Wb.out.kept g3.keeps)
  replace Nb := hZ (Nb.out.kept g3.keeps)
  replace X1 := hZ (X1.out.kept g3.keeps)
  replace G0 := hZ (G0.out.trans g3)
  clear g3
  obtain ⟨P0, P1, P2⟩ := P.out
  obtain ⟨Q0, Q1, Q2⟩ := Q.out
  obtain ⟨L0, L1⟩ := L.out
  have oz0 := z0.out
  have oz1 := z1.out
  have oz2 := z2.out
  have oz3 := z3.out
  go_wp2_with fail
  clear P0 P1 P2 Q0 Q1 Q2 L0 L1 oz0 oz1 oz2 oz3
  refine gen_wp ?_
  intro W2 hW2
  have gl : Grew w3 W2 := by rw [hW2]; exact (Grew.refl _).alloc _
  have y2 := hZ (R.out).2.2.2.2.2.2
  replace R := hZ (R.out.grew gl)
  replace P := hZ (P.out.grew gl)
  replace Q := hZ (Q.out.grew gl)
  replace L := hZ (L.out.grew gl)
  replace z0 := hZ (lt_grew z0.out gl)
  replace z1 := hZ (lt_grew z1.out gl)
  replace z2 := hZ (lt_grew z2.out gl)
  replace z3 := hZ (lt_grew z3.out gl)
  replace Wa := hZ (Wa.out.kept gl.keeps)
  replace Na := hZ (Na.out.kept gl.keeps)
  replace Wb := hZ (Wb.out.kept gl.keeps)
  replace Nb := hZ (Nb.out.kept gl.keeps)
  replace X1 := hZ (X1.out.kept gl.keeps)
  replace X2 := hZ (X2.out.kept gl.keeps)
  have M : Box2 W2 (w3.heap.size) 0 (.bool b4) (.slice A4 n4 c4) := by rw [hW2]; exact ⟨by simp [go_sem], by simp [go_sem]⟩
  replace M := hZ M
  have z4 : w3.heap.size < W2.heap.size := by rw [hW2]; simp <;> omega
  replace z4 := hZ z4
  clear hW2
  replace G0 := hZ (G0.out.trans gl)
  clear gl
  have gd : Grew W2 W2.drew := (Grew.refl W2).drew
  replace R := hZ (R.out.grew gd)
  replace P := hZ (P.out.grew gd)
  replace Q := hZ (Q.out.grew gd)
  replace L := hZ (L.out.grew gd)
  replace M := hZ (M.out.grew gd)
  replace z0 := hZ (lt_grew z0.out gd)
  replace z1 := hZ (lt_grew z1.out gd)
  replace z2 := hZ (lt_grew z2.out gd)
  replace z3 := hZ (lt_grew z3.out gd)
  replace z4 := hZ (lt_grew z4.out gd)
  replace Wa := hZ (Wa.out.kept gd.keeps)
  replace Na := hZ (Na.out.kept gd.keeps)
  replace Wb := hZ (Wb.out.kept gd.keeps)
  replace Nb := hZ (Nb.out.kept gd.keeps)
  replace X1 := hZ (X1.out.kept gd.keeps)
  replace X2 := hZ (X2.out.kept gd.keeps)
  replace gd := hZ gd
  have ZP := P
  have ZQ := Q
  have ZL := L
  have ZM := M
  go_region_held3 (fun w' => w'.cell? ⟨w.heap.size, 0, none⟩ = some (.bool b1) ∧ w'.cell? ⟨w.heap.size, 1, none⟩ = some (.slice A1 n1 c1) ∧ w'.cell? ⟨w.heap.size, 2, none⟩ = some (.slice C1 m1 d1) ∧ w'.cell? ⟨w.heap.size + 1, 0, none⟩ = some (.bool b2) ∧ w'.cell? ⟨w.heap.size + 1, 1, none⟩ = some (.slice A2 n2 c2) ∧ w'.cell? ⟨w.heap.size + 1, 2, none⟩ = some (.slice C2 m2 d2) ∧ w'.cell? ⟨w2.heap.size, 0, none⟩ = some (.bool b3) ∧ w'.cell? ⟨w2.heap.size, 1, none⟩ = some (.slice A3 n3 c3) ∧ w'.cell? ⟨w3.heap.size, 0, none⟩ = some (.bool b4) ∧ w'.cell? ⟨w3.heap.size, 1, none⟩ = some (.slice A4 n4 c4))
   (first | (with_reducible exact ⟨ZP.out.p0, ZP.out.p1, ZP.out.p2, ZQ.out.p0, ZQ.out.p1, ZQ.out.p2, ZL.out.p0, ZL.out.p1, ZM.out.p0, ZM.out.p1⟩) | (with_reducible exact ⟨g4.cell ZP.out.p0, g4.cell ZP.out.p1, g4.cell ZP.out.p2, g4.cell ZQ.out.p0, g4.cell ZQ.out.p1, g4.cell ZQ.out.p2, g4.cell ZL.out.p0, g4.cell ZL.out.p1, g4.cell ZM.out.p0, g4.cell ZM.out.p1⟩) | (with_reducible exact ⟨(g4.trans g5).cell ZP.out.p0, (g4.trans g5).cell ZP.out.p1, (g4.trans g5).cell ZP.out.p2, (g4.trans g5).cell ZQ.out.p0, (g4.trans g5).cell ZQ.out.p1, (g4.trans g5).cell ZQ.out.p2, (g4.trans g5).cell ZL.out.p0, (g4.trans g5).cell ZL.out.p1, (g4.trans g5).cell ZM.out.p0, (g4.trans g5).cell ZM.out.p1⟩) | (with_reducible exact ⟨other3 (o := 0) (by omega) ((g4.trans g5).cell ZP.out.p0), other3 (o := 0) (by omega) ((g4.trans g5).cell ZP.out.p1), other3 (o := 0) (by omega) ((g4.trans g5).cell ZP.out.p2), other3 (o := 0) (by omega) ((g4.trans g5).cell ZQ.out.p0), other3 (o := 0) (by omega) ((g4.trans g5).cell ZQ.out.p1), other3 (o := 0) (by omega) ((g4.trans g5).cell ZQ.out.p2), other3 (o := 0) (by have := y1.out; omega) ((g4.trans g5).cell ZL.out.p0), other3 (o := 0) (by have := y1.out; omega) ((g4.trans g5).cell ZL.out.p1), other3 (o := 0) (by have := y2.out; omega) ((g4.trans g5).cell ZM.out.p0), other3 (o := 0) (by have := y2.out; omega) ((g4.trans g5).cell ZM.out.p1)⟩))
   (first | (go_at_call 180; refine (wadd_v _ _ (z * E) (y * D) (k + l) (l + k) _ X1.out X2.out hkl.out.2.2).mono ?_; rintro e w4 ⟨V3, rfl, hV3, g4⟩; obtain ⟨b5, A5, n5, c5, rfl, X3, -⟩ := hV3.laid; clear hV3; replace R := hZ (R.out.grew g4); replace P := hZ (P.out.grew g4); replace Q := hZ (Q.out.grew g4); replace L := hZ (L.out.grew g4); replace M := hZ (M.out.grew g4); replace z0 := hZ (lt_grew z0.out g4); replace z1 := hZ (lt_grew z1.out g4); replace z2 := hZ (lt_grew z2.out g4); replace z3 := hZ (lt_grew z3.out g4); replace z4 := hZ (lt_grew z4.out g4); replace Wa := hZ (Wa.out.kept g4.keeps); replace Na := hZ (Na.out.kept g4.keeps); replace Wb := hZ (Wb.out.kept g4.keeps); replace Nb := hZ (Nb.out.kept g4.keeps); replace X1 := hZ (X1.out.kept g4.keeps); replace X2 := hZ (X2.out.kept g4.keeps)) | (go_at_call 103; refine (mul_any _ _ D E _ _ _ Na.out Nb.out hlen3.out).mono ?_; rintro e w5 ⟨V4, rfl, hV4, g5⟩; obtain ⟨A6, c6, rfl, X4⟩ := hV4.slice; clear hV4; replace R := hZ (R.out.grew g5); replace P := hZ (P.out.grew g5); replace Q := hZ (Q.out.grew g5); replace L := hZ (L.out.grew g5); replace M := hZ (M.out.grew g5); replace z0 := hZ (lt_grew z0.out g5); replace z1 := hZ (lt_grew z1.out g5); replace z2 := hZ (lt_grew z2.out g5); replace z3 := hZ (lt_grew z3.out g5); replace z4 := hZ (lt_grew z4.out g5); replace Wa := hZ (Wa.out.kept g5.keeps); replace Na := hZ (Na.out.kept g5.keeps); replace Wb := hZ (Wb.out.kept g5.keeps); replace Nb := hZ (Nb.out.kept g5.keeps); replace X1 := hZ (X1.out.kept g5.keeps); replace X2 := hZ (X2.out.kept g5.keeps); replace X3 := hZ (X3.out.kept g5.keeps); obtain ⟨R0, R1, R2, Rf0, Rf1, Rf2, Rs⟩ := R.out))
  replace G0 := hZ (((G0.out.trans gd.out).trans g4).trans g5)
  clear gd g4 g5 ZP ZQ ZL ZM
  refine gen_then ?_
  intro W9 hW9
  obtain ⟨q0, q1, q2, qK, -, -, qs, qG⟩ := store3 (o := 0) R0 R1 R2 hW9
  have GE := qG w (.inr (by omega)) G0.out
  have QK := hZ qK
  clear qK qG hW9 R0 R1 R2
  go_wp2_with fail
  exact bodyPost_ret (v := .agg #[.bool b5, .slice A5 n5 c5, .slice A6 (len 4294967296 (D * E)) c6]) (by simp [results, Tryz.results149, go_sem, q0, q1, q2]) rfl ⟨_, rfl, RatQ.mk (X3.out.kept QK.out) (X4.out.kept QK.out) rfl hDE2.out (by rw [mkRat_add _ _ _ _ hD.out hE.out, Ea.out, Eb.out]) hlen.out hlen2.out, GE⟩
set_option maxHeartbeats 4000000 in
theorem rfrac_any (Va : Value) (q : Rat) (k : Nat) (w : World) (ha : RatQ w Va q k) (hs : k < 549755813888) :
  Calls Tryz.prog 92 #[Va] w fun e w' => ∃ V, e = .returned V ∧ FracC w' V q ∧ Grew w w' := by
 obtain ⟨z, D, h, rfl, k1, k2⟩ := ha
 obtain ⟨b1, A1, n1, c1, C1, m1, d1, rfl, R1, EE⟩ := h.laid
 obtain ⟨hb, hn, hm, Nz, ND, hD⟩ := EE.out
 have hb2 := hZ hb
 have Wz : Whl w (.agg #[.bool b1, .slice A1 n1 c1]) z := ⟨_, by rw [hb], by rw [← hn]; exact Nz⟩
 replace Wz := hZ Wz
 replace Nz := hZ Nz
 replace ND := hZ ND
 replace hm := hZ hm
 clear EE h hb
 by_cases hz : z = 0
 ·as_aux_lemma =>
  subst hz
  rw [show len 4294967296 (0 : Int).natAbs = 0 from rfl] at hn
  subst hn
  clear hD k1 k2 hs
  go_enter Tryz.func92, Tryz.ntmps92
  go_wp2_with fail
  refine gen_calls ?_
  intro W0 hW0
  have G0 : Grew w W0 := by rw [hW0]; exact ((Grew.refl w).alloc _).alloc _
  have P : Box3 W0 (w.heap.size) 0 (.bool b1) (.slice A1 0 c1) (.slice C1 m1 d1) := by rw [hW0]; exact ⟨by simp [go_sem], by simp [go_sem], by simp [go_sem]⟩
  replace P := hZ P
  have R : Res3 W0 (w.heap.size + 1) 0 (.bool false) (.slice none 0 0) (.slice none 0 0) := by rw [hW0]; exact ⟨by simp [go_sem], by simp [go_sem], by simp [go_sem], by simp [go_sem], by simp [go_sem], by simp [go_sem], by simp⟩
  replace R := hZ R
  have z0 : w.heap.size < W0.heap.size := by rw [hW0]; simp <;> omega
  replace z0 := hZ z0
  have z1 : w.heap.size + 1 < W0.heap.size := by rw [hW0]; simp <;> omega
  replace z1 := hZ z1
  clear hW0
  replace Nz := hZ (Nz.out.kept G0.keeps)
  replace G0 := hZ G0
  refine (unit_any _).mono ?_
  rintro e w1 ⟨V1, rfl, hV1, g1⟩
  obtain ⟨A3, c3, rfl, X1⟩ := hV1.slice
  clear hV1
  replace R := hZ (R.out.grew g1)
  replace P := hZ (P.out.grew g1)
  replace z0 := hZ (lt_grew z0.out g1)
  replace z1 := hZ (lt_grew z1.out g1)
  replace Nz := hZ (Nz.out.kept g1.keeps)
  replace G0 := hZ (G0.out.trans g1)
  clear g1
  obtain ⟨R0, R1, R2, Rf0, Rf1, Rf2, Rs⟩ := R.out
  go_wp2_with fail
  refine gen_post ?_
  intro W9 hW9
  obtain ⟨q0, q1, q2, qK, -, -, qs, qG⟩ := store3 (o := 0) R0 R1 R2 hW9
  have GE := qG w (.inr (by omega)) G0.out
  have QK := hZ qK
  clear qK qG hW9 R0 R1 R2
  exact bodyPost_ret (v := .agg #[.bool false, .slice none 0 0, .slice A3 (len 4294967296 1) c3]) (by simp [results, Tryz.results92, go_sem, q0, q1, q2]) rfl ⟨_, rfl, FracC.mk (Whl.of_num (neg := false) (by rw [len_zero]; exact Num.nil _ _ _)) (X1.out.kept QK.out) rfl (by simp [sgn]) (by simp), GE⟩
 ·have hn0 : len 4294967296 z.natAbs ≠ 0 := fun e => hz (by have := (len_eq_zero (B := 4294967296) (by omega)).1 e; omega)
  have hnb : ((n1 : Int) == 0) = false := by simp; omega
  have Hn := hZ hn
  clear hn hn0
  have hs1 : len 4294967296 z.natAbs < 549755813888 ∧ len 4294967296 D < 549755813888 := by omega
  replace hs1 := hZ hs1
  go_enter Tryz.func92, Tryz.ntmps92
  go_wp2_with fail
  refine gen_calls ?_
  intro W0 hW0
  have G0 : Grew w W0 := by rw [hW0]; exact ((Grew.refl w).alloc _).alloc _
  have P : Box3 W0 (w.heap.size) 0 (.bool b1) (.slice A1 n1 c1) (.slice C1 m1 d1) := by rw [hW0]; exact ⟨by simp [go_sem], by simp [go_sem], by simp [go_sem]⟩
  replace P := hZ P
  have R : Res3 W0 (w.heap.size + 1) 0 (.bool false) (.slice none 0 0) (.slice none 0 0) := by rw [hW0]; exact ⟨by simp [go_sem], by simp [go_sem], by simp [go_sem], by simp [go_sem], by simp [go_sem], by simp [go_sem], by simp⟩
  replace R := hZ R
  have z0 : w.heap.size < W0.heap.size := by rw [hW0]; simp <;> omega
  replace z0 := hZ z0
  have z1 : w.heap.size + 1 < W0.heap.size := by rw [hW0]; simp <;> omega
  replace z1 := hZ z1
  clear hW0
  replace Nz := hZ (Nz.out.kept G0.keeps)
  replace ND := hZ (ND.out.kept G0.keeps)
  replace Wz := hZ (Wz.out.kept G0.keeps)
  replace G0 := hZ G0
  refine (isUnit_g _ D _ _ ND.out hm.out).mono ?_
  rintro e w1 ⟨rfl, g1⟩
  replace R := hZ (R.out.grew g1)
  replace P := hZ (P.out.grew g1)
  replace z0 := hZ (lt_grew z0.out g1)
  replace z1 := hZ (lt_grew z1.out g1)
  replace Nz := hZ (Nz.out.kept g1.keeps)
  replace ND := hZ (ND.out.kept g1.keeps)
  replace Wz := hZ (Wz.out.kept g1.keeps)
  replace G0 := hZ (G0.out.trans g1)
  clear g1
  by_cases hD1 : D = 1
  ·as_aux_lemma =>
   subst hD1
   have e1 : decide (1 = 1) = true := rfl
   rw [e1]
   clear e1 hs k1 k2
   obtain ⟨P0, P1, P2⟩ := P.out
   go_wp2_with fail
   clear P0 P1 P2
   have gd : Grew w1 w1.drew := (Grew.refl w1).drew
   replace R := hZ (R.out.grew gd)
   replace P := hZ (P.out.grew gd)
   replace z0 := hZ (lt_grew z0.out gd)
   replace z1 := hZ (lt_grew z1.out gd)
   replace Nz := hZ (Nz.out.kept gd.keeps)
   replace ND := hZ (ND.out.kept gd.keeps)
   replace Wz := hZ (Wz.out.kept gd.keeps)
   replace gd := hZ gd
   have ZP := P
   go_region_held3 (fun w' => w'.cell? ⟨w.heap.size, 0, none⟩ = some (.bool b1) ∧ w'.cell? ⟨w.heap.size, 1, none⟩ = some (.slice A1 n1 c1) ∧ w'.cell? ⟨w.heap.size, 2, none⟩ = some (.slice C1 m1 d1))
    (first | (with_reducible exact ⟨ZP.out.p0, ZP.out.p1, ZP.out.p2⟩) | (with_reducible exact ⟨g2.cell ZP.out.p0, g2.cell ZP.out.p1, g2.cell ZP.out.p2⟩) | (with_reducible exact ⟨other3 (o := 0) (by omega) (g2.cell ZP.out.p0), other3 (o := 0) (by omega) (g2.cell ZP.out.p1), other3 (o := 0) (by omega) (g2.cell ZP.out.p2)⟩))
    (first | (go_at_call 98; refine (unit_any _).mono ?_; rintro e w2 ⟨V1, rfl, hV1, g2⟩; obtain ⟨A3, c3, rfl, X1⟩ := hV1.slice; clear hV1; replace R := hZ (R.out.grew g2); replace P := hZ (P.out.grew g2); replace z0 := hZ (lt_grew z0.out g2); replace z1 := hZ (lt_grew z1.out g2); replace Nz := hZ (Nz.out.kept g2.keeps); replace ND := hZ (ND.out.kept g2.keeps); replace Wz := hZ (Wz.out.kept g2.keeps); obtain ⟨R0, R1, R2, Rf0, Rf1, Rf2, Rs⟩ := R.out))
   replace G0 := hZ ((G0.out.trans gd.out).trans g2)
   clear gd g2 ZP
   refine gen_then ?_
   intro W9 hW9
   obtain ⟨q0, q1, q2, qK, -, -, qs, qG⟩ := store3 (o := 0) R0 R1 R2 hW9
   have GE := qG w (.inr (by omega)) G0.out
   have QK := hZ qK
   clear qK qG hW9 R0 R1 R2
   go_wp2_with fail
   exact bodyPost_ret (v := .agg #[.bool b1, .slice A1 n1 c1, .slice A3 (len 4294967296 1) c3]) (by simp [results, Tryz.results92, go_sem, q0, q1, q2]) rfl ⟨_, rfl, FracC.mk (Wz.out.kept QK.out) (X1.out.kept QK.out) rfl (by rw [Rat.num_mkRat]; simp) (by rw [Rat.den_mkRat]; simp), GE⟩
  ·as_aux_lemma =>
   have e1 : decide (D = 1) = false := by simpa using hD1
   rw [e1]
   have eN := hZ (mkRat_num_sgn z D hD)
   have eD := hZ (mkRat_den_gcd z D hD)
   have hx : len 4294967296 (z.natAbs / Nat.gcd z.natAbs D) < 1099511627776 := Nat.lt_of_le_of_lt (len_mono (by omega) (Nat.div_le_self _ _)) (by omega)
   replace hx := hZ hx
   clear e1 hD1 hD hz hs k1 k2
   obtain ⟨P0, P1, P2⟩ := P.out
   go_wp2_with fail
   clear P0 P1 P2
   refine (reduce_any _ _ z.natAbs D _ _ _ Nz.out ND.out hs1.out.1 hs1.out.2).mono ?_
   rintro e w2 ⟨x, y, rfl, hx1, hy1, g2⟩
   obtain ⟨A3, c3, rfl, X1⟩ := hx1.slice
   obtain ⟨A4, c4, rfl, X2⟩ := hy1.slice
   clear hx1 hy1
   replace R := hZ (R.out.grew g2)
   replace P := hZ (P.out.grew g2)
   replace z0 := hZ (lt_grew z0.out g2)
   replace z1 := hZ (lt_grew z1.out g2)
   replace Nz := hZ (Nz.out.kept g2.keeps)
   replace ND := hZ (ND.out.kept g2.keeps)
   replace Wz := hZ (Wz.out.kept g2.keeps)
   replace G0 := hZ (G0.out.trans g2)
   clear g2
   obtain ⟨P0, P1, P2⟩ := P.out
   go_wp2_with fail
   clear P0 P1 P2
   refine (make_any _ _ (z.natAbs / Nat.gcd z.natAbs D) _ _ X1.out hx.out).mono ?_
   rintro e w3 ⟨V3, rfl, hV3, g3⟩
   obtain ⟨b5, A5, n5, c5, rfl, X3, -⟩ := hV3.laid
   clear hV3
   replace R := hZ (R.out.grew g3)
   replace P := hZ (P.out.grew g3)
   replace z0 := hZ (lt_grew z0.out g3)
   replace z1 := hZ (lt_grew z1.out g3)
   replace Nz := hZ (Nz.out.kept g3.keeps)
   replace ND := hZ (ND.out.kept g3.keeps)
   replace Wz := hZ (Wz.out.kept g3.keeps)
   replace X1 := hZ (X1.out.kept g3.keeps)
   replace X2 := hZ (X2.out.kept g3.keeps)
   replace G0 := hZ (G0.out.trans g3)
   clear g3
   obtain ⟨R0, R1, R2, Rf0, Rf1, Rf2, Rs⟩ := R.out
   go_wp2_with fail
   refine gen_post ?_
   intro W9 hW9
   obtain ⟨q0, q1, q2, qK, -, -, qs, qG⟩ := store3 (o := 0) R0 R1 R2 hW9
   have GE := qG w (.inr (by omega)) G0.out
   have QK := hZ qK
   clear qK qG hW9 R0 R1 R2
   exact bodyPost_ret (v := .agg #[.bool b5, .slice A5 n5 c5, .slice A4 (len 4294967296 (D / Nat.gcd z.natAbs D)) c4]) (by simp [results, Tryz.results92, go_sem, q0, q1, q2]) rfl ⟨_, rfl, FracC.mk (X3.out.kept QK.out) (X2.out.kept QK.out) rfl (by rw [hb2.out]; exact eN.out) eD.out, GE⟩
set_option maxHeartbeats 4000000 in
theorem two_add (Va Vb : Value) (p q : Rat) (k l : Nat) (w : World) (ha : FracV w Va p k) (hb : FracV w Vb q l) (hk : 1 ≤ k) (hl : 1 ≤ l) (hs : k + l < 549755813887) :
  Calls Tryz.prog 104 #[.func (.func 149) #[] #[], Va, Vb] w fun e w' => ∃ V, e = .returned V ∧ FracC w' V (p + q) ∧ Grew w w' := by
 obtain ⟨b1, A1, n1, c1, C1, m1, d1, rfl, Ra⟩ := ha.laid
 obtain ⟨b2, A2, n2, c2, C2, m2, d2, rfl, Rb⟩ := hb.laid
 have hs2 : k < 549755813888 ∧ l < 549755813888 ∧ (k + l + 1) < 549755813888 := by omega
 replace hs := hZ hs
 replace hs2 := hZ hs2
 clear ha hb
 go_enter Tryz.func104, Tryz.ntmps104
 go_wp2_with fail
 refine gen_wp ?_
 intro W0 hW0
 have G0 : Grew w W0 := by rw [hW0]; exact (((Grew.refl w).alloc _).alloc _).alloc _
 have P : Box3 W0 (w.heap.size) 0 (.bool b1) (.slice A1 n1 c1) (.slice C1 m1 d1) := by rw [hW0]; exact ⟨by simp [go_sem], by simp [go_sem], by simp [go_sem]⟩
 replace P := hZ P
 have Q : Box3 W0 (w.heap.size + 1) 0 (.bool b2) (.slice A2 n2 c2) (.slice C2 m2 d2) := by rw [hW0]; exact ⟨by simp [go_sem], by simp [go_sem], by simp [go_sem]⟩
 replace Q := hZ Q
 have R : Res3 W0 (w.heap.size + 1 + 1) 0 (.bool false) (.slice none 0 0) (.slice none 0 0) := by rw [hW0]; exact ⟨by simp [go_sem], by simp [go_sem], by simp [go_sem], by simp [go_sem], by simp [go_sem], by simp [go_sem], by simp⟩
 replace R := hZ R
 have z0 : w.heap.size < W0.heap.size := by rw [hW0]; simp <;> omega
 replace z0 := hZ z0
 have z1 : w.heap.size + 1 < W0.heap.size := by rw [hW0]; simp <;> omega
 replace z1 := hZ z1
 have z2 : w.heap.size + 1 + 1 < W0.heap.size := by rw [hW0]; simp <;> omega
 replace z2 := hZ z2
 clear hW0
 replace Ra := hZ (Ra.out.kept G0.keeps)
 replace Rb := hZ (Rb.out.kept G0.keeps)
 replace G0 := hZ G0
 have gd : Grew W0 W0.drew := (Grew.refl W0).drew
 replace R := hZ (R.out.grew gd)
 replace P := hZ (P.out.grew gd)
 replace Q := hZ (Q.out.grew gd)
 replace z0 := hZ (lt_grew z0.out gd)
 replace z1 := hZ (lt_grew z1.out gd)
 replace z2 := hZ (lt_grew z2.out gd)
 replace Ra := hZ (Ra.out.kept gd.keeps)
 replace Rb := hZ (Rb.out.kept gd.keeps)
 replace gd := hZ gd
 have ZP := P
 have ZQ := Q
 go_region_held3 (fun w' => w'.cell? ⟨w.heap.size, 0, none⟩ = some (.bool b1) ∧ w'.cell? ⟨w.heap.size, 1, none⟩ = some (.slice A1 n1 c1) ∧ w'.cell? ⟨w.heap.size, 2, none⟩ = some (.slice C1 m1 d1) ∧ w'.cell? ⟨w.heap.size + 1, 0, none⟩ = some (.bool b2) ∧ w'.cell? ⟨w.heap.size + 1, 1, none⟩ = some (.slice A2 n2 c2) ∧ w'.cell? ⟨w.heap.size + 1, 2, none⟩ = some (.slice C2 m2 d2))
  (first | (with_reducible exact ⟨ZP.out.p0, ZP.out.p1, ZP.out.p2, ZQ.out.p0, ZQ.out.p1, ZQ.out.p2⟩) | (with_reducible exact ⟨g1.cell ZP.out.p0, g1.cell ZP.out.p1, g1.cell ZP.out.p2, g1.cell ZQ.out.p0, g1.cell ZQ.out.p1, g1.cell ZQ.out.p2⟩) | (with_reducible exact ⟨(g1.trans g2).cell ZP.out.p0, (g1.trans g2).cell ZP.out.p1, (g1.trans g2).cell ZP.out.p2, (g1.trans g2).cell ZQ.out.p0, (g1.trans g2).cell ZQ.out.p1, (g1.trans g2).cell ZQ.out.p2⟩) | (with_reducible exact ⟨((g1.trans g2).trans g3).cell ZP.out.p0, ((g1.trans g2).trans g3).cell ZP.out.p1, ((g1.trans g2).trans g3).cell ZP.out.p2, ((g1.trans g2).trans g3).cell ZQ.out.p0, ((g1.trans g2).trans g3).cell ZQ.out.p1, ((g1.trans g2).trans g3).cell ZQ.out.p2⟩) | (with_reducible exact ⟨(((g1.trans g2).trans g3).trans g4).cell ZP.out.p0, (((g1.trans g2).trans g3).trans g4).cell ZP.out.p1, (((g1.trans g2).trans g3).trans g4).cell ZP.out.p2, (((g1.trans g2).trans g3).trans g4).cell ZQ.out.p0, (((g1.trans g2).trans g3).trans g4).cell ZQ.out.p1, (((g1.trans g2).trans g3).trans g4).cell ZQ.out.p2⟩) | (with_reducible exact ⟨other3 (o := 0) (by omega) ((((g1.trans g2).trans g3).trans g4).cell ZP.out.p0), other3 (o := 0) (by omega) ((((g1.trans g2).trans g3).trans g4).cell ZP.out.p1), other3 (o := 0) (by omega) ((((g1.trans g2).trans g3).trans g4).cell ZP.out.p2), other3 (o := 0) (by omega) ((((g1.trans g2).trans g3).trans g4).cell ZQ.out.p0), other3 (o := 0) (by omega) ((((g1.trans g2).trans g3).trans g4).cell ZQ.out.p1), other3 (o := 0) (by omega) ((((g1.trans g2).trans g3).trans g4).cell ZQ.out.p2)⟩))
  (first | (go_at_call_of 62 (Value.agg #[.bool b1, .slice A1 n1 c1, .slice C1 m1 d1]); refine (parts_v _ p k _ Ra.out hk hs2.out.1).mono ?_; rintro e w1 ⟨V1, rfl, hV1, g1⟩; obtain ⟨b3, A3, n3, c3, C3, m3, d3, rfl, X1⟩ := hV1.laid; clear hV1; replace R := hZ (R.out.grew g1); replace P := hZ (P.out.grew g1); replace Q := hZ (Q.out.grew g1); replace z0 := hZ (lt_grew z0.out g1); replace z1 := hZ (lt_grew z1.out g1); replace z2 := hZ (lt_grew z2.out g1); replace Ra := hZ (Ra.out.kept g1.keeps); replace Rb := hZ (Rb.out.kept g1.keeps)) | (go_at_call 62; refine (parts_v _ q l _ Rb.out hl hs2.out.2.1).mono ?_; rintro e w2 ⟨V2, rfl, hV2, g2⟩; obtain ⟨b4, A4, n4, c4, C4, m4, d4, rfl, X2⟩ := hV2.laid; clear hV2; replace R := hZ (R.out.grew g2); replace P := hZ (P.out.grew g2); replace Q := hZ (Q.out.grew g2); replace z0 := hZ (lt_grew z0.out g2); replace z1 := hZ (lt_grew z1.out g2); replace z2 := hZ (lt_grew z2.out g2); replace Ra := hZ (Ra.out.kept g2.keeps); replace Rb := hZ (Rb.out.kept g2.keeps); replace X1 := hZ (X1.out.kept g2.keeps)) | (go_at_call 149; refine (radd_any _ _ p q k l _ X1.out X2.out hs.out).mono ?_; rintro e w3 ⟨V3, rfl, hV3, g3⟩; obtain ⟨b5, A5, n5, c5, C5, m5, d5, rfl, X3⟩ := hV3.laid; clear hV3; replace R := hZ (R.out.grew g3); replace P := hZ (P.out.grew g3); replace Q := hZ (Q.out.grew g3); replace z0 := hZ (lt_grew z0.out g3); replace z1 := hZ (lt_grew z1.out g3); replace z2 := hZ (lt_grew z2.out g3); replace Ra := hZ (Ra.out.kept g3.keeps); replace Rb := hZ (Rb.out.kept g3.keeps); replace X1 := hZ (X1.out.kept g3.keeps); replace X2 := hZ (X2.out.kept g3.keeps)) | (go_at_call 92; refine (rfrac_any _ _ _ _ X3.out hs2.out.2.2).mono ?_; rintro e w4 ⟨V4, rfl, hV4, g4⟩; obtain ⟨b6, A6, n6, c6, C6, m6, d6, rfl, X4⟩ := hV4.laid; clear hV4; replace R := hZ (R.out.grew g4); replace P := hZ (P.out.grew g4); replace Q := hZ (Q.out.grew g4); replace z0 := hZ (lt_grew z0.out g4); replace z1 := hZ (lt_grew z1.out g4); replace z2 := hZ (lt_grew z2.out g4); replace Ra := hZ (Ra.out.kept g4.keeps); replace Rb := hZ (Rb.out.kept g4.keeps); replace X1 := hZ (X1.out.kept g4.keeps); replace X2 := hZ (X2.out.kept g4.keeps); replace X3 := hZ (X3.out.kept g4.keeps); obtain ⟨R0, R1, R2, Rf0, Rf1, Rf2, Rs⟩ := R.out))
 replace G0 := hZ (((((G0.out.trans gd.out).trans g1).trans g2).trans g3).trans g4)
 clear gd g1 g2 g3 g4 ZP ZQ
 refine gen_then ?_
 intro W9 hW9
 obtain ⟨q0, q1, q2, qK, -, -, qs, qG⟩ := store3 (o := 0) R0 R1 R2 hW9
 have GE := qG w (.inr (by omega)) G0.out
 have QK := hZ qK
 clear qK qG hW9 R0 R1 R2
 go_wp2_with fail
 exact bodyPost_ret (v := .agg #[.bool b6, .slice A6 n6 c6, .slice C6 m6 d6]) (by simp [results, Tryz.results104, go_sem, q0, q1, q2]) rfl ⟨_, rfl, X4.out.kept QK.out, GE⟩
set_option maxHeartbeats 4000000 in
theorem fadd_any (Va Vb : Value) (p q : Rat) (k l : Nat) (w : World) (ha : FracV w Va p k) (hb : FracV w Vb q l) (hk : 1 ≤ k) (hl : 1 ≤ l) (hs : k + l < 549755813887) :
  Calls Tryz.prog 153 #[Va, Vb] w fun e w' => ∃ V, e = .returned V ∧ FracC w' V (p + q) ∧ Grew w w' := by
 obtain ⟨b1, A1, n1, c1, C1, m1, d1, rfl, Ra⟩ := ha.laid
 obtain ⟨b2, A2, n2, c2, C2, m2, d2, rfl, Rb⟩ := hb.laid
 replace hs := hZ hs
 clear ha hb
 go_enter Tryz.func153, Tryz.ntmps153
 go_wp2_with fail
 refine gen_calls ?_
 intro W0 hW0
 have G0 : Grew w W0 := by rw [hW0]; exact (((Grew.refl w).alloc _).alloc _).alloc _
 have P : Box3 W0 (w.heap.size) 0 (.bool b1) (.slice A1 n1 c1) (.slice C1 m1 d1) := by rw [hW0]; exact ⟨by simp [go_sem], by simp [go_sem], by simp [go_sem]⟩
 replace P := hZ P
 have Q : Box3 W0 (w.heap.size + 1) 0 (.bool b2) (.slice A2 n2 c2) (.slice C2 m2 d2) := by rw [hW0]; exact ⟨by simp [go_sem], by simp [go_sem], by simp [go_sem]⟩
 replace Q := hZ Q
 have R : Res3 W0 (w.heap.size + 1 + 1) 0 (.bool false) (.slice none 0 0) (.slice none 0 0) := by rw [hW0]; exact ⟨by simp [go_sem], by simp [go_sem], by simp [go_sem], by simp [go_sem], by simp [go_sem], by simp [go_sem], by simp⟩
 replace R := hZ R
 have z0 : w.heap.size < W0.heap.size := by rw [hW0]; simp <;> omega
 replace z0 := hZ z0
 have z1 : w.heap.size + 1 < W0.heap.size := by rw [hW0]; simp <;> omega
 replace z1 := hZ z1
 have z2 : w.heap.size + 1 + 1 < W0.heap.size := by rw [hW0]; simp <;> omega
 replace z2 := hZ z2
 clear hW0
 replace Ra := hZ (Ra.out.kept G0.keeps)
 replace Rb := hZ (Rb.out.kept G0.keeps)
 replace G0 := hZ G0
 refine (two_add _ _ p q k l _ Ra.out Rb.out hk hl hs.out).mono ?_
 rintro e w1 ⟨V1, rfl, hV1, g1⟩
 obtain ⟨b3, A3, n3, c3, C3, m3, d3, rfl, X1⟩ := hV1.laid
 clear hV1
 replace R := hZ (R.out.grew g1)
 replace P := hZ (P.out.grew g1)
 replace Q := hZ (Q.out.grew g1)
 replace z0 := hZ (lt_grew z0.out g1)
 replace z1 := hZ (lt_grew z1.out g1)
 replace z2 := hZ (lt_grew z2.out g1)
 replace Ra := hZ (Ra.out.kept g1.keeps)
 replace Rb := hZ (Rb.out.kept g1.keeps)
 replace G0 := hZ (G0.out.trans g1)
 clear g1
 obtain ⟨R0, R1, R2, Rf0, Rf1, Rf2, Rs⟩ := R.out
 go_wp2_with fail
 refine gen_post ?_
 intro W9 hW9
 obtain ⟨q0, q1, q2, qK, -, -, qs, qG⟩ := store3 (o := 0) R0 R1 R2 hW9
 have GE := qG w (.inr (by omega)) G0.out
 have QK := hZ qK
 clear qK qG hW9 R0 R1 R2
 exact bodyPost_ret (v := .agg #[.bool b3, .slice A3 n3 c3, .slice C3 m3 d3]) (by simp [results, Tryz.results153, go_sem, q0, q1, q2]) rfl ⟨_, rfl, X1.out.kept QK.out, GE⟩
set_option maxHeartbeats 4000000 in
theorem freduce_any (Va : Value) (p : Rat) (k : Nat) (w : World) (ha : FracV w Va p k) (hk : 1 ≤ k) (hs : k < 549755813888) :
  Calls Tryz.prog 56 #[Va] w fun e w' => ∃ V, e = .returned V ∧ FracC w' V p ∧ Grew w w' := by
 obtain ⟨b1, A1, n1, c1, C1, m1, d1, rfl, Ra⟩ := ha.laid
 clear ha
 go_enter Tryz.func56, Tryz.ntmps56
 go_wp2_with fail
 refine gen_calls ?_
 intro W0 hW0
 have G0 : Grew w W0 := by rw [hW0]; exact ((Grew.refl w).alloc _).alloc _
 have P : Box3 W0 (w.heap.size) 0 (.bool b1) (.slice A1 n1 c1) (.slice C1 m1 d1) := by rw [hW0]; exact ⟨by simp [go_sem], by simp [go_sem], by simp [go_sem]⟩
 replace P := hZ P
 have R : Res3 W0 (w.heap.size + 1) 0 (.bool false) (.slice none 0 0) (.slice none 0 0) := by rw [hW0]; exact ⟨by simp [go_sem], by simp [go_sem], by simp [go_sem], by simp [go_sem], by simp [go_sem], by simp [go_sem], by simp⟩
 replace R := hZ R
 have z0 : w.heap.size < W0.heap.size := by rw [hW0]; simp <;> omega
 replace z0 := hZ z0
 have z1 : w.heap.size + 1 < W0.heap.size := by rw [hW0]; simp <;> omega
 replace z1 := hZ z1
 clear hW0
 replace Ra := hZ (Ra.out.kept G0.keeps)
 replace G0 := hZ G0
 refine (parts_v _ p k _ Ra.out hk hs).mono ?_
 rintro e w1 ⟨V1, rfl, hV1, g1⟩
 obtain ⟨b3, A3, n3, c3, C3, m3, d3, rfl, X1⟩ := hV1.laid
 clear hV1
 replace R := hZ (R.out.grew g1)
 replace P := hZ (P.out.grew g1)
 replace z0 := hZ (lt_grew z0.out g1)
 replace z1 := hZ (lt_grew z1.out g1)
 replace Ra := hZ (Ra.out.kept g1.keeps)
 replace G0 := hZ (G0.out.trans g1)
 clear g1
 go_wp2_with fail
 refine (rfrac_any _ _ _ _ X1.out hs).mono ?_
 rintro e w2 ⟨V2, rfl, hV2, g2⟩
 obtain ⟨b4, A4, n4, c4, C4, m4, d4, rfl, X2⟩ := hV2.laid
 clear hV2
 replace R := hZ (R.out.grew g2)
 replace P := hZ (P.out.grew g2)
 replace z0 := hZ (lt_grew z0.out g2)
 replace z1 := hZ (lt_grew z1.out g2)
 replace Ra := hZ (Ra.out.kept g2.keeps)
 replace X1 := hZ (X1.out.kept g2.keeps)
 replace G0 := hZ (G0.out.trans g2)
 clear g2
 obtain ⟨R0, R1, R2, Rf0, Rf1, Rf2, Rs⟩ := R.out
 go_wp2_with fail
 refine gen_post ?_
 intro W9 hW9
 obtain ⟨q0, q1, q2, qK, -, -, qs, qG⟩ := store3 (o := 0) R0 R1 R2 hW9
 have GE := qG w (.inr (by omega)) G0.out
 have QK := hZ qK
 clear qK qG hW9 R0 R1 R2
 exact bodyPost_ret (v := .agg #[.bool b4, .slice A4 n4 c4, .slice C4 m4 d4]) (by simp [results, Tryz.results56, go_sem, q0, q1, q2]) rfl ⟨_, rfl, X2.out.kept QK.out, GE⟩
set_option maxHeartbeats 4000000 in
theorem fint_any (x : Int) (w : World) (h0 : -9223372036854775808 ≤ x) (h1 : x ≤ 9223372036854775807) :
  Calls Tryz.prog 71 #[.int .i64 x] w fun e w' => ∃ V, e = .returned V ∧ FracC w' V (x : Rat) ∧ Grew w w' := by
 go_enter Tryz.func71, Tryz.ntmps71
 go_wp2_with fail
 refine gen_calls ?_
 intro W0 hW0
 have G0 : Grew w W0 := by rw [hW0]; exact (Grew.refl w).alloc _
 have R : Res3 W0 (w.heap.size) 0 (.bool false) (.slice none 0 0) (.slice none 0 0) := by rw [hW0]; exact ⟨by simp [go_sem], by simp [go_sem], by simp [go_sem], by simp [go_sem], by simp [go_sem], by simp [go_sem], by simp⟩
 replace R := hZ R
 have z0 : w.heap.size < W0.heap.size := by rw [hW0]; simp <;> omega
 replace z0 := hZ z0
 clear hW0
 replace G0 := hZ G0
 refine (wof_any x _ h0 h1).mono ?_
 rintro e w1 ⟨V1, rfl, hV1, g1⟩
 obtain ⟨b3, A3, n3, c3, rfl, X1, -⟩ := hV1.laid
 clear hV1
 replace R := hZ (R.out.grew g1)
 replace z0 := hZ (lt_grew z0.out g1)
 replace G0 := hZ (G0.out.trans g1)
 clear g1
 go_wp2_with fail
 refine (unit_any _).mono ?_
 rintro e w2 ⟨V2, rfl, hV2, g2⟩
 obtain ⟨A4, c4, rfl, X2⟩ := hV2.slice
 clear hV2
 replace R := hZ (R.out.grew g2)
 replace z0 := hZ (lt_grew z0.out g2)
 replace X1 := hZ (X1.out.kept g2.keeps)
 replace G0 := hZ (G0.out.trans g2)
 clear g2
 obtain ⟨R0, R1, R2, Rf0, Rf1, Rf2, Rs⟩ := R.out
 go_wp2_with fail
 refine gen_post ?_
 intro W9 hW9
 obtain ⟨q0, q1, q2, qK, -, -, qs, qG⟩ := store3 (o := 0) R0 R1 R2 hW9
 have GE := qG w (.inr (by omega)) G0.out
 have QK := hZ qK
 clear qK qG hW9 R0 R1 R2
 exact bodyPost_ret (v := .agg #[.bool b3, .slice A3 n3 c3, .slice A4 (len 4294967296 1) c4]) (by simp [results, Tryz.results71, go_sem, q0, q1, q2]) rfl ⟨_, rfl, FracC.mk (X1.out.kept QK.out) (X2.out.kept QK.out) rfl rfl rfl, GE⟩
end Go.Proofs.YtmommicmblfibaaGreat
