/- r04.Neg, r04.Sub. Condition: what comes in reads. r05.Area, Turn. Condition: what comes in reads; fewer than 2^26 words. r05.Turn, between, On, and that they answer what spot.Turn and spot.On answer. Condition: what comes in reads; fewer than 2^26 words. r05.At. Condition: ints of 64 bits. -/
import Derived.Test.YtmommicmblfibaaGreatJR4g
import Derived.Test.YtmommicmblfibaaGreatJRowP
import Derived.Test.YtmommicmblfibaaGreatJR4c
set_option maxRecDepth 100000
namespace Go.Proofs.YtmommicmblfibaaGreat
open Go.RowKit
theorem mkRat_negz (z : Int) (D : Nat) : mkRat (-z) D = -mkRat z D := by
 rw [Rat.neg_mkRat]
set_option maxHeartbeats 4000000 in
theorem rfneg_any (Va : Value) (p : Rat) (k : Nat) (w : World) (ha : FracR w Va p k) (hk : 1 ≤ k) (hs : k < 1073741824) :
  Calls Tryz.prog 127 #[Va] w fun e w' => ∃ V, e = .returned V ∧ FracC w' V (-p) ∧ Grew w w' := by
 obtain ⟨b1, A1, n1, c1, C1, m1, d1, rfl, Fa⟩ := ha.laid
 clear ha
 go_enter Tryz.func127, Tryz.ntmps127
 go_wp2_with fail
 refine gen_calls ?_
 intro W0 hW0
 have G0 : Grew w W0 := by rw [hW0]; exact ((Grew.refl w).alloc _).alloc _
 have P : Box3 W0 (w.heap.size) 0 (.bool b1) (.slice A1 n1 c1) (.slice C1 m1 d1) := by rw [hW0]; exact ⟨by simp [go_sem], by simp [go_sem], by simp [go_sem]⟩
 replace P := hZ P
 have Pr : Res3 W0 (w.heap.size) 0 (.bool b1) (.slice A1 n1 c1) (.slice C1 m1 d1) := by rw [hW0]; exact ⟨by simp [go_sem], by simp [go_sem], by simp [go_sem], by simp [go_sem], by simp [go_sem], by simp [go_sem], by simp <;> omega⟩
 replace Pr := hZ Pr
 have R : Res3 W0 (w.heap.size + 1) 0 (.bool false) (.slice none 0 0) (.slice none 0 0) := by rw [hW0]; exact ⟨by simp [go_sem], by simp [go_sem], by simp [go_sem], by simp [go_sem], by simp [go_sem], by simp [go_sem], by simp⟩
 replace R := hZ R
 have z0 : w.heap.size < W0.heap.size := by rw [hW0]; simp <;> omega
 replace z0 := hZ z0
 have z1 : w.heap.size + 1 < W0.heap.size := by rw [hW0]; simp <;> omega
 replace z1 := hZ z1
 clear hW0
 replace Fa := hZ (Fa.out.kept G0.keeps)
 replace G0 := hZ G0
 refine (rworth_any _ p k _ Fa.out hk (by omega)).mono ?_
 rintro e w1 ⟨V1, rfl, hV1, g1⟩
 obtain ⟨b3, A3, n3, c3, C3, m3, d3, rfl, X1⟩ := hV1.laid
 clear hV1
 replace R := hZ (R.out.grew g1)
 replace Pr := hZ (Pr.out.grew g1)
 replace P := hZ (P.out.grew g1)
 replace z0 := hZ (lt_grew z0.out g1)
 replace z1 := hZ (lt_grew z1.out g1)
 replace Fa := hZ (Fa.out.kept g1.keeps)
 replace G0 := hZ (G0.out.trans g1)
 clear g1
 obtain ⟨a0, a1, a2, af0, af1, af2, az⟩ := Pr.out
 go_upto_region 2 with fail
 refine gen_wp ?_
 intro W1 hW1
 obtain ⟨q0, q1, q2, qK, qf, -, qs, qG⟩ := store3 (o := 0) a0 a1 a2 hW1
 have hR9 : Res3 W1 (w.heap.size + 1) 0 (.bool false) (.slice none 0 0) (.slice none 0 0) := by
  obtain ⟨r0, r1, r2, f0, f1, f2, s⟩ := R.out
  exact ⟨(qf _ _ (by omega)).trans r0, (qf _ _ (by omega)).trans r1, (qf _ _ (by omega)).trans r2, by rw [hW1]; simpa using f0, by rw [hW1]; simpa using f1, by rw [hW1]; simpa using f2, by rw [qs]; exact s⟩
 have G9 := qG w (.inr (by omega)) G0.out
 have BP : Box3 W1 w.heap.size 0 (.bool b3) (.slice A3 n3 c3) (.slice C3 m3 d3) := ⟨q0, q1, q2⟩
 have X9 := X1.out.kept qK
 clear a0 a1 a2 af0 af1 af2 az q0 q1 q2 qK qf qs qG hW1 R G0 P Pr Fa X1 z0 z1
 obtain ⟨N, D, E1, hD, Na, Da, hm⟩ := X9.parts
 have P := hZ BP
 have R := hZ hR9
 have G0 := hZ G9
 have y9 := hZ (show w.heap.size + 1 < W1.heap.size from hR9.2.2.2.2.2.2)
 have E3 : mkRat (-sgn b3 N) D = -p := by rw [mkRat_negz, E1.out]
 replace E3 := hZ E3
 have hz1 := hZ (show len 4294967296 (-sgn b3 N).natAbs ≤ k by rw [Int.natAbs_neg]; exact Na.out.len)
 clear BP hR9 G9 X9
 skip
 have gd : Grew W1 W1.drew := (Grew.refl W1).drew
 replace R := hZ (R.out.grew gd)
 replace P := hZ (P.out.grew gd)
 replace Na := hZ (Na.out.kept gd.keeps)
 replace Da := hZ (Da.out.kept gd.keeps)
 replace gd := hZ gd
 have ZP := P
 go_region_held3 (fun w' => w'.cell? ⟨w.heap.size, 0, none⟩ = some (.bool b3) ∧ w'.cell? ⟨w.heap.size, 1, none⟩ = some (.slice A3 n3 c3) ∧ w'.cell? ⟨w.heap.size, 2, none⟩ = some (.slice C3 m3 d3))
  (first | (with_reducible exact ⟨ZP.out.p0, ZP.out.p1, ZP.out.p2⟩) | (with_reducible exact ⟨g3.cell ZP.out.p0, g3.cell ZP.out.p1, g3.cell ZP.out.p2⟩) | (with_reducible exact ⟨(g3.trans g4).cell ZP.out.p0, (g3.trans g4).cell ZP.out.p1, (g3.trans g4).cell ZP.out.p2⟩) | (with_reducible exact ⟨other3 (o := 0) (by omega) ((g3.trans g4).cell ZP.out.p0), other3 (o := 0) (by omega) ((g3.trans g4).cell ZP.out.p1), other3 (o := 0) (by omega) ((g3.trans g4).cell ZP.out.p2)⟩))
  (first | (go_at_call 162; refine (r2neg_any _ _ k _ Na.out (by omega)).mono ?_; rintro e w3 ⟨V3, rfl, hV3, g3⟩; obtain ⟨b5, A5, n5, c5, rfl, X3, -⟩ := hV3.laid; clear hV3; replace R := hZ (R.out.grew g3); replace P := hZ (P.out.grew g3); replace Na := hZ (Na.out.kept g3.keeps); replace Da := hZ (Da.out.kept g3.keeps)) | (go_at_call 57; refine (rfreduce_any _ _ _ _ (FracR.mk X3.out Da.out E3.out hz1.out hm) (by omega)).mono ?_; rintro e w4 ⟨V5, rfl, hV5, g4⟩; obtain ⟨b7, A7, n7, c7, C7, m7, d7, rfl, X5⟩ := hV5.laid; clear hV5; replace R := hZ (R.out.grew g4); replace P := hZ (P.out.grew g4); replace Na := hZ (Na.out.kept g4.keeps); replace Da := hZ (Da.out.kept g4.keeps); replace X3 := hZ (X3.out.kept g4.keeps); obtain ⟨R0, R1, R2, Rf0, Rf1, Rf2, Rs⟩ := R.out))
 replace G0 := hZ (((G0.out.trans gd.out).trans g3).trans g4)
 clear gd g3 g4 ZP
 refine gen_then ?_
 intro W9 hW9
 obtain ⟨q0, q1, q2, qK, -, -, qs, qG⟩ := store3 (o := 0) R0 R1 R2 hW9
 have GE := qG w (.inr (by omega)) G0.out
 have QK := hZ qK
 clear qK qG hW9 R0 R1 R2
 go_wp2_with fail
 exact bodyPost_ret (v := .agg #[.bool b7, .slice A7 n7 c7, .slice C7 m7 d7]) (by simp [results, Tryz.results127, go_sem, q0, q1, q2]) rfl ⟨_, rfl, X5.out.kept QK.out, GE⟩
set_option maxHeartbeats 4000000 in
theorem rfsub_any (Va Vb : Value) (p q : Rat) (k l : Nat) (w : World) (ha : FracR w Va p k) (hb : FracR w Vb q l) (hk : 1 ≤ k ∧ 1 ≤ l) (hs : k < 1073741824 ∧ l < 1073741824) :
  Calls Tryz.prog 82 #[Va, Vb] w fun e w' => ∃ V, e = .returned V ∧ FracC w' V (p - q) ∧ Grew w w' := by
 have hq1 := hZ (hb.v.qb hk.2).neg
 obtain ⟨b1, A1, n1, c1, C1, m1, d1, rfl, Fa⟩ := ha.laid
 obtain ⟨b2, A2, n2, c2, C2, m2, d2, rfl, Fb⟩ := hb.laid
 clear ha hb
 have e9 : p + -q = p - q := (Rat.sub_eq_add_neg p q).symm
 replace e9 := hZ e9
 go_enter Tryz.func82, Tryz.ntmps82
 go_wp2_with fail
 refine gen_wp ?_
 intro W0 hW0
 have G0 : Grew w W0 := by rw [hW0]; exact (((Grew.refl w).alloc _).alloc _).alloc _
 have P : Box3 W0 (w.heap.size) 0 (.bool b1) (.slice A1 n1 c1) (.slice C1 m1 d1) := by rw [hW0]; exact ⟨by simp [go_sem], by simp [go_sem], by simp [go_sem]⟩
 replace P := hZ P
 have Q : Box3 W0 (w.heap.size + 1) 0 (.bool b2) (.slice A2 n2 c2) (.slice C2 m2 d2) := by rw [hW0]; exact ⟨by simp [go_sem], by simp [go_sem], by simp [go_sem]⟩
 replace Q := hZ Q
 have R : Res3 W0 (w.heap.size + 1 + 1) 0 (.bool false) (.slice none 0 0) (.slice none 0 0) := by rw [hW0]; exact ⟨by simp [go_sem], by simp [go_sem], by simp [go_sem], by simp [go_sem], by simp [go_sem], by simp [go_sem], by simp⟩
 replace R := hZ R
 have z0 : w.heap.size < W0.heap.size := by rw [hW0]; simp <;> omega
 replace z0 := hZ z0
 have z1 : w.heap.size + 1 < W0.heap.size := by rw [hW0]; simp <;> omega
 replace z1 := hZ z1
 have z2 : w.heap.size + 1 + 1 < W0.heap.size := by rw [hW0]; simp <;> omega
 replace z2 := hZ z2
 clear hW0
 replace Fa := hZ (Fa.out.kept G0.keeps)
 replace Fb := hZ (Fb.out.kept G0.keeps)
 replace G0 := hZ G0
 have gd : Grew W0 W0.drew := (Grew.refl W0).drew
 replace R := hZ (R.out.grew gd)
 replace P := hZ (P.out.grew gd)
 replace Q := hZ (Q.out.grew gd)
 replace z0 := hZ (lt_grew z0.out gd)
 replace z1 := hZ (lt_grew z1.out gd)
 replace z2 := hZ (lt_grew z2.out gd)
 replace Fa := hZ (Fa.out.kept gd.keeps)
 replace Fb := hZ (Fb.out.kept gd.keeps)
 replace gd := hZ gd
 have ZP := P
 have ZQ := Q
 go_region_held3 (fun w' => w'.cell? ⟨w.heap.size, 0, none⟩ = some (.bool b1) ∧ w'.cell? ⟨w.heap.size, 1, none⟩ = some (.slice A1 n1 c1) ∧ w'.cell? ⟨w.heap.size, 2, none⟩ = some (.slice C1 m1 d1) ∧ w'.cell? ⟨w.heap.size + 1, 0, none⟩ = some (.bool b2) ∧ w'.cell? ⟨w.heap.size + 1, 1, none⟩ = some (.slice A2 n2 c2) ∧ w'.cell? ⟨w.heap.size + 1, 2, none⟩ = some (.slice C2 m2 d2))
  (first | (with_reducible exact ⟨ZP.out.p0, ZP.out.p1, ZP.out.p2, ZQ.out.p0, ZQ.out.p1, ZQ.out.p2⟩) | (with_reducible exact ⟨g1.cell ZP.out.p0, g1.cell ZP.out.p1, g1.cell ZP.out.p2, g1.cell ZQ.out.p0, g1.cell ZQ.out.p1, g1.cell ZQ.out.p2⟩) | (with_reducible exact ⟨(g1.trans g2).cell ZP.out.p0, (g1.trans g2).cell ZP.out.p1, (g1.trans g2).cell ZP.out.p2, (g1.trans g2).cell ZQ.out.p0, (g1.trans g2).cell ZQ.out.p1, (g1.trans g2).cell ZQ.out.p2⟩) | (with_reducible exact ⟨other3 (o := 0) (by omega) ((g1.trans g2).cell ZP.out.p0), other3 (o := 0) (by omega) ((g1.trans g2).cell ZP.out.p1), other3 (o := 0) (by omega) ((g1.trans g2).cell ZP.out.p2), other3 (o := 0) (by omega) ((g1.trans g2).cell ZQ.out.p0), other3 (o := 0) (by omega) ((g1.trans g2).cell ZQ.out.p1), other3 (o := 0) (by omega) ((g1.trans g2).cell ZQ.out.p2)⟩))
  (first | (go_at_call 127; refine (rfneg_any _ q l _ Fb.out hk.2 hs.2).mono ?_; rintro e w1 ⟨V3, rfl, hV3, g1⟩; have hY3 := hZ (hV3.r hq1.out); obtain ⟨b5, A5, n5, c5, C5, m5, d5, rfl, hX3⟩ := hV3.laid; have X3 := hY3; clear hV3 hX3 hY3; replace R := hZ (R.out.grew g1); replace P := hZ (P.out.grew g1); replace Q := hZ (Q.out.grew g1); replace z0 := hZ (lt_grew z0.out g1); replace z1 := hZ (lt_grew z1.out g1); replace z2 := hZ (lt_grew z2.out g1); replace Fa := hZ (Fa.out.kept g1.keeps); replace Fb := hZ (Fb.out.kept g1.keeps)) | (go_at_call 124; refine (rfadd_any _ _ p (-q) k l _ Fa.out X3.out hk hs).mono ?_; rintro e w2 ⟨V5, rfl, hV5, g2⟩; rw [e9.out] at hV5; obtain ⟨b7, A7, n7, c7, C7, m7, d7, rfl, X5⟩ := hV5.laid; clear hV5; replace R := hZ (R.out.grew g2); replace P := hZ (P.out.grew g2); replace Q := hZ (Q.out.grew g2); replace z0 := hZ (lt_grew z0.out g2); replace z1 := hZ (lt_grew z1.out g2); replace z2 := hZ (lt_grew z2.out g2); replace Fa := hZ (Fa.out.kept g2.keeps); replace Fb := hZ (Fb.out.kept g2.keeps); replace X3 := hZ (X3.out.kept g2.keeps); obtain ⟨R0, R1, R2, Rf0, Rf1, Rf2, Rs⟩ := R.out))
 replace G0 := hZ (((G0.out.trans gd.out).trans g1).trans g2)
 clear gd g1 g2 ZP ZQ
 refine gen_then ?_
 intro W9 hW9
 obtain ⟨q0, q1, q2, qK, -, -, qs, qG⟩ := store3 (o := 0) R0 R1 R2 hW9
 have GE := qG w (.inr (by omega)) G0.out
 have QK := hZ qK
 clear qK qG hW9 R0 R1 R2
 go_wp2_with fail
 exact bodyPost_ret (v := .agg #[.bool b7, .slice A7 n7 c7, .slice C7 m7 d7]) (by simp [results, Tryz.results82, go_sem, q0, q1, q2]) rfl ⟨_, rfl, X5.out.kept QK.out, GE⟩
set_option maxHeartbeats 8000000 in
theorem area_any (Va Vb Vc : Value) (ax ay bx b_y cx cy : Rat) (k : Nat) (w : World) (ha : SpotR w Va ax ay k) (hb : SpotR w Vb bx b_y k) (hc : SpotR w Vc cx cy k) (hk : 1 ≤ k) (hs : k < 67108864) :
  Calls Tryz.prog 80 #[Va, Vb, Vc] w fun e w' => ∃ V, e = .returned V ∧ FracC w' V (areaQ ax ay bx b_y cx cy) ∧ Grew w w' := by
 obtain ⟨b1, A1, n1, c1, C1, m1, d1, b2, A2, n2, c2, C2, m2, d2, rfl, Fa, Fb, -⟩ := ha.laid
 obtain ⟨b3, A3, n3, c3, C3, m3, d3, b4, A4, n4, c4, C4, m4, d4, rfl, Fc, Fd, -⟩ := hb.laid
 obtain ⟨b5, A5, n5, c5, C5, m5, d5, b6, A6, n6, c6, C6, m6, d6, rfl, Fe, Ff, -⟩ := hc.laid
 clear ha hb hc
 have hk0 : 1 ≤ k ∧ 1 ≤ k := ⟨hk, hk⟩
 have hk1 : 1 ≤ k ∧ 1 ≤ k + k + 1 := by omega
 have hk2 : 1 ≤ k + (k + k + 1) ∧ 1 ≤ k + (k + k + 1) := by omega
 have hk3 : 1 ≤ (k + (k + k + 1)) + (k + (k + k + 1)) + 1 ∧ 1 ≤ k + (k + k + 1) := by omega
 have hs0 : k < 1073741824 ∧ k < 1073741824 := by omega
 have hs1 : k < 1073741824 ∧ k + k + 1 < 1073741824 := by omega
 have hs2 : k + (k + k + 1) < 1073741824 ∧ k + (k + k + 1) < 1073741824 := by omega
 have hs3 : (k + (k + k + 1)) + (k + (k + k + 1)) + 1 < 1073741824 ∧ k + (k + k + 1) < 1073741824 := by omega
 have q1 := hZ (Fa.out.v.qb hk)
 have q2 := hZ (Fb.out.v.qb hk)
 have q3 := hZ (Fc.out.v.qb hk)
 have q4 := hZ (Fd.out.v.qb hk)
 have q5 := hZ (Fe.out.v.qb hk)
 have q6 := hZ (Ff.out.v.qb hk)
 have q7 := hZ (q4.out.sub q6.out)
 have q8 := hZ (q6.out.sub q2.out)
 have q9 := hZ (q2.out.sub q4.out)
 have qa := hZ (q1.out.mul q7.out)
 have qb := hZ (q3.out.mul q8.out)
 have qc := hZ (q5.out.mul q9.out)
 have qd := hZ (qa.out.add qb.out)
 go_enter Tryz.func80, Tryz.ntmps80
 go_wp2_with fail
 refine gen_wp ?_
 intro W0 hW0
 have G0 : Grew w W0 := by rw [hW0]; exact ((((Grew.refl w).alloc _).alloc _).alloc _).alloc _
 have P : Box3 W0 (w.heap.size) 0 (.bool b1) (.slice A1 n1 c1) (.slice C1 m1 d1) := by rw [hW0]; exact ⟨by simp [go_sem], by simp [go_sem], by simp [go_sem]⟩
 replace P := hZ P
 have Py : Box3 W0 (w.heap.size) 3 (.bool b2) (.slice A2 n2 c2) (.slice C2 m2 d2) := by rw [hW0]; exact ⟨by simp [go_sem], by simp [go_sem], by simp [go_sem]⟩
 replace Py := hZ Py
 have Q : Box3 W0 (w.heap.size + 1) 0 (.bool b3) (.slice A3 n3 c3) (.slice C3 m3 d3) := by rw [hW0]; exact ⟨by simp [go_sem], by simp [go_sem], by simp [go_sem]⟩
 replace Q := hZ Q
 have Qy : Box3 W0 (w.heap.size + 1) 3 (.bool b4) (.slice A4 n4 c4) (.slice C4 m4 d4) := by rw [hW0]; exact ⟨by simp [go_sem], by simp [go_sem], by simp [go_sem]⟩
 replace Qy := hZ Qy
 have S : Box3 W0 (w.heap.size + 1 + 1) 0 (.bool b5) (.slice A5 n5 c5) (.slice C5 m5 d5) := by rw [hW0]; exact ⟨by simp [go_sem], by simp [go_sem], by simp [go_sem]⟩
 replace S := hZ S
 have Sy : Box3 W0 (w.heap.size + 1 + 1) 3 (.bool b6) (.slice A6 n6 c6) (.slice C6 m6 d6) := by rw [hW0]; exact ⟨by simp [go_sem], by simp [go_sem], by simp [go_sem]⟩
 replace Sy := hZ Sy
 have R : Res3 W0 (w.heap.size + 1 + 1 + 1) 0 (.bool false) (.slice none 0 0) (.slice none 0 0) := by rw [hW0]; exact ⟨by simp [go_sem], by simp [go_sem], by simp [go_sem], by simp [go_sem], by simp [go_sem], by simp [go_sem], by simp⟩
 replace R := hZ R
 have z0 : w.heap.size < W0.heap.size := by rw [hW0]; simp <;> omega
 replace z0 := hZ z0
 have z1 : w.heap.size + 1 < W0.heap.size := by rw [hW0]; simp <;> omega
 replace z1 := hZ z1
 have z2 : w.heap.size + 1 + 1 < W0.heap.size := by rw [hW0]; simp <;> omega
 replace z2 := hZ z2
 have z3 : w.heap.size + 1 + 1 + 1 < W0.heap.size := by rw [hW0]; simp <;> omega
 replace z3 := hZ z3
 clear hW0
 replace Fa := hZ (Fa.out.kept G0.keeps)
 replace Fb := hZ (Fb.out.kept G0.keeps)
 replace Fc := hZ (Fc.out.kept G0.keeps)
 replace Fd := hZ (Fd.out.kept G0.keeps)
 replace Fe := hZ (Fe.out.kept G0.keeps)
 replace Ff := hZ (Ff.out.kept G0.keeps)
 replace G0 := hZ G0
 go_upto_region 1 with fail
 go_cut [7] (fun s7 wx => ∃ e7 : Nat, s7 = .pointer (some ⟨e7, 0, none⟩) ∧ At3 wx e7 (fun w V => FracC w V (ax * (b_y - cy) + bx * (cy - ay))) ∧ W0.heap.size ≤ e7 ∧ Grew W0 wx)
 ·have KS : ∀ X, Grew W0 X → (fun w' => w'.cell? ⟨w.heap.size, 0, none⟩ = some (.bool b1) ∧ w'.cell? ⟨w.heap.size, 1, none⟩ = some (.slice A1 n1 c1) ∧ w'.cell? ⟨w.heap.size, 2, none⟩ = some (.slice C1 m1 d1) ∧ w'.cell? ⟨w.heap.size, 3, none⟩ = some (.bool b2) ∧ w'.cell? ⟨w.heap.size, 4, none⟩ = some (.slice A2 n2 c2) ∧ w'.cell? ⟨w.heap.size, 5, none⟩ = some (.slice C2 m2 d2) ∧ w'.cell? ⟨w.heap.size + 1, 0, none⟩ = some (.bool b3) ∧ w'.cell? ⟨w.heap.size + 1, 1, none⟩ = some (.slice A3 n3 c3) ∧ w'.cell? ⟨w.heap.size + 1, 2, none⟩ = some (.slice C3 m3 d3) ∧ w'.cell? ⟨w.heap.size + 1, 3, none⟩ = some (.bool b4) ∧ w'.cell? ⟨w.heap.size + 1, 4, none⟩ = some (.slice A4 n4 c4) ∧ w'.cell? ⟨w.heap.size + 1, 5, none⟩ = some (.slice C4 m4 d4) ∧ w'.cell? ⟨w.heap.size + 1 + 1, 3, none⟩ = some (.bool b6) ∧ w'.cell? ⟨w.heap.size + 1 + 1, 4, none⟩ = some (.slice A6 n6 c6) ∧ w'.cell? ⟨w.heap.size + 1 + 1, 5, none⟩ = some (.slice C6 m6 d6)) X := fun X g => ⟨g.cell P.out.p0, g.cell P.out.p1, g.cell P.out.p2, g.cell Py.out.p0, g.cell Py.out.p1, g.cell Py.out.p2, g.cell Q.out.p0, g.cell Q.out.p1, g.cell Q.out.p2, g.cell Qy.out.p0, g.cell Qy.out.p1, g.cell Qy.out.p2, g.cell Sy.out.p0, g.cell Sy.out.p1, g.cell Sy.out.p2⟩
  replace KS := hZ KS
  go_region_held3 (fun w' => w'.cell? ⟨w.heap.size, 0, none⟩ = some (.bool b1) ∧ w'.cell? ⟨w.heap.size, 1, none⟩ = some (.slice A1 n1 c1) ∧ w'.cell? ⟨w.heap.size, 2, none⟩ = some (.slice C1 m1 d1) ∧ w'.cell? ⟨w.heap.size, 3, none⟩ = some (.bool b2) ∧ w'.cell? ⟨w.heap.size, 4, none⟩ = some (.slice A2 n2 c2) ∧ w'.cell? ⟨w.heap.size, 5, none⟩ = some (.slice C2 m2 d2) ∧ w'.cell? ⟨w.heap.size + 1, 0, none⟩ = some (.bool b3) ∧ w'.cell? ⟨w.heap.size + 1, 1, none⟩ = some (.slice A3 n3 c3) ∧ w'.cell? ⟨w.heap.size + 1, 2, none⟩ = some (.slice C3 m3 d3) ∧ w'.cell? ⟨w.heap.size + 1, 3, none⟩ = some (.bool b4) ∧ w'.cell? ⟨w.heap.size + 1, 4, none⟩ = some (.slice A4 n4 c4) ∧ w'.cell? ⟨w.heap.size + 1, 5, none⟩ = some (.slice C4 m4 d4) ∧ w'.cell? ⟨w.heap.size + 1 + 1, 3, none⟩ = some (.bool b6) ∧ w'.cell? ⟨w.heap.size + 1 + 1, 4, none⟩ = some (.slice A6 n6 c6) ∧ w'.cell? ⟨w.heap.size + 1 + 1, 5, none⟩ = some (.slice C6 m6 d6))
   (first | (refine KS.out _ ?_; (repeat (first | with_reducible exact Grew.refl _ | with_reducible refine Grew.setCell ?_ (by simp <;> omega) _ | with_reducible refine Grew.alloc ?_ _ | with_reducible refine Grew.drew ?_ | with_reducible apply Grew.trans ?_ g5 | with_reducible apply Grew.trans ?_ g4 | with_reducible apply Grew.trans ?_ g3 | with_reducible apply Grew.trans ?_ g2 | with_reducible apply Grew.trans ?_ g1 )); done))
   (first | (go_at_call_of 82 (Value.agg #[.bool b4, .slice A4 n4 c4, .slice C4 m4 d4]); refine (rfsub_any _ _ b_y cy k k _ (Fd.out.kept (Grew.keeps (by (repeat (first | with_reducible exact Grew.refl _ | with_reducible refine Grew.setCell ?_ (by simp <;> omega) _ | with_reducible refine Grew.alloc ?_ _ | with_reducible refine Grew.drew ?_ ))))) (Ff.out.kept (Grew.keeps (by (repeat (first | with_reducible exact Grew.refl _ | with_reducible refine Grew.setCell ?_ (by simp <;> omega) _ | with_reducible refine Grew.alloc ?_ _ | with_reducible refine Grew.drew ?_ ))))) hk0 hs0).mono ?_; rintro e w1 ⟨V1, rfl, hV1, g1⟩; have zn1 : W0.heap.size ≤ w1.heap.size := (by have t := g1.size; (try simp at t); omega); obtain ⟨b13, A13, n13, c13, C13, m13, d13, rfl, X1⟩ := hV1.laid; clear hV1; have Y1 := hZ (X1.out.r q7.out); (first | (with_reducible have h0_0 := res_new g1) | (with_reducible have h0_0 := res_newD g1) | skip)) | (go_at_call_of 125 (Value.agg #[.bool b1, .slice A1 n1 c1, .slice C1 m1 d1]); refine (rfmul_any _ _ ax (b_y - cy) k (k + k + 1) _ (Fa.out.kept (Grew.keeps (by (repeat (first | with_reducible exact Grew.refl _ | with_reducible refine Grew.setCell ?_ (by simp <;> omega) _ | with_reducible refine Grew.alloc ?_ _ | with_reducible refine Grew.drew ?_ | with_reducible apply Grew.trans ?_ g1 ))))) (Y1.out.kept (Grew.keeps (by (repeat (first | with_reducible exact Grew.refl _ | with_reducible refine Grew.setCell ?_ (by simp <;> omega) _ | with_reducible refine Grew.alloc ?_ _ | with_reducible refine Grew.drew ?_ | with_reducible apply Grew.trans ?_ g1 ))))) hk1 hs1).mono ?_; rintro e w2 ⟨V2, rfl, hV2, g2⟩; have zn2 : w1.heap.size ≤ w2.heap.size := (by have t := g2.size; (try simp at t); omega); obtain ⟨b14, A14, n14, c14, C14, m14, d14, rfl, X2⟩ := hV2.laid; clear hV2; have Y2 := hZ (X2.out.r qa.out); (try replace h0_0 : Res3 w2 (W0.heap.size) 0 (.bool false) (.slice none 0 0) (.slice none 0 0) := h0_0.grew (by (repeat (first | with_reducible exact Grew.refl _ | with_reducible refine Grew.setCell ?_ (by simp <;> omega) _ | with_reducible refine Grew.alloc ?_ _ | with_reducible refine Grew.drew ?_ | with_reducible apply Grew.trans ?_ g2 )))); (first | (with_reducible have h1_0 := res_new g2) | (with_reducible have h1_0 := res_newD g2) | skip)) | (go_at_call 82; refine (rfsub_any _ _ cy ay k k _ (Ff.out.kept (Grew.keeps (by (repeat (first | with_reducible exact Grew.refl _ | with_reducible refine Grew.setCell ?_ (by simp <;> omega) _ | with_reducible refine Grew.alloc ?_ _ | with_reducible refine Grew.drew ?_ | with_reducible apply Grew.trans ?_ g2 | with_reducible apply Grew.trans ?_ g1 ))))) (Fb.out.kept (Grew.keeps (by (repeat (first | with_reducible exact Grew.refl _ | with_reducible refine Grew.setCell ?_ (by simp <;> omega) _ | with_reducible refine Grew.alloc ?_ _ | with_reducible refine Grew.drew ?_ | with_reducible apply Grew.trans ?_ g2 | with_reducible apply Grew.trans ?_ g1 ))))) hk0 hs0).mono ?_; rintro e w3 ⟨V3, rfl, hV3, g3⟩; have zn3 : w2.heap.size ≤ w3.heap.size := (by have t := g3.size; (try simp at t); omega); obtain ⟨b15, A15, n15, c15, C15, m15, d15, rfl, X3⟩ := hV3.laid; clear hV3; have Y3 := hZ (X3.out.r q8.out); (try replace h0_0 : Res3 w3 (W0.heap.size) 0 (.bool false) (.slice none 0 0) (.slice none 0 0) := h0_0.grew (by (repeat (first | with_reducible exact Grew.refl _ | with_reducible refine Grew.setCell ?_ (by simp <;> omega) _ | with_reducible refine Grew.alloc ?_ _ | with_reducible refine Grew.drew ?_ | with_reducible apply Grew.trans ?_ g3 )))); (try replace h1_0 : Res3 w3 (w1.heap.size) 0 (.bool false) (.slice none 0 0) (.slice none 0 0) := h1_0.grew (by (repeat (first | with_reducible exact Grew.refl _ | with_reducible refine Grew.setCell ?_ (by simp <;> omega) _ | with_reducible refine Grew.alloc ?_ _ | with_reducible refine Grew.drew ?_ | with_reducible apply Grew.trans ?_ g3 )))); (first | (with_reducible have h2_0 := res_new g3) | (with_reducible have h2_0 := res_newD g3) | skip)) | (go_at_call 125; refine (rfmul_any _ _ bx (cy - ay) k (k + k + 1) _ (Fc.out.kept (Grew.keeps (by (repeat (first | with_reducible exact Grew.refl _ | with_reducible refine Grew.setCell ?_ (by simp <;> omega) _ | with_reducible refine Grew.alloc ?_ _ | with_reducible refine Grew.drew ?_ | with_reducible apply Grew.trans ?_ g3 | with_reducible apply Grew.trans ?_ g2 | with_reducible apply Grew.trans ?_ g1 ))))) (Y3.out.kept (Grew.keeps (by (repeat (first | with_reducible exact Grew.refl _ | with_reducible refine Grew.setCell ?_ (by simp <;> omega) _ | with_reducible refine Grew.alloc ?_ _ | with_reducible refine Grew.drew ?_ | with_reducible apply Grew.trans ?_ g3 | with_reducible apply Grew.trans ?_ g2 | with_reducible apply Grew.trans ?_ g1 ))))) hk1 hs1).mono ?_; rintro e w4 ⟨V4, rfl, hV4, g4⟩; have zn4 : w3.heap.size ≤ w4.heap.size := (by have t := g4.size; (try simp at t); omega); obtain ⟨b16, A16, n16, c16, C16, m16, d16, rfl, X4⟩ := hV4.laid; clear hV4; have Y4 := hZ (X4.out.r qb.out); (try replace h0_0 : Res3 w4 (W0.heap.size) 0 (.bool false) (.slice none 0 0) (.slice none 0 0) := h0_0.grew (by (repeat (first | with_reducible exact Grew.refl _ | with_reducible refine Grew.setCell ?_ (by simp <;> omega) _ | with_reducible refine Grew.alloc ?_ _ | with_reducible refine Grew.drew ?_ | with_reducible apply Grew.trans ?_ g4 )))); (try replace h1_0 : Res3 w4 (w1.heap.size) 0 (.bool false) (.slice none 0 0) (.slice none 0 0) := h1_0.grew (by (repeat (first | with_reducible exact Grew.refl _ | with_reducible refine Grew.setCell ?_ (by simp <;> omega) _ | with_reducible refine Grew.alloc ?_ _ | with_reducible refine Grew.drew ?_ | with_reducible apply Grew.trans ?_ g4 )))); (try replace h2_0 : Res3 w4 (w2.heap.size) 0 (.bool false) (.slice none 0 0) (.slice none 0 0) := h2_0.grew (by (repeat (first | with_reducible exact Grew.refl _ | with_reducible refine Grew.setCell ?_ (by simp <;> omega) _ | with_reducible refine Grew.alloc ?_ _ | with_reducible refine Grew.drew ?_ | with_reducible apply Grew.trans ?_ g4 )))); (first | (with_reducible have h3_0 := res_new g4) | (with_reducible have h3_0 := res_newD g4) | skip)) | (go_at_call 124; refine (rfadd_any _ _ (ax * (b_y - cy)) (bx * (cy - ay)) _ _ _ (Y2.out.kept (Grew.keeps (by (repeat (first | with_reducible exact Grew.refl _ | with_reducible refine Grew.setCell ?_ (by simp <;> omega) _ | with_reducible refine Grew.alloc ?_ _ | with_reducible refine Grew.drew ?_ | with_reducible apply Grew.trans ?_ g4 | with_reducible apply Grew.trans ?_ g3 | with_reducible apply Grew.trans ?_ g2 | with_reducible apply Grew.trans ?_ g1 ))))) (Y4.out.kept (Grew.keeps (by (repeat (first | with_reducible exact Grew.refl _ | with_reducible refine Grew.setCell ?_ (by simp <;> omega) _ | with_reducible refine Grew.alloc ?_ _ | with_reducible refine Grew.drew ?_ | with_reducible apply Grew.trans ?_ g4 | with_reducible apply Grew.trans ?_ g3 | with_reducible apply Grew.trans ?_ g2 | with_reducible apply Grew.trans ?_ g1 ))))) hk2 hs2).mono ?_; rintro e w5 ⟨V5, rfl, hV5, g5⟩; have zn5 : w4.heap.size ≤ w5.heap.size := (by have t := g5.size; (try simp at t); omega); obtain ⟨b17, A17, n17, c17, C17, m17, d17, rfl, X5⟩ := hV5.laid; clear hV5; (try replace h0_0 : Res3 w5 (W0.heap.size) 0 (.bool false) (.slice none 0 0) (.slice none 0 0) := h0_0.grew (by (repeat (first | with_reducible exact Grew.refl _ | with_reducible refine Grew.setCell ?_ (by simp <;> omega) _ | with_reducible refine Grew.alloc ?_ _ | with_reducible refine Grew.drew ?_ | with_reducible apply Grew.trans ?_ g5 )))); (try replace h1_0 : Res3 w5 (w1.heap.size) 0 (.bool false) (.slice none 0 0) (.slice none 0 0) := h1_0.grew (by (repeat (first | with_reducible exact Grew.refl _ | with_reducible refine Grew.setCell ?_ (by simp <;> omega) _ | with_reducible refine Grew.alloc ?_ _ | with_reducible refine Grew.drew ?_ | with_reducible apply Grew.trans ?_ g5 )))); (try replace h2_0 : Res3 w5 (w2.heap.size) 0 (.bool false) (.slice none 0 0) (.slice none 0 0) := h2_0.grew (by (repeat (first | with_reducible exact Grew.refl _ | with_reducible refine Grew.setCell ?_ (by simp <;> omega) _ | with_reducible refine Grew.alloc ?_ _ | with_reducible refine Grew.drew ?_ | with_reducible apply Grew.trans ?_ g5 )))); (try replace h3_0 : Res3 w5 (w3.heap.size) 0 (.bool false) (.slice none 0 0) (.slice none 0 0) := h3_0.grew (by (repeat (first | with_reducible exact Grew.refl _ | with_reducible refine Grew.setCell ?_ (by simp <;> omega) _ | with_reducible refine Grew.alloc ?_ _ | with_reducible refine Grew.drew ?_ | with_reducible apply Grew.trans ?_ g5 )))); (first | (with_reducible have h4_0 := res_new g5) | (with_reducible have h4_0 := res_newD g5) | skip); (try (have tt := h0_0; obtain ⟨h0_00, h0_01, h0_02, h0_0f0, h0_0f1, h0_0f2, h0_0s⟩ := tt)); (try (have tt := h1_0; obtain ⟨h1_00, h1_01, h1_02, h1_0f0, h1_0f1, h1_0f2, h1_0s⟩ := tt)); (try (have tt := h2_0; obtain ⟨h2_00, h2_01, h2_02, h2_0f0, h2_0f1, h2_0f2, h2_0s⟩ := tt)); (try (have tt := h3_0; obtain ⟨h3_00, h3_01, h3_02, h3_0f0, h3_0f1, h3_0f2, h3_0s⟩ := tt)); (try (have tt := h4_0; obtain ⟨h4_00, h4_01, h4_02, h4_0f0, h4_0f1, h4_0f2, h4_0s⟩ := tt))))
  all_goals
   go_wp2_with fail
   go_meet
   have XX5 := hZ (X5.out.kept (Grew.keeps (w := w5) (w' := w5) (by (repeat (first | with_reducible exact Grew.refl _ | with_reducible refine Grew.setCell ?_ (by simp <;> omega) _ | with_reducible refine Grew.alloc ?_ _ | with_reducible refine Grew.drew ?_ )))))
   refine ⟨_, rfl, ?_, ?_, ?_⟩
   ·repeat (first | with_reducible exact h0_0  | with_reducible exact h1_0  | with_reducible exact h2_0  | with_reducible exact h3_0  | with_reducible exact h4_0 | with_reducible exact Keeps.refl _ | with_reducible refine At3.of_store (w := w5) (Rd.fracC _) ?_ ?_ XX5.out | with_reducible refine At3.of_alloc (w := w5) (Rd.fracC _) (by simp) ?_ XX5.out | with_reducible refine At3.store_far (Rd.fracC _) ?_ ?_ (by omega) | with_reducible refine At3.grew (Rd.fracC _) ?_ ((Grew.refl _).alloc _) | with_reducible refine Keeps.store ?_ ?_ | with_reducible refine Keeps.alloc ?_ | with_reducible refine Res3.store_far ?_ ?_ (by omega))
   ·omega
   ·(repeat (first | with_reducible exact Grew.refl _ | with_reducible refine Grew.setCell ?_ (by simp <;> omega) _ | with_reducible refine Grew.alloc ?_ _ | with_reducible refine Grew.drew ?_ | with_reducible apply Grew.trans ?_ g5 | with_reducible apply Grew.trans ?_ g4 | with_reducible apply Grew.trans ?_ g3 | with_reducible apply Grew.trans ?_ g2 | with_reducible apply Grew.trans ?_ g1 ))
 obtain ⟨e7, rfl, L, E7, GA⟩ := hcut
 have y107 := hZ (Nat.lt_of_lt_of_le (R.out).2.2.2.2.2.2 E7)
 replace R := hZ (R.out.grew GA)
 replace P := hZ (P.out.grew GA)
 replace Py := hZ (Py.out.grew GA)
 replace Q := hZ (Q.out.grew GA)
 replace Qy := hZ (Qy.out.grew GA)
 replace S := hZ (S.out.grew GA)
 replace Sy := hZ (Sy.out.grew GA)
 replace z0 := hZ (lt_grew z0.out GA)
 replace z1 := hZ (lt_grew z1.out GA)
 replace z2 := hZ (lt_grew z2.out GA)
 replace z3 := hZ (lt_grew z3.out GA)
 replace Fa := hZ (Fa.out.kept GA.keeps)
 replace Fb := hZ (Fb.out.kept GA.keeps)
 replace Fc := hZ (Fc.out.kept GA.keeps)
 replace Fd := hZ (Fd.out.kept GA.keeps)
 replace Fe := hZ (Fe.out.kept GA.keeps)
 replace Ff := hZ (Ff.out.kept GA.keeps)
 replace G0 := hZ (G0.out.trans GA)
 obtain ⟨b107, A107, n107, c107, C107, m107, d107, L, XL, Z7⟩ := L
 replace L := hZ L
 replace XL := hZ XL
 replace Z7 := hZ Z7
 clear E7
 clear GA
 have YL := hZ (XL.out.r qd.out)
 -- YL
 go_upto_region 2 with fail
 have gd : Grew wc wc.drew := (Grew.refl wc).drew
 replace R := hZ (R.out.grew gd)
 replace P := hZ (P.out.grew gd)
 replace Py := hZ (Py.out.grew gd)
 replace Q := hZ (Q.out.grew gd)
 replace Qy := hZ (Qy.out.grew gd)
 replace S := hZ (S.out.grew gd)
 replace Sy := hZ (Sy.out.grew gd)
 replace L := hZ (L.out.grew gd)
 replace z0 := hZ (lt_grew z0.out gd)
 replace z1 := hZ (lt_grew z1.out gd)
 replace z2 := hZ (lt_grew z2.out gd)
 replace z3 := hZ (lt_grew z3.out gd)
 replace Z7 := hZ (lt_grew Z7.out gd)
 replace Fa := hZ (Fa.out.kept gd.keeps)
 replace Fb := hZ (Fb.out.kept gd.keeps)
 replace Fc := hZ (Fc.out.kept gd.keeps)
 replace Fd := hZ (Fd.out.kept gd.keeps)
 replace Fe := hZ (Fe.out.kept gd.keeps)
 replace Ff := hZ (Ff.out.kept gd.keeps)
 replace XL := hZ (XL.out.kept gd.keeps)
 replace YL := hZ (YL.out.kept gd.keeps)
 replace gd := hZ gd
 have ZPy := Py
 have ZQy := Qy
 have ZS := S
 have ZL := L
 go_region_held3 (fun w' => w'.cell? ⟨w.heap.size, 3, none⟩ = some (.bool b2) ∧ w'.cell? ⟨w.heap.size, 4, none⟩ = some (.slice A2 n2 c2) ∧ w'.cell? ⟨w.heap.size, 5, none⟩ = some (.slice C2 m2 d2) ∧ w'.cell? ⟨w.heap.size + 1, 3, none⟩ = some (.bool b4) ∧ w'.cell? ⟨w.heap.size + 1, 4, none⟩ = some (.slice A4 n4 c4) ∧ w'.cell? ⟨w.heap.size + 1, 5, none⟩ = some (.slice C4 m4 d4) ∧ w'.cell? ⟨w.heap.size + 1 + 1, 0, none⟩ = some (.bool b5) ∧ w'.cell? ⟨w.heap.size + 1 + 1, 1, none⟩ = some (.slice A5 n5 c5) ∧ w'.cell? ⟨w.heap.size + 1 + 1, 2, none⟩ = some (.slice C5 m5 d5) ∧ w'.cell? ⟨e7, 0, none⟩ = some (.bool b107) ∧ w'.cell? ⟨e7, 1, none⟩ = some (.slice A107 n107 c107) ∧ w'.cell? ⟨e7, 2, none⟩ = some (.slice C107 m107 d107))
  (first | (with_reducible exact ⟨ZPy.out.p0, ZPy.out.p1, ZPy.out.p2, ZQy.out.p0, ZQy.out.p1, ZQy.out.p2, ZS.out.p0, ZS.out.p1, ZS.out.p2, ZL.out.p0, ZL.out.p1, ZL.out.p2⟩) | (with_reducible exact ⟨g6.cell ZPy.out.p0, g6.cell ZPy.out.p1, g6.cell ZPy.out.p2, g6.cell ZQy.out.p0, g6.cell ZQy.out.p1, g6.cell ZQy.out.p2, g6.cell ZS.out.p0, g6.cell ZS.out.p1, g6.cell ZS.out.p2, g6.cell ZL.out.p0, g6.cell ZL.out.p1, g6.cell ZL.out.p2⟩) | (with_reducible exact ⟨(g6.trans g7).cell ZPy.out.p0, (g6.trans g7).cell ZPy.out.p1, (g6.trans g7).cell ZPy.out.p2, (g6.trans g7).cell ZQy.out.p0, (g6.trans g7).cell ZQy.out.p1, (g6.trans g7).cell ZQy.out.p2, (g6.trans g7).cell ZS.out.p0, (g6.trans g7).cell ZS.out.p1, (g6.trans g7).cell ZS.out.p2, (g6.trans g7).cell ZL.out.p0, (g6.trans g7).cell ZL.out.p1, (g6.trans g7).cell ZL.out.p2⟩) | (with_reducible exact ⟨((g6.trans g7).trans g8).cell ZPy.out.p0, ((g6.trans g7).trans g8).cell ZPy.out.p1, ((g6.trans g7).trans g8).cell ZPy.out.p2, ((g6.trans g7).trans g8).cell ZQy.out.p0, ((g6.trans g7).trans g8).cell ZQy.out.p1, ((g6.trans g7).trans g8).cell ZQy.out.p2, ((g6.trans g7).trans g8).cell ZS.out.p0, ((g6.trans g7).trans g8).cell ZS.out.p1, ((g6.trans g7).trans g8).cell ZS.out.p2, ((g6.trans g7).trans g8).cell ZL.out.p0, ((g6.trans g7).trans g8).cell ZL.out.p1, ((g6.trans g7).trans g8).cell ZL.out.p2⟩) | (with_reducible exact ⟨other3 (o := 0) (by omega) (((g6.trans g7).trans g8).cell ZPy.out.p0), other3 (o := 0) (by omega) (((g6.trans g7).trans g8).cell ZPy.out.p1), other3 (o := 0) (by omega) (((g6.trans g7).trans g8).cell ZPy.out.p2), other3 (o := 0) (by omega) (((g6.trans g7).trans g8).cell ZQy.out.p0), other3 (o := 0) (by omega) (((g6.trans g7).trans g8).cell ZQy.out.p1), other3 (o := 0) (by omega) (((g6.trans g7).trans g8).cell ZQy.out.p2), other3 (o := 0) (by omega) (((g6.trans g7).trans g8).cell ZS.out.p0), other3 (o := 0) (by omega) (((g6.trans g7).trans g8).cell ZS.out.p1), other3 (o := 0) (by omega) (((g6.trans g7).trans g8).cell ZS.out.p2), other3 (o := 0) (by have := y107.out; omega) (((g6.trans g7).trans g8).cell ZL.out.p0), other3 (o := 0) (by have := y107.out; omega) (((g6.trans g7).trans g8).cell ZL.out.p1), other3 (o := 0) (by have := y107.out; omega) (((g6.trans g7).trans g8).cell ZL.out.p2)⟩))
  (first | (go_at_call 82; refine (rfsub_any _ _ ay b_y k k _ Fb.out Fd.out hk0 hs0).mono ?_; rintro e w6 ⟨V6, rfl, hV6, g6⟩; have Y6 := hZ (hV6.r q9.out); obtain ⟨b13, A13, n13, c13, C13, m13, d13, rfl, hX6⟩ := hV6.laid; have X6 := Y6; clear hV6 Y6 hX6; replace R := hZ (R.out.grew g6); replace P := hZ (P.out.grew g6); replace Py := hZ (Py.out.grew g6); replace Q := hZ (Q.out.grew g6); replace Qy := hZ (Qy.out.grew g6); replace S := hZ (S.out.grew g6); replace Sy := hZ (Sy.out.grew g6); replace L := hZ (L.out.grew g6); replace z0 := hZ (lt_grew z0.out g6); replace z1 := hZ (lt_grew z1.out g6); replace z2 := hZ (lt_grew z2.out g6); replace z3 := hZ (lt_grew z3.out g6); replace Z7 := hZ (lt_grew Z7.out g6); replace Fa := hZ (Fa.out.kept g6.keeps); replace Fb := hZ (Fb.out.kept g6.keeps); replace Fc := hZ (Fc.out.kept g6.keeps); replace Fd := hZ (Fd.out.kept g6.keeps); replace Fe := hZ (Fe.out.kept g6.keeps); replace Ff := hZ (Ff.out.kept g6.keeps); replace XL := hZ (XL.out.kept g6.keeps); replace YL := hZ (YL.out.kept g6.keeps)) | (go_at_call 125; refine (rfmul_any _ _ cx (ay - b_y) k (k + k + 1) _ Fe.out X6.out hk1 hs1).mono ?_; rintro e w7 ⟨V7, rfl, hV7, g7⟩; have Y7 := hZ (hV7.r qc.out); obtain ⟨b14, A14, n14, c14, C14, m14, d14, rfl, hX7⟩ := hV7.laid; have X7 := Y7; clear hV7 Y7 hX7; replace R := hZ (R.out.grew g7); replace P := hZ (P.out.grew g7); replace Py := hZ (Py.out.grew g7); replace Q := hZ (Q.out.grew g7); replace Qy := hZ (Qy.out.grew g7); replace S := hZ (S.out.grew g7); replace Sy := hZ (Sy.out.grew g7); replace L := hZ (L.out.grew g7); replace z0 := hZ (lt_grew z0.out g7); replace z1 := hZ (lt_grew z1.out g7); replace z2 := hZ (lt_grew z2.out g7); replace z3 := hZ (lt_grew z3.out g7); replace Z7 := hZ (lt_grew Z7.out g7); replace Fa := hZ (Fa.out.kept g7.keeps); replace Fb := hZ (Fb.out.kept g7.keeps); replace Fc := hZ (Fc.out.kept g7.keeps); replace Fd := hZ (Fd.out.kept g7.keeps); replace Fe := hZ (Fe.out.kept g7.keeps); replace Ff := hZ (Ff.out.kept g7.keeps); replace XL := hZ (XL.out.kept g7.keeps); replace YL := hZ (YL.out.kept g7.keeps); replace X6 := hZ (X6.out.kept g7.keeps)) | (go_at_call 124; refine (rfadd_any _ _ (ax * (b_y - cy) + bx * (cy - ay)) (cx * (ay - b_y)) _ _ _ YL.out X7.out hk3 hs3).mono ?_; rintro e w8 ⟨V8, rfl, hV8, g8⟩; obtain ⟨b15, A15, n15, c15, C15, m15, d15, rfl, X8⟩ := hV8.laid; clear hV8; replace R := hZ (R.out.grew g8); replace P := hZ (P.out.grew g8); replace Py := hZ (Py.out.grew g8); replace Q := hZ (Q.out.grew g8); replace Qy := hZ (Qy.out.grew g8); replace S := hZ (S.out.grew g8); replace Sy := hZ (Sy.out.grew g8); replace L := hZ (L.out.grew g8); replace z0 := hZ (lt_grew z0.out g8); replace z1 := hZ (lt_grew z1.out g8); replace z2 := hZ (lt_grew z2.out g8); replace z3 := hZ (lt_grew z3.out g8); replace Z7 := hZ (lt_grew Z7.out g8); replace Fa := hZ (Fa.out.kept g8.keeps); replace Fb := hZ (Fb.out.kept g8.keeps); replace Fc := hZ (Fc.out.kept g8.keeps); replace Fd := hZ (Fd.out.kept g8.keeps); replace Fe := hZ (Fe.out.kept g8.keeps); replace Ff := hZ (Ff.out.kept g8.keeps); replace XL := hZ (XL.out.kept g8.keeps); replace YL := hZ (YL.out.kept g8.keeps); replace X6 := hZ (X6.out.kept g8.keeps); replace X7 := hZ (X7.out.kept g8.keeps); obtain ⟨R0, R1, R2, Rf0, Rf1, Rf2, Rs⟩ := R.out))
 replace G0 := hZ ((((G0.out.trans gd.out).trans g6).trans g7).trans g8)
 clear gd g6 g7 g8 ZPy ZQy ZS ZL
 refine gen_then ?_
 intro W9 hW9
 obtain ⟨q0, q1, q2, qK, -, -, qs, qG⟩ := store3 (o := 0) R0 R1 R2 hW9
 have GE := qG w (.inr (by omega)) G0.out
 have QK := hZ qK
 clear qK qG hW9 R0 R1 R2
 go_wp2_with fail
 exact bodyPost_ret (v := .agg #[.bool b15, .slice A15 n15 c15, .slice C15 m15 d15]) (by simp [results, Tryz.results80, go_sem, q0, q1, q2]) rfl ⟨_, rfl, X8.out.kept QK.out, GE⟩
set_option maxHeartbeats 4000000 in
theorem between_any (Va Vb Vc : Value) (p q r : Rat) (k : Nat) (w : World) (ha : FracR w Va p k) (hb : FracR w Vb q k) (hc : FracR w Vc r k) (hk : 1 ≤ k) (hs : k < 67108864) :
  Calls Tryz.prog 129 #[Va, Vb, Vc] w fun e w' => e = .returned (.bool (withinQ p q r)) ∧ Grew w w' := by
 obtain ⟨b1, A1, n1, c1, C1, m1, d1, rfl, Fa⟩ := ha.laid
 obtain ⟨b2, A2, n2, c2, C2, m2, d2, rfl, Fb⟩ := hb.laid
 obtain ⟨b3, A3, n3, c3, C3, m3, d3, rfl, Fc⟩ := hc.laid
 clear ha hb hc
 have hk0 : 1 ≤ k ∧ 1 ≤ k := ⟨hk, hk⟩
 have hs0 : k < 1073741824 ∧ k < 1073741824 := by omega
 have e0 : decide (cmpQ p r * cmpQ q r ≤ 0) = withinQ p q r := betwQ_within p q r
 have ⟨x0, x1⟩ := cmpQ_bd p r
 have ⟨y0, y1⟩ := cmpQ_bd q r
 obtain ⟨x, hx⟩ : ∃ x, cmpQ p r = x := ⟨_, rfl⟩
 obtain ⟨y, hy⟩ : ∃ y, cmpQ q r = y := ⟨_, rfl⟩
 rw [hx, hy] at e0
 rw [hx] at x0 x1
 rw [hy] at y0 y1
 replace hx := hZ hx
 replace hy := hZ hy
 have hw : IntKind.i64.wrap (x * y) = x * y := by
  rcases (show x = -1 ∨ x = 0 ∨ x = 1 by omega) with rfl | rfl | rfl <;> rcases (show y = -1 ∨ y = 0 ∨ y = 1 by omega) with rfl | rfl | rfl <;> rfl
 replace e0 := hZ e0
 clear x0 x1 y0 y1
 go_enter Tryz.func129, Tryz.ntmps129
 go_wp2_with fail
 refine gen_wp ?_
 intro W0 hW0
 have G0 : Grew w W0 := by rw [hW0]; exact (((Grew.refl w).alloc _).alloc _).alloc _
 have P : Box3 W0 (w.heap.size) 0 (.bool b1) (.slice A1 n1 c1) (.slice C1 m1 d1) := by rw [hW0]; exact ⟨by simp [go_sem], by simp [go_sem], by simp [go_sem]⟩
 replace P := hZ P
 have Q : Box3 W0 (w.heap.size + 1) 0 (.bool b2) (.slice A2 n2 c2) (.slice C2 m2 d2) := by rw [hW0]; exact ⟨by simp [go_sem], by simp [go_sem], by simp [go_sem]⟩
 replace Q := hZ Q
 have S : Box3 W0 (w.heap.size + 1 + 1) 0 (.bool b3) (.slice A3 n3 c3) (.slice C3 m3 d3) := by rw [hW0]; exact ⟨by simp [go_sem], by simp [go_sem], by simp [go_sem]⟩
 replace S := hZ S
 have z0 : w.heap.size < W0.heap.size := by rw [hW0]; simp <;> omega
 replace z0 := hZ z0
 have z1 : w.heap.size + 1 < W0.heap.size := by rw [hW0]; simp <;> omega
 replace z1 := hZ z1
 have z2 : w.heap.size + 1 + 1 < W0.heap.size := by rw [hW0]; simp <;> omega
 replace z2 := hZ z2
 clear hW0
 replace Fa := hZ (Fa.out.kept G0.keeps)
 replace Fb := hZ (Fb.out.kept G0.keeps)
 replace Fc := hZ (Fc.out.kept G0.keeps)
 replace G0 := hZ G0
 have gd : Grew W0 W0.drew := (Grew.refl W0).drew
 replace P := hZ (P.out.grew gd)
 replace Q := hZ (Q.out.grew gd)
 replace S := hZ (S.out.grew gd)
 replace z0 := hZ (lt_grew z0.out gd)
 replace z1 := hZ (lt_grew z1.out gd)
 replace z2 := hZ (lt_grew z2.out gd)
 replace Fa := hZ (Fa.out.kept gd.keeps)
 replace Fb := hZ (Fb.out.kept gd.keeps)
 replace Fc := hZ (Fc.out.kept gd.keeps)
 replace gd := hZ gd
 have ZP := P
 have ZQ := Q
 have ZS := S
 go_region_held3 (fun w' => w'.cell? ⟨w.heap.size, 0, none⟩ = some (.bool b1) ∧ w'.cell? ⟨w.heap.size, 1, none⟩ = some (.slice A1 n1 c1) ∧ w'.cell? ⟨w.heap.size, 2, none⟩ = some (.slice C1 m1 d1) ∧ w'.cell? ⟨w.heap.size + 1, 0, none⟩ = some (.bool b2) ∧ w'.cell? ⟨w.heap.size + 1, 1, none⟩ = some (.slice A2 n2 c2) ∧ w'.cell? ⟨w.heap.size + 1, 2, none⟩ = some (.slice C2 m2 d2) ∧ w'.cell? ⟨w.heap.size + 1 + 1, 0, none⟩ = some (.bool b3) ∧ w'.cell? ⟨w.heap.size + 1 + 1, 1, none⟩ = some (.slice A3 n3 c3) ∧ w'.cell? ⟨w.heap.size + 1 + 1, 2, none⟩ = some (.slice C3 m3 d3))
  (first | (with_reducible exact ⟨ZP.out.p0, ZP.out.p1, ZP.out.p2, ZQ.out.p0, ZQ.out.p1, ZQ.out.p2, ZS.out.p0, ZS.out.p1, ZS.out.p2⟩) | (with_reducible exact ⟨g1.cell ZP.out.p0, g1.cell ZP.out.p1, g1.cell ZP.out.p2, g1.cell ZQ.out.p0, g1.cell ZQ.out.p1, g1.cell ZQ.out.p2, g1.cell ZS.out.p0, g1.cell ZS.out.p1, g1.cell ZS.out.p2⟩) | (with_reducible exact ⟨(g1.trans g2).cell ZP.out.p0, (g1.trans g2).cell ZP.out.p1, (g1.trans g2).cell ZP.out.p2, (g1.trans g2).cell ZQ.out.p0, (g1.trans g2).cell ZQ.out.p1, (g1.trans g2).cell ZQ.out.p2, (g1.trans g2).cell ZS.out.p0, (g1.trans g2).cell ZS.out.p1, (g1.trans g2).cell ZS.out.p2⟩))
  (first | (go_at_call_of 54 (Value.agg #[.bool b1, .slice A1 n1 c1, .slice C1 m1 d1]); refine (rfcmp_any _ _ p r k k _ Fa.out Fc.out hk0 hs0).mono ?_; rintro e w1 ⟨rfl, g1⟩; rw [show cmpQ p r = x from hx.out]; replace P := hZ (P.out.grew g1); replace Q := hZ (Q.out.grew g1); replace S := hZ (S.out.grew g1); replace z0 := hZ (lt_grew z0.out g1); replace z1 := hZ (lt_grew z1.out g1); replace z2 := hZ (lt_grew z2.out g1); replace Fa := hZ (Fa.out.kept g1.keeps); replace Fb := hZ (Fb.out.kept g1.keeps); replace Fc := hZ (Fc.out.kept g1.keeps)) | (go_at_call 54; refine (rfcmp_any _ _ q r k k _ Fb.out Fc.out hk0 hs0).mono ?_; rintro e w2 ⟨rfl, g2⟩; rw [show cmpQ q r = y from hy.out]; replace P := hZ (P.out.grew g2); replace Q := hZ (Q.out.grew g2); replace S := hZ (S.out.grew g2); replace z0 := hZ (lt_grew z0.out g2); replace z1 := hZ (lt_grew z1.out g2); replace z2 := hZ (lt_grew z2.out g2); replace Fa := hZ (Fa.out.kept g2.keeps); replace Fb := hZ (Fb.out.kept g2.keeps); replace Fc := hZ (Fc.out.kept g2.keeps)))
 replace G0 := hZ (((G0.out.trans gd.out).trans g1).trans g2)
 clear gd g1 g2 ZP ZQ ZS
 go_wp2_with fail
 go_ret
 exact ⟨by rw [← e0.out]; rfl, G0.out⟩
set_option maxHeartbeats 8000000 in
theorem rturn_any (Va Vb Vc : Value) (ax ay bx b_y cx cy : Rat) (k : Nat) (w : World) (ha : SpotR w Va ax ay k) (hb : SpotR w Vb bx b_y k) (hc : SpotR w Vc cx cy k) (hk : 1 ≤ k) (hs : k < 67108864) :
  Calls Tryz.prog 128 #[Va, Vb, Vc] w fun e w' => e = .returned (.int .i64 (turnQ ax ay bx b_y cx cy)) ∧ Grew w w' := by
 obtain ⟨b1, A1, n1, c1, C1, m1, d1, b2, A2, n2, c2, C2, m2, d2, rfl, Fa, Fb, Sa⟩ := ha.laid
 obtain ⟨b3, A3, n3, c3, C3, m3, d3, b4, A4, n4, c4, C4, m4, d4, rfl, Fc, Fd, Sb⟩ := hb.laid
 obtain ⟨b5, A5, n5, c5, C5, m5, d5, b6, A6, n6, c6, C6, m6, d6, rfl, Fe, Ff, Sc⟩ := hc.laid
 have q := hZ (areaQ_qb (Fa.out.v.qb hk) (Fb.out.v.qb hk) (Fc.out.v.qb hk) (Fd.out.v.qb hk) (Fe.out.v.qb hk) (Ff.out.v.qb hk))
 clear ha hb hc Fa Fb Fc Fd Fe Ff
 have e0 := hZ (areaQ_turn ax ay bx b_y cx cy)
 go_enter Tryz.func128, Tryz.ntmps128
 go_wp2_with fail
 refine gen_calls ?_
 intro W0 hW0
 have G0 : Grew w W0 := by rw [hW0]; exact (((Grew.refl w).alloc _).alloc _).alloc _
 have P : Box3 W0 (w.heap.size) 0 (.bool b1) (.slice A1 n1 c1) (.slice C1 m1 d1) := by rw [hW0]; exact ⟨by simp [go_sem], by simp [go_sem], by simp [go_sem]⟩
 replace P := hZ P
 have Py : Box3 W0 (w.heap.size) 3 (.bool b2) (.slice A2 n2 c2) (.slice C2 m2 d2) := by rw [hW0]; exact ⟨by simp [go_sem], by simp [go_sem], by simp [go_sem]⟩
 replace Py := hZ Py
 have Q : Box3 W0 (w.heap.size + 1) 0 (.bool b3) (.slice A3 n3 c3) (.slice C3 m3 d3) := by rw [hW0]; exact ⟨by simp [go_sem], by simp [go_sem], by simp [go_sem]⟩
 replace Q := hZ Q
 have Qy : Box3 W0 (w.heap.size + 1) 3 (.bool b4) (.slice A4 n4 c4) (.slice C4 m4 d4) := by rw [hW0]; exact ⟨by simp [go_sem], by simp [go_sem], by simp [go_sem]⟩
 replace Qy := hZ Qy
 have S : Box3 W0 (w.heap.size + 1 + 1) 0 (.bool b5) (.slice A5 n5 c5) (.slice C5 m5 d5) := by rw [hW0]; exact ⟨by simp [go_sem], by simp [go_sem], by simp [go_sem]⟩
 replace S := hZ S
 have Sy : Box3 W0 (w.heap.size + 1 + 1) 3 (.bool b6) (.slice A6 n6 c6) (.slice C6 m6 d6) := by rw [hW0]; exact ⟨by simp [go_sem], by simp [go_sem], by simp [go_sem]⟩
 replace Sy := hZ Sy
 have z0 : w.heap.size < W0.heap.size := by rw [hW0]; simp <;> omega
 replace z0 := hZ z0
 have z1 : w.heap.size + 1 < W0.heap.size := by rw [hW0]; simp <;> omega
 replace z1 := hZ z1
 have z2 : w.heap.size + 1 + 1 < W0.heap.size := by rw [hW0]; simp <;> omega
 replace z2 := hZ z2
 clear hW0
 replace Sa := hZ (Sa.out.kept G0.keeps)
 replace Sb := hZ (Sb.out.kept G0.keeps)
 replace Sc := hZ (Sc.out.kept G0.keeps)
 replace G0 := hZ G0
 refine (area_any _ _ _ ax ay bx b_y cx cy k _ Sa.out Sb.out Sc.out hk hs).mono ?_
 rintro e w1 ⟨V1, rfl, hV1, g1⟩
 have hX := hZ (hV1.r q.out)
 obtain ⟨b7, A7, n7, c7, C7, m7, d7, rfl, -⟩ := hV1.laid
 have X1 := hX
 clear hV1 hX
 replace P := hZ (P.out.grew g1)
 replace Py := hZ (Py.out.grew g1)
 replace Q := hZ (Q.out.grew g1)
 replace Qy := hZ (Qy.out.grew g1)
 replace S := hZ (S.out.grew g1)
 replace Sy := hZ (Sy.out.grew g1)
 replace z0 := hZ (lt_grew z0.out g1)
 replace z1 := hZ (lt_grew z1.out g1)
 replace z2 := hZ (lt_grew z2.out g1)
 replace Sa := hZ (Sa.out.kept g1.keeps)
 replace Sb := hZ (Sb.out.kept g1.keeps)
 replace Sc := hZ (Sc.out.kept g1.keeps)
 replace G0 := hZ (G0.out.trans g1)
 clear g1
 go_wp2_with fail
 refine (rfsign_any _ _ _ _ X1.out (by omega) (by omega)).mono ?_
 rintro e w2 ⟨rfl, g2⟩
 replace P := hZ (P.out.grew g2)
 replace Py := hZ (Py.out.grew g2)
 replace Q := hZ (Q.out.grew g2)
 replace Qy := hZ (Qy.out.grew g2)
 replace S := hZ (S.out.grew g2)
 replace Sy := hZ (Sy.out.grew g2)
 replace z0 := hZ (lt_grew z0.out g2)
 replace z1 := hZ (lt_grew z1.out g2)
 replace z2 := hZ (lt_grew z2.out g2)
 replace Sa := hZ (Sa.out.kept g2.keeps)
 replace Sb := hZ (Sb.out.kept g2.keeps)
 replace Sc := hZ (Sc.out.kept g2.keeps)
 replace X1 := hZ (X1.out.kept g2.keeps)
 replace G0 := hZ (G0.out.trans g2)
 clear g2
 rw [e0.out]
 go_wp2_with fail
 go_ret
 exact ⟨rfl, G0.out⟩
set_option maxHeartbeats 8000000 in
theorem ron_any (Va Vb Vc : Value) (ax ay bx b_y cx cy : Rat) (k : Nat) (w : World) (ha : SpotR w Va ax ay k) (hb : SpotR w Vb bx b_y k) (hc : SpotR w Vc cx cy k) (hk : 1 ≤ k) (hs : k < 67108864) :
  Calls Tryz.prog 84 #[Va, Vb, Vc] w fun e w' => e = .returned (.bool (onQ ax ay bx b_y cx cy)) ∧ Grew w w' := by
 obtain ⟨b1, A1, n1, c1, C1, m1, d1, b2, A2, n2, c2, C2, m2, d2, rfl, Fa, Fb, Sa⟩ := ha.laid
 obtain ⟨b3, A3, n3, c3, C3, m3, d3, b4, A4, n4, c4, C4, m4, d4, rfl, Fc, Fd, Sb⟩ := hb.laid
 obtain ⟨b5, A5, n5, c5, C5, m5, d5, b6, A6, n6, c6, C6, m6, d6, rfl, Fe, Ff, Sc⟩ := hc.laid
 clear ha hb hc
 have eO : onQ ax ay bx b_y cx cy = (decide (turnQ ax ay bx b_y cx cy = 0) && withinQ ax bx cx && withinQ ay b_y cy) := by
  unfold onQ; cases withinQ ax bx cx <;> cases withinQ ay b_y cy <;> cases decide (turnQ ax ay bx b_y cx cy = 0) <;> rfl
 generalize onQ ax ay bx b_y cx cy = oo at *
 replace eO := hZ eO
 go_enter Tryz.func84, Tryz.ntmps84
 go_wp2_with fail
 refine gen_calls ?_
 intro W0 hW0
 have G0 : Grew w W0 := by rw [hW0]; exact (((Grew.refl w).alloc _).alloc _).alloc _
 have P : Box3 W0 (w.heap.size) 0 (.bool b1) (.slice A1 n1 c1) (.slice C1 m1 d1) := by rw [hW0]; exact ⟨by simp [go_sem], by simp [go_sem], by simp [go_sem]⟩
 replace P := hZ P
 have Py : Box3 W0 (w.heap.size) 3 (.bool b2) (.slice A2 n2 c2) (.slice C2 m2 d2) := by rw [hW0]; exact ⟨by simp [go_sem], by simp [go_sem], by simp [go_sem]⟩
 replace Py := hZ Py
 have Q : Box3 W0 (w.heap.size + 1) 0 (.bool b3) (.slice A3 n3 c3) (.slice C3 m3 d3) := by rw [hW0]; exact ⟨by simp [go_sem], by simp [go_sem], by simp [go_sem]⟩
 replace Q := hZ Q
 have Qy : Box3 W0 (w.heap.size + 1) 3 (.bool b4) (.slice A4 n4 c4) (.slice C4 m4 d4) := by rw [hW0]; exact ⟨by simp [go_sem], by simp [go_sem], by simp [go_sem]⟩
 replace Qy := hZ Qy
 have S : Box3 W0 (w.heap.size + 1 + 1) 0 (.bool b5) (.slice A5 n5 c5) (.slice C5 m5 d5) := by rw [hW0]; exact ⟨by simp [go_sem], by simp [go_sem], by simp [go_sem]⟩
 replace S := hZ S
 have Sy : Box3 W0 (w.heap.size + 1 + 1) 3 (.bool b6) (.slice A6 n6 c6) (.slice C6 m6 d6) := by rw [hW0]; exact ⟨by simp [go_sem], by simp [go_sem], by simp [go_sem]⟩
 replace Sy := hZ Sy
 have z0 : w.heap.size < W0.heap.size := by rw [hW0]; simp <;> omega
 replace z0 := hZ z0
 have z1 : w.heap.size + 1 < W0.heap.size := by rw [hW0]; simp <;> omega
 replace z1 := hZ z1
 have z2 : w.heap.size + 1 + 1 < W0.heap.size := by rw [hW0]; simp <;> omega
 replace z2 := hZ z2
 clear hW0
 replace Fa := hZ (Fa.out.kept G0.keeps)
 replace Fb := hZ (Fb.out.kept G0.keeps)
 replace Fc := hZ (Fc.out.kept G0.keeps)
 replace Fd := hZ (Fd.out.kept G0.keeps)
 replace Fe := hZ (Fe.out.kept G0.keeps)
 replace Ff := hZ (Ff.out.kept G0.keeps)
 replace Sa := hZ (Sa.out.kept G0.keeps)
 replace Sb := hZ (Sb.out.kept G0.keeps)
 replace Sc := hZ (Sc.out.kept G0.keeps)
 replace G0 := hZ G0
 refine (rturn_any _ _ _ ax ay bx b_y cx cy k _ Sa.out Sb.out Sc.out hk hs).mono ?_
 rintro e w1 ⟨rfl, g1⟩
 replace P := hZ (P.out.grew g1)
 replace Py := hZ (Py.out.grew g1)
 replace Q := hZ (Q.out.grew g1)
 replace Qy := hZ (Qy.out.grew g1)
 replace S := hZ (S.out.grew g1)
 replace Sy := hZ (Sy.out.grew g1)
 replace z0 := hZ (lt_grew z0.out g1)
 replace z1 := hZ (lt_grew z1.out g1)
 replace z2 := hZ (lt_grew z2.out g1)
 replace Fa := hZ (Fa.out.kept g1.keeps)
 replace Fb := hZ (Fb.out.kept g1.keeps)
 replace Fc := hZ (Fc.out.kept g1.keeps)
 replace Fd := hZ (Fd.out.kept g1.keeps)
 replace Fe := hZ (Fe.out.kept g1.keeps)
 replace Ff := hZ (Ff.out.kept g1.keeps)
 replace Sa := hZ (Sa.out.kept g1.keeps)
 replace Sb := hZ (Sb.out.kept g1.keeps)
 replace Sc := hZ (Sc.out.kept g1.keeps)
 replace G0 := hZ (G0.out.trans g1)
 clear g1
 generalize turnQ ax ay bx b_y cx cy = t at *
 by_cases ht : t = 0
 ·as_aux_lemma =>
  subst ht
  rw [decide_eq_true rfl, Bool.true_and] at eO
  obtain ⟨P0, P1, P2⟩ := P.out
  obtain ⟨Py0, Py1, Py2⟩ := Py.out
  obtain ⟨Q0, Q1, Q2⟩ := Q.out
  obtain ⟨Qy0, Qy1, Qy2⟩ := Qy.out
  obtain ⟨S0, S1, S2⟩ := S.out
  obtain ⟨Sy0, Sy1, Sy2⟩ := Sy.out
  go_wp2_with fail
  clear P0 P1 P2 Py0 Py1 Py2 Q0 Q1 Q2 Qy0 Qy1 Qy2 S0 S1 S2 Sy0 Sy1 Sy2
  refine (between_any _ _ _ ax bx cx k _ Fa.out Fc.out Fe.out hk hs).mono ?_
  rintro e w2 ⟨rfl, g2⟩
  replace P := hZ (P.out.grew g2)
  replace Py := hZ (Py.out.grew g2)
  replace Q := hZ (Q.out.grew g2)
  replace Qy := hZ (Qy.out.grew g2)
  replace S := hZ (S.out.grew g2)
  replace Sy := hZ (Sy.out.grew g2)
  replace z0 := hZ (lt_grew z0.out g2)
  replace z1 := hZ (lt_grew z1.out g2)
  replace z2 := hZ (lt_grew z2.out g2)
  replace Fa := hZ (Fa.out.kept g2.keeps)
  replace Fb := hZ (Fb.out.kept g2.keeps)
  replace Fc := hZ (Fc.out.kept g2.keeps)
  replace Fd := hZ (Fd.out.kept g2.keeps)
  replace Fe := hZ (Fe.out.kept g2.keeps)
  replace Ff := hZ (Ff.out.kept g2.keeps)
  replace Sa := hZ (Sa.out.kept g2.keeps)
  replace Sb := hZ (Sb.out.kept g2.keeps)
  replace Sc := hZ (Sc.out.kept g2.keeps)
  replace G0 := hZ (G0.out.trans g2)
  clear g2
  generalize withinQ ax bx cx = B1 at *
  cases B1
  ·as_aux_lemma =>
   rw [Bool.false_and] at eO
   obtain ⟨P0, P1, P2⟩ := P.out
   obtain ⟨Py0, Py1, Py2⟩ := Py.out
   obtain ⟨Q0, Q1, Q2⟩ := Q.out
   obtain ⟨Qy0, Qy1, Qy2⟩ := Qy.out
   obtain ⟨S0, S1, S2⟩ := S.out
   obtain ⟨Sy0, Sy1, Sy2⟩ := Sy.out
   go_wp2_with fail
   clear P0 P1 P2 Py0 Py1 Py2 Q0 Q1 Q2 Qy0 Qy1 Qy2 S0 S1 S2 Sy0 Sy1 Sy2
   go_ret
   exact ⟨by rw [eO.out]; rfl, G0.out⟩
  ·as_aux_lemma =>
   rw [Bool.true_and] at eO
   obtain ⟨P0, P1, P2⟩ := P.out
   obtain ⟨Py0, Py1, Py2⟩ := Py.out
   obtain ⟨Q0, Q1, Q2⟩ := Q.out
   obtain ⟨Qy0, Qy1, Qy2⟩ := Qy.out
   obtain ⟨S0, S1, S2⟩ := S.out
   obtain ⟨Sy0, Sy1, Sy2⟩ := Sy.out
   go_wp2_with fail
   clear P0 P1 P2 Py0 Py1 Py2 Q0 Q1 Q2 Qy0 Qy1 Qy2 S0 S1 S2 Sy0 Sy1 Sy2
   refine (between_any _ _ _ ay b_y cy k _ Fb.out Fd.out Ff.out hk hs).mono ?_
   rintro e w3 ⟨rfl, g3⟩
   replace P := hZ (P.out.grew g3)
   replace Py := hZ (Py.out.grew g3)
   replace Q := hZ (Q.out.grew g3)
   replace Qy := hZ (Qy.out.grew g3)
   replace S := hZ (S.out.grew g3)
   replace Sy := hZ (Sy.out.grew g3)
   replace z0 := hZ (lt_grew z0.out g3)
   replace z1 := hZ (lt_grew z1.out g3)
   replace z2 := hZ (lt_grew z2.out g3)
   replace Fa := hZ (Fa.out.kept g3.keeps)
   replace Fb := hZ (Fb.out.kept g3.keeps)
   replace Fc := hZ (Fc.out.kept g3.keeps)
   replace Fd := hZ (Fd.out.kept g3.keeps)
   replace Fe := hZ (Fe.out.kept g3.keeps)
   replace Ff := hZ (Ff.out.kept g3.keeps)
   replace Sa := hZ (Sa.out.kept g3.keeps)
   replace Sb := hZ (Sb.out.kept g3.keeps)
   replace Sc := hZ (Sc.out.kept g3.keeps)
   replace G0 := hZ (G0.out.trans g3)
   clear g3
   generalize withinQ ay b_y cy = B2 at *
   go_wp2_with fail
   go_ret
   exact ⟨by rw [eO.out]; rfl, G0.out⟩
 ·as_aux_lemma =>
  have eO' := hZ (show oo = false by rw [eO.out, decide_eq_false ht]; rfl)
  have htb : (t == 0) = false := by simpa using ht
  clear eO
  go_wp2_with fail
  go_ret
  exact ⟨by rw [eO'.out]; rfl, G0.out⟩
set_option maxHeartbeats 8000000 in
theorem rat5_any (x y : Int) (w : World) (x0 : -9223372036854775808 ≤ x) (x1 : x ≤ 9223372036854775807) (y0 : -9223372036854775808 ≤ y) (y1 : y ≤ 9223372036854775807) :
  Calls Tryz.prog 52 #[.agg #[.int .i64 x, .int .i64 y]] w fun e w' => ∃ V, e = .returned V ∧ SpotC w' V (x : Rat) (y : Rat) ∧ Grew w w' := by
 go_enter Tryz.func52, Tryz.ntmps52
 go_wp2_with fail
 refine gen_wp ?_
 intro W0 hW0
 have G0 : Grew w W0 := by rw [hW0]; exact ((Grew.refl w).alloc _).alloc _
 have P : Box2 W0 (w.heap.size) 0 (.int .i64 x) (.int .i64 y) := by rw [hW0]; exact ⟨by simp [go_sem], by simp [go_sem]⟩
 replace P := hZ P
 have R : Res3 W0 (w.heap.size + 1) 0 (.bool false) (.slice none 0 0) (.slice none 0 0) := by rw [hW0]; exact ⟨by simp [go_sem], by simp [go_sem], by simp [go_sem], by simp [go_sem], by simp [go_sem], by simp [go_sem], by simp⟩
 replace R := hZ R
 have R_ : Res3 W0 (w.heap.size + 1) 3 (.bool false) (.slice none 0 0) (.slice none 0 0) := by rw [hW0]; exact ⟨by simp [go_sem], by simp [go_sem], by simp [go_sem], by simp [go_sem], by simp [go_sem], by simp [go_sem], by simp⟩
 replace R_ := hZ R_
 have z0 : w.heap.size < W0.heap.size := by rw [hW0]; simp <;> omega
 replace z0 := hZ z0
 have z1 : w.heap.size + 1 < W0.heap.size := by rw [hW0]; simp <;> omega
 replace z1 := hZ z1
 clear hW0
 replace G0 := hZ G0
 have gd : Grew W0 W0.drew := (Grew.refl W0).drew
 replace R := hZ (R.out.grew gd)
 replace R_ := hZ (R_.out.grew gd)
 replace P := hZ (P.out.grew gd)
 replace z0 := hZ (lt_grew z0.out gd)
 replace z1 := hZ (lt_grew z1.out gd)
 replace gd := hZ gd
 have ZP := P
 go_region_held3 (fun w' => w'.cell? ⟨w.heap.size, 0, none⟩ = some (.int .i64 x) ∧ w'.cell? ⟨w.heap.size, 1, none⟩ = some (.int .i64 y))
  (first | (with_reducible exact ⟨ZP.out.p0, ZP.out.p1⟩) | (with_reducible exact ⟨g1.cell ZP.out.p0, g1.cell ZP.out.p1⟩) | (with_reducible exact ⟨(g1.trans g2).cell ZP.out.p0, (g1.trans g2).cell ZP.out.p1⟩) | (with_reducible exact ⟨other3 (o := 3) (by omega) (other3 (o := 0) (by omega) ((g1.trans g2).cell ZP.out.p0)), other3 (o := 3) (by omega) (other3 (o := 0) (by omega) ((g1.trans g2).cell ZP.out.p1))⟩))
  (first | (go_at_call 79; refine (rfint_any x _ x0 x1).mono ?_; rintro e w1 ⟨V1, rfl, hV1, g1⟩; obtain ⟨b13, A13, n13, c13, C13, m13, d13, rfl, X1⟩ := hV1.laid; clear hV1; replace R := hZ (R.out.grew g1); replace R_ := hZ (R_.out.grew g1); replace P := hZ (P.out.grew g1); replace z0 := hZ (lt_grew z0.out g1); replace z1 := hZ (lt_grew z1.out g1)) | (go_at_call 79; refine (rfint_any y _ y0 y1).mono ?_; rintro e w2 ⟨V2, rfl, hV2, g2⟩; obtain ⟨b14, A14, n14, c14, C14, m14, d14, rfl, X2⟩ := hV2.laid; clear hV2; replace R := hZ (R.out.grew g2); replace R_ := hZ (R_.out.grew g2); replace P := hZ (P.out.grew g2); replace z0 := hZ (lt_grew z0.out g2); replace z1 := hZ (lt_grew z1.out g2); replace X1 := hZ (X1.out.kept g2.keeps); obtain ⟨R0, R1, R2, Rf0, Rf1, Rf2, Rs⟩ := R.out; obtain ⟨R_0, R_1, R_2, R_f0, R_f1, R_f2, R_s⟩ := R_.out))
 replace G0 := hZ (((G0.out.trans gd.out).trans g1).trans g2)
 clear gd g1 g2 ZP
 refine gen_then ?_
 intro W9 hW9
 obtain ⟨q0, q1, q2, q3, q4, q5, qK, qG⟩ := store6 R0 R1 R2 R_0 R_1 R_2 hW9
 have GE := qG w (by omega) G0.out
 have QK := hZ qK
 clear qK qG hW9 R0 R1 R2 R_0 R_1 R_2
 go_wp2_with fail
 exact bodyPost_ret (v := .agg #[.bool b13, .slice A13 n13 c13, .slice C13 m13 d13, .bool b14, .slice A14 n14 c14, .slice C14 m14 d14]) (by simp [results, Tryz.results52, go_sem, q0, q1, q2, q3, q4, q5]) rfl ⟨_, rfl, SpotC.mk (X1.out.kept QK.out) (X2.out.kept QK.out), GE⟩
end Go.Proofs.YtmommicmblfibaaGreat
