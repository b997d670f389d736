/- r05.At, Cmp, Toward. Condition: what comes in reads; fewer than 2^26 words. spot.Cmp, Same, Toward. Condition: what comes in reads; fewer than 2^26 words. Edges as values: as they come in; a struct of twelve cells stored anew. Conditions: none. r05.clean, spot.clean, r05.Row. Condition: what comes in reads; fewer than 2^26 words, fewer than 2^36 spots. -/
import Derived.Test.YtmommicmblfibaaGreatJR4c
import Derived.Test.YtmommicmblfibaaGreatJR5At
import Derived.Test.YtmommicmblfibaaGreatJElE
import Derived.Test.YtmommicmblfibaaGreatJRowP
import Derived.Deep.LoopGhost
import Derived.Deep.RegionHeld3
set_option maxRecDepth 100000
namespace Go.Proofs.YtmommicmblfibaaGreat
open Go.RowKit
set_option maxHeartbeats 8000000 in
theorem rscmp_any (Va Vb : Value) (ax ay bx b_y : Rat) (k : Nat) (w : World) (ha : SpotR w Va ax ay k) (hb : SpotR w Vb bx b_y k) (hk : 1 ≤ k) (hs : k < 67108864) :
  Calls Tryz.prog 29 #[Va, Vb] w fun e w' => e = .returned (.int .i64 (spotCmp ax ay bx b_y)) ∧ Grew w w' := by
 obtain ⟨b1, A1, n1, c1, C1, m1, d1, b2, A2, n2, c2, C2, m2, d2, rfl, Fa, Fb, -⟩ := ha.laid
 obtain ⟨b3, A3, n3, c3, C3, m3, d3, b4, A4, n4, c4, C4, m4, d4, rfl, Fc, Fd, -⟩ := hb.laid
 clear ha hb
 have hk0 : 1 ≤ k ∧ 1 ≤ k := ⟨hk, hk⟩
 have hs0 : k < 1073741824 ∧ k < 1073741824 := by omega
 have eO : spotCmp ax ay bx b_y = if cmpQ ax bx = 0 then cmpQ ay b_y else cmpQ ax bx := rfl
 generalize spotCmp ax ay bx b_y = oo at *
 obtain ⟨x, hx⟩ : ∃ x, cmpQ ax bx = x := ⟨_, rfl⟩
 rw [hx] at eO
 replace hx := hZ hx
 replace eO := hZ eO
 go_enter Tryz.func29, Tryz.ntmps29
 go_wp2_with fail
 refine gen_calls ?_
 intro W0 hW0
 have G0 : Grew w W0 := by rw [hW0]; exact ((Grew.refl w).alloc _).alloc _
 have P : Box3 W0 (w.heap.size) 0 (.bool b1) (.slice A1 n1 c1) (.slice C1 m1 d1) := by rw [hW0]; exact ⟨by simp [go_sem], by simp [go_sem], by simp [go_sem]⟩
 replace P := hZ P
 have Py : Box3 W0 (w.heap.size) 3 (.bool b2) (.slice A2 n2 c2) (.slice C2 m2 d2) := by rw [hW0]; exact ⟨by simp [go_sem], by simp [go_sem], by simp [go_sem]⟩
 replace Py := hZ Py
 have Q : Box3 W0 (w.heap.size + 1) 0 (.bool b3) (.slice A3 n3 c3) (.slice C3 m3 d3) := by rw [hW0]; exact ⟨by simp [go_sem], by simp [go_sem], by simp [go_sem]⟩
 replace Q := hZ Q
 have Qy : Box3 W0 (w.heap.size + 1) 3 (.bool b4) (.slice A4 n4 c4) (.slice C4 m4 d4) := by rw [hW0]; exact ⟨by simp [go_sem], by simp [go_sem], by simp [go_sem]⟩
 replace Qy := hZ Qy
 have z0 : w.heap.size < W0.heap.size := by rw [hW0]; simp <;> omega
 replace z0 := hZ z0
 have z1 : w.heap.size + 1 < W0.heap.size := by rw [hW0]; simp <;> omega
 replace z1 := hZ z1
 clear hW0
 replace Fa := hZ (Fa.out.kept G0.keeps)
 replace Fb := hZ (Fb.out.kept G0.keeps)
 replace Fc := hZ (Fc.out.kept G0.keeps)
 replace Fd := hZ (Fd.out.kept G0.keeps)
 replace G0 := hZ G0
 refine (rfcmp_any _ _ ax bx k k _ Fa.out Fc.out hk0 hs0).mono ?_
 rintro e w1 ⟨rfl, g1⟩
 replace P := hZ (P.out.grew g1)
 replace Py := hZ (Py.out.grew g1)
 replace Q := hZ (Q.out.grew g1)
 replace Qy := hZ (Qy.out.grew g1)
 replace z0 := hZ (lt_grew z0.out g1)
 replace z1 := hZ (lt_grew z1.out g1)
 replace Fa := hZ (Fa.out.kept g1.keeps)
 replace Fb := hZ (Fb.out.kept g1.keeps)
 replace Fc := hZ (Fc.out.kept g1.keeps)
 replace Fd := hZ (Fd.out.kept g1.keeps)
 replace G0 := hZ (G0.out.trans g1)
 clear g1
 rw [hx.out]
 by_cases h0 : x = 0
 ·as_aux_lemma =>
  subst h0
  have eO' := hZ (eO.out.trans (if_pos rfl))
  obtain ⟨P0, P1, P2⟩ := P.out
  obtain ⟨Py0, Py1, Py2⟩ := Py.out
  obtain ⟨Q0, Q1, Q2⟩ := Q.out
  obtain ⟨Qy0, Qy1, Qy2⟩ := Qy.out
  go_wp2_with fail
  clear P0 P1 P2 Py0 Py1 Py2 Q0 Q1 Q2 Qy0 Qy1 Qy2
  refine (rfcmp_any _ _ ay b_y k k _ Fb.out Fd.out hk0 hs0).mono ?_
  rintro e w2 ⟨rfl, g2⟩
  replace P := hZ (P.out.grew g2)
  replace Py := hZ (Py.out.grew g2)
  replace Q := hZ (Q.out.grew g2)
  replace Qy := hZ (Qy.out.grew g2)
  replace z0 := hZ (lt_grew z0.out g2)
  replace z1 := hZ (lt_grew z1.out g2)
  replace Fa := hZ (Fa.out.kept g2.keeps)
  replace Fb := hZ (Fb.out.kept g2.keeps)
  replace Fc := hZ (Fc.out.kept g2.keeps)
  replace Fd := hZ (Fd.out.kept g2.keeps)
  replace G0 := hZ (G0.out.trans g2)
  clear g2
  go_wp2_with fail
  go_ret
  exact ⟨by rw [eO'.out]; rfl, G0.out⟩
 ·as_aux_lemma =>
  have eO' := hZ (eO.out.trans (if_neg h0))
  have hxb : (x == 0) = false := by simpa using h0
  obtain ⟨P0, P1, P2⟩ := P.out
  obtain ⟨Py0, Py1, Py2⟩ := Py.out
  obtain ⟨Q0, Q1, Q2⟩ := Q.out
  obtain ⟨Qy0, Qy1, Qy2⟩ := Qy.out
  go_wp2_with fail
  clear P0 P1 P2 Py0 Py1 Py2 Q0 Q1 Q2 Qy0 Qy1 Qy2
  refine (rfcmp_any _ _ ax bx k k _ Fa.out Fc.out hk0 hs0).mono ?_
  rintro e w2 ⟨rfl, g2⟩
  replace P := hZ (P.out.grew g2)
  replace Py := hZ (Py.out.grew g2)
  replace Q := hZ (Q.out.grew g2)
  replace Qy := hZ (Qy.out.grew g2)
  replace z0 := hZ (lt_grew z0.out g2)
  replace z1 := hZ (lt_grew z1.out g2)
  replace Fa := hZ (Fa.out.kept g2.keeps)
  replace Fb := hZ (Fb.out.kept g2.keeps)
  replace Fc := hZ (Fc.out.kept g2.keeps)
  replace Fd := hZ (Fd.out.kept g2.keeps)
  replace G0 := hZ (G0.out.trans g2)
  clear g2
  rw [hx.out]
  go_wp2_with fail
  go_ret
  exact ⟨by rw [eO'.out]; rfl, G0.out⟩
set_option maxHeartbeats 8000000 in
theorem rtoward_any (Va Vb Vc : Value) (ax ay bx b_y t : Rat) (k l : Nat) (w : World) (ha : SpotR w Va ax ay k) (hb : SpotR w Vb bx b_y k) (hc : FracR w Vc t l) (hk : 1 ≤ k) (hl : 1 ≤ l) (hs : k < 67108864) (hs9 : l < 67108864) :
  Calls Tryz.prog 83 #[Va, Vb, Vc] w fun e w' => ∃ V, e = .returned V ∧ SpotC w' V (ax + t * (bx - ax)) (ay + t * (b_y - ay)) ∧ Grew w w' := by
 obtain ⟨b1, A1, n1, c1, C1, m1, d1, b2, A2, n2, c2, C2, m2, d2, rfl, Fa, Fb, -⟩ := ha.laid
 obtain ⟨b3, A3, n3, c3, C3, m3, d3, b4, A4, n4, c4, C4, m4, d4, rfl, Fc, Fd, -⟩ := hb.laid
 obtain ⟨b5, A5, n5, c5, C5, m5, d5, rfl, Fe⟩ := hc.laid
 clear ha hb hc
 have hk0 : 1 ≤ k ∧ 1 ≤ k := ⟨hk, hk⟩
 have hk1 : 1 ≤ l ∧ 1 ≤ k + k + 1 := by omega
 have hk2 : 1 ≤ k ∧ 1 ≤ l + (k + k + 1) := by omega
 have hs0 : k < 1073741824 ∧ k < 1073741824 := by omega
 have hs1 : l < 1073741824 ∧ k + k + 1 < 1073741824 := by omega
 have hs2 : k < 1073741824 ∧ l + (k + k + 1) < 1073741824 := by omega
 have q1 := hZ (Fa.out.v.qb hk)
 have q2 := hZ (Fb.out.v.qb hk)
 have q3 := hZ (Fc.out.v.qb hk)
 have q4 := hZ (Fd.out.v.qb hk)
 have q5 := hZ (Fe.out.v.qb hl)
 have q6 := hZ (q3.out.sub q1.out)
 have q7 := hZ (q4.out.sub q2.out)
 have q8 := hZ (q5.out.mul q6.out)
 have q9 := hZ (q5.out.mul q7.out)
 go_enter Tryz.func83, Tryz.ntmps83
 go_wp2_with fail
 refine gen_wp ?_
 intro W0 hW0
 have G0 : Grew w W0 := by rw [hW0]; exact ((((Grew.refl w).alloc _).alloc _).alloc _).alloc _
 have P : Box3 W0 (w.heap.size) 0 (.bool b1) (.slice A1 n1 c1) (.slice C1 m1 d1) := by rw [hW0]; exact ⟨by simp [go_sem], by simp [go_sem], by simp [go_sem]⟩
 replace P := hZ P
 have Py : Box3 W0 (w.heap.size) 3 (.bool b2) (.slice A2 n2 c2) (.slice C2 m2 d2) := by rw [hW0]; exact ⟨by simp [go_sem], by simp [go_sem], by simp [go_sem]⟩
 replace Py := hZ Py
 have Q : Box3 W0 (w.heap.size + 1) 0 (.bool b3) (.slice A3 n3 c3) (.slice C3 m3 d3) := by rw [hW0]; exact ⟨by simp [go_sem], by simp [go_sem], by simp [go_sem]⟩
 replace Q := hZ Q
 have Qy : Box3 W0 (w.heap.size + 1) 3 (.bool b4) (.slice A4 n4 c4) (.slice C4 m4 d4) := by rw [hW0]; exact ⟨by simp [go_sem], by simp [go_sem], by simp [go_sem]⟩
 replace Qy := hZ Qy
 have S : Box3 W0 (w.heap.size + 1 + 1) 0 (.bool b5) (.slice A5 n5 c5) (.slice C5 m5 d5) := by rw [hW0]; exact ⟨by simp [go_sem], by simp [go_sem], by simp [go_sem]⟩
 replace S := hZ S
 have R : Res3 W0 (w.heap.size + 1 + 1 + 1) 0 (.bool false) (.slice none 0 0) (.slice none 0 0) := by rw [hW0]; exact ⟨by simp [go_sem], by simp [go_sem], by simp [go_sem], by simp [go_sem], by simp [go_sem], by simp [go_sem], by simp⟩
 replace R := hZ R
 have R_ : Res3 W0 (w.heap.size + 1 + 1 + 1) 3 (.bool false) (.slice none 0 0) (.slice none 0 0) := by rw [hW0]; exact ⟨by simp [go_sem], by simp [go_sem], by simp [go_sem], by simp [go_sem], by simp [go_sem], by simp [go_sem], by simp⟩
 replace R_ := hZ R_
 have z0 : w.heap.size < W0.heap.size := by rw [hW0]; simp <;> omega
 replace z0 := hZ z0
 have z1 : w.heap.size + 1 < W0.heap.size := by rw [hW0]; simp <;> omega
 replace z1 := hZ z1
 have z2 : w.heap.size + 1 + 1 < W0.heap.size := by rw [hW0]; simp <;> omega
 replace z2 := hZ z2
 have z3 : w.heap.size + 1 + 1 + 1 < W0.heap.size := by rw [hW0]; simp <;> omega
 replace z3 := hZ z3
 clear hW0
 replace Fa := hZ (Fa.out.kept G0.keeps)
 replace Fb := hZ (Fb.out.kept G0.keeps)
 replace Fc := hZ (Fc.out.kept G0.keeps)
 replace Fd := hZ (Fd.out.kept G0.keeps)
 replace Fe := hZ (Fe.out.kept G0.keeps)
 replace G0 := hZ G0
 have gd : Grew W0 W0.drew := (Grew.refl W0).drew
 replace R := hZ (R.out.grew gd)
 replace R_ := hZ (R_.out.grew gd)
 replace P := hZ (P.out.grew gd)
 replace Py := hZ (Py.out.grew gd)
 replace Q := hZ (Q.out.grew gd)
 replace Qy := hZ (Qy.out.grew gd)
 replace S := hZ (S.out.grew gd)
 replace z0 := hZ (lt_grew z0.out gd)
 replace z1 := hZ (lt_grew z1.out gd)
 replace z2 := hZ (lt_grew z2.out gd)
 replace z3 := hZ (lt_grew z3.out gd)
 replace Fa := hZ (Fa.out.kept gd.keeps)
 replace Fb := hZ (Fb.out.kept gd.keeps)
 replace Fc := hZ (Fc.out.kept gd.keeps)
 replace Fd := hZ (Fd.out.kept gd.keeps)
 replace Fe := hZ (Fe.out.kept gd.keeps)
 replace gd := hZ gd
 have ZP := P
 have ZPy := Py
 have ZQ := Q
 have ZQy := Qy
 have ZS := S
 go_region_held3 (fun w' => w'.cell? ⟨w.heap.size, 0, none⟩ = some (.bool b1) ∧ w'.cell? ⟨w.heap.size, 1, none⟩ = some (.slice A1 n1 c1) ∧ w'.cell? ⟨w.heap.size, 2, none⟩ = some (.slice C1 m1 d1) ∧ w'.cell? ⟨w.heap.size, 3, none⟩ = some (.bool b2) ∧ w'.cell? ⟨w.heap.size, 4, none⟩ = some (.slice A2 n2 c2) ∧ w'.cell? ⟨w.heap.size, 5, none⟩ = some (.slice C2 m2 d2) ∧ w'.cell? ⟨w.heap.size + 1, 0, none⟩ = some (.bool b3) ∧ w'.cell? ⟨w.heap.size + 1, 1, none⟩ = some (.slice A3 n3 c3) ∧ w'.cell? ⟨w.heap.size + 1, 2, none⟩ = some (.slice C3 m3 d3) ∧ w'.cell? ⟨w.heap.size + 1, 3, none⟩ = some (.bool b4) ∧ w'.cell? ⟨w.heap.size + 1, 4, none⟩ = some (.slice A4 n4 c4) ∧ w'.cell? ⟨w.heap.size + 1, 5, none⟩ = some (.slice C4 m4 d4) ∧ w'.cell? ⟨w.heap.size + 1 + 1, 0, none⟩ = some (.bool b5) ∧ w'.cell? ⟨w.heap.size + 1 + 1, 1, none⟩ = some (.slice A5 n5 c5) ∧ w'.cell? ⟨w.heap.size + 1 + 1, 2, none⟩ = some (.slice C5 m5 d5))
  (first | (with_reducible exact ⟨ZP.out.p0, ZP.out.p1, ZP.out.p2, ZPy.out.p0, ZPy.out.p1, ZPy.out.p2, ZQ.out.p0, ZQ.out.p1, ZQ.out.p2, ZQy.out.p0, ZQy.out.p1, ZQy.out.p2, ZS.out.p0, ZS.out.p1, ZS.out.p2⟩) | (with_reducible exact ⟨g1.cell ZP.out.p0, g1.cell ZP.out.p1, g1.cell ZP.out.p2, g1.cell ZPy.out.p0, g1.cell ZPy.out.p1, g1.cell ZPy.out.p2, g1.cell ZQ.out.p0, g1.cell ZQ.out.p1, g1.cell ZQ.out.p2, g1.cell ZQy.out.p0, g1.cell ZQy.out.p1, g1.cell ZQy.out.p2, g1.cell ZS.out.p0, g1.cell ZS.out.p1, g1.cell ZS.out.p2⟩) | (with_reducible exact ⟨(g1.trans g2).cell ZP.out.p0, (g1.trans g2).cell ZP.out.p1, (g1.trans g2).cell ZP.out.p2, (g1.trans g2).cell ZPy.out.p0, (g1.trans g2).cell ZPy.out.p1, (g1.trans g2).cell ZPy.out.p2, (g1.trans g2).cell ZQ.out.p0, (g1.trans g2).cell ZQ.out.p1, (g1.trans g2).cell ZQ.out.p2, (g1.trans g2).cell ZQy.out.p0, (g1.trans g2).cell ZQy.out.p1, (g1.trans g2).cell ZQy.out.p2, (g1.trans g2).cell ZS.out.p0, (g1.trans g2).cell ZS.out.p1, (g1.trans g2).cell ZS.out.p2⟩) | (with_reducible exact ⟨((g1.trans g2).trans g3).cell ZP.out.p0, ((g1.trans g2).trans g3).cell ZP.out.p1, ((g1.trans g2).trans g3).cell ZP.out.p2, ((g1.trans g2).trans g3).cell ZPy.out.p0, ((g1.trans g2).trans g3).cell ZPy.out.p1, ((g1.trans g2).trans g3).cell ZPy.out.p2, ((g1.trans g2).trans g3).cell ZQ.out.p0, ((g1.trans g2).trans g3).cell ZQ.out.p1, ((g1.trans g2).trans g3).cell ZQ.out.p2, ((g1.trans g2).trans g3).cell ZQy.out.p0, ((g1.trans g2).trans g3).cell ZQy.out.p1, ((g1.trans g2).trans g3).cell ZQy.out.p2, ((g1.trans g2).trans g3).cell ZS.out.p0, ((g1.trans g2).trans g3).cell ZS.out.p1, ((g1.trans g2).trans g3).cell ZS.out.p2⟩) | (with_reducible exact ⟨(((g1.trans g2).trans g3).trans g4).cell ZP.out.p0, (((g1.trans g2).trans g3).trans g4).cell ZP.out.p1, (((g1.trans g2).trans g3).trans g4).cell ZP.out.p2, (((g1.trans g2).trans g3).trans g4).cell ZPy.out.p0, (((g1.trans g2).trans g3).trans g4).cell ZPy.out.p1, (((g1.trans g2).trans g3).trans g4).cell ZPy.out.p2, (((g1.trans g2).trans g3).trans g4).cell ZQ.out.p0, (((g1.trans g2).trans g3).trans g4).cell ZQ.out.p1, (((g1.trans g2).trans g3).trans g4).cell ZQ.out.p2, (((g1.trans g2).trans g3).trans g4).cell ZQy.out.p0, (((g1.trans g2).trans g3).trans g4).cell ZQy.out.p1, (((g1.trans g2).trans g3).trans g4).cell ZQy.out.p2, (((g1.trans g2).trans g3).trans g4).cell ZS.out.p0, (((g1.trans g2).trans g3).trans g4).cell ZS.out.p1, (((g1.trans g2).trans g3).trans g4).cell ZS.out.p2⟩) | (with_reducible exact ⟨((((g1.trans g2).trans g3).trans g4).trans g5).cell ZP.out.p0, ((((g1.trans g2).trans g3).trans g4).trans g5).cell ZP.out.p1, ((((g1.trans g2).trans g3).trans g4).trans g5).cell ZP.out.p2, ((((g1.trans g2).trans g3).trans g4).trans g5).cell ZPy.out.p0, ((((g1.trans g2).trans g3).trans g4).trans g5).cell ZPy.out.p1, ((((g1.trans g2).trans g3).trans g4).trans g5).cell ZPy.out.p2, ((((g1.trans g2).trans g3).trans g4).trans g5).cell ZQ.out.p0, ((((g1.trans g2).trans g3).trans g4).trans g5).cell ZQ.out.p1, ((((g1.trans g2).trans g3).trans g4).trans g5).cell ZQ.out.p2, ((((g1.trans g2).trans g3).trans g4).trans g5).cell ZQy.out.p0, ((((g1.trans g2).trans g3).trans g4).trans g5).cell ZQy.out.p1, ((((g1.trans g2).trans g3).trans g4).trans g5).cell ZQy.out.p2, ((((g1.trans g2).trans g3).trans g4).trans g5).cell ZS.out.p0, ((((g1.trans g2).trans g3).trans g4).trans g5).cell ZS.out.p1, ((((g1.trans g2).trans g3).trans g4).trans g5).cell ZS.out.p2⟩) | (with_reducible exact ⟨(((((g1.trans g2).trans g3).trans g4).trans g5).trans g6).cell ZP.out.p0, (((((g1.trans g2).trans g3).trans g4).trans g5).trans g6).cell ZP.out.p1, (((((g1.trans g2).trans g3).trans g4).trans g5).trans g6).cell ZP.out.p2, (((((g1.trans g2).trans g3).trans g4).trans g5).trans g6).cell ZPy.out.p0, (((((g1.trans g2).trans g3).trans g4).trans g5).trans g6).cell ZPy.out.p1, (((((g1.trans g2).trans g3).trans g4).trans g5).trans g6).cell ZPy.out.p2, (((((g1.trans g2).trans g3).trans g4).trans g5).trans g6).cell ZQ.out.p0, (((((g1.trans g2).trans g3).trans g4).trans g5).trans g6).cell ZQ.out.p1, (((((g1.trans g2).trans g3).trans g4).trans g5).trans g6).cell ZQ.out.p2, (((((g1.trans g2).trans g3).trans g4).trans g5).trans g6).cell ZQy.out.p0, (((((g1.trans g2).trans g3).trans g4).trans g5).trans g6).cell ZQy.out.p1, (((((g1.trans g2).trans g3).trans g4).trans g5).trans g6).cell ZQy.out.p2, (((((g1.trans g2).trans g3).trans g4).trans g5).trans g6).cell ZS.out.p0, (((((g1.trans g2).trans g3).trans g4).trans g5).trans g6).cell ZS.out.p1, (((((g1.trans g2).trans g3).trans g4).trans g5).trans g6).cell ZS.out.p2⟩) | (with_reducible exact ⟨other3 (o := 3) (by omega) (other3 (o := 0) (by omega) ((((((g1.trans g2).trans g3).trans g4).trans g5).trans g6).cell ZP.out.p0)), other3 (o := 3) (by omega) (other3 (o := 0) (by omega) ((((((g1.trans g2).trans g3).trans g4).trans g5).trans g6).cell ZP.out.p1)), other3 (o := 3) (by omega) (other3 (o := 0) (by omega) ((((((g1.trans g2).trans g3).trans g4).trans g5).trans g6).cell ZP.out.p2)), other3 (o := 3) (by omega) (other3 (o := 0) (by omega) ((((((g1.trans g2).trans g3).trans g4).trans g5).trans g6).cell ZPy.out.p0)), other3 (o := 3) (by omega) (other3 (o := 0) (by omega) ((((((g1.trans g2).trans g3).trans g4).trans g5).trans g6).cell ZPy.out.p1)), other3 (o := 3) (by omega) (other3 (o := 0) (by omega) ((((((g1.trans g2).trans g3).trans g4).trans g5).trans g6).cell ZPy.out.p2)), other3 (o := 3) (by omega) (other3 (o := 0) (by omega) ((((((g1.trans g2).trans g3).trans g4).trans g5).trans g6).cell ZQ.out.p0)), other3 (o := 3) (by omega) (other3 (o := 0) (by omega) ((((((g1.trans g2).trans g3).trans g4).trans g5).trans g6).cell ZQ.out.p1)), other3 (o := 3) (by omega) (other3 (o := 0) (by omega) ((((((g1.trans g2).trans g3).trans g4).trans g5).trans g6).cell ZQ.out.p2)), other3 (o := 3) (by omega) (other3 (o := 0) (by omega) ((((((g1.trans g2).trans g3).trans g4).trans g5).trans g6).cell ZQy.out.p0)), other3 (o := 3) (by omega) (other3 (o := 0) (by omega) ((((((g1.trans g2).trans g3).trans g4).trans g5).trans g6).cell ZQy.out.p1)), other3 (o := 3) (by omega) (other3 (o := 0) (by omega) ((((((g1.trans g2).trans g3).trans g4).trans g5).trans g6).cell ZQy.out.p2)), other3 (o := 3) (by omega) (other3 (o := 0) (by omega) ((((((g1.trans g2).trans g3).trans g4).trans g5).trans g6).cell ZS.out.p0)), other3 (o := 3) (by omega) (other3 (o := 0) (by omega) ((((((g1.trans g2).trans g3).trans g4).trans g5).trans g6).cell ZS.out.p1)), other3 (o := 3) (by omega) (other3 (o := 0) (by omega) ((((((g1.trans g2).trans g3).trans g4).trans g5).trans g6).cell ZS.out.p2))⟩))
  (first | (go_at_call_of 82 (Value.agg #[.bool b3, .slice A3 n3 c3, .slice C3 m3 d3]); refine (rfsub_any _ _ bx ax k k _ Fc.out Fa.out hk0 hs0).mono ?_; rintro e w1 ⟨V1, rfl, hV1, g1⟩; have Y1 := hZ (hV1.r q6.out); obtain ⟨b13, A13, n13, c13, C13, m13, d13, rfl, hX1⟩ := hV1.laid; have X1 := Y1; clear hV1 Y1 hX1; replace R := hZ (R.out.grew g1); replace R_ := hZ (R_.out.grew g1); replace P := hZ (P.out.grew g1); replace Py := hZ (Py.out.grew g1); replace Q := hZ (Q.out.grew g1); replace Qy := hZ (Qy.out.grew g1); replace S := hZ (S.out.grew g1); replace z0 := hZ (lt_grew z0.out g1); replace z1 := hZ (lt_grew z1.out g1); replace z2 := hZ (lt_grew z2.out g1); replace z3 := hZ (lt_grew z3.out g1); replace Fa := hZ (Fa.out.kept g1.keeps); replace Fb := hZ (Fb.out.kept g1.keeps); replace Fc := hZ (Fc.out.kept g1.keeps); replace Fd := hZ (Fd.out.kept g1.keeps); replace Fe := hZ (Fe.out.kept g1.keeps)) | (go_at_call_of 125 (Value.agg #[.bool b13, .slice A13 n13 c13, .slice C13 m13 d13]); refine (rfmul_any _ _ t (bx - ax) l (k + k + 1) _ Fe.out X1.out hk1 hs1).mono ?_; rintro e w2 ⟨V2, rfl, hV2, g2⟩; have Y2 := hZ (hV2.r q8.out); obtain ⟨b14, A14, n14, c14, C14, m14, d14, rfl, hX2⟩ := hV2.laid; have X2 := Y2; clear hV2 Y2 hX2; replace R := hZ (R.out.grew g2); replace R_ := hZ (R_.out.grew g2); replace P := hZ (P.out.grew g2); replace Py := hZ (Py.out.grew g2); replace Q := hZ (Q.out.grew g2); replace Qy := hZ (Qy.out.grew g2); replace S := hZ (S.out.grew g2); replace z0 := hZ (lt_grew z0.out g2); replace z1 := hZ (lt_grew z1.out g2); replace z2 := hZ (lt_grew z2.out g2); replace z3 := hZ (lt_grew z3.out g2); replace Fa := hZ (Fa.out.kept g2.keeps); replace Fb := hZ (Fb.out.kept g2.keeps); replace Fc := hZ (Fc.out.kept g2.keeps); replace Fd := hZ (Fd.out.kept g2.keeps); replace Fe := hZ (Fe.out.kept g2.keeps); replace X1 := hZ (X1.out.kept g2.keeps)) | (go_at_call_of 124 (Value.agg #[.bool b1, .slice A1 n1 c1, .slice C1 m1 d1]); refine (rfadd_any _ _ ax (t * (bx - ax)) k (l + (k + k + 1)) _ Fa.out X2.out hk2 hs2).mono ?_; rintro e w3 ⟨V3, rfl, hV3, g3⟩; obtain ⟨b15, A15, n15, c15, C15, m15, d15, rfl, X3⟩ := hV3.laid; clear hV3; replace R := hZ (R.out.grew g3); replace R_ := hZ (R_.out.grew g3); replace P := hZ (P.out.grew g3); replace Py := hZ (Py.out.grew g3); replace Q := hZ (Q.out.grew g3); replace Qy := hZ (Qy.out.grew g3); replace S := hZ (S.out.grew g3); replace z0 := hZ (lt_grew z0.out g3); replace z1 := hZ (lt_grew z1.out g3); replace z2 := hZ (lt_grew z2.out g3); replace z3 := hZ (lt_grew z3.out g3); replace Fa := hZ (Fa.out.kept g3.keeps); replace Fb := hZ (Fb.out.kept g3.keeps); replace Fc := hZ (Fc.out.kept g3.keeps); replace Fd := hZ (Fd.out.kept g3.keeps); replace Fe := hZ (Fe.out.kept g3.keeps); replace X1 := hZ (X1.out.kept g3.keeps); replace X2 := hZ (X2.out.kept g3.keeps)) | (go_at_call 82; refine (rfsub_any _ _ b_y ay k k _ Fd.out Fb.out hk0 hs0).mono ?_; rintro e w4 ⟨V4, rfl, hV4, g4⟩; have Y4 := hZ (hV4.r q7.out); obtain ⟨b16, A16, n16, c16, C16, m16, d16, rfl, hX4⟩ := hV4.laid; have X4 := Y4; clear hV4 Y4 hX4; replace R := hZ (R.out.grew g4); replace R_ := hZ (R_.out.grew g4); replace P := hZ (P.out.grew g4); replace Py := hZ (Py.out.grew g4); replace Q := hZ (Q.out.grew g4); replace Qy := hZ (Qy.out.grew g4); replace S := hZ (S.out.grew g4); replace z0 := hZ (lt_grew z0.out g4); replace z1 := hZ (lt_grew z1.out g4); replace z2 := hZ (lt_grew z2.out g4); replace z3 := hZ (lt_grew z3.out g4); replace Fa := hZ (Fa.out.kept g4.keeps); replace Fb := hZ (Fb.out.kept g4.keeps); replace Fc := hZ (Fc.out.kept g4.keeps); replace Fd := hZ (Fd.out.kept g4.keeps); replace Fe := hZ (Fe.out.kept g4.keeps); replace X1 := hZ (X1.out.kept g4.keeps); replace X2 := hZ (X2.out.kept g4.keeps); replace X3 := hZ (X3.out.kept g4.keeps)) | (go_at_call 125; refine (rfmul_any _ _ t (b_y - ay) l (k + k + 1) _ Fe.out X4.out hk1 hs1).mono ?_; rintro e w5 ⟨V5, rfl, hV5, g5⟩; have Y5 := hZ (hV5.r q9.out); obtain ⟨b17, A17, n17, c17, C17, m17, d17, rfl, hX5⟩ := hV5.laid; have X5 := Y5; clear hV5 Y5 hX5; replace R := hZ (R.out.grew g5); replace R_ := hZ (R_.out.grew g5); replace P := hZ (P.out.grew g5); replace Py := hZ (Py.out.grew g5); replace Q := hZ (Q.out.grew g5); replace Qy := hZ (Qy.out.grew g5); replace S := hZ (S.out.grew g5); replace z0 := hZ (lt_grew z0.out g5); replace z1 := hZ (lt_grew z1.out g5); replace z2 := hZ (lt_grew z2.out g5); replace z3 := hZ (lt_grew z3.out g5); replace Fa := hZ (Fa.out.kept g5.keeps); replace Fb := hZ (Fb.out.kept g5.keeps); replace Fc := hZ (Fc.out.kept g5.keeps); replace Fd := hZ (Fd.out.kept g5.keeps); replace Fe := hZ (Fe.out.kept g5.keeps); replace X1 := hZ (X1.out.kept g5.keeps); replace X2 := hZ (X2.out.kept g5.keeps); replace X3 := hZ (X3.out.kept g5.keeps); replace X4 := hZ (X4.out.kept g5.keeps)) | (go_at_call 124; refine (rfadd_any _ _ ay (t * (b_y - ay)) k (l + (k + k + 1)) _ Fb.out X5.out hk2 hs2).mono ?_; rintro e w6 ⟨V6, rfl, hV6, g6⟩; obtain ⟨b18, A18, n18, c18, C18, m18, d18, rfl, X6⟩ := hV6.laid; clear hV6; replace R := hZ (R.out.grew g6); replace R_ := hZ (R_.out.grew g6); replace P := hZ (P.out.grew g6); replace Py := hZ (Py.out.grew g6); replace Q := hZ (Q.out.grew g6); replace Qy := hZ (Qy.out.grew g6); replace S := hZ (S.out.grew g6); replace z0 := hZ (lt_grew z0.out g6); replace z1 := hZ (lt_grew z1.out g6); replace z2 := hZ (lt_grew z2.out g6); replace z3 := hZ (lt_grew z3.out g6); replace Fa := hZ (Fa.out.kept g6.keeps); replace Fb := hZ (Fb.out.kept g6.keeps); replace Fc := hZ (Fc.out.kept g6.keeps); replace Fd := hZ (Fd.out.kept g6.keeps); replace Fe := hZ (Fe.out.kept g6.keeps); replace X1 := hZ (X1.out.kept g6.keeps); replace X2 := hZ (X2.out.kept g6.keeps); replace X3 := hZ (X3.out.kept g6.keeps); replace X4 := hZ (X4.out.kept g6.keeps); replace X5 := hZ (X5.out.kept g6.keeps); obtain ⟨R0, R1, R2, Rf0, Rf1, Rf2, Rs⟩ := R.out; obtain ⟨R_0, R_1, R_2, R_f0, R_f1, R_f2, R_s⟩ := R_.out))
 replace G0 := hZ (((((((G0.out.trans gd.out).trans g1).trans g2).trans g3).trans g4).trans g5).trans g6)
 clear gd g1 g2 g3 g4 g5 g6 ZP ZPy ZQ ZQy ZS
 refine gen_then ?_
 intro W9 hW9
 obtain ⟨q0, q1, q2, q3, q4, q5, qK, qG⟩ := store6 R0 R1 R2 R_0 R_1 R_2 hW9
 have GE := qG w (by omega) G0.out
 have QK := hZ qK
 clear qK qG hW9 R0 R1 R2 R_0 R_1 R_2
 go_wp2_with fail
 exact bodyPost_ret (v := .agg #[.bool b15, .slice A15 n15 c15, .slice C15 m15 d15, .bool b18, .slice A18 n18 c18, .slice C18 m18 d18]) (by simp [results, Tryz.results83, go_sem, q0, q1, q2, q3, q4, q5]) rfl ⟨_, rfl, SpotC.mk (X3.out.kept QK.out) (X6.out.kept QK.out), GE⟩
set_option maxHeartbeats 8000000 in
theorem scmp_any (Va Vb : Value) (ax ay bx b_y : Rat) (k : Nat) (w : World) (ha : SpotV w Va ax ay k) (hb : SpotV w Vb bx b_y k) (hk : 1 ≤ k) (hs : k < 67108864) :
  Calls Tryz.prog 19 #[Va, Vb] w fun e w' => e = .returned (.int .i64 (spotCmp ax ay bx b_y)) ∧ Grew w w' := by
 obtain ⟨b1, A1, n1, c1, C1, m1, d1, b2, A2, n2, c2, C2, m2, d2, rfl, Fa, Fb, -⟩ := ha.laid
 obtain ⟨b3, A3, n3, c3, C3, m3, d3, b4, A4, n4, c4, C4, m4, d4, rfl, Fc, Fd, -⟩ := hb.laid
 clear ha hb
 have hs2 : k + k < 549755813888 := by omega
 have eO : spotCmp ax ay bx b_y = if cmpQ ax bx = 0 then cmpQ ay b_y else cmpQ ax bx := rfl
 generalize spotCmp ax ay bx b_y = oo at *
 obtain ⟨x, hx⟩ : ∃ x, cmpQ ax bx = x := ⟨_, rfl⟩
 rw [hx] at eO
 replace hx := hZ hx
 replace eO := hZ eO
 go_enter Tryz.func19, Tryz.ntmps19
 go_wp2_with fail
 refine gen_calls ?_
 intro W0 hW0
 have G0 : Grew w W0 := by rw [hW0]; exact ((Grew.refl w).alloc _).alloc _
 have P : Box3 W0 (w.heap.size) 0 (.bool b1) (.slice A1 n1 c1) (.slice C1 m1 d1) := by rw [hW0]; exact ⟨by simp [go_sem], by simp [go_sem], by simp [go_sem]⟩
 replace P := hZ P
 have Py : Box3 W0 (w.heap.size) 3 (.bool b2) (.slice A2 n2 c2) (.slice C2 m2 d2) := by rw [hW0]; exact ⟨by simp [go_sem], by simp [go_sem], by simp [go_sem]⟩
 replace Py := hZ Py
 have Q : Box3 W0 (w.heap.size + 1) 0 (.bool b3) (.slice A3 n3 c3) (.slice C3 m3 d3) := by rw [hW0]; exact ⟨by simp [go_sem], by simp [go_sem], by simp [go_sem]⟩
 replace Q := hZ Q
 have Qy : Box3 W0 (w.heap.size + 1) 3 (.bool b4) (.slice A4 n4 c4) (.slice C4 m4 d4) := by rw [hW0]; exact ⟨by simp [go_sem], by simp [go_sem], by simp [go_sem]⟩
 replace Qy := hZ Qy
 have z0 : w.heap.size < W0.heap.size := by rw [hW0]; simp <;> omega
 replace z0 := hZ z0
 have z1 : w.heap.size + 1 < W0.heap.size := by rw [hW0]; simp <;> omega
 replace z1 := hZ z1
 clear hW0
 replace Fa := hZ (Fa.out.kept G0.keeps)
 replace Fb := hZ (Fb.out.kept G0.keeps)
 replace Fc := hZ (Fc.out.kept G0.keeps)
 replace Fd := hZ (Fd.out.kept G0.keeps)
 replace G0 := hZ G0
 refine (fcmp_any _ _ ax bx k k _ Fa.out Fc.out hk hk hs2).mono ?_
 rintro e w1 ⟨rfl, g1⟩
 replace P := hZ (P.out.grew g1)
 replace Py := hZ (Py.out.grew g1)
 replace Q := hZ (Q.out.grew g1)
 replace Qy := hZ (Qy.out.grew g1)
 replace z0 := hZ (lt_grew z0.out g1)
 replace z1 := hZ (lt_grew z1.out g1)
 replace Fa := hZ (Fa.out.kept g1.keeps)
 replace Fb := hZ (Fb.out.kept g1.keeps)
 replace Fc := hZ (Fc.out.kept g1.keeps)
 replace Fd := hZ (Fd.out.kept g1.keeps)
 replace G0 := hZ (G0.out.trans g1)
 clear g1
 rw [hx.out]
 by_cases h0 : x = 0
 ·as_aux_lemma =>
  subst h0
  have eO' := hZ (eO.out.trans (if_pos rfl))
  obtain ⟨P0, P1, P2⟩ := P.out
  obtain ⟨Py0, Py1, Py2⟩ := Py.out
  obtain ⟨Q0, Q1, Q2⟩ := Q.out
  obtain ⟨Qy0, Qy1, Qy2⟩ := Qy.out
  go_wp2_with fail
  clear P0 P1 P2 Py0 Py1 Py2 Q0 Q1 Q2 Qy0 Qy1 Qy2
  refine (fcmp_any _ _ ay b_y k k _ Fb.out Fd.out hk hk hs2).mono ?_
  rintro e w2 ⟨rfl, g2⟩
  replace P := hZ (P.out.grew g2)
  replace Py := hZ (Py.out.grew g2)
  replace Q := hZ (Q.out.grew g2)
  replace Qy := hZ (Qy.out.grew g2)
  replace z0 := hZ (lt_grew z0.out g2)
  replace z1 := hZ (lt_grew z1.out g2)
  replace Fa := hZ (Fa.out.kept g2.keeps)
  replace Fb := hZ (Fb.out.kept g2.keeps)
  replace Fc := hZ (Fc.out.kept g2.keeps)
  replace Fd := hZ (Fd.out.kept g2.keeps)
  replace G0 := hZ (G0.out.trans g2)
  clear g2
  go_wp2_with fail
  go_ret
  exact ⟨by rw [eO'.out]; rfl, G0.out⟩
 ·as_aux_lemma =>
  have eO' := hZ (eO.out.trans (if_neg h0))
  have hxb : (x == 0) = false := by simpa using h0
  obtain ⟨P0, P1, P2⟩ := P.out
  obtain ⟨Py0, Py1, Py2⟩ := Py.out
  obtain ⟨Q0, Q1, Q2⟩ := Q.out
  obtain ⟨Qy0, Qy1, Qy2⟩ := Qy.out
  go_wp2_with fail
  clear P0 P1 P2 Py0 Py1 Py2 Q0 Q1 Q2 Qy0 Qy1 Qy2
  go_ret
  exact ⟨by rw [eO'.out]; rfl, G0.out⟩
set_option maxHeartbeats 8000000 in
theorem ssame_any (Va Vb : Value) (ax ay bx b_y : Rat) (k : Nat) (w : World) (ha : SpotV w Va ax ay k) (hb : SpotV w Vb bx b_y k) (hk : 1 ≤ k) (hs : k < 67108864) :
  Calls Tryz.prog 21 #[Va, Vb] w fun e w' => e = .returned (.bool (spotCmp ax ay bx b_y == 0)) ∧ Grew w w' := by
 obtain ⟨b1, A1, n1, c1, C1, m1, d1, b2, A2, n2, c2, C2, m2, d2, rfl, -, -, Sa⟩ := ha.laid
 obtain ⟨b3, A3, n3, c3, C3, m3, d3, b4, A4, n4, c4, C4, m4, d4, rfl, -, -, Sb⟩ := hb.laid
 clear ha hb
 go_enter Tryz.func21, Tryz.ntmps21
 go_wp2_with fail
 refine gen_calls ?_
 intro W0 hW0
 have G0 : Grew w W0 := by rw [hW0]; exact ((Grew.refl w).alloc _).alloc _
 have P : Box3 W0 (w.heap.size) 0 (.bool b1) (.slice A1 n1 c1) (.slice C1 m1 d1) := by rw [hW0]; exact ⟨by simp [go_sem], by simp [go_sem], by simp [go_sem]⟩
 replace P := hZ P
 have Py : Box3 W0 (w.heap.size) 3 (.bool b2) (.slice A2 n2 c2) (.slice C2 m2 d2) := by rw [hW0]; exact ⟨by simp [go_sem], by simp [go_sem], by simp [go_sem]⟩
 replace Py := hZ Py
 have Q : Box3 W0 (w.heap.size + 1) 0 (.bool b3) (.slice A3 n3 c3) (.slice C3 m3 d3) := by rw [hW0]; exact ⟨by simp [go_sem], by simp [go_sem], by simp [go_sem]⟩
 replace Q := hZ Q
 have Qy : Box3 W0 (w.heap.size + 1) 3 (.bool b4) (.slice A4 n4 c4) (.slice C4 m4 d4) := by rw [hW0]; exact ⟨by simp [go_sem], by simp [go_sem], by simp [go_sem]⟩
 replace Qy := hZ Qy
 have z0 : w.heap.size < W0.heap.size := by rw [hW0]; simp <;> omega
 replace z0 := hZ z0
 have z1 : w.heap.size + 1 < W0.heap.size := by rw [hW0]; simp <;> omega
 replace z1 := hZ z1
 clear hW0
 replace Sa := hZ (Sa.out.kept G0.keeps)
 replace Sb := hZ (Sb.out.kept G0.keeps)
 replace G0 := hZ G0
 refine (scmp_any _ _ ax ay bx b_y k _ Sa.out Sb.out hk hs).mono ?_
 rintro e w1 ⟨rfl, g1⟩
 replace P := hZ (P.out.grew g1)
 replace Py := hZ (Py.out.grew g1)
 replace Q := hZ (Q.out.grew g1)
 replace Qy := hZ (Qy.out.grew g1)
 replace z0 := hZ (lt_grew z0.out g1)
 replace z1 := hZ (lt_grew z1.out g1)
 replace Sa := hZ (Sa.out.kept g1.keeps)
 replace Sb := hZ (Sb.out.kept g1.keeps)
 replace G0 := hZ (G0.out.trans g1)
 clear g1
 go_wp2_with fail
 go_ret
 exact ⟨rfl, G0.out⟩
theorem store12 {w w' : World} {r : Nat} {x1 x2 x3 x4 : Bool} {A1 A2 A3 A4 C1 C2 C3 C4 : Option Addr} {n1 n2 n3 n4 c1 c2 c3 c4 m1 m2 m3 m4 d1 d2 d3 d4 : Nat} {u0 u1 u2 u3 u4 u5 u6 u7 u8 u9 u10 u11 : Value}
  (h0 : w.cell? ⟨r, 0, none⟩ = some (.bool x1)) (h1 : w.cell? ⟨r, 1, none⟩ = some (.slice A1 n1 c1)) (h2 : w.cell? ⟨r, 2, none⟩ = some (.slice C1 m1 d1))
  (h3 : w.cell? ⟨r, 3, none⟩ = some (.bool x2)) (h4 : w.cell? ⟨r, 4, none⟩ = some (.slice A2 n2 c2)) (h5 : w.cell? ⟨r, 5, none⟩ = some (.slice C2 m2 d2))
  (h6 : w.cell? ⟨r, 6, none⟩ = some (.bool x3)) (h7 : w.cell? ⟨r, 7, none⟩ = some (.slice A3 n3 c3)) (h8 : w.cell? ⟨r, 8, none⟩ = some (.slice C3 m3 d3))
  (h9 : w.cell? ⟨r, 9, none⟩ = some (.bool x4)) (h10 : w.cell? ⟨r, 10, none⟩ = some (.slice A4 n4 c4)) (h11 : w.cell? ⟨r, 11, none⟩ = some (.slice C4 m4 d4))
  (h : w' = (((((((((((w.setCell ⟨r, 0, none⟩ u0).setCell ⟨r, 1, none⟩ u1).setCell ⟨r, 2, none⟩ u2).setCell ⟨r, 3, none⟩ u3).setCell ⟨r, 4, none⟩ u4).setCell ⟨r, 5, none⟩ u5).setCell ⟨r, 6, none⟩ u6).setCell ⟨r, 7, none⟩ u7).setCell ⟨r, 8, none⟩ u8).setCell ⟨r, 9, none⟩ u9).setCell ⟨r, 10, none⟩ u10).setCell ⟨r, 11, none⟩ u11) :
  w'.cell? ⟨r, 0, none⟩ = some u0 ∧ w'.cell? ⟨r, 1, none⟩ = some u1 ∧ w'.cell? ⟨r, 2, none⟩ = some u2 ∧ w'.cell? ⟨r, 3, none⟩ = some u3 ∧ w'.cell? ⟨r, 4, none⟩ = some u4 ∧ w'.cell? ⟨r, 5, none⟩ = some u5 ∧
   w'.cell? ⟨r, 6, none⟩ = some u6 ∧ w'.cell? ⟨r, 7, none⟩ = some u7 ∧ w'.cell? ⟨r, 8, none⟩ = some u8 ∧ w'.cell? ⟨r, 9, none⟩ = some u9 ∧ w'.cell? ⟨r, 10, none⟩ = some u10 ∧ w'.cell? ⟨r, 11, none⟩ = some u11 ∧
   Keeps w w' ∧ (∀ a, a.heap.size ≤ r → Grew a w → Grew a w') := by
 obtain ⟨q0, q1, q2, qK, -, qf, -, qG⟩ := store3 (o := 0) (u0 := u0) (u1 := u1) (u2 := u2) h0 h1 h2 rfl
 obtain ⟨q3, q4, q5, qK1, -, qf1, -, qG1⟩ := store3 (o := 3) (u0 := u3) (u1 := u4) (u2 := u5) ((qf _ (by omega)).trans h3) ((qf _ (by omega)).trans h4) ((qf _ (by omega)).trans h5) rfl
 obtain ⟨q6, q7, q8, qK2, -, qf2, -, qG2⟩ := store3 (o := 6) (u0 := u6) (u1 := u7) (u2 := u8) ((qf1 _ (by omega)).trans ((qf _ (by omega)).trans h6)) ((qf1 _ (by omega)).trans ((qf _ (by omega)).trans h7)) ((qf1 _ (by omega)).trans ((qf _ (by omega)).trans h8)) rfl
 obtain ⟨q9, q10, q11, qK3, -, qf3, -, qG3⟩ := store3 (o := 9) (u0 := u9) (u1 := u10) (u2 := u11) ((qf2 _ (by omega)).trans ((qf1 _ (by omega)).trans ((qf _ (by omega)).trans h9))) ((qf2 _ (by omega)).trans ((qf1 _ (by omega)).trans ((qf _ (by omega)).trans h10))) ((qf2 _ (by omega)).trans ((qf1 _ (by omega)).trans ((qf _ (by omega)).trans h11))) h
 exact ⟨(qf3 _ (by omega)).trans ((qf2 _ (by omega)).trans ((qf1 _ (by omega)).trans q0)), (qf3 _ (by omega)).trans ((qf2 _ (by omega)).trans ((qf1 _ (by omega)).trans q1)), (qf3 _ (by omega)).trans ((qf2 _ (by omega)).trans ((qf1 _ (by omega)).trans q2)),
  (qf3 _ (by omega)).trans ((qf2 _ (by omega)).trans q3), (qf3 _ (by omega)).trans ((qf2 _ (by omega)).trans q4), (qf3 _ (by omega)).trans ((qf2 _ (by omega)).trans q5),
  (qf3 _ (by omega)).trans q6, (qf3 _ (by omega)).trans q7, (qf3 _ (by omega)).trans q8, q9, q10, q11, ((qK.trans qK1).trans qK2).trans qK3, fun a ha g => qG3 a (.inr ha) (qG2 a (.inr ha) (qG1 a (.inr ha) (qG a (.inr ha) g)))⟩
abbrev EdgeR (k : Nat) := EdgeP (fun w V x y => SpotR w V x y k)
theorem EdgeP.mono {P P' : World → Value → Rat → Rat → Prop} {w w' : World} {us : Array Value} {e : EdgeQ} (h : EdgeP P w us e) (hP : ∀ V x y, P w V x y → P' w' V x y) : EdgeP P' w' us e := by
 obtain ⟨u1, u2, rfl, h1, h2⟩ := h
 exact ⟨u1, u2, rfl, hP _ _ _ h1, hP _ _ _ h2⟩
def EB (k : Nat) (e : EdgeQ) : Prop := (QB e.1.1 k ∧ QB e.1.2 k) ∧ QB e.2.1 k ∧ QB e.2.2 k
theorem edge_r {k : Nat} {w : World} {us : Array Value} {e : EdgeQ} (h : Edge12R w us e) (b : EB k e) : EdgeR k w us e := by
 obtain ⟨u1, u2, rfl, h1, h2⟩ := h
 exact ⟨u1, u2, rfl, h1.r b.1.1 b.1.2, h2.r b.2.1 b.2.2⟩
theorem edgeR_kept {k : Nat} {w w' : World} {us : Array Value} {e : EdgeQ} (h : EdgeR k w us e) (g : Keeps w w') : EdgeR k w' us e := h.mono fun _ _ _ h => SpotR.kept h g
theorem EdgeR.laid {k : Nat} {w : World} {us : Array Value} {e : EdgeQ} (h : EdgeR k w us e) :
  ∃ b1 A1 n1 c1 C1 m1 d1 b2 A2 n2 c2 C2 m2 d2 b3 A3 n3 c3 C3 m3 d3 b4 A4 n4 c4 C4 m4 d4, us = #[.bool b1, .slice A1 n1 c1, .slice C1 m1 d1, .bool b2, .slice A2 n2 c2, .slice C2 m2 d2, .bool b3, .slice A3 n3 c3, .slice C3 m3 d3, .bool b4, .slice A4 n4 c4, .slice C4 m4 d4] ∧
   Hid (SpotR w (.agg #[.bool b1, .slice A1 n1 c1, .slice C1 m1 d1, .bool b2, .slice A2 n2 c2, .slice C2 m2 d2]) e.1.1 e.1.2 k) ∧ Hid (SpotR w (.agg #[.bool b3, .slice A3 n3 c3, .slice C3 m3 d3, .bool b4, .slice A4 n4 c4, .slice C4 m4 d4]) e.2.1 e.2.2 k) := by
 obtain ⟨u1, u2, rfl, h1, h2⟩ := h
 have k1 := h1
 have k2 := h2
 obtain ⟨b1, A1, n1, c1, C1, m1, d1, b2, A2, n2, c2, C2, m2, d2, e1, -, -⟩ := k1
 obtain ⟨b3, A3, n3, c3, C3, m3, d3, b4, A4, n4, c4, C4, m4, d4, e2, -, -⟩ := k2
 injection e1 with e1
 injection e2 with e2
 subst e1
 subst e2
 exact ⟨b1, A1, n1, c1, C1, m1, d1, b2, A2, n2, c2, C2, m2, d2, b3, A3, n3, c3, C3, m3, d3, b4, A4, n4, c4, C4, m4, d4, rfl, h1, h2⟩
theorem edge_mk {w : World} {b1 b2 b3 b4 : Bool} {A1 A2 A3 A4 C1 C2 C3 C4 : Option Addr} {n1 n2 n3 n4 c1 c2 c3 c4 m1 m2 m3 m4 d1 d2 d3 d4 : Nat} {e : EdgeQ}
  (h1 : SpotC w (.agg #[.bool b1, .slice A1 n1 c1, .slice C1 m1 d1, .bool b2, .slice A2 n2 c2, .slice C2 m2 d2]) e.1.1 e.1.2) (h2 : SpotC w (.agg #[.bool b3, .slice A3 n3 c3, .slice C3 m3 d3, .bool b4, .slice A4 n4 c4, .slice C4 m4 d4]) e.2.1 e.2.2) :
  Edge12R w #[.bool b1, .slice A1 n1 c1, .slice C1 m1 d1, .bool b2, .slice A2 n2 c2, .slice C2 m2 d2, .bool b3, .slice A3 n3 c3, .slice C3 m3 d3, .bool b4, .slice A4 n4 c4, .slice C4 m4 d4] e := ⟨_, _, rfl, h1, h2⟩
set_option maxHeartbeats 4000000 in
theorem rclean_any (Va : Value) (x y : Rat) (k : Nat) (w : World) (ha : SpotR w Va x y k) (hs : k < 67108864) :
  Calls Tryz.prog 61 #[Va] w fun e w' => ∃ V, e = .returned V ∧ SpotC w' V x y ∧ Grew w w' := by
 obtain ⟨b1, A1, n1, c1, C1, m1, d1, b2, A2, n2, c2, C2, m2, d2, rfl, Fa, Fb, -⟩ := ha.laid
 clear ha
 go_enter Tryz.func61, Tryz.ntmps61
 go_wp2_with fail
 refine gen_wp ?_
 intro W0 hW0
 have G0 : Grew w W0 := by rw [hW0]; exact ((Grew.refl w).alloc _).alloc _
 have P : Box3 W0 (w.heap.size) 0 (.bool b1) (.slice A1 n1 c1) (.slice C1 m1 d1) := by rw [hW0]; exact ⟨by simp [go_sem], by simp [go_sem], by simp [go_sem]⟩
 replace P := hZ P
 have Py : Box3 W0 (w.heap.size) 3 (.bool b2) (.slice A2 n2 c2) (.slice C2 m2 d2) := by rw [hW0]; exact ⟨by simp [go_sem], by simp [go_sem], by simp [go_sem]⟩
 replace Py := hZ Py
 have R : Res3 W0 (w.heap.size + 1) 0 (.bool false) (.slice none 0 0) (.slice none 0 0) := by rw [hW0]; exact ⟨by simp [go_sem], by simp [go_sem], by simp [go_sem], by simp [go_sem], by simp [go_sem], by simp [go_sem], by simp⟩
 replace R := hZ R
 have R_ : Res3 W0 (w.heap.size + 1) 3 (.bool false) (.slice none 0 0) (.slice none 0 0) := by rw [hW0]; exact ⟨by simp [go_sem], by simp [go_sem], by simp [go_sem], by simp [go_sem], by simp [go_sem], by simp [go_sem], by simp⟩
 replace R_ := hZ R_
 have z0 : w.heap.size < W0.heap.size := by rw [hW0]; simp <;> omega
 replace z0 := hZ z0
 have z1 : w.heap.size + 1 < W0.heap.size := by rw [hW0]; simp <;> omega
 replace z1 := hZ z1
 clear hW0
 replace Fa := hZ (Fa.out.kept G0.keeps)
 replace Fb := hZ (Fb.out.kept G0.keeps)
 replace G0 := hZ G0
 have gd : Grew W0 W0.drew := (Grew.refl W0).drew
 replace R := hZ (R.out.grew gd)
 replace R_ := hZ (R_.out.grew gd)
 replace P := hZ (P.out.grew gd)
 replace Py := hZ (Py.out.grew gd)
 replace z0 := hZ (lt_grew z0.out gd)
 replace z1 := hZ (lt_grew z1.out gd)
 replace Fa := hZ (Fa.out.kept gd.keeps)
 replace Fb := hZ (Fb.out.kept gd.keeps)
 replace gd := hZ gd
 have ZP := P
 have ZPy := Py
 go_region_held3 (fun w' => w'.cell? ⟨w.heap.size, 0, none⟩ = some (.bool b1) ∧ w'.cell? ⟨w.heap.size, 1, none⟩ = some (.slice A1 n1 c1) ∧ w'.cell? ⟨w.heap.size, 2, none⟩ = some (.slice C1 m1 d1) ∧ w'.cell? ⟨w.heap.size, 3, none⟩ = some (.bool b2) ∧ w'.cell? ⟨w.heap.size, 4, none⟩ = some (.slice A2 n2 c2) ∧ w'.cell? ⟨w.heap.size, 5, none⟩ = some (.slice C2 m2 d2))
  (first | (with_reducible exact ⟨ZP.out.p0, ZP.out.p1, ZP.out.p2, ZPy.out.p0, ZPy.out.p1, ZPy.out.p2⟩) | (with_reducible exact ⟨g1.cell ZP.out.p0, g1.cell ZP.out.p1, g1.cell ZP.out.p2, g1.cell ZPy.out.p0, g1.cell ZPy.out.p1, g1.cell ZPy.out.p2⟩) | (with_reducible exact ⟨(g1.trans g2).cell ZP.out.p0, (g1.trans g2).cell ZP.out.p1, (g1.trans g2).cell ZP.out.p2, (g1.trans g2).cell ZPy.out.p0, (g1.trans g2).cell ZPy.out.p1, (g1.trans g2).cell ZPy.out.p2⟩) | (with_reducible exact ⟨other3 (o := 3) (by omega) (other3 (o := 0) (by omega) ((g1.trans g2).cell ZP.out.p0)), other3 (o := 3) (by omega) (other3 (o := 0) (by omega) ((g1.trans g2).cell ZP.out.p1)), other3 (o := 3) (by omega) (other3 (o := 0) (by omega) ((g1.trans g2).cell ZP.out.p2)), other3 (o := 3) (by omega) (other3 (o := 0) (by omega) ((g1.trans g2).cell ZPy.out.p0)), other3 (o := 3) (by omega) (other3 (o := 0) (by omega) ((g1.trans g2).cell ZPy.out.p1)), other3 (o := 3) (by omega) (other3 (o := 0) (by omega) ((g1.trans g2).cell ZPy.out.p2))⟩))
  (first | (have chk := g1; clear chk; go_at_call 57; refine (rfreduce_any _ y k _ Fb.out (by omega)).mono ?_; rintro e w2 ⟨V2, rfl, hV2, g2⟩; obtain ⟨b14, A14, n14, c14, C14, m14, d14, rfl, X2⟩ := hV2.laid; clear hV2; replace R := hZ (R.out.grew g2); replace R_ := hZ (R_.out.grew g2); replace P := hZ (P.out.grew g2); replace Py := hZ (Py.out.grew g2); replace z0 := hZ (lt_grew z0.out g2); replace z1 := hZ (lt_grew z1.out g2); replace Fa := hZ (Fa.out.kept g2.keeps); replace Fb := hZ (Fb.out.kept g2.keeps); replace X1 := hZ (X1.out.kept g2.keeps); obtain ⟨R0, R1, R2, Rf0, Rf1, Rf2, Rs⟩ := R.out; obtain ⟨R_0, R_1, R_2, R_f0, R_f1, R_f2, R_s⟩ := R_.out) | (go_at_call 57; refine (rfreduce_any _ x k _ Fa.out (by omega)).mono ?_; rintro e w1 ⟨V1, rfl, hV1, g1⟩; obtain ⟨b13, A13, n13, c13, C13, m13, d13, rfl, X1⟩ := hV1.laid; clear hV1; replace R := hZ (R.out.grew g1); replace R_ := hZ (R_.out.grew g1); replace P := hZ (P.out.grew g1); replace Py := hZ (Py.out.grew g1); replace z0 := hZ (lt_grew z0.out g1); replace z1 := hZ (lt_grew z1.out g1); replace Fa := hZ (Fa.out.kept g1.keeps); replace Fb := hZ (Fb.out.kept g1.keeps)))
 replace G0 := hZ (((G0.out.trans gd.out).trans g1).trans g2)
 clear gd g1 g2 ZP ZPy
 refine gen_then ?_
 intro W9 hW9
 obtain ⟨q0, q1, q2, q3, q4, q5, qK, qG⟩ := store6 R0 R1 R2 R_0 R_1 R_2 hW9
 have GE := qG w (by omega) G0.out
 have QK := hZ qK
 clear qK qG hW9 R0 R1 R2 R_0 R_1 R_2
 go_wp2_with fail
 exact bodyPost_ret (v := .agg #[.bool b13, .slice A13 n13 c13, .slice C13 m13 d13, .bool b14, .slice A14 n14 c14, .slice C14 m14 d14]) (by simp [results, Tryz.results61, go_sem, q0, q1, q2, q3, q4, q5]) rfl ⟨_, rfl, SpotC.mk (X1.out.kept QK.out) (X2.out.kept QK.out), GE⟩
end Go.Proofs.YtmommicmblfibaaGreat
