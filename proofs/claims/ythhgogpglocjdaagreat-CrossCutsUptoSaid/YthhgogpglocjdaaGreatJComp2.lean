/- r05.At. Condition: ints of 64 bits. r05.At, Cmp, Toward. Condition: what comes in reads; fewer than 2^26 words. spot.Cmp, Same, Toward. Condition: what comes in reads; fewer than 2^26 words. slices.CompactFunc at spots, by spot.Same, on a row that the caller owns. Condition: fewer than 2^26 words, at most 2^40 spots. -/
import Derived.Test.YthhgogpglocjdaaGreatJRowP
import Derived.Test.YthhgogpglocjdaaGreatJR4f
import Derived.Test.YthhgogpglocjdaaGreatJR4b
import Derived.Test.YthhgogpglocjdaaGreatJR5b
import Derived.BigFrame
import Derived.Deep.LoopGhost
import Derived.Deep.RegionHeld3
namespace Go.Proofs.YthhgogpglocjdaaGreat
open Go.RowKit

set_option maxRecDepth 100000 in
set_option maxHeartbeats 8000000 in
theorem rat5_any (x y : Int) (w : World) (x0 : -9223372036854775808 ≤ x) (x1 : x ≤ 9223372036854775807) (y0 : -9223372036854775808 ≤ y) (y1 : y ≤ 9223372036854775807) :
    Calls Tryz.prog 23 #[.agg #[.int .i64 x, .int .i64 y]] w fun e w' => ∃ V, e = .returned V ∧ SpotC w' V (x : Rat) (y : Rat) ∧ Grew w w' := by
  go_enter Tryz.func23, Tryz.ntmps23
  go_wp2_with fail
  refine gen_wp ?_
  intro W0 hW0
  have G0 : Grew w W0 := by rw [hW0]; exact ((Grew.refl w).alloc _).alloc _
  have P : Box2 W0 (w.heap.size) 0 (.int .i64 x) (.int .i64 y) := by rw [hW0]; exact ⟨by simp [go_sem], by simp [go_sem]⟩
  replace P := Lib.hid P
  have R : Res3 W0 (w.heap.size + 1) 0 (.bool false) (.slice none 0 0) (.slice none 0 0) := by rw [hW0]; exact ⟨by simp [go_sem], by simp [go_sem], by simp [go_sem], by simp [go_sem], by simp [go_sem], by simp [go_sem], by simp⟩
  replace R := Lib.hid R
  have R_ : Res3 W0 (w.heap.size + 1) 3 (.bool false) (.slice none 0 0) (.slice none 0 0) := by rw [hW0]; exact ⟨by simp [go_sem], by simp [go_sem], by simp [go_sem], by simp [go_sem], by simp [go_sem], by simp [go_sem], by simp⟩
  replace R_ := Lib.hid R_
  have z0 : w.heap.size < W0.heap.size := by rw [hW0]; simp <;> omega
  replace z0 := Lib.hid z0
  have z1 : w.heap.size + 1 < W0.heap.size := by rw [hW0]; simp <;> omega
  replace z1 := Lib.hid z1
  clear hW0
  replace G0 := Lib.hid G0
  have gd : Grew W0 W0.drew := (Grew.refl W0).drew
  replace R := Lib.hid (R.out.grew gd)
  replace R_ := Lib.hid (R_.out.grew gd)
  replace P := Lib.hid (P.out.grew gd)
  replace z0 := Lib.hid (lt_grew z0.out gd)
  replace z1 := Lib.hid (lt_grew z1.out gd)
  replace gd := Lib.hid gd
  have ZP := P
  go_region_held3 (fun w' => w'.cell? ⟨w.heap.size, 0, none⟩ = some (.int .i64 x) ∧ w'.cell? ⟨w.heap.size, 1, none⟩ = some (.int .i64 y))
    (first | (with_reducible exact ⟨ZP.out.p0, ZP.out.p1⟩) | (with_reducible exact ⟨g1.cell ZP.out.p0, g1.cell ZP.out.p1⟩) | (with_reducible exact ⟨(g1.trans g2).cell ZP.out.p0, (g1.trans g2).cell ZP.out.p1⟩) | (with_reducible exact ⟨other3 (o := 3) (by omega) (other3 (o := 0) (by omega) ((g1.trans g2).cell ZP.out.p0)), other3 (o := 3) (by omega) (other3 (o := 0) (by omega) ((g1.trans g2).cell ZP.out.p1))⟩))
    (first | (go_at_call 50; refine (rfint_any x _ x0 x1).mono ?_; rintro e w1 ⟨V1, rfl, hV1, g1⟩; obtain ⟨b13, A13, n13, c13, C13, m13, d13, rfl, X1⟩ := hV1.laid; clear hV1; replace R := Lib.hid (R.out.grew g1); replace R_ := Lib.hid (R_.out.grew g1); replace P := Lib.hid (P.out.grew g1); replace z0 := Lib.hid (lt_grew z0.out g1); replace z1 := Lib.hid (lt_grew z1.out g1)) | (go_at_call 50; refine (rfint_any y _ y0 y1).mono ?_; rintro e w2 ⟨V2, rfl, hV2, g2⟩; obtain ⟨b14, A14, n14, c14, C14, m14, d14, rfl, X2⟩ := hV2.laid; clear hV2; replace R := Lib.hid (R.out.grew g2); replace R_ := Lib.hid (R_.out.grew g2); replace P := Lib.hid (P.out.grew g2); replace z0 := Lib.hid (lt_grew z0.out g2); replace z1 := Lib.hid (lt_grew z1.out g2); replace X1 := Lib.hid (X1.out.kept g2.keeps); obtain ⟨R0, R1, R2, Rf0, Rf1, Rf2, Rs⟩ := R.out; obtain ⟨R_0, R_1, R_2, R_f0, R_f1, R_f2, R_s⟩ := R_.out))
  replace G0 := Lib.hid (((G0.out.trans gd.out).trans g1).trans g2)
  clear gd g1 g2 ZP
  refine gen_then ?_
  intro W9 hW9
  obtain ⟨q0, q1, q2, q3, q4, q5, qK, qG⟩ := store6 R0 R1 R2 R_0 R_1 R_2 hW9
  have GE := qG w (by omega) G0.out
  have QK := Lib.hid qK
  clear qK qG hW9 R0 R1 R2 R_0 R_1 R_2
  go_wp2_with fail
  exact bodyPost_ret (v := .agg #[.bool b13, .slice A13 n13 c13, .slice C13 m13 d13, .bool b14, .slice A14 n14 c14, .slice C14 m14 d14]) (by simp [results, Tryz.results23, go_sem, q0, q1, q2, q3, q4, q5]) rfl ⟨_, rfl, SpotC.mk (X1.out.kept QK.out) (X2.out.kept QK.out), GE⟩

end Go.Proofs.YthhgogpglocjdaaGreat
namespace Go.Proofs.YthhgogpglocjdaaGreat
open Go.RowKit

set_option maxRecDepth 100000 in
set_option maxHeartbeats 8000000 in
theorem rscmp_any (Va Vb : Value) (ax ay bx b_y : Rat) (k : Nat) (w : World) (ha : SpotR w Va ax ay k) (hb : SpotR w Vb bx b_y k) (hk : 1 ≤ k) (hs : k < 67108864) :
    Calls Tryz.prog 32 #[Va, Vb] w fun e w' => e = .returned (.int .i64 (spotCmp ax ay bx b_y)) ∧ Grew w w' := by
  obtain ⟨b1, A1, n1, c1, C1, m1, d1, b2, A2, n2, c2, C2, m2, d2, rfl, Fa, Fb, -⟩ := ha.laid
  obtain ⟨b3, A3, n3, c3, C3, m3, d3, b4, A4, n4, c4, C4, m4, d4, rfl, Fc, Fd, -⟩ := hb.laid
  clear ha hb
  have hk0 : 1 ≤ k ∧ 1 ≤ k := ⟨hk, hk⟩
  have hs0 : k < 1073741824 ∧ k < 1073741824 := by omega
  have eO : spotCmp ax ay bx b_y = if cmpQ ax bx = 0 then cmpQ ay b_y else cmpQ ax bx := rfl
  generalize spotCmp ax ay bx b_y = oo at *
  obtain ⟨x, hx⟩ : ∃ x, cmpQ ax bx = x := ⟨_, rfl⟩
  rw [hx] at eO
  replace hx := Lib.hid hx
  replace eO := Lib.hid eO
  go_enter Tryz.func32, Tryz.ntmps32
  go_wp2_with fail
  refine gen_calls ?_
  intro W0 hW0
  have G0 : Grew w W0 := by rw [hW0]; exact ((Grew.refl w).alloc _).alloc _
  have P : Box3 W0 (w.heap.size) 0 (.bool b1) (.slice A1 n1 c1) (.slice C1 m1 d1) := by rw [hW0]; exact ⟨by simp [go_sem], by simp [go_sem], by simp [go_sem]⟩
  replace P := Lib.hid P
  have Py : Box3 W0 (w.heap.size) 3 (.bool b2) (.slice A2 n2 c2) (.slice C2 m2 d2) := by rw [hW0]; exact ⟨by simp [go_sem], by simp [go_sem], by simp [go_sem]⟩
  replace Py := Lib.hid Py
  have Q : Box3 W0 (w.heap.size + 1) 0 (.bool b3) (.slice A3 n3 c3) (.slice C3 m3 d3) := by rw [hW0]; exact ⟨by simp [go_sem], by simp [go_sem], by simp [go_sem]⟩
  replace Q := Lib.hid Q
  have Qy : Box3 W0 (w.heap.size + 1) 3 (.bool b4) (.slice A4 n4 c4) (.slice C4 m4 d4) := by rw [hW0]; exact ⟨by simp [go_sem], by simp [go_sem], by simp [go_sem]⟩
  replace Qy := Lib.hid Qy
  have z0 : w.heap.size < W0.heap.size := by rw [hW0]; simp <;> omega
  replace z0 := Lib.hid z0
  have z1 : w.heap.size + 1 < W0.heap.size := by rw [hW0]; simp <;> omega
  replace z1 := Lib.hid z1
  clear hW0
  replace Fa := Lib.hid (Fa.out.kept G0.keeps)
  replace Fb := Lib.hid (Fb.out.kept G0.keeps)
  replace Fc := Lib.hid (Fc.out.kept G0.keeps)
  replace Fd := Lib.hid (Fd.out.kept G0.keeps)
  replace G0 := Lib.hid G0
  refine (rfcmp_any _ _ ax bx k k _ Fa.out Fc.out hk0 hs0).mono ?_
  rintro e w1 ⟨rfl, g1⟩
  replace P := Lib.hid (P.out.grew g1)
  replace Py := Lib.hid (Py.out.grew g1)
  replace Q := Lib.hid (Q.out.grew g1)
  replace Qy := Lib.hid (Qy.out.grew g1)
  replace z0 := Lib.hid (lt_grew z0.out g1)
  replace z1 := Lib.hid (lt_grew z1.out g1)
  replace Fa := Lib.hid (Fa.out.kept g1.keeps)
  replace Fb := Lib.hid (Fb.out.kept g1.keeps)
  replace Fc := Lib.hid (Fc.out.kept g1.keeps)
  replace Fd := Lib.hid (Fd.out.kept g1.keeps)
  replace G0 := Lib.hid (G0.out.trans g1)
  clear g1
  rw [hx.out]

  by_cases h0 : x = 0
  · as_aux_lemma =>
    subst h0
    have eO' := Lib.hid (eO.out.trans (if_pos rfl))
    obtain ⟨P0, P1, P2⟩ := P.out
    obtain ⟨Py0, Py1, Py2⟩ := Py.out
    obtain ⟨Q0, Q1, Q2⟩ := Q.out
    obtain ⟨Qy0, Qy1, Qy2⟩ := Qy.out
    go_wp2_with fail
    clear P0 P1 P2 Py0 Py1 Py2 Q0 Q1 Q2 Qy0 Qy1 Qy2
    refine (rfcmp_any _ _ ay b_y k k _ Fb.out Fd.out hk0 hs0).mono ?_
    rintro e w2 ⟨rfl, g2⟩
    replace P := Lib.hid (P.out.grew g2)
    replace Py := Lib.hid (Py.out.grew g2)
    replace Q := Lib.hid (Q.out.grew g2)
    replace Qy := Lib.hid (Qy.out.grew g2)
    replace z0 := Lib.hid (lt_grew z0.out g2)
    replace z1 := Lib.hid (lt_grew z1.out g2)
    replace Fa := Lib.hid (Fa.out.kept g2.keeps)
    replace Fb := Lib.hid (Fb.out.kept g2.keeps)
    replace Fc := Lib.hid (Fc.out.kept g2.keeps)
    replace Fd := Lib.hid (Fd.out.kept g2.keeps)
    replace G0 := Lib.hid (G0.out.trans g2)
    clear g2
    go_wp2_with fail
    go_ret
    exact ⟨by rw [eO'.out]; rfl, G0.out⟩
  · as_aux_lemma =>

    have eO' := Lib.hid (eO.out.trans (if_neg h0))
    have hxb : (x == 0) = false := by simpa using h0
    obtain ⟨P0, P1, P2⟩ := P.out
    obtain ⟨Py0, Py1, Py2⟩ := Py.out
    obtain ⟨Q0, Q1, Q2⟩ := Q.out
    obtain ⟨Qy0, Qy1, Qy2⟩ := Qy.out
    go_wp2_with fail
    clear P0 P1 P2 Py0 Py1 Py2 Q0 Q1 Q2 Qy0 Qy1 Qy2
    refine (rfcmp_any _ _ ax bx k k _ Fa.out Fc.out hk0 hs0).mono ?_
    rintro e w2 ⟨rfl, g2⟩
    replace P := Lib.hid (P.out.grew g2)
    replace Py := Lib.hid (Py.out.grew g2)
    replace Q := Lib.hid (Q.out.grew g2)
    replace Qy := Lib.hid (Qy.out.grew g2)
    replace z0 := Lib.hid (lt_grew z0.out g2)
    replace z1 := Lib.hid (lt_grew z1.out g2)
    replace Fa := Lib.hid (Fa.out.kept g2.keeps)
    replace Fb := Lib.hid (Fb.out.kept g2.keeps)
    replace Fc := Lib.hid (Fc.out.kept g2.keeps)
    replace Fd := Lib.hid (Fd.out.kept g2.keeps)
    replace G0 := Lib.hid (G0.out.trans g2)
    clear g2
    rw [hx.out]
    go_wp2_with fail
    go_ret
    exact ⟨by rw [eO'.out]; rfl, G0.out⟩

set_option maxRecDepth 100000 in
set_option maxHeartbeats 8000000 in
theorem rtoward_any (Va Vb Vc : Value) (ax ay bx b_y t : Rat) (k l : Nat) (w : World) (ha : SpotR w Va ax ay k) (hb : SpotR w Vb bx b_y k) (hc : FracR w Vc t l) (hk : 1 ≤ k) (hl : 1 ≤ l) (hs : k < 67108864) (hs9 : l < 67108864) :
    Calls Tryz.prog 28 #[Va, Vb, Vc] w fun e w' => ∃ V, e = .returned V ∧ SpotC w' V (ax + t * (bx - ax)) (ay + t * (b_y - ay)) ∧ Grew w w' := by
  obtain ⟨b1, A1, n1, c1, C1, m1, d1, b2, A2, n2, c2, C2, m2, d2, rfl, Fa, Fb, -⟩ := ha.laid
  obtain ⟨b3, A3, n3, c3, C3, m3, d3, b4, A4, n4, c4, C4, m4, d4, rfl, Fc, Fd, -⟩ := hb.laid
  obtain ⟨b5, A5, n5, c5, C5, m5, d5, rfl, Fe⟩ := hc.laid
  clear ha hb hc
  have hk0 : 1 ≤ k ∧ 1 ≤ k := ⟨hk, hk⟩
  have hk1 : 1 ≤ l ∧ 1 ≤ k + k + 1 := by omega
  have hk2 : 1 ≤ k ∧ 1 ≤ l + (k + k + 1) := by omega
  have hs0 : k < 1073741824 ∧ k < 1073741824 := by omega
  have hs1 : l < 1073741824 ∧ k + k + 1 < 1073741824 := by omega
  have hs2 : k < 1073741824 ∧ l + (k + k + 1) < 1073741824 := by omega
  have q1 := Lib.hid (Fa.out.v.qb hk)
  have q2 := Lib.hid (Fb.out.v.qb hk)
  have q3 := Lib.hid (Fc.out.v.qb hk)
  have q4 := Lib.hid (Fd.out.v.qb hk)
  have q5 := Lib.hid (Fe.out.v.qb hl)
  have q6 := Lib.hid (q3.out.sub q1.out)
  have q7 := Lib.hid (q4.out.sub q2.out)
  have q8 := Lib.hid (q5.out.mul q6.out)
  have q9 := Lib.hid (q5.out.mul q7.out)
  go_enter Tryz.func28, Tryz.ntmps28
  go_wp2_with fail
  refine gen_wp ?_
  intro W0 hW0
  have G0 : Grew w W0 := by rw [hW0]; exact ((((Grew.refl w).alloc _).alloc _).alloc _).alloc _
  have P : Box3 W0 (w.heap.size) 0 (.bool b1) (.slice A1 n1 c1) (.slice C1 m1 d1) := by rw [hW0]; exact ⟨by simp [go_sem], by simp [go_sem], by simp [go_sem]⟩
  replace P := Lib.hid P
  have Py : Box3 W0 (w.heap.size) 3 (.bool b2) (.slice A2 n2 c2) (.slice C2 m2 d2) := by rw [hW0]; exact ⟨by simp [go_sem], by simp [go_sem], by simp [go_sem]⟩
  replace Py := Lib.hid Py
  have Q : Box3 W0 (w.heap.size + 1) 0 (.bool b3) (.slice A3 n3 c3) (.slice C3 m3 d3) := by rw [hW0]; exact ⟨by simp [go_sem], by simp [go_sem], by simp [go_sem]⟩
  replace Q := Lib.hid Q
  have Qy : Box3 W0 (w.heap.size + 1) 3 (.bool b4) (.slice A4 n4 c4) (.slice C4 m4 d4) := by rw [hW0]; exact ⟨by simp [go_sem], by simp [go_sem], by simp [go_sem]⟩
  replace Qy := Lib.hid Qy
  have S : Box3 W0 (w.heap.size + 1 + 1) 0 (.bool b5) (.slice A5 n5 c5) (.slice C5 m5 d5) := by rw [hW0]; exact ⟨by simp [go_sem], by simp [go_sem], by simp [go_sem]⟩
  replace S := Lib.hid S
  have R : Res3 W0 (w.heap.size + 1 + 1 + 1) 0 (.bool false) (.slice none 0 0) (.slice none 0 0) := by rw [hW0]; exact ⟨by simp [go_sem], by simp [go_sem], by simp [go_sem], by simp [go_sem], by simp [go_sem], by simp [go_sem], by simp⟩
  replace R := Lib.hid R
  have R_ : Res3 W0 (w.heap.size + 1 + 1 + 1) 3 (.bool false) (.slice none 0 0) (.slice none 0 0) := by rw [hW0]; exact ⟨by simp [go_sem], by simp [go_sem], by simp [go_sem], by simp [go_sem], by simp [go_sem], by simp [go_sem], by simp⟩
  replace R_ := Lib.hid R_
  have z0 : w.heap.size < W0.heap.size := by rw [hW0]; simp <;> omega
  replace z0 := Lib.hid z0
  have z1 : w.heap.size + 1 < W0.heap.size := by rw [hW0]; simp <;> omega
  replace z1 := Lib.hid z1
  have z2 : w.heap.size + 1 + 1 < W0.heap.size := by rw [hW0]; simp <;> omega
  replace z2 := Lib.hid z2
  have z3 : w.heap.size + 1 + 1 + 1 < W0.heap.size := by rw [hW0]; simp <;> omega
  replace z3 := Lib.hid z3
  clear hW0
  replace Fa := Lib.hid (Fa.out.kept G0.keeps)
  replace Fb := Lib.hid (Fb.out.kept G0.keeps)
  replace Fc := Lib.hid (Fc.out.kept G0.keeps)
  replace Fd := Lib.hid (Fd.out.kept G0.keeps)
  replace Fe := Lib.hid (Fe.out.kept G0.keeps)
  replace G0 := Lib.hid G0
  have gd : Grew W0 W0.drew := (Grew.refl W0).drew
  replace R := Lib.hid (R.out.grew gd)
  replace R_ := Lib.hid (R_.out.grew gd)
  replace P := Lib.hid (P.out.grew gd)
  replace Py := Lib.hid (Py.out.grew gd)
  replace Q := Lib.hid (Q.out.grew gd)
  replace Qy := Lib.hid (Qy.out.grew gd)
  replace S := Lib.hid (S.out.grew gd)
  replace z0 := Lib.hid (lt_grew z0.out gd)
  replace z1 := Lib.hid (lt_grew z1.out gd)
  replace z2 := Lib.hid (lt_grew z2.out gd)
  replace z3 := Lib.hid (lt_grew z3.out gd)
  replace Fa := Lib.hid (Fa.out.kept gd.keeps)
  replace Fb := Lib.hid (Fb.out.kept gd.keeps)
  replace Fc := Lib.hid (Fc.out.kept gd.keeps)
  replace Fd := Lib.hid (Fd.out.kept gd.keeps)
  replace Fe := Lib.hid (Fe.out.kept gd.keeps)
  replace gd := Lib.hid gd
  have ZP := P
  have ZPy := Py
  have ZQ := Q
  have ZQy := Qy
  have ZS := S
  go_region_held3 (fun w' => w'.cell? ⟨w.heap.size, 0, none⟩ = some (.bool b1) ∧ w'.cell? ⟨w.heap.size, 1, none⟩ = some (.slice A1 n1 c1) ∧ w'.cell? ⟨w.heap.size, 2, none⟩ = some (.slice C1 m1 d1) ∧ w'.cell? ⟨w.heap.size, 3, none⟩ = some (.bool b2) ∧ w'.cell? ⟨w.heap.size, 4, none⟩ = some (.slice A2 n2 c2) ∧ w'.cell? ⟨w.heap.size, 5, none⟩ = some (.slice C2 m2 d2) ∧ w'.cell? ⟨w.heap.size + 1, 0, none⟩ = some (.bool b3) ∧ w'.cell? ⟨w.heap.size + 1, 1, none⟩ = some (.slice A3 n3 c3) ∧ w'.cell? ⟨w.heap.size + 1, 2, none⟩ = some (.slice C3 m3 d3) ∧ w'.cell? ⟨w.heap.size + 1, 3, none⟩ = some (.bool b4) ∧ w'.cell? ⟨w.heap.size + 1, 4, none⟩ = some (.slice A4 n4 c4) ∧ w'.cell? ⟨w.heap.size + 1, 5, none⟩ = some (.slice C4 m4 d4) ∧ w'.cell? ⟨w.heap.size + 1 + 1, 0, none⟩ = some (.bool b5) ∧ w'.cell? ⟨w.heap.size + 1 + 1, 1, none⟩ = some (.slice A5 n5 c5) ∧ w'.cell? ⟨w.heap.size + 1 + 1, 2, none⟩ = some (.slice C5 m5 d5))
    (first | (with_reducible exact ⟨ZP.out.p0, ZP.out.p1, ZP.out.p2, ZPy.out.p0, ZPy.out.p1, ZPy.out.p2, ZQ.out.p0, ZQ.out.p1, ZQ.out.p2, ZQy.out.p0, ZQy.out.p1, ZQy.out.p2, ZS.out.p0, ZS.out.p1, ZS.out.p2⟩) | (with_reducible exact ⟨g1.cell ZP.out.p0, g1.cell ZP.out.p1, g1.cell ZP.out.p2, g1.cell ZPy.out.p0, g1.cell ZPy.out.p1, g1.cell ZPy.out.p2, g1.cell ZQ.out.p0, g1.cell ZQ.out.p1, g1.cell ZQ.out.p2, g1.cell ZQy.out.p0, g1.cell ZQy.out.p1, g1.cell ZQy.out.p2, g1.cell ZS.out.p0, g1.cell ZS.out.p1, g1.cell ZS.out.p2⟩) | (with_reducible exact ⟨(g1.trans g2).cell ZP.out.p0, (g1.trans g2).cell ZP.out.p1, (g1.trans g2).cell ZP.out.p2, (g1.trans g2).cell ZPy.out.p0, (g1.trans g2).cell ZPy.out.p1, (g1.trans g2).cell ZPy.out.p2, (g1.trans g2).cell ZQ.out.p0, (g1.trans g2).cell ZQ.out.p1, (g1.trans g2).cell ZQ.out.p2, (g1.trans g2).cell ZQy.out.p0, (g1.trans g2).cell ZQy.out.p1, (g1.trans g2).cell ZQy.out.p2, (g1.trans g2).cell ZS.out.p0, (g1.trans g2).cell ZS.out.p1, (g1.trans g2).cell ZS.out.p2⟩) | (with_reducible exact ⟨((g1.trans g2).trans g3).cell ZP.out.p0, ((g1.trans g2).trans g3).cell ZP.out.p1, ((g1.trans g2).trans g3).cell ZP.out.p2, ((g1.trans g2).trans g3).cell ZPy.out.p0, ((g1.trans g2).trans g3).cell ZPy.out.p1, ((g1.trans g2).trans g3).cell ZPy.out.p2, ((g1.trans g2).trans g3).cell ZQ.out.p0, ((g1.trans g2).trans g3).cell ZQ.out.p1, ((g1.trans g2).trans g3).cell ZQ.out.p2, ((g1.trans g2).trans g3).cell ZQy.out.p0, ((g1.trans g2).trans g3).cell ZQy.out.p1, ((g1.trans g2).trans g3).cell ZQy.out.p2, ((g1.trans g2).trans g3).cell ZS.out.p0, ((g1.trans g2).trans g3).cell ZS.out.p1, ((g1.trans g2).trans g3).cell ZS.out.p2⟩) | (with_reducible exact ⟨(((g1.trans g2).trans g3).trans g4).cell ZP.out.p0, (((g1.trans g2).trans g3).trans g4).cell ZP.out.p1, (((g1.trans g2).trans g3).trans g4).cell ZP.out.p2, (((g1.trans g2).trans g3).trans g4).cell ZPy.out.p0, (((g1.trans g2).trans g3).trans g4).cell ZPy.out.p1, (((g1.trans g2).trans g3).trans g4).cell ZPy.out.p2, (((g1.trans g2).trans g3).trans g4).cell ZQ.out.p0, (((g1.trans g2).trans g3).trans g4).cell ZQ.out.p1, (((g1.trans g2).trans g3).trans g4).cell ZQ.out.p2, (((g1.trans g2).trans g3).trans g4).cell ZQy.out.p0, (((g1.trans g2).trans g3).trans g4).cell ZQy.out.p1, (((g1.trans g2).trans g3).trans g4).cell ZQy.out.p2, (((g1.trans g2).trans g3).trans g4).cell ZS.out.p0, (((g1.trans g2).trans g3).trans g4).cell ZS.out.p1, (((g1.trans g2).trans g3).trans g4).cell ZS.out.p2⟩) | (with_reducible exact ⟨((((g1.trans g2).trans g3).trans g4).trans g5).cell ZP.out.p0, ((((g1.trans g2).trans g3).trans g4).trans g5).cell ZP.out.p1, ((((g1.trans g2).trans g3).trans g4).trans g5).cell ZP.out.p2, ((((g1.trans g2).trans g3).trans g4).trans g5).cell ZPy.out.p0, ((((g1.trans g2).trans g3).trans g4).trans g5).cell ZPy.out.p1, ((((g1.trans g2).trans g3).trans g4).trans g5).cell ZPy.out.p2, ((((g1.trans g2).trans g3).trans g4).trans g5).cell ZQ.out.p0, ((((g1.trans g2).trans g3).trans g4).trans g5).cell ZQ.out.p1, ((((g1.trans g2).trans g3).trans g4).trans g5).cell ZQ.out.p2, ((((g1.trans g2).trans g3).trans g4).trans g5).cell ZQy.out.p0, ((((g1.trans g2).trans g3).trans g4).trans g5).cell ZQy.out.p1, ((((g1.trans g2).trans g3).trans g4).trans g5).cell ZQy.out.p2, ((((g1.trans g2).trans g3).trans g4).trans g5).cell ZS.out.p0, ((((g1.trans g2).trans g3).trans g4).trans g5).cell ZS.out.p1, ((((g1.trans g2).trans g3).trans g4).trans g5).cell ZS.out.p2⟩) | (with_reducible exact ⟨(((((g1.trans g2).trans g3).trans g4).trans g5).trans g6).cell ZP.out.p0, (((((g1.trans g2).trans g3).trans g4).trans g5).trans g6).cell ZP.out.p1, (((((g1.trans g2).trans g3).trans g4).trans g5).trans g6).cell ZP.out.p2, (((((g1.trans g2).trans g3).trans g4).trans g5).trans g6).cell ZPy.out.p0, (((((g1.trans g2).trans g3).trans g4).trans g5).trans g6).cell ZPy.out.p1, (((((g1.trans g2).trans g3).trans g4).trans g5).trans g6).cell ZPy.out.p2, (((((g1.trans g2).trans g3).trans g4).trans g5).trans g6).cell ZQ.out.p0, (((((g1.trans g2).trans g3).trans g4).trans g5).trans g6).cell ZQ.out.p1, (((((g1.trans g2).trans g3).trans g4).trans g5).trans g6).cell ZQ.out.p2, (((((g1.trans g2).trans g3).trans g4).trans g5).trans g6).cell ZQy.out.p0, (((((g1.trans g2).trans g3).trans g4).trans g5).trans g6).cell ZQy.out.p1, (((((g1.trans g2).trans g3).trans g4).trans g5).trans g6).cell ZQy.out.p2, (((((g1.trans g2).trans g3).trans g4).trans g5).trans g6).cell ZS.out.p0, (((((g1.trans g2).trans g3).trans g4).trans g5).trans g6).cell ZS.out.p1, (((((g1.trans g2).trans g3).trans g4).trans g5).trans g6).cell ZS.out.p2⟩) | (with_reducible exact ⟨other3 (o := 3) (by omega) (other3 (o := 0) (by omega) ((((((g1.trans g2).trans g3).trans g4).trans g5).trans g6).cell ZP.out.p0)), other3 (o := 3) (by omega) (other3 (o := 0) (by omega) ((((((g1.trans g2).trans g3).trans g4).trans g5).trans g6).cell ZP.out.p1)), other3 (o := 3) (by omega) (other3 (o := 0) (by omega) ((((((g1.trans g2).trans g3).trans g4).trans g5).trans g6).cell ZP.out.p2)), other3 (o := 3) (by omega) (other3 (o := 0) (by omega) ((((((g1.trans g2).trans g3).trans g4).trans g5).trans g6).cell ZPy.out.p0)), other3 (o := 3) (by omega) (other3 (o := 0) (by omega) ((((((g1.trans g2).trans g3).trans g4).trans g5).trans g6).cell ZPy.out.p1)), other3 (o := 3) (by omega) (other3 (o := 0) (by omega) ((((((g1.trans g2).trans g3).trans g4).trans g5).trans g6).cell ZPy.out.p2)), other3 (o := 3) (by omega) (other3 (o := 0) (by omega) ((((((g1.trans g2).trans g3).trans g4).trans g5).trans g6).cell ZQ.out.p0)), other3 (o := 3) (by omega) (other3 (o := 0) (by omega) ((((((g1.trans g2).trans g3).trans g4).trans g5).trans g6).cell ZQ.out.p1)), other3 (o := 3) (by omega) (other3 (o := 0) (by omega) ((((((g1.trans g2).trans g3).trans g4).trans g5).trans g6).cell ZQ.out.p2)), other3 (o := 3) (by omega) (other3 (o := 0) (by omega) ((((((g1.trans g2).trans g3).trans g4).trans g5).trans g6).cell ZQy.out.p0)), other3 (o := 3) (by omega) (other3 (o := 0) (by omega) ((((((g1.trans g2).trans g3).trans g4).trans g5).trans g6).cell ZQy.out.p1)), other3 (o := 3) (by omega) (other3 (o := 0) (by omega) ((((((g1.trans g2).trans g3).trans g4).trans g5).trans g6).cell ZQy.out.p2)), other3 (o := 3) (by omega) (other3 (o := 0) (by omega) ((((((g1.trans g2).trans g3).trans g4).trans g5).trans g6).cell ZS.out.p0)), other3 (o := 3) (by omega) (other3 (o := 0) (by omega) ((((((g1.trans g2).trans g3).trans g4).trans g5).trans g6).cell ZS.out.p1)), other3 (o := 3) (by omega) (other3 (o := 0) (by omega) ((((((g1.trans g2).trans g3).trans g4).trans g5).trans g6).cell ZS.out.p2))⟩))
    (first | (go_at_call_of 27 (Value.agg #[.bool b3, .slice A3 n3 c3, .slice C3 m3 d3]); refine (rfsub_any _ _ bx ax k k _ Fc.out Fa.out hk0 hs0).mono ?_; rintro e w1 ⟨V1, rfl, hV1, g1⟩; have Y1 := Lib.hid (hV1.r q6.out); obtain ⟨b13, A13, n13, c13, C13, m13, d13, rfl, hX1⟩ := hV1.laid; have X1 := Y1; clear hV1 Y1 hX1; replace R := Lib.hid (R.out.grew g1); replace R_ := Lib.hid (R_.out.grew g1); replace P := Lib.hid (P.out.grew g1); replace Py := Lib.hid (Py.out.grew g1); replace Q := Lib.hid (Q.out.grew g1); replace Qy := Lib.hid (Qy.out.grew g1); replace S := Lib.hid (S.out.grew g1); replace z0 := Lib.hid (lt_grew z0.out g1); replace z1 := Lib.hid (lt_grew z1.out g1); replace z2 := Lib.hid (lt_grew z2.out g1); replace z3 := Lib.hid (lt_grew z3.out g1); replace Fa := Lib.hid (Fa.out.kept g1.keeps); replace Fb := Lib.hid (Fb.out.kept g1.keeps); replace Fc := Lib.hid (Fc.out.kept g1.keeps); replace Fd := Lib.hid (Fd.out.kept g1.keeps); replace Fe := Lib.hid (Fe.out.kept g1.keeps)) | (go_at_call_of 52 (Value.agg #[.bool b13, .slice A13 n13 c13, .slice C13 m13 d13]); refine (rfmul_any _ _ t (bx - ax) l (k + k + 1) _ Fe.out X1.out hk1 hs1).mono ?_; rintro e w2 ⟨V2, rfl, hV2, g2⟩; have Y2 := Lib.hid (hV2.r q8.out); obtain ⟨b14, A14, n14, c14, C14, m14, d14, rfl, hX2⟩ := hV2.laid; have X2 := Y2; clear hV2 Y2 hX2; replace R := Lib.hid (R.out.grew g2); replace R_ := Lib.hid (R_.out.grew g2); replace P := Lib.hid (P.out.grew g2); replace Py := Lib.hid (Py.out.grew g2); replace Q := Lib.hid (Q.out.grew g2); replace Qy := Lib.hid (Qy.out.grew g2); replace S := Lib.hid (S.out.grew g2); replace z0 := Lib.hid (lt_grew z0.out g2); replace z1 := Lib.hid (lt_grew z1.out g2); replace z2 := Lib.hid (lt_grew z2.out g2); replace z3 := Lib.hid (lt_grew z3.out g2); replace Fa := Lib.hid (Fa.out.kept g2.keeps); replace Fb := Lib.hid (Fb.out.kept g2.keeps); replace Fc := Lib.hid (Fc.out.kept g2.keeps); replace Fd := Lib.hid (Fd.out.kept g2.keeps); replace Fe := Lib.hid (Fe.out.kept g2.keeps); replace X1 := Lib.hid (X1.out.kept g2.keeps)) | (go_at_call_of 51 (Value.agg #[.bool b1, .slice A1 n1 c1, .slice C1 m1 d1]); refine (rfadd_any _ _ ax (t * (bx - ax)) k (l + (k + k + 1)) _ Fa.out X2.out hk2 hs2).mono ?_; rintro e w3 ⟨V3, rfl, hV3, g3⟩; obtain ⟨b15, A15, n15, c15, C15, m15, d15, rfl, X3⟩ := hV3.laid; clear hV3; replace R := Lib.hid (R.out.grew g3); replace R_ := Lib.hid (R_.out.grew g3); replace P := Lib.hid (P.out.grew g3); replace Py := Lib.hid (Py.out.grew g3); replace Q := Lib.hid (Q.out.grew g3); replace Qy := Lib.hid (Qy.out.grew g3); replace S := Lib.hid (S.out.grew g3); replace z0 := Lib.hid (lt_grew z0.out g3); replace z1 := Lib.hid (lt_grew z1.out g3); replace z2 := Lib.hid (lt_grew z2.out g3); replace z3 := Lib.hid (lt_grew z3.out g3); replace Fa := Lib.hid (Fa.out.kept g3.keeps); replace Fb := Lib.hid (Fb.out.kept g3.keeps); replace Fc := Lib.hid (Fc.out.kept g3.keeps); replace Fd := Lib.hid (Fd.out.kept g3.keeps); replace Fe := Lib.hid (Fe.out.kept g3.keeps); replace X1 := Lib.hid (X1.out.kept g3.keeps); replace X2 := Lib.hid (X2.out.kept g3.keeps)) | (go_at_call 27; refine (rfsub_any _ _ b_y ay k k _ Fd.out Fb.out hk0 hs0).mono ?_; rintro e w4 ⟨V4, rfl, hV4, g4⟩; have Y4 := Lib.hid (hV4.r q7.out); obtain ⟨b16, A16, n16, c16, C16, m16, d16, rfl, hX4⟩ := hV4.laid; have X4 := Y4; clear hV4 Y4 hX4; replace R := Lib.hid (R.out.grew g4); replace R_ := Lib.hid (R_.out.grew g4); replace P := Lib.hid (P.out.grew g4); replace Py := Lib.hid (Py.out.grew g4); replace Q := Lib.hid (Q.out.grew g4); replace Qy := Lib.hid (Qy.out.grew g4); replace S := Lib.hid (S.out.grew g4); replace z0 := Lib.hid (lt_grew z0.out g4); replace z1 := Lib.hid (lt_grew z1.out g4); replace z2 := Lib.hid (lt_grew z2.out g4); replace z3 := Lib.hid (lt_grew z3.out g4); replace Fa := Lib.hid (Fa.out.kept g4.keeps); replace Fb := Lib.hid (Fb.out.kept g4.keeps); replace Fc := Lib.hid (Fc.out.kept g4.keeps); replace Fd := Lib.hid (Fd.out.kept g4.keeps); replace Fe := Lib.hid (Fe.out.kept g4.keeps); replace X1 := Lib.hid (X1.out.kept g4.keeps); replace X2 := Lib.hid (X2.out.kept g4.keeps); replace X3 := Lib.hid (X3.out.kept g4.keeps)) | (go_at_call 52; refine (rfmul_any _ _ t (b_y - ay) l (k + k + 1) _ Fe.out X4.out hk1 hs1).mono ?_; rintro e w5 ⟨V5, rfl, hV5, g5⟩; have Y5 := Lib.hid (hV5.r q9.out); obtain ⟨b17, A17, n17, c17, C17, m17, d17, rfl, hX5⟩ := hV5.laid; have X5 := Y5; clear hV5 Y5 hX5; replace R := Lib.hid (R.out.grew g5); replace R_ := Lib.hid (R_.out.grew g5); replace P := Lib.hid (P.out.grew g5); replace Py := Lib.hid (Py.out.grew g5); replace Q := Lib.hid (Q.out.grew g5); replace Qy := Lib.hid (Qy.out.grew g5); replace S := Lib.hid (S.out.grew g5); replace z0 := Lib.hid (lt_grew z0.out g5); replace z1 := Lib.hid (lt_grew z1.out g5); replace z2 := Lib.hid (lt_grew z2.out g5); replace z3 := Lib.hid (lt_grew z3.out g5); replace Fa := Lib.hid (Fa.out.kept g5.keeps); replace Fb := Lib.hid (Fb.out.kept g5.keeps); replace Fc := Lib.hid (Fc.out.kept g5.keeps); replace Fd := Lib.hid (Fd.out.kept g5.keeps); replace Fe := Lib.hid (Fe.out.kept g5.keeps); replace X1 := Lib.hid (X1.out.kept g5.keeps); replace X2 := Lib.hid (X2.out.kept g5.keeps); replace X3 := Lib.hid (X3.out.kept g5.keeps); replace X4 := Lib.hid (X4.out.kept g5.keeps)) | (go_at_call 51; refine (rfadd_any _ _ ay (t * (b_y - ay)) k (l + (k + k + 1)) _ Fb.out X5.out hk2 hs2).mono ?_; rintro e w6 ⟨V6, rfl, hV6, g6⟩; obtain ⟨b18, A18, n18, c18, C18, m18, d18, rfl, X6⟩ := hV6.laid; clear hV6; replace R := Lib.hid (R.out.grew g6); replace R_ := Lib.hid (R_.out.grew g6); replace P := Lib.hid (P.out.grew g6); replace Py := Lib.hid (Py.out.grew g6); replace Q := Lib.hid (Q.out.grew g6); replace Qy := Lib.hid (Qy.out.grew g6); replace S := Lib.hid (S.out.grew g6); replace z0 := Lib.hid (lt_grew z0.out g6); replace z1 := Lib.hid (lt_grew z1.out g6); replace z2 := Lib.hid (lt_grew z2.out g6); replace z3 := Lib.hid (lt_grew z3.out g6); replace Fa := Lib.hid (Fa.out.kept g6.keeps); replace Fb := Lib.hid (Fb.out.kept g6.keeps); replace Fc := Lib.hid (Fc.out.kept g6.keeps); replace Fd := Lib.hid (Fd.out.kept g6.keeps); replace Fe := Lib.hid (Fe.out.kept g6.keeps); replace X1 := Lib.hid (X1.out.kept g6.keeps); replace X2 := Lib.hid (X2.out.kept g6.keeps); replace X3 := Lib.hid (X3.out.kept g6.keeps); replace X4 := Lib.hid (X4.out.kept g6.keeps); replace X5 := Lib.hid (X5.out.kept g6.keeps); obtain ⟨R0, R1, R2, Rf0, Rf1, Rf2, Rs⟩ := R.out; obtain ⟨R_0, R_1, R_2, R_f0, R_f1, R_f2, R_s⟩ := R_.out))
  replace G0 := Lib.hid (((((((G0.out.trans gd.out).trans g1).trans g2).trans g3).trans g4).trans g5).trans g6)
  clear gd g1 g2 g3 g4 g5 g6 ZP ZPy ZQ ZQy ZS
  refine gen_then ?_
  intro W9 hW9
  obtain ⟨q0, q1, q2, q3, q4, q5, qK, qG⟩ := store6 R0 R1 R2 R_0 R_1 R_2 hW9
  have GE := qG w (by omega) G0.out
  have QK := Lib.hid qK
  clear qK qG hW9 R0 R1 R2 R_0 R_1 R_2
  go_wp2_with fail
  exact bodyPost_ret (v := .agg #[.bool b15, .slice A15 n15 c15, .slice C15 m15 d15, .bool b18, .slice A18 n18 c18, .slice C18 m18 d18]) (by simp [results, Tryz.results28, go_sem, q0, q1, q2, q3, q4, q5]) rfl ⟨_, rfl, SpotC.mk (X3.out.kept QK.out) (X6.out.kept QK.out), GE⟩
end Go.Proofs.YthhgogpglocjdaaGreat
namespace Go.Proofs.YthhgogpglocjdaaGreat
open Go.RowKit

set_option maxRecDepth 100000 in
set_option maxHeartbeats 8000000 in
theorem scmp_any (Va Vb : Value) (ax ay bx b_y : Rat) (k : Nat) (w : World) (ha : SpotV w Va ax ay k) (hb : SpotV w Vb bx b_y k) (hk : 1 ≤ k) (hs : k < 67108864) :
    Calls Tryz.prog 37 #[Va, Vb] w fun e w' => e = .returned (.int .i64 (spotCmp ax ay bx b_y)) ∧ Grew w w' := by
  obtain ⟨b1, A1, n1, c1, C1, m1, d1, b2, A2, n2, c2, C2, m2, d2, rfl, Fa, Fb, -⟩ := ha.laid
  obtain ⟨b3, A3, n3, c3, C3, m3, d3, b4, A4, n4, c4, C4, m4, d4, rfl, Fc, Fd, -⟩ := hb.laid
  clear ha hb
  have hs2 : k + k < 549755813888 := by omega
  have eO : spotCmp ax ay bx b_y = if cmpQ ax bx = 0 then cmpQ ay b_y else cmpQ ax bx := rfl
  generalize spotCmp ax ay bx b_y = oo at *
  obtain ⟨x, hx⟩ : ∃ x, cmpQ ax bx = x := ⟨_, rfl⟩
  rw [hx] at eO
  replace hx := Lib.hid hx
  replace eO := Lib.hid eO
  go_enter Tryz.func37, Tryz.ntmps37
  go_wp2_with fail
  refine gen_calls ?_
  intro W0 hW0
  have G0 : Grew w W0 := by rw [hW0]; exact ((Grew.refl w).alloc _).alloc _
  have P : Box3 W0 (w.heap.size) 0 (.bool b1) (.slice A1 n1 c1) (.slice C1 m1 d1) := by rw [hW0]; exact ⟨by simp [go_sem], by simp [go_sem], by simp [go_sem]⟩
  replace P := Lib.hid P
  have Py : Box3 W0 (w.heap.size) 3 (.bool b2) (.slice A2 n2 c2) (.slice C2 m2 d2) := by rw [hW0]; exact ⟨by simp [go_sem], by simp [go_sem], by simp [go_sem]⟩
  replace Py := Lib.hid Py
  have Q : Box3 W0 (w.heap.size + 1) 0 (.bool b3) (.slice A3 n3 c3) (.slice C3 m3 d3) := by rw [hW0]; exact ⟨by simp [go_sem], by simp [go_sem], by simp [go_sem]⟩
  replace Q := Lib.hid Q
  have Qy : Box3 W0 (w.heap.size + 1) 3 (.bool b4) (.slice A4 n4 c4) (.slice C4 m4 d4) := by rw [hW0]; exact ⟨by simp [go_sem], by simp [go_sem], by simp [go_sem]⟩
  replace Qy := Lib.hid Qy
  have z0 : w.heap.size < W0.heap.size := by rw [hW0]; simp <;> omega
  replace z0 := Lib.hid z0
  have z1 : w.heap.size + 1 < W0.heap.size := by rw [hW0]; simp <;> omega
  replace z1 := Lib.hid z1
  clear hW0
  replace Fa := Lib.hid (Fa.out.kept G0.keeps)
  replace Fb := Lib.hid (Fb.out.kept G0.keeps)
  replace Fc := Lib.hid (Fc.out.kept G0.keeps)
  replace Fd := Lib.hid (Fd.out.kept G0.keeps)
  replace G0 := Lib.hid G0
  refine (fcmp_any _ _ ax bx k k _ Fa.out Fc.out hk hk hs2).mono ?_
  rintro e w1 ⟨rfl, g1⟩
  replace P := Lib.hid (P.out.grew g1)
  replace Py := Lib.hid (Py.out.grew g1)
  replace Q := Lib.hid (Q.out.grew g1)
  replace Qy := Lib.hid (Qy.out.grew g1)
  replace z0 := Lib.hid (lt_grew z0.out g1)
  replace z1 := Lib.hid (lt_grew z1.out g1)
  replace Fa := Lib.hid (Fa.out.kept g1.keeps)
  replace Fb := Lib.hid (Fb.out.kept g1.keeps)
  replace Fc := Lib.hid (Fc.out.kept g1.keeps)
  replace Fd := Lib.hid (Fd.out.kept g1.keeps)
  replace G0 := Lib.hid (G0.out.trans g1)
  clear g1
  rw [hx.out]

  by_cases h0 : x = 0
  · as_aux_lemma =>
    subst h0
    have eO' := Lib.hid (eO.out.trans (if_pos rfl))
    obtain ⟨P0, P1, P2⟩ := P.out
    obtain ⟨Py0, Py1, Py2⟩ := Py.out
    obtain ⟨Q0, Q1, Q2⟩ := Q.out
    obtain ⟨Qy0, Qy1, Qy2⟩ := Qy.out
    go_wp2_with fail
    clear P0 P1 P2 Py0 Py1 Py2 Q0 Q1 Q2 Qy0 Qy1 Qy2
    refine (fcmp_any _ _ ay b_y k k _ Fb.out Fd.out hk hk hs2).mono ?_
    rintro e w2 ⟨rfl, g2⟩
    replace P := Lib.hid (P.out.grew g2)
    replace Py := Lib.hid (Py.out.grew g2)
    replace Q := Lib.hid (Q.out.grew g2)
    replace Qy := Lib.hid (Qy.out.grew g2)
    replace z0 := Lib.hid (lt_grew z0.out g2)
    replace z1 := Lib.hid (lt_grew z1.out g2)
    replace Fa := Lib.hid (Fa.out.kept g2.keeps)
    replace Fb := Lib.hid (Fb.out.kept g2.keeps)
    replace Fc := Lib.hid (Fc.out.kept g2.keeps)
    replace Fd := Lib.hid (Fd.out.kept g2.keeps)
    replace G0 := Lib.hid (G0.out.trans g2)
    clear g2
    go_wp2_with fail
    go_ret
    exact ⟨by rw [eO'.out]; rfl, G0.out⟩
  · as_aux_lemma =>

    have eO' := Lib.hid (eO.out.trans (if_neg h0))
    have hxb : (x == 0) = false := by simpa using h0
    obtain ⟨P0, P1, P2⟩ := P.out
    obtain ⟨Py0, Py1, Py2⟩ := Py.out
    obtain ⟨Q0, Q1, Q2⟩ := Q.out
    obtain ⟨Qy0, Qy1, Qy2⟩ := Qy.out
    go_wp2_with fail
    clear P0 P1 P2 Py0 Py1 Py2 Q0 Q1 Q2 Qy0 Qy1 Qy2
    go_ret
    exact ⟨by rw [eO'.out]; rfl, G0.out⟩

set_option maxRecDepth 100000 in
set_option maxHeartbeats 8000000 in
theorem ssame_any (Va Vb : Value) (ax ay bx b_y : Rat) (k : Nat) (w : World) (ha : SpotV w Va ax ay k) (hb : SpotV w Vb bx b_y k) (hk : 1 ≤ k) (hs : k < 67108864) :
    Calls Tryz.prog 39 #[Va, Vb] w fun e w' => e = .returned (.bool (spotCmp ax ay bx b_y == 0)) ∧ Grew w w' := by
  obtain ⟨b1, A1, n1, c1, C1, m1, d1, b2, A2, n2, c2, C2, m2, d2, rfl, -, -, Sa⟩ := ha.laid
  obtain ⟨b3, A3, n3, c3, C3, m3, d3, b4, A4, n4, c4, C4, m4, d4, rfl, -, -, Sb⟩ := hb.laid
  clear ha hb
  go_enter Tryz.func39, Tryz.ntmps39
  go_wp2_with fail
  refine gen_calls ?_
  intro W0 hW0
  have G0 : Grew w W0 := by rw [hW0]; exact ((Grew.refl w).alloc _).alloc _
  have P : Box3 W0 (w.heap.size) 0 (.bool b1) (.slice A1 n1 c1) (.slice C1 m1 d1) := by rw [hW0]; exact ⟨by simp [go_sem], by simp [go_sem], by simp [go_sem]⟩
  replace P := Lib.hid P
  have Py : Box3 W0 (w.heap.size) 3 (.bool b2) (.slice A2 n2 c2) (.slice C2 m2 d2) := by rw [hW0]; exact ⟨by simp [go_sem], by simp [go_sem], by simp [go_sem]⟩
  replace Py := Lib.hid Py
  have Q : Box3 W0 (w.heap.size + 1) 0 (.bool b3) (.slice A3 n3 c3) (.slice C3 m3 d3) := by rw [hW0]; exact ⟨by simp [go_sem], by simp [go_sem], by simp [go_sem]⟩
  replace Q := Lib.hid Q
  have Qy : Box3 W0 (w.heap.size + 1) 3 (.bool b4) (.slice A4 n4 c4) (.slice C4 m4 d4) := by rw [hW0]; exact ⟨by simp [go_sem], by simp [go_sem], by simp [go_sem]⟩
  replace Qy := Lib.hid Qy
  have z0 : w.heap.size < W0.heap.size := by rw [hW0]; simp <;> omega
  replace z0 := Lib.hid z0
  have z1 : w.heap.size + 1 < W0.heap.size := by rw [hW0]; simp <;> omega
  replace z1 := Lib.hid z1
  clear hW0
  replace Sa := Lib.hid (Sa.out.kept G0.keeps)
  replace Sb := Lib.hid (Sb.out.kept G0.keeps)
  replace G0 := Lib.hid G0
  refine (scmp_any _ _ ax ay bx b_y k _ Sa.out Sb.out hk hs).mono ?_
  rintro e w1 ⟨rfl, g1⟩
  replace P := Lib.hid (P.out.grew g1)
  replace Py := Lib.hid (Py.out.grew g1)
  replace Q := Lib.hid (Q.out.grew g1)
  replace Qy := Lib.hid (Qy.out.grew g1)
  replace z0 := Lib.hid (lt_grew z0.out g1)
  replace z1 := Lib.hid (lt_grew z1.out g1)
  replace Sa := Lib.hid (Sa.out.kept g1.keeps)
  replace Sb := Lib.hid (Sb.out.kept g1.keeps)
  replace G0 := Lib.hid (G0.out.trans g1)
  clear g1
  go_wp2_with fail
  go_ret
  exact ⟨rfl, G0.out⟩

end Go.Proofs.YthhgogpglocjdaaGreat
namespace Go.Proofs.YthhgogpglocjdaaGreat
open Go.RowKit

theorem run_clear_spots (W : World) (g o s n c : Nat) (cur : Array Value) (e : TypeId) (hg : W.heap[g]? = some (.cells cur e (0, 0))) (hn : 0 < n) (ho : o = s) (hs : s + n * 6 ≤ cur.size) (ty : TypeId) :
    (Builtin.clear_ #[27] ty #[.slice (some ⟨g, o, none⟩) n c]).run Tryz.prog W = .ok (.tuple #[]) (W.setCells g s (Builtin.zeroCells (Value.agg #[.bool false, .slice none 0 0, .slice none 0 0, .bool false, .slice none 0 0, .slice none 0 0]).cells n).toList) := by
  subst ho
  have hz : ∀ k, ∀ u ∈ (Builtin.zeroCells (Value.agg #[.bool false, .slice none 0 0, .slice none 0 0, .bool false, .slice none 0 0, .slice none 0 0]).cells k).toList, u.oneCell' = true := by
    intro k u hu
    simp only [Builtin.zeroCells, Array.mem_toList_iff, Array.mem_map, Array.mem_range] at hu
    obtain ⟨j, -, rfl⟩ := hu
    have hlt : j % (Value.agg #[.bool false, .slice none 0 0, .slice none 0 0, .bool false, .slice none 0 0, .slice none 0 0]).cells.size < 6 := Nat.mod_lt _ (by decide)
    generalize j % (Value.agg #[.bool false, .slice none 0 0, .slice none 0 0, .bool false, .slice none 0 0, .slice none 0 0]).cells.size = t at hlt ⊢
    have ht : t = 0 ∨ t = 1 ∨ t = 2 ∨ t = 3 ∨ t = 4 ∨ t = 5 := by omega
    rcases ht with rfl | rfl | rfl | rfl | rfl | rfl <;> rfl
  have hl : (Builtin.zeroCells (Value.agg #[.bool false, .slice none 0 0, .slice none 0 0, .bool false, .slice none 0 0, .slice none 0 0]).cells n).toList.length = n * 6 := by simp [Builtin.zeroCells, Value.cells]
  have h := stores_of_holds Tryz.prog (holds_cur hg) o _ (by rw [hl]; exact hs) (hz n)
  rw [Nat.zero_add] at h
  obtain ⟨m, rfl⟩ : ∃ m, n = m + 1 := ⟨n - 1, by omega⟩
  simp [Builtin.clear_, run_underlying Tryz.underlying27, Tryz.zeroValue39, h]
theorem OwnC.cur {e : TypeId} {w : World} {base g o n cap : Nat} {l : List (Rat × Rat)} (h : OwnC e w base (.slice (some ⟨g, o, none⟩) n cap) l) (hl : 0 < l.length) :
    ∃ cur : Array Value, w.heap[g]? = some (.cells cur e (0, 0)) ∧ cur.size = cap * 6 := by
  obtain ⟨g', cap', cur, hv, -, -, hg, -, -, hcs, -⟩ := h.at hl
  injection hv with hv1 hv2 hv3
  injection hv1 with hv1
  injection hv1 with hv1 hv4
  subst hv1
  subst hv3
  exact ⟨cur, hg, hcs⟩
theorem zeros_noint (k : Nat) : ∀ u ∈ (Builtin.zeroCells (Value.agg #[.bool false, .slice none 0 0, .slice none 0 0, .bool false, .slice none 0 0, .slice none 0 0]).cells k).toList, NoInt u := by
  intro u hu
  simp only [Builtin.zeroCells, Array.mem_toList_iff, Array.mem_map, Array.mem_range] at hu
  obtain ⟨j, -, rfl⟩ := hu
  have hlt : j % (Value.agg #[.bool false, .slice none 0 0, .slice none 0 0, .bool false, .slice none 0 0, .slice none 0 0]).cells.size < 6 := Nat.mod_lt _ (by decide)
  generalize j % (Value.agg #[.bool false, .slice none 0 0, .slice none 0 0, .bool false, .slice none 0 0, .slice none 0 0]).cells.size = t at hlt ⊢
  have ht : t = 0 ∨ t = 1 ∨ t = 2 ∨ t = 3 ∨ t = 4 ∨ t = 5 := by omega
  rcases ht with rfl | rfl | rfl | rfl | rfl | rfl <;> intro k x e <;> simp [Value.cells] at e
theorem zeros_len (k : Nat) : (Builtin.zeroCells (Value.agg #[.bool false, .slice none 0 0, .slice none 0 0, .bool false, .slice none 0 0, .slice none 0 0]).cells k).toList.length = k * 6 := by simp [Builtin.zeroCells, Value.cells]

/-- The cells of one element of a row that a call owns. -/
theorem OwnC.el {e : TypeId} {w : World} {base g o n cap : Nat} {l : List (Rat × Rat)} (h : OwnC e w base (.slice (some ⟨g, o, none⟩) n cap) l) {i : Nat} {p : Rat × Rat} (hp : l[i]? = some p) :
    ∃ b A n c0 C m d b' A' n' c0' C' m' d', (w.cell? ⟨g, o + i * 6, none⟩ = some (.bool b) ∧ w.cell? ⟨g, o + i * 6 + 1, none⟩ = some (.slice A n c0) ∧ w.cell? ⟨g, o + i * 6 + 2, none⟩ = some (.slice C m d) ∧ w.cell? ⟨g, o + i * 6 + 3, none⟩ = some (.bool b') ∧ w.cell? ⟨g, o + i * 6 + 4, none⟩ = some (.slice A' n' c0') ∧ w.cell? ⟨g, o + i * 6 + 5, none⟩ = some (.slice C' m' d')) ∧
      (∀ j, w.frozen? ⟨g, j, none⟩ = false) ∧ Hid (SpotC w (.agg #[.bool b, .slice A n c0, .slice C m d, .bool b', .slice A' n' c0', .slice C' m' d']) p.1 p.2) := by
  have hl : 0 < l.length := by
    have := (List.getElem?_eq_some_iff.1 hp).1
    omega
  obtain ⟨g', cap', cur, hv, -, -, hg, -, -, -, hel⟩ := h.at hl
  injection hv with hv1 hv2 hv3
  injection hv1 with hv1
  injection hv1 with hv1 hv4
  subst hv1
  subst hv4
  obtain ⟨b, A, n, c, C, m, d, b', A', n', c', C', m', d', ⟨h0, h1, h2, h3, h4, h5⟩, hS⟩ := hel i p hp
  have hc : ∀ j, w.cell? ⟨g, j, none⟩ = cur[j]? := fun j => cell_of_row w g j cur e (0, 0) hg
  refine ⟨b, A, n, c, C, m, d, b', A', n', c', C', m', d', ⟨?_, ?_, ?_, ?_, ?_, ?_⟩, fun j => ?_, hS⟩
  · rw [hc, Nat.zero_add]; exact h0
  · rw [hc, Nat.zero_add]; exact h1
  · rw [hc, Nat.zero_add]; exact h2
  · rw [hc, Nat.zero_add]; exact h3
  · rw [hc, Nat.zero_add]; exact h4
  · rw [hc, Nat.zero_add]; exact h5
  · unfold World.frozen?
    rw [hg]; simp

theorem set_take {r : List (Rat × Rat)} {n : Nat} {q : Rat × Rat} (h : n < r.length) : (r.set n q).take (n + 1) = r.take n ++ [q] := by
  rw [take_snoc (p := q) (by rw [List.getElem?_set_self h])]
  congr 1
  apply List.ext_getElem?
  intro i
  simp only [List.getElem?_take]
  split
  · rw [List.getElem?_set_ne (by omega)]
  · rfl
theorem OwnC.store' {e : TypeId} {w : World} {base g o n cap k : Nat} {l : List (Rat × Rat)} {p : Rat × Rat} {b b' : Bool} {A C A' C' : Option Addr} {m c m1 d m' c' m2 d' : Nat} (ho : o = 0)
    (h : OwnC e w base (.slice (some ⟨g, o, none⟩) n cap) l) (hn : l.length = n) (hk : k < n)
    (hV : SpotC w (.agg #[.bool b, .slice A m c, .slice C m1 d, .bool b', .slice A' m' c', .slice C' m2 d']) p.1 p.2) :
    OwnC e (w.setCells g (o + k * 6) [.bool b, .slice A m c, .slice C m1 d, .bool b', .slice A' m' c', .slice C' m2 d']) base (.slice (some ⟨g, o, none⟩) n cap) (l.set k p) ∧
    Wrote g w (w.setCells g (o + k * 6) [.bool b, .slice A m c, .slice C m1 d, .bool b', .slice A' m' c', .slice C' m2 d']) ∧ base ≤ g := by
  subst ho
  rw [Nat.zero_add]
  obtain ⟨h1, -, h2, h3⟩ := h.store hn hk hV
  exact ⟨h1, h2, h3⟩

set_option maxRecDepth 100000 in
set_option maxHeartbeats 16000000 in
theorem compact_any (base : Nat) (v : Value) (l : List (Rat × Rat)) (k : Nat) (w : World) (hO : OwnC 39 w base v l) (hq : ∀ p ∈ l, QB p.1 k ∧ QB p.2 k) (hk : 1 ≤ k) (hs : k < 67108864) (hl : l.length ≤ 1099511627776) :
    Calls Tryz.prog 38 #[v, .func (.func 39) #[] #[]] w fun e w' => ∃ v', e = .returned v' ∧ OwnC 39 w' base v' (compQ l) ∧ ∀ W, W.heap.size ≤ base → Grew W w → Grew W w' := by
  obtain ⟨L, hL⟩ : ∃ L, l.length = L := ⟨_, rfl⟩
  rw [hL] at hl
  replace hq := Lib.hid hq
  by_cases hsh : L < 2
  · have hc := comp_short (l := l) (by omega)
    obtain ⟨A, c, rfl, -, -, -⟩ := hO.row
    rw [hL] at hO ⊢
    replace hO := Lib.hid hO
    have h2 : (L : Int) < 2 := by omega
    have hm : L ≤ 9223372036854775807 := by omega
    go_enter Tryz.func38, Tryz.ntmps38
    go_wp2_with fail
    go_ret
    exact ⟨_, rfl, by rw [hc]; exact hO.out, fun _ _ h => h⟩
  obtain ⟨g, cap, -, rfl, hbg, -, -, hcap, hcm, -, -⟩ := hO.at (by omega)
  rw [hL] at hO hcap ⊢
  have hm : cap ≤ 9223372036854775807 := by unfold maxLen at hcm; omega
  have h2 : ¬ (L : Int) < 2 := by omega
  obtain ⟨p0, hp0⟩ : ∃ p, l[0]? = some p := ⟨l[0]'(by omega), List.getElem?_eq_getElem _⟩
  have hc1 : compQ (l.take 1) = l.take 1 := comp_short (by simp; omega)
  obtain ⟨o, ho⟩ : ∃ o, o = 0 := ⟨_, rfl⟩
  rw [← ho] at hO ⊢
  replace ho := Lib.hid ho
  replace hO := Lib.hid hO
  clear hp0 p0
  go_enter Tryz.func38, Tryz.ntmps38
  go_wp2_with fail
  go_loopg [5] (L - 1) (fun gk kk wr => ∃ j : Nat, gk + j = L ∧ 1 ≤ j ∧ kk = .int .i64 j ∧ compQ (l.take j) = l.take j ∧ OwnC 39 wr base (.slice (some ⟨g, o, none⟩) L cap) l ∧ Grew w wr)
  case atStart => exact ⟨1, by omega, by omega, rfl, hc1, hO.out, Grew.refl _⟩
  case round =>
    obtain ⟨j, hj, hj1, rfl, hcj, hR, hG⟩ := hrel
    by_cases hlt : j < L
    · obtain ⟨i, hi⟩ : ∃ i, i + 1 = j := ⟨j - 1, by omega⟩
      obtain ⟨p, hp⟩ : ∃ p, l[i]? = some p := ⟨l[i]'(by omega), List.getElem?_eq_getElem _⟩
      obtain ⟨q, hq9⟩ : ∃ q, l[j]? = some q := ⟨l[j]'(by omega), List.getElem?_eq_getElem _⟩
      have hct : compQ (l.take (j + 1)) = if p = q then compQ (l.take j) else compQ (l.take j) ++ [q] := by subst hi; exact comp_take hp hq9
      have htk := take_snoc hq9
      obtain ⟨b1, A1, n1, c1, C1, m1, d1, b2, A2, n2, c2, C2, m2, d2, ⟨e0, e1, e2, e3, e4, e5⟩, -, S1⟩ := hR.el hq9
      obtain ⟨b3, A3, n3, c3, C3, m3, d3, b4, A4, n4, c4, C4, m4, d4, ⟨f0, f1, f2, f3, f4, f5⟩, -, S2⟩ := hR.el hp
      have q1 := Lib.hid (hq.out q (List.mem_of_getElem? hq9))
      have q2 := Lib.hid (hq.out p (List.mem_of_getElem? hp))
      have hwj : IntKind.i64.wrap ((j : Int) - 1) = (i : Int) := by rw [IntWalk.i64_in _ (by omega)]; omega
      have hjl : (j : Int) < (L : Int) := by omega
      have hil : (i : Int) < (L : Int) := by omega
      replace hct := Lib.hid hct
      replace htk := Lib.hid htk
      replace hcj := Lib.hid hcj
      replace hR := Lib.hid hR
      replace hG := Lib.hid hG
      clear hp hq9
      go_wp2_with fail
      go_region_held3 (fun w' => w'.cell? ⟨g, o + j * 6, none⟩ = some (.bool b1) ∧ w'.cell? ⟨g, o + j * 6 + 1, none⟩ = some (.slice A1 n1 c1) ∧ w'.cell? ⟨g, o + j * 6 + 2, none⟩ = some (.slice C1 m1 d1) ∧ w'.cell? ⟨g, o + j * 6 + 3, none⟩ = some (.bool b2) ∧ w'.cell? ⟨g, o + j * 6 + 4, none⟩ = some (.slice A2 n2 c2) ∧ w'.cell? ⟨g, o + j * 6 + 5, none⟩ = some (.slice C2 m2 d2) ∧ w'.cell? ⟨g, o + i * 6, none⟩ = some (.bool b3) ∧ w'.cell? ⟨g, o + i * 6 + 1, none⟩ = some (.slice A3 n3 c3) ∧ w'.cell? ⟨g, o + i * 6 + 2, none⟩ = some (.slice C3 m3 d3) ∧ w'.cell? ⟨g, o + i * 6 + 3, none⟩ = some (.bool b4) ∧ w'.cell? ⟨g, o + i * 6 + 4, none⟩ = some (.slice A4 n4 c4) ∧ w'.cell? ⟨g, o + i * 6 + 5, none⟩ = some (.slice C4 m4 d4))
        (first | exact ⟨e0, e1, e2, e3, e4, e5, f0, f1, f2, f3, f4, f5⟩ | exact ⟨gc.cell e0, gc.cell e1, gc.cell e2, gc.cell e3, gc.cell e4, gc.cell e5, gc.cell f0, gc.cell f1, gc.cell f2, gc.cell f3, gc.cell f4, gc.cell f5⟩)
        (first | (go_at_call 39; refine (ssame_any _ _ q.1 q.2 p.1 p.2 k _ ((SpotC.kept S1.out ((Grew.refl wr).drew).keeps).v q1.out.1 q1.out.2) ((SpotC.kept S2.out ((Grew.refl wr).drew).keeps).v q2.out.1 q2.out.2) hk hs).mono ?_; rintro e wx ⟨rfl, gc⟩))
      have gA := Lib.hid ((hG.out.drew).trans gc)
      have oA := Lib.hid (OwnC.grew hR.out (((Grew.refl wr).drew).trans gc))
      clear hR hG gc e0 e1 e2 e3 e4 e5 f0 f1 f2 f3 f4 f5 S1 S2 q1 q2
      by_cases hpq : p = q
      · have hb : (spotCmp q.1 q.2 p.1 p.2 == 0) = true := by rw [beq_iff_eq]; exact spotCmp_zero.2 hpq.symm
        rw [hb]
        have hj0 := Lib.hid ((hct.out.trans (if_pos hpq)).trans hcj.out)
        clear hct hcj htk hb
        go_wp2_with fail
        obtain ⟨G, rfl⟩ : ∃ G : Nat, G = gk := ⟨_, rfl⟩
        obtain ⟨D, hD⟩ : ∃ D, L - j = D := ⟨_, rfl⟩
        obtain ⟨E, hE⟩ : ∃ E, cap - j = E := ⟨_, rfl⟩
        rw [hD, hE]
        go_loopg [5, 7] (L - 1 - j) (fun gk kk k2 wr => ∃ (m n s : Nat) (r : List (Rat × Rat)), gk + (j + s) = L ∧ kk = .int .i64 n ∧ m + 1 = s ∧ k2 = .int .i64 s ∧ 1 ≤ n ∧ n ≤ j + m ∧ r.length = L ∧ r.take n = compQ (l.take (j + s)) ∧ (∀ i, j + m ≤ i → r[i]? = l[i]?) ∧ OwnC 39 wr base (.slice (some ⟨g, o, none⟩) L cap) r ∧ ∀ W : World, W.heap.size ≤ base → Grew W w → Grew W wr)
        case atStart => exact ⟨0, j, 1, l, by omega, rfl, rfl, rfl, by omega, by omega, hL, hj0.out.symm, fun _ _ => rfl, oA.out, fun _ _ h => h.trans gA.out⟩
        case round =>
          obtain ⟨m, n, s, r, hgk, rfl, hsm, rfl, hn1, hnm, hrl, hrt, hri, hR, hGf⟩ := hrel
          by_cases hlt2 : s < D
          · obtain ⟨p2, hp2⟩ : ∃ p, l[j + m]? = some p := ⟨l[j + m]'(by omega), List.getElem?_eq_getElem _⟩
            obtain ⟨q2, hq2⟩ : ∃ q, l[j + s]? = some q := ⟨l[j + s]'(by omega), List.getElem?_eq_getElem _⟩
            have hct : compQ (l.take (j + (s + 1))) = if p2 = q2 then compQ (l.take (j + s)) else compQ (l.take (j + s)) ++ [q2] := by subst hsm; exact comp_take hp2 hq2
            obtain ⟨b5, A5, n5, c5, C5, m5, d5, b6, A6, n6, c6, C6, m6, d6, ⟨e0, e1, e2, e3, e4, e5⟩, -, S1⟩ := hR.el ((hri _ (by omega)).trans hq2)
            obtain ⟨b7, A7, n7, c7, C7, m7, d7, b8, A8, n8, c8, C8, m8, d8, ⟨f0, f1, f2, f3, f4, f5⟩, -, S2⟩ := hR.el ((hri _ (by omega)).trans hp2)
            have ea : o + (j + s) * 6 = o + j * 6 + s * 6 := by omega
            have eb : o + (j + m) * 6 = o + j * 6 + m * 6 := by omega
            rw [ea] at e0 e1 e2 e3 e4 e5
            rw [eb] at f0 f1 f2 f3 f4 f5
            have q1 := Lib.hid (hq.out q2 (List.mem_of_getElem? hq2))
            have q3 := Lib.hid (hq.out p2 (List.mem_of_getElem? hp2))
            have hwj : IntKind.i64.wrap ((s : Int) - 1) = (m : Int) := by rw [IntWalk.i64_in _ (by omega)]; omega
            have hjl : (s : Int) < (D : Int) := by omega
            have hil : (m : Int) < (D : Int) := by omega
            have hnl : (n : Int) < (L : Int) := by omega
            replace hct := Lib.hid hct
            replace hrt := Lib.hid hrt
            replace hsm := Lib.hid hsm
            replace hri := Lib.hid hri
            replace hR := Lib.hid hR
            replace hGf := Lib.hid hGf
            clear hp2 hq2
            go_wp2_with fail
            go_region_held3 (fun w' => w'.cell? ⟨g, o + j * 6 + s * 6, none⟩ = some (.bool b5) ∧ w'.cell? ⟨g, o + j * 6 + s * 6 + 1, none⟩ = some (.slice A5 n5 c5) ∧ w'.cell? ⟨g, o + j * 6 + s * 6 + 2, none⟩ = some (.slice C5 m5 d5) ∧ w'.cell? ⟨g, o + j * 6 + s * 6 + 3, none⟩ = some (.bool b6) ∧ w'.cell? ⟨g, o + j * 6 + s * 6 + 4, none⟩ = some (.slice A6 n6 c6) ∧ w'.cell? ⟨g, o + j * 6 + s * 6 + 5, none⟩ = some (.slice C6 m6 d6) ∧ w'.cell? ⟨g, o + j * 6 + m * 6, none⟩ = some (.bool b7) ∧ w'.cell? ⟨g, o + j * 6 + m * 6 + 1, none⟩ = some (.slice A7 n7 c7) ∧ w'.cell? ⟨g, o + j * 6 + m * 6 + 2, none⟩ = some (.slice C7 m7 d7) ∧ w'.cell? ⟨g, o + j * 6 + m * 6 + 3, none⟩ = some (.bool b8) ∧ w'.cell? ⟨g, o + j * 6 + m * 6 + 4, none⟩ = some (.slice A8 n8 c8) ∧ w'.cell? ⟨g, o + j * 6 + m * 6 + 5, none⟩ = some (.slice C8 m8 d8))
              (first | exact ⟨e0, e1, e2, e3, e4, e5, f0, f1, f2, f3, f4, f5⟩ | exact ⟨gc.cell e0, gc.cell e1, gc.cell e2, gc.cell e3, gc.cell e4, gc.cell e5, gc.cell f0, gc.cell f1, gc.cell f2, gc.cell f3, gc.cell f4, gc.cell f5⟩)
              (first | (go_at_call 39; refine (ssame_any _ _ q2.1 q2.2 p2.1 p2.2 k _ ((SpotC.kept S1.out ((Grew.refl wr).drew).keeps).v q1.out.1 q1.out.2) ((SpotC.kept S2.out ((Grew.refl wr).drew).keeps).v q3.out.1 q3.out.2) hk hs).mono ?_; rintro e wy ⟨rfl, gc⟩))
            have gB := ((Grew.refl wr).drew).trans gc
            have oB := OwnC.grew hR.out gB
            have SB := Lib.hid (SpotC.kept S1.out gB.keeps)
            have hGB := Lib.hid (fun (W : World) (h1 : W.heap.size ≤ base) (h2 : Grew W w) => (hGf.out W h1 h2).trans gB)
            have e0' := gc.cell e0
            have e1' := gc.cell e1
            have e2' := gc.cell e2
            have e3' := gc.cell e3
            have e4' := gc.cell e4
            have e5' := gc.cell e5
            clear hR hGf gc gB e0 e1 e2 e3 e4 e5 f0 f1 f2 f3 f4 f5 S1 S2 q1 q3 hwj
            by_cases hpq2 : p2 = q2
            · have hb : (spotCmp q2.1 q2.2 p2.1 p2.2 == 0) = true := by rw [beq_iff_eq]; exact spotCmp_zero.2 hpq2.symm
              rw [hb]
              have hj1 := Lib.hid (hct.out.trans (if_pos hpq2))
              replace oB := Lib.hid oB
              clear hct hb e0' e1' e2' e3' e4' e5'
              go_wp2_with fail
              go_roundg (gk - 1)
              case rel => have hsm' := hsm.out; exact ⟨m + 1, n, s + 1, r, by omega, rfl, by omega, by go_num, hn1, by omega, hrl, by rw [hj1.out]; exact hrt.out, fun i hi => hri.out i (by omega), oB.out, hGB.out⟩
              case measure => omega
            · have hb : (spotCmp q2.1 q2.2 p2.1 p2.2 == 0) = false := by
                rw [beq_eq_false_iff_ne]
                exact fun h => hpq2 (spotCmp_zero.1 h).symm
              rw [hb]
              have hj1 := Lib.hid (hct.out.trans (if_neg hpq2))
              obtain ⟨pn, hpn⟩ : ∃ p, r[n]? = some p := ⟨r[n]'(by omega), List.getElem?_eq_getElem _⟩
              obtain ⟨_, _, _, _, _, _, _, _, _, _, _, _, _, _, ⟨k0, k1, k2, k3, k4, k5⟩, hfz, -⟩ := oB.el hpn
              have z0 := hfz (o + n * 6)
              have z1 := hfz (o + n * 6 + 1)
              have z2 := hfz (o + n * 6 + 2)
              have z3 := hfz (o + n * 6 + 3)
              have z4 := hfz (o + n * 6 + 4)
              have z5 := hfz (o + n * 6 + 5)
              replace oB := Lib.hid oB
              clear hct hb hfz hpn
              go_upto_region 13 with fail
              refine gen_wp ?_
              intro W9 hW9
              replace hW9 : W9 = wy.setCells g (o + n * 6) [.bool b5, .slice A5 n5 c5, .slice C5 m5 d5, .bool b6, .slice A6 n6 c6, .slice C6 m6 d6] := hW9
              obtain ⟨hS1, hS2, hS3⟩ := OwnC.store' (k := n) ho.out oB.out hrl (by omega) SB.out
              rw [← hW9] at hS1 hS2
              have hG9 := Lib.hid (fun (W : World) (h1 : W.heap.size ≤ base) (h2 : Grew W w) => (hGB.out W h1 h2).wrote hS2 (Nat.le_trans h1 hS3))
              replace hS1 := Lib.hid hS1
              have hsm' := hsm.out
              have htk : (r.set n q2).take (n + 1) = compQ (l.take (j + (s + 1))) := by rw [set_take (by omega), hrt.out, hj1.out]
              have hri' : ∀ i, j + (m + 1) ≤ i → (r.set n q2)[i]? = l[i]? := fun i hi => by rw [List.getElem?_set_ne (by omega)]; exact hri.out i (by omega)
              replace htk := Lib.hid htk
              replace hri' := Lib.hid hri'
              clear hW9 hS2 hGB oB SB e0' e1' e2' e3' e4' e5' k0 k1 k2 k3 k4 k5 z0 z1 z2 z3 z4 z5 hrt hri hj1
              go_wp2_with fail
              go_roundg (gk - 1)
              case rel => exact ⟨m + 1, n + 1, s + 1, r.set n q2, by omega, by go_num, by omega, by go_num, by omega, by omega, by rw [List.length_set]; exact hrl, htk.out, hri'.out, hS1.out, hG9.out⟩
              case measure => omega
          · have hall : l.take (j + s) = l := by rw [show j + s = l.length by omega]; exact List.take_length
            rw [hall] at hrt
            obtain ⟨cur, hg9, hcs9⟩ := hR.cur (by omega)
            have hmul : L * 6 ≤ cap * 6 := Nat.mul_le_mul_right _ hcap
            have ho0 := ho.out
            have hcl : ∀ ty, (Builtin.clear_ #[27] ty #[.slice (some ⟨g, o + n * 6, none⟩) (L - n) (cap - n)]).run Tryz.prog wr = .ok (.tuple #[]) (wr.setCells g (n * 6) (Builtin.zeroCells (Value.agg #[.bool false, .slice none 0 0, .slice none 0 0, .bool false, .slice none 0 0, .slice none 0 0]).cells (L - n)).toList) :=
              fun ty => run_clear_spots wr g (o + n * 6) (n * 6) (L - n) (cap - n) cur _ hg9 (by omega) (by omega) (by omega) ty
            rw [ho0] at hR
            obtain ⟨hS1, -, hS2, hS3⟩ := OwnC.clear (k := n) (Builtin.zeroCells (Value.agg #[.bool false, .slice none 0 0, .slice none 0 0, .bool false, .slice none 0 0, .slice none 0 0]).cells (L - n)).toList hR hrl (by omega) (by omega) (by rw [zeros_len]; omega) (zeros_noint _)
            rw [hrt] at hS1
            generalize wr.setCells g (n * 6) (Builtin.zeroCells (Value.agg #[.bool false, .slice none 0 0, .slice none 0 0, .bool false, .slice none 0 0, .slice none 0 0]).cells (L - n)).toList = W9 at hcl hS1 hS2
            have hG9 := Lib.hid (fun (W : World) (h1 : W.heap.size ≤ base) (h2 : Grew W w) => (hGf W h1 h2).wrote hS2 (Nat.le_trans h1 hS3))
            replace hS1 := Lib.hid hS1
            have hnl : (n : Int) < (L : Int) := by omega
            have hsl : ¬ (s : Int) < (D : Int) := by omega
            clear hR hGf hrt hri hS2 hg9 hcs9 hall hmul ho0
            have hnL : n < L := by omega
            go_wp2_with (simp only [hcl])
            go_ret
            exact ⟨_, rfl, by rw [ho.out]; exact hS1.out, hG9.out⟩
      · have hb : (spotCmp q.1 q.2 p.1 p.2 == 0) = false := by
          rw [beq_eq_false_iff_ne]
          exact fun h => hpq (spotCmp_zero.1 h).symm
        rw [hb]
        have hj0 := Lib.hid (((hct.out.trans (if_neg hpq)).trans (by rw [hcj.out])).trans htk.out.symm)
        clear hct hcj htk hb
        go_wp2_with fail
        go_roundg (gk - 1)
        case rel => exact ⟨j + 1, by omega, by omega, by go_num, hj0.out, oA.out, gA.out⟩
        case measure => omega
    · obtain rfl : j = L := by omega
      have hall : l.take j = l := by rw [← hL]; exact List.take_length
      rw [hall] at hcj
      have hcj' := Lib.hid hcj
      have hR' := Lib.hid hR
      have hG' := Lib.hid hG
      clear hcj hR hG
      go_wp2_with fail
      go_ret
      exact ⟨_, rfl, by rw [hcj'.out]; simpa [ho.out] using hR'.out, fun _ _ h => h.trans hG'.out⟩
end Go.Proofs.YthhgogpglocjdaaGreat
