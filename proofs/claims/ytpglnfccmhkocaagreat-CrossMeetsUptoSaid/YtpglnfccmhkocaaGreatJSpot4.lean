/- r05.Turn, between, On, and that they answer what spot.Turn and spot.On answer. Condition: what comes in reads; fewer than 2^26 words. r01.Same, r02.Same, r04.Same, r05.Same at what is the same. Condition: what comes in reads. r05.At, Cmp, Toward. Condition: what comes in reads; fewer than 2^26 words. spot.Cmp, Same, Toward. Condition: what comes in reads; fewer than 2^26 words. -/
import Derived.Test.YtpglnfccmhkocaaGreatJR5a
namespace Go.Proofs.YtpglnfccmhkocaaGreat
open Go.RowKit

theorem areaQ_eq (ax ay bx b_y cx cy : Rat) : areaQ ax ay bx b_y cx cy = (bx - ax) * (cy - ay) - (b_y - ay) * (cx - ax) := by unfold areaQ; grind
theorem areaQ_turn (ax ay bx b_y cx cy : Rat) : sgQ (areaQ ax ay bx b_y cx cy) = turnQ ax ay bx b_y cx cy := by rw [areaQ_eq, turnQ_eq]
theorem areaQ_qb {ax ay bx b_y cx cy : Rat} {k : Nat} (q1 : QB ax k) (q2 : QB ay k) (q3 : QB bx k) (q4 : QB b_y k) (q5 : QB cx k) (q6 : QB cy k) : QB (areaQ ax ay bx b_y cx cy) (9 * k + 5) :=
  (((q1.mul (q4.sub q6)).add (q3.mul (q6.sub q2))).add (q5.mul (q2.sub q4))).mono (by omega)

/-- Not on the same side of both. -/
def betwQ (a b c : Rat) : Bool := decide (cmpQ a c * cmpQ b c ≤ 0)
theorem cmpQ_bd (a b : Rat) : -1 ≤ cmpQ a b ∧ cmpQ a b ≤ 1 := by unfold cmpQ; split <;> (try split) <;> omega
theorem betwQ_within (a b c : Rat) : betwQ a b c = withinQ a b c := by
  unfold betwQ withinQ midQ cmpQ
  by_cases h1 : a < c <;> by_cases h2 : c < a <;> by_cases h3 : b < c <;> by_cases h4 : c < b <;> by_cases h5 : b < a <;>
    first | (simp [h1, h2, h3, h4, h5]; done) | (exfalso; grind)

set_option maxRecDepth 100000 in
set_option maxHeartbeats 4000000 in
theorem between_any (Va Vb Vc : Value) (p q r : Rat) (k : Nat) (w : World) (ha : FracR w Va p k) (hb : FracR w Vb q k) (hc : FracR w Vc r k) (hk : 1 ≤ k) (hs : k < 67108864) :
    Calls Tryz.prog 39 #[Va, Vb, Vc] w fun e w' => e = .returned (.bool (withinQ p q r)) ∧ Grew w w' := by
  obtain ⟨b1, A1, n1, c1, C1, m1, d1, rfl, Fa⟩ := ha.laid
  obtain ⟨b2, A2, n2, c2, C2, m2, d2, rfl, Fb⟩ := hb.laid
  obtain ⟨b3, A3, n3, c3, C3, m3, d3, rfl, Fc⟩ := hc.laid
  clear ha hb hc
  have hk0 : 1 ≤ k ∧ 1 ≤ k := ⟨hk, hk⟩
  have hs0 : k < 1073741824 ∧ k < 1073741824 := by omega
  have e0 : decide (cmpQ p r * cmpQ q r ≤ 0) = withinQ p q r := betwQ_within p q r
  have ⟨x0, x1⟩ := cmpQ_bd p r
  have ⟨y0, y1⟩ := cmpQ_bd q r
  obtain ⟨x, hx⟩ : ∃ x, cmpQ p r = x := ⟨_, rfl⟩
  obtain ⟨y, hy⟩ : ∃ y, cmpQ q r = y := ⟨_, rfl⟩
  rw [hx, hy] at e0
  rw [hx] at x0 x1
  rw [hy] at y0 y1
  replace hx := Lib.hid hx
  replace hy := Lib.hid hy
  have hw : IntKind.i64.wrap (x * y) = x * y := by
    rcases (show x = -1 ∨ x = 0 ∨ x = 1 by omega) with rfl | rfl | rfl <;> rcases (show y = -1 ∨ y = 0 ∨ y = 1 by omega) with rfl | rfl | rfl <;> rfl
  replace e0 := Lib.hid e0
  clear x0 x1 y0 y1
  go_enter Tryz.func39, Tryz.ntmps39
  go_wp2_with fail
  refine gen_wp ?_
  intro W0 hW0
  have G0 : Grew w W0 := by rw [hW0]; exact (((Grew.refl w).alloc _).alloc _).alloc _
  have P : Box3 W0 (w.heap.size) 0 (.bool b1) (.slice A1 n1 c1) (.slice C1 m1 d1) := by rw [hW0]; exact ⟨by simp [go_sem], by simp [go_sem], by simp [go_sem]⟩
  replace P := Lib.hid P
  have Q : Box3 W0 (w.heap.size + 1) 0 (.bool b2) (.slice A2 n2 c2) (.slice C2 m2 d2) := by rw [hW0]; exact ⟨by simp [go_sem], by simp [go_sem], by simp [go_sem]⟩
  replace Q := Lib.hid Q
  have S : Box3 W0 (w.heap.size + 1 + 1) 0 (.bool b3) (.slice A3 n3 c3) (.slice C3 m3 d3) := by rw [hW0]; exact ⟨by simp [go_sem], by simp [go_sem], by simp [go_sem]⟩
  replace S := Lib.hid S
  have z0 : w.heap.size < W0.heap.size := by rw [hW0]; simp <;> omega
  replace z0 := Lib.hid z0
  have z1 : w.heap.size + 1 < W0.heap.size := by rw [hW0]; simp <;> omega
  replace z1 := Lib.hid z1
  have z2 : w.heap.size + 1 + 1 < W0.heap.size := by rw [hW0]; simp <;> omega
  replace z2 := Lib.hid z2
  clear hW0
  replace Fa := Lib.hid (Fa.out.kept G0.keeps)
  replace Fb := Lib.hid (Fb.out.kept G0.keeps)
  replace Fc := Lib.hid (Fc.out.kept G0.keeps)
  replace G0 := Lib.hid G0
  have gd : Grew W0 W0.drew := (Grew.refl W0).drew
  replace P := Lib.hid (P.out.grew gd)
  replace Q := Lib.hid (Q.out.grew gd)
  replace S := Lib.hid (S.out.grew gd)
  replace z0 := Lib.hid (lt_grew z0.out gd)
  replace z1 := Lib.hid (lt_grew z1.out gd)
  replace z2 := Lib.hid (lt_grew z2.out gd)
  replace Fa := Lib.hid (Fa.out.kept gd.keeps)
  replace Fb := Lib.hid (Fb.out.kept gd.keeps)
  replace Fc := Lib.hid (Fc.out.kept gd.keeps)
  replace gd := Lib.hid gd
  have ZP := P
  have ZQ := Q
  have ZS := S
  go_region_held3 (fun w' => w'.cell? ⟨w.heap.size, 0, none⟩ = some (.bool b1) ∧ w'.cell? ⟨w.heap.size, 1, none⟩ = some (.slice A1 n1 c1) ∧ w'.cell? ⟨w.heap.size, 2, none⟩ = some (.slice C1 m1 d1) ∧ w'.cell? ⟨w.heap.size + 1, 0, none⟩ = some (.bool b2) ∧ w'.cell? ⟨w.heap.size + 1, 1, none⟩ = some (.slice A2 n2 c2) ∧ w'.cell? ⟨w.heap.size + 1, 2, none⟩ = some (.slice C2 m2 d2) ∧ w'.cell? ⟨w.heap.size + 1 + 1, 0, none⟩ = some (.bool b3) ∧ w'.cell? ⟨w.heap.size + 1 + 1, 1, none⟩ = some (.slice A3 n3 c3) ∧ w'.cell? ⟨w.heap.size + 1 + 1, 2, none⟩ = some (.slice C3 m3 d3))
    (first | (with_reducible exact ⟨ZP.out.p0, ZP.out.p1, ZP.out.p2, ZQ.out.p0, ZQ.out.p1, ZQ.out.p2, ZS.out.p0, ZS.out.p1, ZS.out.p2⟩) | (with_reducible exact ⟨g1.cell ZP.out.p0, g1.cell ZP.out.p1, g1.cell ZP.out.p2, g1.cell ZQ.out.p0, g1.cell ZQ.out.p1, g1.cell ZQ.out.p2, g1.cell ZS.out.p0, g1.cell ZS.out.p1, g1.cell ZS.out.p2⟩) | (with_reducible exact ⟨(g1.trans g2).cell ZP.out.p0, (g1.trans g2).cell ZP.out.p1, (g1.trans g2).cell ZP.out.p2, (g1.trans g2).cell ZQ.out.p0, (g1.trans g2).cell ZQ.out.p1, (g1.trans g2).cell ZQ.out.p2, (g1.trans g2).cell ZS.out.p0, (g1.trans g2).cell ZS.out.p1, (g1.trans g2).cell ZS.out.p2⟩))
    (first | (go_at_call_of 52 (Value.agg #[.bool b1, .slice A1 n1 c1, .slice C1 m1 d1]); refine (rfcmp_any _ _ p r k k _ Fa.out Fc.out hk0 hs0).mono ?_; rintro e w1 ⟨rfl, g1⟩; rw [show cmpQ p r = x from hx.out]; replace P := Lib.hid (P.out.grew g1); replace Q := Lib.hid (Q.out.grew g1); replace S := Lib.hid (S.out.grew g1); replace z0 := Lib.hid (lt_grew z0.out g1); replace z1 := Lib.hid (lt_grew z1.out g1); replace z2 := Lib.hid (lt_grew z2.out g1); replace Fa := Lib.hid (Fa.out.kept g1.keeps); replace Fb := Lib.hid (Fb.out.kept g1.keeps); replace Fc := Lib.hid (Fc.out.kept g1.keeps)) | (go_at_call 52; refine (rfcmp_any _ _ q r k k _ Fb.out Fc.out hk0 hs0).mono ?_; rintro e w2 ⟨rfl, g2⟩; rw [show cmpQ q r = y from hy.out]; replace P := Lib.hid (P.out.grew g2); replace Q := Lib.hid (Q.out.grew g2); replace S := Lib.hid (S.out.grew g2); replace z0 := Lib.hid (lt_grew z0.out g2); replace z1 := Lib.hid (lt_grew z1.out g2); replace z2 := Lib.hid (lt_grew z2.out g2); replace Fa := Lib.hid (Fa.out.kept g2.keeps); replace Fb := Lib.hid (Fb.out.kept g2.keeps); replace Fc := Lib.hid (Fc.out.kept g2.keeps)))
  replace G0 := Lib.hid (((G0.out.trans gd.out).trans g1).trans g2)
  clear gd g1 g2 ZP ZQ ZS
  go_wp2_with fail
  go_ret
  exact ⟨by rw [← e0.out]; rfl, G0.out⟩

set_option maxRecDepth 100000 in
set_option maxHeartbeats 8000000 in
theorem rturn_any (Va Vb Vc : Value) (ax ay bx b_y cx cy : Rat) (k : Nat) (w : World) (ha : SpotR w Va ax ay k) (hb : SpotR w Vb bx b_y k) (hc : SpotR w Vc cx cy k) (hk : 1 ≤ k) (hs : k < 67108864) :
    Calls Tryz.prog 9 #[Va, Vb, Vc] w fun e w' => e = .returned (.int .i64 (turnQ ax ay bx b_y cx cy)) ∧ Grew w w' := by
  obtain ⟨b1, A1, n1, c1, C1, m1, d1, b2, A2, n2, c2, C2, m2, d2, rfl, Fa, Fb, Sa⟩ := ha.laid
  obtain ⟨b3, A3, n3, c3, C3, m3, d3, b4, A4, n4, c4, C4, m4, d4, rfl, Fc, Fd, Sb⟩ := hb.laid
  obtain ⟨b5, A5, n5, c5, C5, m5, d5, b6, A6, n6, c6, C6, m6, d6, rfl, Fe, Ff, Sc⟩ := hc.laid
  have q := Lib.hid (areaQ_qb (Fa.out.v.qb hk) (Fb.out.v.qb hk) (Fc.out.v.qb hk) (Fd.out.v.qb hk) (Fe.out.v.qb hk) (Ff.out.v.qb hk))
  clear ha hb hc Fa Fb Fc Fd Fe Ff
  have e0 := Lib.hid (areaQ_turn ax ay bx b_y cx cy)
  go_enter Tryz.func9, Tryz.ntmps9
  go_wp2_with fail
  refine gen_calls ?_
  intro W0 hW0
  have G0 : Grew w W0 := by rw [hW0]; exact (((Grew.refl w).alloc _).alloc _).alloc _
  have P : Box3 W0 (w.heap.size) 0 (.bool b1) (.slice A1 n1 c1) (.slice C1 m1 d1) := by rw [hW0]; exact ⟨by simp [go_sem], by simp [go_sem], by simp [go_sem]⟩
  replace P := Lib.hid P
  have Py : Box3 W0 (w.heap.size) 3 (.bool b2) (.slice A2 n2 c2) (.slice C2 m2 d2) := by rw [hW0]; exact ⟨by simp [go_sem], by simp [go_sem], by simp [go_sem]⟩
  replace Py := Lib.hid Py
  have Q : Box3 W0 (w.heap.size + 1) 0 (.bool b3) (.slice A3 n3 c3) (.slice C3 m3 d3) := by rw [hW0]; exact ⟨by simp [go_sem], by simp [go_sem], by simp [go_sem]⟩
  replace Q := Lib.hid Q
  have Qy : Box3 W0 (w.heap.size + 1) 3 (.bool b4) (.slice A4 n4 c4) (.slice C4 m4 d4) := by rw [hW0]; exact ⟨by simp [go_sem], by simp [go_sem], by simp [go_sem]⟩
  replace Qy := Lib.hid Qy
  have S : Box3 W0 (w.heap.size + 1 + 1) 0 (.bool b5) (.slice A5 n5 c5) (.slice C5 m5 d5) := by rw [hW0]; exact ⟨by simp [go_sem], by simp [go_sem], by simp [go_sem]⟩
  replace S := Lib.hid S
  have Sy : Box3 W0 (w.heap.size + 1 + 1) 3 (.bool b6) (.slice A6 n6 c6) (.slice C6 m6 d6) := by rw [hW0]; exact ⟨by simp [go_sem], by simp [go_sem], by simp [go_sem]⟩
  replace Sy := Lib.hid Sy
  have z0 : w.heap.size < W0.heap.size := by rw [hW0]; simp <;> omega
  replace z0 := Lib.hid z0
  have z1 : w.heap.size + 1 < W0.heap.size := by rw [hW0]; simp <;> omega
  replace z1 := Lib.hid z1
  have z2 : w.heap.size + 1 + 1 < W0.heap.size := by rw [hW0]; simp <;> omega
  replace z2 := Lib.hid z2
  clear hW0
  replace Sa := Lib.hid (Sa.out.kept G0.keeps)
  replace Sb := Lib.hid (Sb.out.kept G0.keeps)
  replace Sc := Lib.hid (Sc.out.kept G0.keeps)
  replace G0 := Lib.hid G0
  refine (area_any _ _ _ ax ay bx b_y cx cy k _ Sa.out Sb.out Sc.out hk hs).mono ?_
  rintro e w1 ⟨V1, rfl, hV1, g1⟩
  have hX := Lib.hid (hV1.r q.out)
  obtain ⟨b7, A7, n7, c7, C7, m7, d7, rfl, -⟩ := hV1.laid
  have X1 := hX
  clear hV1 hX
  replace P := Lib.hid (P.out.grew g1)
  replace Py := Lib.hid (Py.out.grew g1)
  replace Q := Lib.hid (Q.out.grew g1)
  replace Qy := Lib.hid (Qy.out.grew g1)
  replace S := Lib.hid (S.out.grew g1)
  replace Sy := Lib.hid (Sy.out.grew g1)
  replace z0 := Lib.hid (lt_grew z0.out g1)
  replace z1 := Lib.hid (lt_grew z1.out g1)
  replace z2 := Lib.hid (lt_grew z2.out g1)
  replace Sa := Lib.hid (Sa.out.kept g1.keeps)
  replace Sb := Lib.hid (Sb.out.kept g1.keeps)
  replace Sc := Lib.hid (Sc.out.kept g1.keeps)
  replace G0 := Lib.hid (G0.out.trans g1)
  clear g1
  go_wp2_with fail
  refine (rfsign_any _ _ _ _ X1.out (by omega) (by omega)).mono ?_
  rintro e w2 ⟨rfl, g2⟩
  replace P := Lib.hid (P.out.grew g2)
  replace Py := Lib.hid (Py.out.grew g2)
  replace Q := Lib.hid (Q.out.grew g2)
  replace Qy := Lib.hid (Qy.out.grew g2)
  replace S := Lib.hid (S.out.grew g2)
  replace Sy := Lib.hid (Sy.out.grew g2)
  replace z0 := Lib.hid (lt_grew z0.out g2)
  replace z1 := Lib.hid (lt_grew z1.out g2)
  replace z2 := Lib.hid (lt_grew z2.out g2)
  replace Sa := Lib.hid (Sa.out.kept g2.keeps)
  replace Sb := Lib.hid (Sb.out.kept g2.keeps)
  replace Sc := Lib.hid (Sc.out.kept g2.keeps)
  replace X1 := Lib.hid (X1.out.kept g2.keeps)
  replace G0 := Lib.hid (G0.out.trans g2)
  clear g2
  rw [e0.out]
  go_wp2_with fail
  go_ret
  exact ⟨rfl, G0.out⟩

set_option maxRecDepth 100000 in
set_option maxHeartbeats 8000000 in
theorem ron_any (Va Vb Vc : Value) (ax ay bx b_y cx cy : Rat) (k : Nat) (w : World) (ha : SpotR w Va ax ay k) (hb : SpotR w Vb bx b_y k) (hc : SpotR w Vc cx cy k) (hk : 1 ≤ k) (hs : k < 67108864) :
    Calls Tryz.prog 11 #[Va, Vb, Vc] w fun e w' => e = .returned (.bool (onQ ax ay bx b_y cx cy)) ∧ Grew w w' := by
  obtain ⟨b1, A1, n1, c1, C1, m1, d1, b2, A2, n2, c2, C2, m2, d2, rfl, Fa, Fb, Sa⟩ := ha.laid
  obtain ⟨b3, A3, n3, c3, C3, m3, d3, b4, A4, n4, c4, C4, m4, d4, rfl, Fc, Fd, Sb⟩ := hb.laid
  obtain ⟨b5, A5, n5, c5, C5, m5, d5, b6, A6, n6, c6, C6, m6, d6, rfl, Fe, Ff, Sc⟩ := hc.laid
  clear ha hb hc
  have eO : onQ ax ay bx b_y cx cy = (decide (turnQ ax ay bx b_y cx cy = 0) && withinQ ax bx cx && withinQ ay b_y cy) := by
    unfold onQ; cases withinQ ax bx cx <;> cases withinQ ay b_y cy <;> cases decide (turnQ ax ay bx b_y cx cy = 0) <;> rfl
  generalize onQ ax ay bx b_y cx cy = oo at *
  replace eO := Lib.hid eO
  go_enter Tryz.func11, Tryz.ntmps11
  go_wp2_with fail
  refine gen_calls ?_
  intro W0 hW0
  have G0 : Grew w W0 := by rw [hW0]; exact (((Grew.refl w).alloc _).alloc _).alloc _
  have P : Box3 W0 (w.heap.size) 0 (.bool b1) (.slice A1 n1 c1) (.slice C1 m1 d1) := by rw [hW0]; exact ⟨by simp [go_sem], by simp [go_sem], by simp [go_sem]⟩
  replace P := Lib.hid P
  have Py : Box3 W0 (w.heap.size) 3 (.bool b2) (.slice A2 n2 c2) (.slice C2 m2 d2) := by rw [hW0]; exact ⟨by simp [go_sem], by simp [go_sem], by simp [go_sem]⟩
  replace Py := Lib.hid Py
  have Q : Box3 W0 (w.heap.size + 1) 0 (.bool b3) (.slice A3 n3 c3) (.slice C3 m3 d3) := by rw [hW0]; exact ⟨by simp [go_sem], by simp [go_sem], by simp [go_sem]⟩
  replace Q := Lib.hid Q
  have Qy : Box3 W0 (w.heap.size + 1) 3 (.bool b4) (.slice A4 n4 c4) (.slice C4 m4 d4) := by rw [hW0]; exact ⟨by simp [go_sem], by simp [go_sem], by simp [go_sem]⟩
  replace Qy := Lib.hid Qy
  have S : Box3 W0 (w.heap.size + 1 + 1) 0 (.bool b5) (.slice A5 n5 c5) (.slice C5 m5 d5) := by rw [hW0]; exact ⟨by simp [go_sem], by simp [go_sem], by simp [go_sem]⟩
  replace S := Lib.hid S
  have Sy : Box3 W0 (w.heap.size + 1 + 1) 3 (.bool b6) (.slice A6 n6 c6) (.slice C6 m6 d6) := by rw [hW0]; exact ⟨by simp [go_sem], by simp [go_sem], by simp [go_sem]⟩
  replace Sy := Lib.hid Sy
  have z0 : w.heap.size < W0.heap.size := by rw [hW0]; simp <;> omega
  replace z0 := Lib.hid z0
  have z1 : w.heap.size + 1 < W0.heap.size := by rw [hW0]; simp <;> omega
  replace z1 := Lib.hid z1
  have z2 : w.heap.size + 1 + 1 < W0.heap.size := by rw [hW0]; simp <;> omega
  replace z2 := Lib.hid z2
  clear hW0
  replace Fa := Lib.hid (Fa.out.kept G0.keeps)
  replace Fb := Lib.hid (Fb.out.kept G0.keeps)
  replace Fc := Lib.hid (Fc.out.kept G0.keeps)
  replace Fd := Lib.hid (Fd.out.kept G0.keeps)
  replace Fe := Lib.hid (Fe.out.kept G0.keeps)
  replace Ff := Lib.hid (Ff.out.kept G0.keeps)
  replace Sa := Lib.hid (Sa.out.kept G0.keeps)
  replace Sb := Lib.hid (Sb.out.kept G0.keeps)
  replace Sc := Lib.hid (Sc.out.kept G0.keeps)
  replace G0 := Lib.hid G0
  refine (rturn_any _ _ _ ax ay bx b_y cx cy k _ Sa.out Sb.out Sc.out hk hs).mono ?_
  rintro e w1 ⟨rfl, g1⟩
  replace P := Lib.hid (P.out.grew g1)
  replace Py := Lib.hid (Py.out.grew g1)
  replace Q := Lib.hid (Q.out.grew g1)
  replace Qy := Lib.hid (Qy.out.grew g1)
  replace S := Lib.hid (S.out.grew g1)
  replace Sy := Lib.hid (Sy.out.grew g1)
  replace z0 := Lib.hid (lt_grew z0.out g1)
  replace z1 := Lib.hid (lt_grew z1.out g1)
  replace z2 := Lib.hid (lt_grew z2.out g1)
  replace Fa := Lib.hid (Fa.out.kept g1.keeps)
  replace Fb := Lib.hid (Fb.out.kept g1.keeps)
  replace Fc := Lib.hid (Fc.out.kept g1.keeps)
  replace Fd := Lib.hid (Fd.out.kept g1.keeps)
  replace Fe := Lib.hid (Fe.out.kept g1.keeps)
  replace Ff := Lib.hid (Ff.out.kept g1.keeps)
  replace Sa := Lib.hid (Sa.out.kept g1.keeps)
  replace Sb := Lib.hid (Sb.out.kept g1.keeps)
  replace Sc := Lib.hid (Sc.out.kept g1.keeps)
  replace G0 := Lib.hid (G0.out.trans g1)
  clear g1
  generalize turnQ ax ay bx b_y cx cy = t at *

  by_cases ht : t = 0
  · as_aux_lemma =>
    subst ht
    rw [decide_eq_true rfl, Bool.true_and] at eO
    obtain ⟨P0, P1, P2⟩ := P.out
    obtain ⟨Py0, Py1, Py2⟩ := Py.out
    obtain ⟨Q0, Q1, Q2⟩ := Q.out
    obtain ⟨Qy0, Qy1, Qy2⟩ := Qy.out
    obtain ⟨S0, S1, S2⟩ := S.out
    obtain ⟨Sy0, Sy1, Sy2⟩ := Sy.out
    go_wp2_with fail
    clear P0 P1 P2 Py0 Py1 Py2 Q0 Q1 Q2 Qy0 Qy1 Qy2 S0 S1 S2 Sy0 Sy1 Sy2
    refine (between_any _ _ _ ax bx cx k _ Fa.out Fc.out Fe.out hk hs).mono ?_
    rintro e w2 ⟨rfl, g2⟩
    replace P := Lib.hid (P.out.grew g2)
    replace Py := Lib.hid (Py.out.grew g2)
    replace Q := Lib.hid (Q.out.grew g2)
    replace Qy := Lib.hid (Qy.out.grew g2)
    replace S := Lib.hid (S.out.grew g2)
    replace Sy := Lib.hid (Sy.out.grew g2)
    replace z0 := Lib.hid (lt_grew z0.out g2)
    replace z1 := Lib.hid (lt_grew z1.out g2)
    replace z2 := Lib.hid (lt_grew z2.out g2)
    replace Fa := Lib.hid (Fa.out.kept g2.keeps)
    replace Fb := Lib.hid (Fb.out.kept g2.keeps)
    replace Fc := Lib.hid (Fc.out.kept g2.keeps)
    replace Fd := Lib.hid (Fd.out.kept g2.keeps)
    replace Fe := Lib.hid (Fe.out.kept g2.keeps)
    replace Ff := Lib.hid (Ff.out.kept g2.keeps)
    replace Sa := Lib.hid (Sa.out.kept g2.keeps)
    replace Sb := Lib.hid (Sb.out.kept g2.keeps)
    replace Sc := Lib.hid (Sc.out.kept g2.keeps)
    replace G0 := Lib.hid (G0.out.trans g2)
    clear g2
    generalize withinQ ax bx cx = B1 at *

    cases B1
    · as_aux_lemma =>
      rw [Bool.false_and] at eO
      obtain ⟨P0, P1, P2⟩ := P.out
      obtain ⟨Py0, Py1, Py2⟩ := Py.out
      obtain ⟨Q0, Q1, Q2⟩ := Q.out
      obtain ⟨Qy0, Qy1, Qy2⟩ := Qy.out
      obtain ⟨S0, S1, S2⟩ := S.out
      obtain ⟨Sy0, Sy1, Sy2⟩ := Sy.out
      go_wp2_with fail
      clear P0 P1 P2 Py0 Py1 Py2 Q0 Q1 Q2 Qy0 Qy1 Qy2 S0 S1 S2 Sy0 Sy1 Sy2
      go_ret
      exact ⟨by rw [eO.out]; rfl, G0.out⟩
    · as_aux_lemma =>

      rw [Bool.true_and] at eO
      obtain ⟨P0, P1, P2⟩ := P.out
      obtain ⟨Py0, Py1, Py2⟩ := Py.out
      obtain ⟨Q0, Q1, Q2⟩ := Q.out
      obtain ⟨Qy0, Qy1, Qy2⟩ := Qy.out
      obtain ⟨S0, S1, S2⟩ := S.out
      obtain ⟨Sy0, Sy1, Sy2⟩ := Sy.out
      go_wp2_with fail
      clear P0 P1 P2 Py0 Py1 Py2 Q0 Q1 Q2 Qy0 Qy1 Qy2 S0 S1 S2 Sy0 Sy1 Sy2
      refine (between_any _ _ _ ay b_y cy k _ Fb.out Fd.out Ff.out hk hs).mono ?_
      rintro e w3 ⟨rfl, g3⟩
      replace P := Lib.hid (P.out.grew g3)
      replace Py := Lib.hid (Py.out.grew g3)
      replace Q := Lib.hid (Q.out.grew g3)
      replace Qy := Lib.hid (Qy.out.grew g3)
      replace S := Lib.hid (S.out.grew g3)
      replace Sy := Lib.hid (Sy.out.grew g3)
      replace z0 := Lib.hid (lt_grew z0.out g3)
      replace z1 := Lib.hid (lt_grew z1.out g3)
      replace z2 := Lib.hid (lt_grew z2.out g3)
      replace Fa := Lib.hid (Fa.out.kept g3.keeps)
      replace Fb := Lib.hid (Fb.out.kept g3.keeps)
      replace Fc := Lib.hid (Fc.out.kept g3.keeps)
      replace Fd := Lib.hid (Fd.out.kept g3.keeps)
      replace Fe := Lib.hid (Fe.out.kept g3.keeps)
      replace Ff := Lib.hid (Ff.out.kept g3.keeps)
      replace Sa := Lib.hid (Sa.out.kept g3.keeps)
      replace Sb := Lib.hid (Sb.out.kept g3.keeps)
      replace Sc := Lib.hid (Sc.out.kept g3.keeps)
      replace G0 := Lib.hid (G0.out.trans g3)
      clear g3
      generalize withinQ ay b_y cy = B2 at *
      go_wp2_with fail
      go_ret
      exact ⟨by rw [eO.out]; rfl, G0.out⟩
  · as_aux_lemma =>


    have eO' := Lib.hid (show oo = false by rw [eO.out, decide_eq_false ht]; rfl)
    have htb : (t == 0) = false := by simpa using ht
    clear eO
    go_wp2_with fail
    go_ret
    exact ⟨by rw [eO'.out]; rfl, G0.out⟩
end Go.Proofs.YtpglnfccmhkocaaGreat
namespace Go.Proofs.YtpglnfccmhkocaaGreat
open Go.RowKit

set_option maxRecDepth 100000 in
set_option maxHeartbeats 4000000 in
theorem r1same_yes (A C : Option Addr) (N n c d : Nat) (w : World) (ha : Num 4294967296 .u32 w (.slice A n c) N n) (hb : Num 4294967296 .u32 w (.slice C n d) N n) :
    Calls Tryz.prog 87 #[.slice A n c, .slice C n d] w fun e w' => e = .returned (.bool true) ∧ Grew w w' := by
  obtain ⟨A', c', e1, a1, a2, a3, a4⟩ := ha
  obtain ⟨C', d', e2, b1, b2, b3, b4⟩ := hb
  injection e1 with i1 i2 i3
  injection e2 with j1 j2 j3
  subst i1; subst i3; subst j1; subst j3
  have hm : n ≤ 9223372036854775807 := by omega
  clear i2 j2 a3 b3
  go_enter Tryz.func87, Tryz.ntmps87
  go_wp2_with fail
  go_loopg [5] n (fun gk i wr => ∃ j : Nat, gk + j = n ∧ i = .int .i64 j ∧ Grew w wr)
  case atStart => exact ⟨0, rfl, rfl, Grew.refl _⟩
  case round =>
    obtain ⟨j, hj, rfl, hG⟩ := hrel
    by_cases hlt : j < n
    · obtain ⟨ba, oa, rfl, hca⟩ := a4 (by omega)
      obtain ⟨bb, ob, rfl, hcb⟩ := b4 (by omega)
      have hcx := hG.cell (hca j hlt)
      have hcy := hG.cell (hcb j hlt)
      clear hca hcb a4 b4
      generalize dig 4294967296 N j = x at *
      go_wp2_with fail
      go_quiet (fail)
      go_wp2
      go_roundg (gk - 1)
      case rel => exact ⟨j + 1, by omega, by go_num, by first | exact hG.drewN _ | exact (hG.drewN _).drewN _⟩
      case measure => omega
    · obtain rfl : j = n := by omega
      go_wp2_with fail
      go_ret
      exact ⟨rfl, hG⟩

set_option maxRecDepth 100000 in
set_option maxHeartbeats 4000000 in
theorem r2same_yes (b : Bool) (A C : Option Addr) (N n c d : Nat) (w : World) (ha : Num 4294967296 .u32 w (.slice A n c) N n) (hb : Num 4294967296 .u32 w (.slice C n d) N n) :
    Calls Tryz.prog 86 #[.agg #[.bool b, .slice A n c], .agg #[.bool b, .slice C n d]] w fun e w' => e = .returned (.bool true) ∧ Grew w w' := by
  have Fa := Lib.hid ha
  have Fb := Lib.hid hb
  clear ha hb
  go_enter Tryz.func86, Tryz.ntmps86
  go_wp2_with fail
  refine gen_calls ?_
  intro W0 hW0
  have G0 : Grew w W0 := by rw [hW0]; exact ((Grew.refl w).alloc _).alloc _
  have P : Box2 W0 (w.heap.size) 0 (.bool b) (.slice A n c) := by rw [hW0]; exact ⟨by simp [go_sem], by simp [go_sem]⟩
  replace P := Lib.hid P
  have Q : Box2 W0 (w.heap.size + 1) 0 (.bool b) (.slice C n d) := by rw [hW0]; exact ⟨by simp [go_sem], by simp [go_sem]⟩
  replace Q := Lib.hid Q
  have z0 : w.heap.size < W0.heap.size := by rw [hW0]; simp <;> omega
  replace z0 := Lib.hid z0
  have z1 : w.heap.size + 1 < W0.heap.size := by rw [hW0]; simp <;> omega
  replace z1 := Lib.hid z1
  clear hW0
  replace Fa := Lib.hid (Fa.out.kept G0.keeps)
  replace Fb := Lib.hid (Fb.out.kept G0.keeps)
  replace G0 := Lib.hid G0
  refine (r1same_yes A C N n c d _ Fa.out Fb.out).mono ?_
  rintro e w1 ⟨rfl, g1⟩
  replace P := Lib.hid (P.out.grew g1)
  replace Q := Lib.hid (Q.out.grew g1)
  replace z0 := Lib.hid (lt_grew z0.out g1)
  replace z1 := Lib.hid (lt_grew z1.out g1)
  replace Fa := Lib.hid (Fa.out.kept g1.keeps)
  replace Fb := Lib.hid (Fb.out.kept g1.keeps)
  replace G0 := Lib.hid (G0.out.trans g1)
  clear g1
  go_wp2_with fail
  go_ret
  exact ⟨rfl, G0.out⟩

/-- Two answers that are one fraction: the same signs and lengths, and both read. -/
theorem FracC.both {w : World} {V V' : Value} {q : Rat} (h : FracC w V q) (h' : FracC w V' q) : ∃ b A A' n c c' C C' m d d' N D, V = .agg #[.bool b, .slice A n c, .slice C m d] ∧ V' = .agg #[.bool b, .slice A' n c', .slice C' m d'] ∧
    Hid (Num 4294967296 .u32 w (.slice A n c) N n) ∧ Hid (Num 4294967296 .u32 w (.slice A' n c') N n) ∧ Hid (Num 4294967296 .u32 w (.slice C m d) D m) ∧ Hid (Num 4294967296 .u32 w (.slice C' m d') D m) := by
  obtain ⟨va, vd, rfl, h1, h2, -⟩ := h
  obtain ⟨va', vd', rfl, h1', h2', -⟩ := h'
  obtain ⟨A, c, rfl, -⟩ := id h1
  obtain ⟨C, d, rfl, -⟩ := id h2
  obtain ⟨A', c', rfl, -⟩ := id h1'
  obtain ⟨C', d', rfl, -⟩ := id h2'
  exact ⟨_, A, A', _, c, c', C, C', _, d, d', _, _, rfl, rfl, h1, h1', h2, h2'⟩

set_option maxRecDepth 100000 in
set_option maxHeartbeats 4000000 in
theorem r4same_yes (Va Vb : Value) (q : Rat) (w : World) (ha : FracC w Va q) (hb : FracC w Vb q) :
    Calls Tryz.prog 49 #[Va, Vb] w fun e w' => e = .returned (.bool true) ∧ Grew w w' := by
  obtain ⟨b1, A1, A2, n1, c1, c2, C1, C2, m1, d1, d2, N, D, rfl, rfl, Fa, Fb, Fc, Fd⟩ := ha.both hb
  clear ha hb
  go_enter Tryz.func49, Tryz.ntmps49
  go_wp2_with fail
  refine gen_calls ?_
  intro W0 hW0
  have G0 : Grew w W0 := by rw [hW0]; exact ((Grew.refl w).alloc _).alloc _
  have P : Box3 W0 (w.heap.size) 0 (.bool b1) (.slice A1 n1 c1) (.slice C1 m1 d1) := by rw [hW0]; exact ⟨by simp [go_sem], by simp [go_sem], by simp [go_sem]⟩
  replace P := Lib.hid P
  have Q : Box3 W0 (w.heap.size + 1) 0 (.bool b1) (.slice A2 n1 c2) (.slice C2 m1 d2) := by rw [hW0]; exact ⟨by simp [go_sem], by simp [go_sem], by simp [go_sem]⟩
  replace Q := Lib.hid Q
  have z0 : w.heap.size < W0.heap.size := by rw [hW0]; simp <;> omega
  replace z0 := Lib.hid z0
  have z1 : w.heap.size + 1 < W0.heap.size := by rw [hW0]; simp <;> omega
  replace z1 := Lib.hid z1
  clear hW0
  replace Fa := Lib.hid (Fa.out.kept G0.keeps)
  replace Fb := Lib.hid (Fb.out.kept G0.keeps)
  replace Fc := Lib.hid (Fc.out.kept G0.keeps)
  replace Fd := Lib.hid (Fd.out.kept G0.keeps)
  replace G0 := Lib.hid G0
  refine (r2same_yes b1 A1 A2 N n1 c1 c2 _ Fa.out Fb.out).mono ?_
  rintro e w1 ⟨rfl, g1⟩
  replace P := Lib.hid (P.out.grew g1)
  replace Q := Lib.hid (Q.out.grew g1)
  replace z0 := Lib.hid (lt_grew z0.out g1)
  replace z1 := Lib.hid (lt_grew z1.out g1)
  replace Fa := Lib.hid (Fa.out.kept g1.keeps)
  replace Fb := Lib.hid (Fb.out.kept g1.keeps)
  replace Fc := Lib.hid (Fc.out.kept g1.keeps)
  replace Fd := Lib.hid (Fd.out.kept g1.keeps)
  replace G0 := Lib.hid (G0.out.trans g1)
  clear g1
  obtain ⟨P0, P1, P2⟩ := P.out
  obtain ⟨Q0, Q1, Q2⟩ := Q.out
  go_wp2_with fail
  clear P0 P1 P2 Q0 Q1 Q2
  refine (r1same_yes C1 C2 D m1 d1 d2 _ Fc.out Fd.out).mono ?_
  rintro e w2 ⟨rfl, g2⟩
  replace P := Lib.hid (P.out.grew g2)
  replace Q := Lib.hid (Q.out.grew g2)
  replace z0 := Lib.hid (lt_grew z0.out g2)
  replace z1 := Lib.hid (lt_grew z1.out g2)
  replace Fa := Lib.hid (Fa.out.kept g2.keeps)
  replace Fb := Lib.hid (Fb.out.kept g2.keeps)
  replace Fc := Lib.hid (Fc.out.kept g2.keeps)
  replace Fd := Lib.hid (Fd.out.kept g2.keeps)
  replace G0 := Lib.hid (G0.out.trans g2)
  clear g2
  go_wp2_with fail
  go_ret
  exact ⟨rfl, G0.out⟩

set_option maxRecDepth 100000 in
set_option maxHeartbeats 4000000 in
theorem r5same_yes (Va Vb : Value) (x y : Rat) (w : World) (ha : SpotC w Va x y) (hb : SpotC w Vb x y) :
    Calls Tryz.prog 16 #[Va, Vb] w fun e w' => e = .returned (.bool true) ∧ Grew w w' := by
  obtain ⟨b1, A1, n1, c1, C1, m1, d1, b2, A2, n2, c2, C2, m2, d2, rfl, Fa, Fb, -⟩ := ha.laid
  obtain ⟨b3, A3, n3, c3, C3, m3, d3, b4, A4, n4, c4, C4, m4, d4, rfl, Fc, Fd, -⟩ := hb.laid
  clear ha hb
  go_enter Tryz.func16, Tryz.ntmps16
  go_wp2_with fail
  refine gen_calls ?_
  intro W0 hW0
  have G0 : Grew w W0 := by rw [hW0]; exact ((Grew.refl w).alloc _).alloc _
  have P : Box3 W0 (w.heap.size) 0 (.bool b1) (.slice A1 n1 c1) (.slice C1 m1 d1) := by rw [hW0]; exact ⟨by simp [go_sem], by simp [go_sem], by simp [go_sem]⟩
  replace P := Lib.hid P
  have Py : Box3 W0 (w.heap.size) 3 (.bool b2) (.slice A2 n2 c2) (.slice C2 m2 d2) := by rw [hW0]; exact ⟨by simp [go_sem], by simp [go_sem], by simp [go_sem]⟩
  replace Py := Lib.hid Py
  have Q : Box3 W0 (w.heap.size + 1) 0 (.bool b3) (.slice A3 n3 c3) (.slice C3 m3 d3) := by rw [hW0]; exact ⟨by simp [go_sem], by simp [go_sem], by simp [go_sem]⟩
  replace Q := Lib.hid Q
  have Qy : Box3 W0 (w.heap.size + 1) 3 (.bool b4) (.slice A4 n4 c4) (.slice C4 m4 d4) := by rw [hW0]; exact ⟨by simp [go_sem], by simp [go_sem], by simp [go_sem]⟩
  replace Qy := Lib.hid Qy
  have z0 : w.heap.size < W0.heap.size := by rw [hW0]; simp <;> omega
  replace z0 := Lib.hid z0
  have z1 : w.heap.size + 1 < W0.heap.size := by rw [hW0]; simp <;> omega
  replace z1 := Lib.hid z1
  clear hW0
  replace Fa := Lib.hid (Fa.out.kept G0.keeps)
  replace Fb := Lib.hid (Fb.out.kept G0.keeps)
  replace Fc := Lib.hid (Fc.out.kept G0.keeps)
  replace Fd := Lib.hid (Fd.out.kept G0.keeps)
  replace G0 := Lib.hid G0
  refine (r4same_yes _ _ x _ Fa.out Fc.out).mono ?_
  rintro e w1 ⟨rfl, g1⟩
  replace P := Lib.hid (P.out.grew g1)
  replace Py := Lib.hid (Py.out.grew g1)
  replace Q := Lib.hid (Q.out.grew g1)
  replace Qy := Lib.hid (Qy.out.grew g1)
  replace z0 := Lib.hid (lt_grew z0.out g1)
  replace z1 := Lib.hid (lt_grew z1.out g1)
  replace Fa := Lib.hid (Fa.out.kept g1.keeps)
  replace Fb := Lib.hid (Fb.out.kept g1.keeps)
  replace Fc := Lib.hid (Fc.out.kept g1.keeps)
  replace Fd := Lib.hid (Fd.out.kept g1.keeps)
  replace G0 := Lib.hid (G0.out.trans g1)
  clear g1
  obtain ⟨P0, P1, P2⟩ := P.out
  obtain ⟨Py0, Py1, Py2⟩ := Py.out
  obtain ⟨Q0, Q1, Q2⟩ := Q.out
  obtain ⟨Qy0, Qy1, Qy2⟩ := Qy.out
  go_wp2_with fail
  clear P0 P1 P2 Py0 Py1 Py2 Q0 Q1 Q2 Qy0 Qy1 Qy2
  refine (r4same_yes _ _ y _ Fb.out Fd.out).mono ?_
  rintro e w2 ⟨rfl, g2⟩
  replace P := Lib.hid (P.out.grew g2)
  replace Py := Lib.hid (Py.out.grew g2)
  replace Q := Lib.hid (Q.out.grew g2)
  replace Qy := Lib.hid (Qy.out.grew g2)
  replace z0 := Lib.hid (lt_grew z0.out g2)
  replace z1 := Lib.hid (lt_grew z1.out g2)
  replace Fa := Lib.hid (Fa.out.kept g2.keeps)
  replace Fb := Lib.hid (Fb.out.kept g2.keeps)
  replace Fc := Lib.hid (Fc.out.kept g2.keeps)
  replace Fd := Lib.hid (Fd.out.kept g2.keeps)
  replace G0 := Lib.hid (G0.out.trans g2)
  clear g2
  go_wp2_with fail
  go_ret
  exact ⟨rfl, G0.out⟩
end Go.Proofs.YtpglnfccmhkocaaGreat
namespace Go.Proofs.YtpglnfccmhkocaaGreat
open Go.RowKit

set_option maxRecDepth 100000 in
set_option maxHeartbeats 8000000 in
theorem rat5_any (x y : Int) (w : World) (x0 : -9223372036854775808 ≤ x) (x1 : x ≤ 9223372036854775807) (y0 : -9223372036854775808 ≤ y) (y1 : y ≤ 9223372036854775807) :
    Calls Tryz.prog 13 #[.agg #[.int .i64 x, .int .i64 y]] w fun e w' => ∃ V, e = .returned V ∧ SpotC w' V (x : Rat) (y : Rat) ∧ Grew w w' := by
  go_enter Tryz.func13, Tryz.ntmps13
  go_wp2_with fail
  refine gen_wp ?_
  intro W0 hW0
  have G0 : Grew w W0 := by rw [hW0]; exact ((Grew.refl w).alloc _).alloc _
  have P : Box2 W0 (w.heap.size) 0 (.int .i64 x) (.int .i64 y) := by rw [hW0]; exact ⟨by simp [go_sem], by simp [go_sem]⟩
  replace P := Lib.hid P
  have R : Res3 W0 (w.heap.size + 1) 0 (.bool false) (.slice none 0 0) (.slice none 0 0) := by rw [hW0]; exact ⟨by simp [go_sem], by simp [go_sem], by simp [go_sem], by simp [go_sem], by simp [go_sem], by simp [go_sem], by simp⟩
  replace R := Lib.hid R
  have R_ : Res3 W0 (w.heap.size + 1) 3 (.bool false) (.slice none 0 0) (.slice none 0 0) := by rw [hW0]; exact ⟨by simp [go_sem], by simp [go_sem], by simp [go_sem], by simp [go_sem], by simp [go_sem], by simp [go_sem], by simp⟩
  replace R_ := Lib.hid R_
  have z0 : w.heap.size < W0.heap.size := by rw [hW0]; simp <;> omega
  replace z0 := Lib.hid z0
  have z1 : w.heap.size + 1 < W0.heap.size := by rw [hW0]; simp <;> omega
  replace z1 := Lib.hid z1
  clear hW0
  replace G0 := Lib.hid G0
  have gd : Grew W0 W0.drew := (Grew.refl W0).drew
  replace R := Lib.hid (R.out.grew gd)
  replace R_ := Lib.hid (R_.out.grew gd)
  replace P := Lib.hid (P.out.grew gd)
  replace z0 := Lib.hid (lt_grew z0.out gd)
  replace z1 := Lib.hid (lt_grew z1.out gd)
  replace gd := Lib.hid gd
  have ZP := P
  go_region_held3 (fun w' => w'.cell? ⟨w.heap.size, 0, none⟩ = some (.int .i64 x) ∧ w'.cell? ⟨w.heap.size, 1, none⟩ = some (.int .i64 y))
    (first | (with_reducible exact ⟨ZP.out.p0, ZP.out.p1⟩) | (with_reducible exact ⟨g1.cell ZP.out.p0, g1.cell ZP.out.p1⟩) | (with_reducible exact ⟨(g1.trans g2).cell ZP.out.p0, (g1.trans g2).cell ZP.out.p1⟩) | (with_reducible exact ⟨other3 (o := 3) (by omega) (other3 (o := 0) (by omega) ((g1.trans g2).cell ZP.out.p0)), other3 (o := 3) (by omega) (other3 (o := 0) (by omega) ((g1.trans g2).cell ZP.out.p1))⟩))
    (first | (go_at_call 41; refine (rfint_any x _ x0 x1).mono ?_; rintro e w1 ⟨V1, rfl, hV1, g1⟩; obtain ⟨b13, A13, n13, c13, C13, m13, d13, rfl, X1⟩ := hV1.laid; clear hV1; replace R := Lib.hid (R.out.grew g1); replace R_ := Lib.hid (R_.out.grew g1); replace P := Lib.hid (P.out.grew g1); replace z0 := Lib.hid (lt_grew z0.out g1); replace z1 := Lib.hid (lt_grew z1.out g1)) | (go_at_call 41; refine (rfint_any y _ y0 y1).mono ?_; rintro e w2 ⟨V2, rfl, hV2, g2⟩; obtain ⟨b14, A14, n14, c14, C14, m14, d14, rfl, X2⟩ := hV2.laid; clear hV2; replace R := Lib.hid (R.out.grew g2); replace R_ := Lib.hid (R_.out.grew g2); replace P := Lib.hid (P.out.grew g2); replace z0 := Lib.hid (lt_grew z0.out g2); replace z1 := Lib.hid (lt_grew z1.out g2); replace X1 := Lib.hid (X1.out.kept g2.keeps); obtain ⟨R0, R1, R2, Rf0, Rf1, Rf2, Rs⟩ := R.out; obtain ⟨R_0, R_1, R_2, R_f0, R_f1, R_f2, R_s⟩ := R_.out))
  replace G0 := Lib.hid (((G0.out.trans gd.out).trans g1).trans g2)
  clear gd g1 g2 ZP
  refine gen_then ?_
  intro W9 hW9
  obtain ⟨q0, q1, q2, q3, q4, q5, qK, qG⟩ := store6 R0 R1 R2 R_0 R_1 R_2 hW9
  have GE := qG w (by omega) G0.out
  have QK := Lib.hid qK
  clear qK qG hW9 R0 R1 R2 R_0 R_1 R_2
  go_wp2_with fail
  exact bodyPost_ret (v := .agg #[.bool b13, .slice A13 n13 c13, .slice C13 m13 d13, .bool b14, .slice A14 n14 c14, .slice C14 m14 d14]) (by simp [results, Tryz.results13, go_sem, q0, q1, q2, q3, q4, q5]) rfl ⟨_, rfl, SpotC.mk (X1.out.kept QK.out) (X2.out.kept QK.out), GE⟩

/-- How two spots stand: by the first part, then by the second. -/
def spotCmp (ax ay bx b_y : Rat) : Int := if cmpQ ax bx = 0 then cmpQ ay b_y else cmpQ ax bx

set_option maxRecDepth 100000 in
set_option maxHeartbeats 8000000 in
theorem rscmp_any (Va Vb : Value) (ax ay bx b_y : Rat) (k : Nat) (w : World) (ha : SpotR w Va ax ay k) (hb : SpotR w Vb bx b_y k) (hk : 1 ≤ k) (hs : k < 67108864) :
    Calls Tryz.prog 20 #[Va, Vb] w fun e w' => e = .returned (.int .i64 (spotCmp ax ay bx b_y)) ∧ Grew w w' := by
  obtain ⟨b1, A1, n1, c1, C1, m1, d1, b2, A2, n2, c2, C2, m2, d2, rfl, Fa, Fb, -⟩ := ha.laid
  obtain ⟨b3, A3, n3, c3, C3, m3, d3, b4, A4, n4, c4, C4, m4, d4, rfl, Fc, Fd, -⟩ := hb.laid
  clear ha hb
  have hk0 : 1 ≤ k ∧ 1 ≤ k := ⟨hk, hk⟩
  have hs0 : k < 1073741824 ∧ k < 1073741824 := by omega
  have eO : spotCmp ax ay bx b_y = if cmpQ ax bx = 0 then cmpQ ay b_y else cmpQ ax bx := rfl
  generalize spotCmp ax ay bx b_y = oo at *
  obtain ⟨x, hx⟩ : ∃ x, cmpQ ax bx = x := ⟨_, rfl⟩
  rw [hx] at eO
  replace hx := Lib.hid hx
  replace eO := Lib.hid eO
  go_enter Tryz.func20, Tryz.ntmps20
  go_wp2_with fail
  refine gen_calls ?_
  intro W0 hW0
  have G0 : Grew w W0 := by rw [hW0]; exact ((Grew.refl w).alloc _).alloc _
  have P : Box3 W0 (w.heap.size) 0 (.bool b1) (.slice A1 n1 c1) (.slice C1 m1 d1) := by rw [hW0]; exact ⟨by simp [go_sem], by simp [go_sem], by simp [go_sem]⟩
  replace P := Lib.hid P
  have Py : Box3 W0 (w.heap.size) 3 (.bool b2) (.slice A2 n2 c2) (.slice C2 m2 d2) := by rw [hW0]; exact ⟨by simp [go_sem], by simp [go_sem], by simp [go_sem]⟩
  replace Py := Lib.hid Py
  have Q : Box3 W0 (w.heap.size + 1) 0 (.bool b3) (.slice A3 n3 c3) (.slice C3 m3 d3) := by rw [hW0]; exact ⟨by simp [go_sem], by simp [go_sem], by simp [go_sem]⟩
  replace Q := Lib.hid Q
  have Qy : Box3 W0 (w.heap.size + 1) 3 (.bool b4) (.slice A4 n4 c4) (.slice C4 m4 d4) := by rw [hW0]; exact ⟨by simp [go_sem], by simp [go_sem], by simp [go_sem]⟩
  replace Qy := Lib.hid Qy
  have z0 : w.heap.size < W0.heap.size := by rw [hW0]; simp <;> omega
  replace z0 := Lib.hid z0
  have z1 : w.heap.size + 1 < W0.heap.size := by rw [hW0]; simp <;> omega
  replace z1 := Lib.hid z1
  clear hW0
  replace Fa := Lib.hid (Fa.out.kept G0.keeps)
  replace Fb := Lib.hid (Fb.out.kept G0.keeps)
  replace Fc := Lib.hid (Fc.out.kept G0.keeps)
  replace Fd := Lib.hid (Fd.out.kept G0.keeps)
  replace G0 := Lib.hid G0
  refine (rfcmp_any _ _ ax bx k k _ Fa.out Fc.out hk0 hs0).mono ?_
  rintro e w1 ⟨rfl, g1⟩
  replace P := Lib.hid (P.out.grew g1)
  replace Py := Lib.hid (Py.out.grew g1)
  replace Q := Lib.hid (Q.out.grew g1)
  replace Qy := Lib.hid (Qy.out.grew g1)
  replace z0 := Lib.hid (lt_grew z0.out g1)
  replace z1 := Lib.hid (lt_grew z1.out g1)
  replace Fa := Lib.hid (Fa.out.kept g1.keeps)
  replace Fb := Lib.hid (Fb.out.kept g1.keeps)
  replace Fc := Lib.hid (Fc.out.kept g1.keeps)
  replace Fd := Lib.hid (Fd.out.kept g1.keeps)
  replace G0 := Lib.hid (G0.out.trans g1)
  clear g1
  rw [hx.out]

  by_cases h0 : x = 0
  · as_aux_lemma =>
    subst h0
    have eO' := Lib.hid (eO.out.trans (if_pos rfl))
    obtain ⟨P0, P1, P2⟩ := P.out
    obtain ⟨Py0, Py1, Py2⟩ := Py.out
    obtain ⟨Q0, Q1, Q2⟩ := Q.out
    obtain ⟨Qy0, Qy1, Qy2⟩ := Qy.out
    go_wp2_with fail
    clear P0 P1 P2 Py0 Py1 Py2 Q0 Q1 Q2 Qy0 Qy1 Qy2
    refine (rfcmp_any _ _ ay b_y k k _ Fb.out Fd.out hk0 hs0).mono ?_
    rintro e w2 ⟨rfl, g2⟩
    replace P := Lib.hid (P.out.grew g2)
    replace Py := Lib.hid (Py.out.grew g2)
    replace Q := Lib.hid (Q.out.grew g2)
    replace Qy := Lib.hid (Qy.out.grew g2)
    replace z0 := Lib.hid (lt_grew z0.out g2)
    replace z1 := Lib.hid (lt_grew z1.out g2)
    replace Fa := Lib.hid (Fa.out.kept g2.keeps)
    replace Fb := Lib.hid (Fb.out.kept g2.keeps)
    replace Fc := Lib.hid (Fc.out.kept g2.keeps)
    replace Fd := Lib.hid (Fd.out.kept g2.keeps)
    replace G0 := Lib.hid (G0.out.trans g2)
    clear g2
    go_wp2_with fail
    go_ret
    exact ⟨by rw [eO'.out]; rfl, G0.out⟩
  · as_aux_lemma =>

    have eO' := Lib.hid (eO.out.trans (if_neg h0))
    have hxb : (x == 0) = false := by simpa using h0
    obtain ⟨P0, P1, P2⟩ := P.out
    obtain ⟨Py0, Py1, Py2⟩ := Py.out
    obtain ⟨Q0, Q1, Q2⟩ := Q.out
    obtain ⟨Qy0, Qy1, Qy2⟩ := Qy.out
    go_wp2_with fail
    clear P0 P1 P2 Py0 Py1 Py2 Q0 Q1 Q2 Qy0 Qy1 Qy2
    refine (rfcmp_any _ _ ax bx k k _ Fa.out Fc.out hk0 hs0).mono ?_
    rintro e w2 ⟨rfl, g2⟩
    replace P := Lib.hid (P.out.grew g2)
    replace Py := Lib.hid (Py.out.grew g2)
    replace Q := Lib.hid (Q.out.grew g2)
    replace Qy := Lib.hid (Qy.out.grew g2)
    replace z0 := Lib.hid (lt_grew z0.out g2)
    replace z1 := Lib.hid (lt_grew z1.out g2)
    replace Fa := Lib.hid (Fa.out.kept g2.keeps)
    replace Fb := Lib.hid (Fb.out.kept g2.keeps)
    replace Fc := Lib.hid (Fc.out.kept g2.keeps)
    replace Fd := Lib.hid (Fd.out.kept g2.keeps)
    replace G0 := Lib.hid (G0.out.trans g2)
    clear g2
    rw [hx.out]
    go_wp2_with fail
    go_ret
    exact ⟨by rw [eO'.out]; rfl, G0.out⟩

set_option maxRecDepth 100000 in
set_option maxHeartbeats 8000000 in
theorem rtoward_any (Va Vb Vc : Value) (ax ay bx b_y t : Rat) (k l : Nat) (w : World) (ha : SpotR w Va ax ay k) (hb : SpotR w Vb bx b_y k) (hc : FracR w Vc t l) (hk : 1 ≤ k) (hl : 1 ≤ l) (hs : k < 67108864) (hs9 : l < 67108864) :
    Calls Tryz.prog 23 #[Va, Vb, Vc] w fun e w' => ∃ V, e = .returned V ∧ SpotC w' V (ax + t * (bx - ax)) (ay + t * (b_y - ay)) ∧ Grew w w' := by
  obtain ⟨b1, A1, n1, c1, C1, m1, d1, b2, A2, n2, c2, C2, m2, d2, rfl, Fa, Fb, -⟩ := ha.laid
  obtain ⟨b3, A3, n3, c3, C3, m3, d3, b4, A4, n4, c4, C4, m4, d4, rfl, Fc, Fd, -⟩ := hb.laid
  obtain ⟨b5, A5, n5, c5, C5, m5, d5, rfl, Fe⟩ := hc.laid
  clear ha hb hc
  have hk0 : 1 ≤ k ∧ 1 ≤ k := ⟨hk, hk⟩
  have hk1 : 1 ≤ l ∧ 1 ≤ k + k + 1 := by omega
  have hk2 : 1 ≤ k ∧ 1 ≤ l + (k + k + 1) := by omega
  have hs0 : k < 1073741824 ∧ k < 1073741824 := by omega
  have hs1 : l < 1073741824 ∧ k + k + 1 < 1073741824 := by omega
  have hs2 : k < 1073741824 ∧ l + (k + k + 1) < 1073741824 := by omega
  have q1 := Lib.hid (Fa.out.v.qb hk)
  have q2 := Lib.hid (Fb.out.v.qb hk)
  have q3 := Lib.hid (Fc.out.v.qb hk)
  have q4 := Lib.hid (Fd.out.v.qb hk)
  have q5 := Lib.hid (Fe.out.v.qb hl)
  have q6 := Lib.hid (q3.out.sub q1.out)
  have q7 := Lib.hid (q4.out.sub q2.out)
  have q8 := Lib.hid (q5.out.mul q6.out)
  have q9 := Lib.hid (q5.out.mul q7.out)
  go_enter Tryz.func23, Tryz.ntmps23
  go_wp2_with fail
  refine gen_wp ?_
  intro W0 hW0
  have G0 : Grew w W0 := by rw [hW0]; exact ((((Grew.refl w).alloc _).alloc _).alloc _).alloc _
  have P : Box3 W0 (w.heap.size) 0 (.bool b1) (.slice A1 n1 c1) (.slice C1 m1 d1) := by rw [hW0]; exact ⟨by simp [go_sem], by simp [go_sem], by simp [go_sem]⟩
  replace P := Lib.hid P
  have Py : Box3 W0 (w.heap.size) 3 (.bool b2) (.slice A2 n2 c2) (.slice C2 m2 d2) := by rw [hW0]; exact ⟨by simp [go_sem], by simp [go_sem], by simp [go_sem]⟩
  replace Py := Lib.hid Py
  have Q : Box3 W0 (w.heap.size + 1) 0 (.bool b3) (.slice A3 n3 c3) (.slice C3 m3 d3) := by rw [hW0]; exact ⟨by simp [go_sem], by simp [go_sem], by simp [go_sem]⟩
  replace Q := Lib.hid Q
  have Qy : Box3 W0 (w.heap.size + 1) 3 (.bool b4) (.slice A4 n4 c4) (.slice C4 m4 d4) := by rw [hW0]; exact ⟨by simp [go_sem], by simp [go_sem], by simp [go_sem]⟩
  replace Qy := Lib.hid Qy
  have S : Box3 W0 (w.heap.size + 1 + 1) 0 (.bool b5) (.slice A5 n5 c5) (.slice C5 m5 d5) := by rw [hW0]; exact ⟨by simp [go_sem], by simp [go_sem], by simp [go_sem]⟩
  replace S := Lib.hid S
  have R : Res3 W0 (w.heap.size + 1 + 1 + 1) 0 (.bool false) (.slice none 0 0) (.slice none 0 0) := by rw [hW0]; exact ⟨by simp [go_sem], by simp [go_sem], by simp [go_sem], by simp [go_sem], by simp [go_sem], by simp [go_sem], by simp⟩
  replace R := Lib.hid R
  have R_ : Res3 W0 (w.heap.size + 1 + 1 + 1) 3 (.bool false) (.slice none 0 0) (.slice none 0 0) := by rw [hW0]; exact ⟨by simp [go_sem], by simp [go_sem], by simp [go_sem], by simp [go_sem], by simp [go_sem], by simp [go_sem], by simp⟩
  replace R_ := Lib.hid R_
  have z0 : w.heap.size < W0.heap.size := by rw [hW0]; simp <;> omega
  replace z0 := Lib.hid z0
  have z1 : w.heap.size + 1 < W0.heap.size := by rw [hW0]; simp <;> omega
  replace z1 := Lib.hid z1
  have z2 : w.heap.size + 1 + 1 < W0.heap.size := by rw [hW0]; simp <;> omega
  replace z2 := Lib.hid z2
  have z3 : w.heap.size + 1 + 1 + 1 < W0.heap.size := by rw [hW0]; simp <;> omega
  replace z3 := Lib.hid z3
  clear hW0
  replace Fa := Lib.hid (Fa.out.kept G0.keeps)
  replace Fb := Lib.hid (Fb.out.kept G0.keeps)
  replace Fc := Lib.hid (Fc.out.kept G0.keeps)
  replace Fd := Lib.hid (Fd.out.kept G0.keeps)
  replace Fe := Lib.hid (Fe.out.kept G0.keeps)
  replace G0 := Lib.hid G0
  have gd : Grew W0 W0.drew := (Grew.refl W0).drew
  replace R := Lib.hid (R.out.grew gd)
  replace R_ := Lib.hid (R_.out.grew gd)
  replace P := Lib.hid (P.out.grew gd)
  replace Py := Lib.hid (Py.out.grew gd)
  replace Q := Lib.hid (Q.out.grew gd)
  replace Qy := Lib.hid (Qy.out.grew gd)
  replace S := Lib.hid (S.out.grew gd)
  replace z0 := Lib.hid (lt_grew z0.out gd)
  replace z1 := Lib.hid (lt_grew z1.out gd)
  replace z2 := Lib.hid (lt_grew z2.out gd)
  replace z3 := Lib.hid (lt_grew z3.out gd)
  replace Fa := Lib.hid (Fa.out.kept gd.keeps)
  replace Fb := Lib.hid (Fb.out.kept gd.keeps)
  replace Fc := Lib.hid (Fc.out.kept gd.keeps)
  replace Fd := Lib.hid (Fd.out.kept gd.keeps)
  replace Fe := Lib.hid (Fe.out.kept gd.keeps)
  replace gd := Lib.hid gd
  have ZP := P
  have ZPy := Py
  have ZQ := Q
  have ZQy := Qy
  have ZS := S
  go_region_held3 (fun w' => w'.cell? ⟨w.heap.size, 0, none⟩ = some (.bool b1) ∧ w'.cell? ⟨w.heap.size, 1, none⟩ = some (.slice A1 n1 c1) ∧ w'.cell? ⟨w.heap.size, 2, none⟩ = some (.slice C1 m1 d1) ∧ w'.cell? ⟨w.heap.size, 3, none⟩ = some (.bool b2) ∧ w'.cell? ⟨w.heap.size, 4, none⟩ = some (.slice A2 n2 c2) ∧ w'.cell? ⟨w.heap.size, 5, none⟩ = some (.slice C2 m2 d2) ∧ w'.cell? ⟨w.heap.size + 1, 0, none⟩ = some (.bool b3) ∧ w'.cell? ⟨w.heap.size + 1, 1, none⟩ = some (.slice A3 n3 c3) ∧ w'.cell? ⟨w.heap.size + 1, 2, none⟩ = some (.slice C3 m3 d3) ∧ w'.cell? ⟨w.heap.size + 1, 3, none⟩ = some (.bool b4) ∧ w'.cell? ⟨w.heap.size + 1, 4, none⟩ = some (.slice A4 n4 c4) ∧ w'.cell? ⟨w.heap.size + 1, 5, none⟩ = some (.slice C4 m4 d4) ∧ w'.cell? ⟨w.heap.size + 1 + 1, 0, none⟩ = some (.bool b5) ∧ w'.cell? ⟨w.heap.size + 1 + 1, 1, none⟩ = some (.slice A5 n5 c5) ∧ w'.cell? ⟨w.heap.size + 1 + 1, 2, none⟩ = some (.slice C5 m5 d5))
    (first | (with_reducible exact ⟨ZP.out.p0, ZP.out.p1, ZP.out.p2, ZPy.out.p0, ZPy.out.p1, ZPy.out.p2, ZQ.out.p0, ZQ.out.p1, ZQ.out.p2, ZQy.out.p0, ZQy.out.p1, ZQy.out.p2, ZS.out.p0, ZS.out.p1, ZS.out.p2⟩) | (with_reducible exact ⟨g1.cell ZP.out.p0, g1.cell ZP.out.p1, g1.cell ZP.out.p2, g1.cell ZPy.out.p0, g1.cell ZPy.out.p1, g1.cell ZPy.out.p2, g1.cell ZQ.out.p0, g1.cell ZQ.out.p1, g1.cell ZQ.out.p2, g1.cell ZQy.out.p0, g1.cell ZQy.out.p1, g1.cell ZQy.out.p2, g1.cell ZS.out.p0, g1.cell ZS.out.p1, g1.cell ZS.out.p2⟩) | (with_reducible exact ⟨(g1.trans g2).cell ZP.out.p0, (g1.trans g2).cell ZP.out.p1, (g1.trans g2).cell ZP.out.p2, (g1.trans g2).cell ZPy.out.p0, (g1.trans g2).cell ZPy.out.p1, (g1.trans g2).cell ZPy.out.p2, (g1.trans g2).cell ZQ.out.p0, (g1.trans g2).cell ZQ.out.p1, (g1.trans g2).cell ZQ.out.p2, (g1.trans g2).cell ZQy.out.p0, (g1.trans g2).cell ZQy.out.p1, (g1.trans g2).cell ZQy.out.p2, (g1.trans g2).cell ZS.out.p0, (g1.trans g2).cell ZS.out.p1, (g1.trans g2).cell ZS.out.p2⟩) | (with_reducible exact ⟨((g1.trans g2).trans g3).cell ZP.out.p0, ((g1.trans g2).trans g3).cell ZP.out.p1, ((g1.trans g2).trans g3).cell ZP.out.p2, ((g1.trans g2).trans g3).cell ZPy.out.p0, ((g1.trans g2).trans g3).cell ZPy.out.p1, ((g1.trans g2).trans g3).cell ZPy.out.p2, ((g1.trans g2).trans g3).cell ZQ.out.p0, ((g1.trans g2).trans g3).cell ZQ.out.p1, ((g1.trans g2).trans g3).cell ZQ.out.p2, ((g1.trans g2).trans g3).cell ZQy.out.p0, ((g1.trans g2).trans g3).cell ZQy.out.p1, ((g1.trans g2).trans g3).cell ZQy.out.p2, ((g1.trans g2).trans g3).cell ZS.out.p0, ((g1.trans g2).trans g3).cell ZS.out.p1, ((g1.trans g2).trans g3).cell ZS.out.p2⟩) | (with_reducible exact ⟨(((g1.trans g2).trans g3).trans g4).cell ZP.out.p0, (((g1.trans g2).trans g3).trans g4).cell ZP.out.p1, (((g1.trans g2).trans g3).trans g4).cell ZP.out.p2, (((g1.trans g2).trans g3).trans g4).cell ZPy.out.p0, (((g1.trans g2).trans g3).trans g4).cell ZPy.out.p1, (((g1.trans g2).trans g3).trans g4).cell ZPy.out.p2, (((g1.trans g2).trans g3).trans g4).cell ZQ.out.p0, (((g1.trans g2).trans g3).trans g4).cell ZQ.out.p1, (((g1.trans g2).trans g3).trans g4).cell ZQ.out.p2, (((g1.trans g2).trans g3).trans g4).cell ZQy.out.p0, (((g1.trans g2).trans g3).trans g4).cell ZQy.out.p1, (((g1.trans g2).trans g3).trans g4).cell ZQy.out.p2, (((g1.trans g2).trans g3).trans g4).cell ZS.out.p0, (((g1.trans g2).trans g3).trans g4).cell ZS.out.p1, (((g1.trans g2).trans g3).trans g4).cell ZS.out.p2⟩) | (with_reducible exact ⟨((((g1.trans g2).trans g3).trans g4).trans g5).cell ZP.out.p0, ((((g1.trans g2).trans g3).trans g4).trans g5).cell ZP.out.p1, ((((g1.trans g2).trans g3).trans g4).trans g5).cell ZP.out.p2, ((((g1.trans g2).trans g3).trans g4).trans g5).cell ZPy.out.p0, ((((g1.trans g2).trans g3).trans g4).trans g5).cell ZPy.out.p1, ((((g1.trans g2).trans g3).trans g4).trans g5).cell ZPy.out.p2, ((((g1.trans g2).trans g3).trans g4).trans g5).cell ZQ.out.p0, ((((g1.trans g2).trans g3).trans g4).trans g5).cell ZQ.out.p1, ((((g1.trans g2).trans g3).trans g4).trans g5).cell ZQ.out.p2, ((((g1.trans g2).trans g3).trans g4).trans g5).cell ZQy.out.p0, ((((g1.trans g2).trans g3).trans g4).trans g5).cell ZQy.out.p1, ((((g1.trans g2).trans g3).trans g4).trans g5).cell ZQy.out.p2, ((((g1.trans g2).trans g3).trans g4).trans g5).cell ZS.out.p0, ((((g1.trans g2).trans g3).trans g4).trans g5).cell ZS.out.p1, ((((g1.trans g2).trans g3).trans g4).trans g5).cell ZS.out.p2⟩) | (with_reducible exact ⟨(((((g1.trans g2).trans g3).trans g4).trans g5).trans g6).cell ZP.out.p0, (((((g1.trans g2).trans g3).trans g4).trans g5).trans g6).cell ZP.out.p1, (((((g1.trans g2).trans g3).trans g4).trans g5).trans g6).cell ZP.out.p2, (((((g1.trans g2).trans g3).trans g4).trans g5).trans g6).cell ZPy.out.p0, (((((g1.trans g2).trans g3).trans g4).trans g5).trans g6).cell ZPy.out.p1, (((((g1.trans g2).trans g3).trans g4).trans g5).trans g6).cell ZPy.out.p2, (((((g1.trans g2).trans g3).trans g4).trans g5).trans g6).cell ZQ.out.p0, (((((g1.trans g2).trans g3).trans g4).trans g5).trans g6).cell ZQ.out.p1, (((((g1.trans g2).trans g3).trans g4).trans g5).trans g6).cell ZQ.out.p2, (((((g1.trans g2).trans g3).trans g4).trans g5).trans g6).cell ZQy.out.p0, (((((g1.trans g2).trans g3).trans g4).trans g5).trans g6).cell ZQy.out.p1, (((((g1.trans g2).trans g3).trans g4).trans g5).trans g6).cell ZQy.out.p2, (((((g1.trans g2).trans g3).trans g4).trans g5).trans g6).cell ZS.out.p0, (((((g1.trans g2).trans g3).trans g4).trans g5).trans g6).cell ZS.out.p1, (((((g1.trans g2).trans g3).trans g4).trans g5).trans g6).cell ZS.out.p2⟩) | (with_reducible exact ⟨other3 (o := 3) (by omega) (other3 (o := 0) (by omega) ((((((g1.trans g2).trans g3).trans g4).trans g5).trans g6).cell ZP.out.p0)), other3 (o := 3) (by omega) (other3 (o := 0) (by omega) ((((((g1.trans g2).trans g3).trans g4).trans g5).trans g6).cell ZP.out.p1)), other3 (o := 3) (by omega) (other3 (o := 0) (by omega) ((((((g1.trans g2).trans g3).trans g4).trans g5).trans g6).cell ZP.out.p2)), other3 (o := 3) (by omega) (other3 (o := 0) (by omega) ((((((g1.trans g2).trans g3).trans g4).trans g5).trans g6).cell ZPy.out.p0)), other3 (o := 3) (by omega) (other3 (o := 0) (by omega) ((((((g1.trans g2).trans g3).trans g4).trans g5).trans g6).cell ZPy.out.p1)), other3 (o := 3) (by omega) (other3 (o := 0) (by omega) ((((((g1.trans g2).trans g3).trans g4).trans g5).trans g6).cell ZPy.out.p2)), other3 (o := 3) (by omega) (other3 (o := 0) (by omega) ((((((g1.trans g2).trans g3).trans g4).trans g5).trans g6).cell ZQ.out.p0)), other3 (o := 3) (by omega) (other3 (o := 0) (by omega) ((((((g1.trans g2).trans g3).trans g4).trans g5).trans g6).cell ZQ.out.p1)), other3 (o := 3) (by omega) (other3 (o := 0) (by omega) ((((((g1.trans g2).trans g3).trans g4).trans g5).trans g6).cell ZQ.out.p2)), other3 (o := 3) (by omega) (other3 (o := 0) (by omega) ((((((g1.trans g2).trans g3).trans g4).trans g5).trans g6).cell ZQy.out.p0)), other3 (o := 3) (by omega) (other3 (o := 0) (by omega) ((((((g1.trans g2).trans g3).trans g4).trans g5).trans g6).cell ZQy.out.p1)), other3 (o := 3) (by omega) (other3 (o := 0) (by omega) ((((((g1.trans g2).trans g3).trans g4).trans g5).trans g6).cell ZQy.out.p2)), other3 (o := 3) (by omega) (other3 (o := 0) (by omega) ((((((g1.trans g2).trans g3).trans g4).trans g5).trans g6).cell ZS.out.p0)), other3 (o := 3) (by omega) (other3 (o := 0) (by omega) ((((((g1.trans g2).trans g3).trans g4).trans g5).trans g6).cell ZS.out.p1)), other3 (o := 3) (by omega) (other3 (o := 0) (by omega) ((((((g1.trans g2).trans g3).trans g4).trans g5).trans g6).cell ZS.out.p2))⟩))
    (first | (go_at_call_of 57 (Value.agg #[.bool b3, .slice A3 n3 c3, .slice C3 m3 d3]); refine (rfsub_any _ _ bx ax k k _ Fc.out Fa.out hk0 hs0).mono ?_; rintro e w1 ⟨V1, rfl, hV1, g1⟩; have Y1 := Lib.hid (hV1.r q6.out); obtain ⟨b13, A13, n13, c13, C13, m13, d13, rfl, hX1⟩ := hV1.laid; have X1 := Y1; clear hV1 Y1 hX1; replace R := Lib.hid (R.out.grew g1); replace R_ := Lib.hid (R_.out.grew g1); replace P := Lib.hid (P.out.grew g1); replace Py := Lib.hid (Py.out.grew g1); replace Q := Lib.hid (Q.out.grew g1); replace Qy := Lib.hid (Qy.out.grew g1); replace S := Lib.hid (S.out.grew g1); replace z0 := Lib.hid (lt_grew z0.out g1); replace z1 := Lib.hid (lt_grew z1.out g1); replace z2 := Lib.hid (lt_grew z2.out g1); replace z3 := Lib.hid (lt_grew z3.out g1); replace Fa := Lib.hid (Fa.out.kept g1.keeps); replace Fb := Lib.hid (Fb.out.kept g1.keeps); replace Fc := Lib.hid (Fc.out.kept g1.keeps); replace Fd := Lib.hid (Fd.out.kept g1.keeps); replace Fe := Lib.hid (Fe.out.kept g1.keeps)) | (go_at_call_of 56 (Value.agg #[.bool b13, .slice A13 n13 c13, .slice C13 m13 d13]); refine (rfmul_any _ _ t (bx - ax) l (k + k + 1) _ Fe.out X1.out hk1 hs1).mono ?_; rintro e w2 ⟨V2, rfl, hV2, g2⟩; have Y2 := Lib.hid (hV2.r q8.out); obtain ⟨b14, A14, n14, c14, C14, m14, d14, rfl, hX2⟩ := hV2.laid; have X2 := Y2; clear hV2 Y2 hX2; replace R := Lib.hid (R.out.grew g2); replace R_ := Lib.hid (R_.out.grew g2); replace P := Lib.hid (P.out.grew g2); replace Py := Lib.hid (Py.out.grew g2); replace Q := Lib.hid (Q.out.grew g2); replace Qy := Lib.hid (Qy.out.grew g2); replace S := Lib.hid (S.out.grew g2); replace z0 := Lib.hid (lt_grew z0.out g2); replace z1 := Lib.hid (lt_grew z1.out g2); replace z2 := Lib.hid (lt_grew z2.out g2); replace z3 := Lib.hid (lt_grew z3.out g2); replace Fa := Lib.hid (Fa.out.kept g2.keeps); replace Fb := Lib.hid (Fb.out.kept g2.keeps); replace Fc := Lib.hid (Fc.out.kept g2.keeps); replace Fd := Lib.hid (Fd.out.kept g2.keeps); replace Fe := Lib.hid (Fe.out.kept g2.keeps); replace X1 := Lib.hid (X1.out.kept g2.keeps)) | (go_at_call_of 55 (Value.agg #[.bool b1, .slice A1 n1 c1, .slice C1 m1 d1]); refine (rfadd_any _ _ ax (t * (bx - ax)) k (l + (k + k + 1)) _ Fa.out X2.out hk2 hs2).mono ?_; rintro e w3 ⟨V3, rfl, hV3, g3⟩; obtain ⟨b15, A15, n15, c15, C15, m15, d15, rfl, X3⟩ := hV3.laid; clear hV3; replace R := Lib.hid (R.out.grew g3); replace R_ := Lib.hid (R_.out.grew g3); replace P := Lib.hid (P.out.grew g3); replace Py := Lib.hid (Py.out.grew g3); replace Q := Lib.hid (Q.out.grew g3); replace Qy := Lib.hid (Qy.out.grew g3); replace S := Lib.hid (S.out.grew g3); replace z0 := Lib.hid (lt_grew z0.out g3); replace z1 := Lib.hid (lt_grew z1.out g3); replace z2 := Lib.hid (lt_grew z2.out g3); replace z3 := Lib.hid (lt_grew z3.out g3); replace Fa := Lib.hid (Fa.out.kept g3.keeps); replace Fb := Lib.hid (Fb.out.kept g3.keeps); replace Fc := Lib.hid (Fc.out.kept g3.keeps); replace Fd := Lib.hid (Fd.out.kept g3.keeps); replace Fe := Lib.hid (Fe.out.kept g3.keeps); replace X1 := Lib.hid (X1.out.kept g3.keeps); replace X2 := Lib.hid (X2.out.kept g3.keeps)) | (go_at_call 57; refine (rfsub_any _ _ b_y ay k k _ Fd.out Fb.out hk0 hs0).mono ?_; rintro e w4 ⟨V4, rfl, hV4, g4⟩; have Y4 := Lib.hid (hV4.r q7.out); obtain ⟨b16, A16, n16, c16, C16, m16, d16, rfl, hX4⟩ := hV4.laid; have X4 := Y4; clear hV4 Y4 hX4; replace R := Lib.hid (R.out.grew g4); replace R_ := Lib.hid (R_.out.grew g4); replace P := Lib.hid (P.out.grew g4); replace Py := Lib.hid (Py.out.grew g4); replace Q := Lib.hid (Q.out.grew g4); replace Qy := Lib.hid (Qy.out.grew g4); replace S := Lib.hid (S.out.grew g4); replace z0 := Lib.hid (lt_grew z0.out g4); replace z1 := Lib.hid (lt_grew z1.out g4); replace z2 := Lib.hid (lt_grew z2.out g4); replace z3 := Lib.hid (lt_grew z3.out g4); replace Fa := Lib.hid (Fa.out.kept g4.keeps); replace Fb := Lib.hid (Fb.out.kept g4.keeps); replace Fc := Lib.hid (Fc.out.kept g4.keeps); replace Fd := Lib.hid (Fd.out.kept g4.keeps); replace Fe := Lib.hid (Fe.out.kept g4.keeps); replace X1 := Lib.hid (X1.out.kept g4.keeps); replace X2 := Lib.hid (X2.out.kept g4.keeps); replace X3 := Lib.hid (X3.out.kept g4.keeps)) | (go_at_call 56; refine (rfmul_any _ _ t (b_y - ay) l (k + k + 1) _ Fe.out X4.out hk1 hs1).mono ?_; rintro e w5 ⟨V5, rfl, hV5, g5⟩; have Y5 := Lib.hid (hV5.r q9.out); obtain ⟨b17, A17, n17, c17, C17, m17, d17, rfl, hX5⟩ := hV5.laid; have X5 := Y5; clear hV5 Y5 hX5; replace R := Lib.hid (R.out.grew g5); replace R_ := Lib.hid (R_.out.grew g5); replace P := Lib.hid (P.out.grew g5); replace Py := Lib.hid (Py.out.grew g5); replace Q := Lib.hid (Q.out.grew g5); replace Qy := Lib.hid (Qy.out.grew g5); replace S := Lib.hid (S.out.grew g5); replace z0 := Lib.hid (lt_grew z0.out g5); replace z1 := Lib.hid (lt_grew z1.out g5); replace z2 := Lib.hid (lt_grew z2.out g5); replace z3 := Lib.hid (lt_grew z3.out g5); replace Fa := Lib.hid (Fa.out.kept g5.keeps); replace Fb := Lib.hid (Fb.out.kept g5.keeps); replace Fc := Lib.hid (Fc.out.kept g5.keeps); replace Fd := Lib.hid (Fd.out.kept g5.keeps); replace Fe := Lib.hid (Fe.out.kept g5.keeps); replace X1 := Lib.hid (X1.out.kept g5.keeps); replace X2 := Lib.hid (X2.out.kept g5.keeps); replace X3 := Lib.hid (X3.out.kept g5.keeps); replace X4 := Lib.hid (X4.out.kept g5.keeps)) | (go_at_call 55; refine (rfadd_any _ _ ay (t * (b_y - ay)) k (l + (k + k + 1)) _ Fb.out X5.out hk2 hs2).mono ?_; rintro e w6 ⟨V6, rfl, hV6, g6⟩; obtain ⟨b18, A18, n18, c18, C18, m18, d18, rfl, X6⟩ := hV6.laid; clear hV6; replace R := Lib.hid (R.out.grew g6); replace R_ := Lib.hid (R_.out.grew g6); replace P := Lib.hid (P.out.grew g6); replace Py := Lib.hid (Py.out.grew g6); replace Q := Lib.hid (Q.out.grew g6); replace Qy := Lib.hid (Qy.out.grew g6); replace S := Lib.hid (S.out.grew g6); replace z0 := Lib.hid (lt_grew z0.out g6); replace z1 := Lib.hid (lt_grew z1.out g6); replace z2 := Lib.hid (lt_grew z2.out g6); replace z3 := Lib.hid (lt_grew z3.out g6); replace Fa := Lib.hid (Fa.out.kept g6.keeps); replace Fb := Lib.hid (Fb.out.kept g6.keeps); replace Fc := Lib.hid (Fc.out.kept g6.keeps); replace Fd := Lib.hid (Fd.out.kept g6.keeps); replace Fe := Lib.hid (Fe.out.kept g6.keeps); replace X1 := Lib.hid (X1.out.kept g6.keeps); replace X2 := Lib.hid (X2.out.kept g6.keeps); replace X3 := Lib.hid (X3.out.kept g6.keeps); replace X4 := Lib.hid (X4.out.kept g6.keeps); replace X5 := Lib.hid (X5.out.kept g6.keeps); obtain ⟨R0, R1, R2, Rf0, Rf1, Rf2, Rs⟩ := R.out; obtain ⟨R_0, R_1, R_2, R_f0, R_f1, R_f2, R_s⟩ := R_.out))
  replace G0 := Lib.hid (((((((G0.out.trans gd.out).trans g1).trans g2).trans g3).trans g4).trans g5).trans g6)
  clear gd g1 g2 g3 g4 g5 g6 ZP ZPy ZQ ZQy ZS
  refine gen_then ?_
  intro W9 hW9
  obtain ⟨q0, q1, q2, q3, q4, q5, qK, qG⟩ := store6 R0 R1 R2 R_0 R_1 R_2 hW9
  have GE := qG w (by omega) G0.out
  have QK := Lib.hid qK
  clear qK qG hW9 R0 R1 R2 R_0 R_1 R_2
  go_wp2_with fail
  exact bodyPost_ret (v := .agg #[.bool b15, .slice A15 n15 c15, .slice C15 m15 d15, .bool b18, .slice A18 n18 c18, .slice C18 m18 d18]) (by simp [results, Tryz.results23, go_sem, q0, q1, q2, q3, q4, q5]) rfl ⟨_, rfl, SpotC.mk (X3.out.kept QK.out) (X6.out.kept QK.out), GE⟩
end Go.Proofs.YtpglnfccmhkocaaGreat
namespace Go.Proofs.YtpglnfccmhkocaaGreat
open Go.RowKit

set_option maxRecDepth 100000 in
set_option maxHeartbeats 8000000 in
theorem scmp_any (Va Vb : Value) (ax ay bx b_y : Rat) (k : Nat) (w : World) (ha : SpotV w Va ax ay k) (hb : SpotV w Vb bx b_y k) (hk : 1 ≤ k) (hs : k < 67108864) :
    Calls Tryz.prog 19 #[Va, Vb] w fun e w' => e = .returned (.int .i64 (spotCmp ax ay bx b_y)) ∧ Grew w w' := by
  obtain ⟨b1, A1, n1, c1, C1, m1, d1, b2, A2, n2, c2, C2, m2, d2, rfl, Fa, Fb, -⟩ := ha.laid
  obtain ⟨b3, A3, n3, c3, C3, m3, d3, b4, A4, n4, c4, C4, m4, d4, rfl, Fc, Fd, -⟩ := hb.laid
  clear ha hb
  have hs2 : k + k < 549755813888 := by omega
  have eO : spotCmp ax ay bx b_y = if cmpQ ax bx = 0 then cmpQ ay b_y else cmpQ ax bx := rfl
  generalize spotCmp ax ay bx b_y = oo at *
  obtain ⟨x, hx⟩ : ∃ x, cmpQ ax bx = x := ⟨_, rfl⟩
  rw [hx] at eO
  replace hx := Lib.hid hx
  replace eO := Lib.hid eO
  go_enter Tryz.func19, Tryz.ntmps19
  go_wp2_with fail
  refine gen_calls ?_
  intro W0 hW0
  have G0 : Grew w W0 := by rw [hW0]; exact ((Grew.refl w).alloc _).alloc _
  have P : Box3 W0 (w.heap.size) 0 (.bool b1) (.slice A1 n1 c1) (.slice C1 m1 d1) := by rw [hW0]; exact ⟨by simp [go_sem], by simp [go_sem], by simp [go_sem]⟩
  replace P := Lib.hid P
  have Py : Box3 W0 (w.heap.size) 3 (.bool b2) (.slice A2 n2 c2) (.slice C2 m2 d2) := by rw [hW0]; exact ⟨by simp [go_sem], by simp [go_sem], by simp [go_sem]⟩
  replace Py := Lib.hid Py
  have Q : Box3 W0 (w.heap.size + 1) 0 (.bool b3) (.slice A3 n3 c3) (.slice C3 m3 d3) := by rw [hW0]; exact ⟨by simp [go_sem], by simp [go_sem], by simp [go_sem]⟩
  replace Q := Lib.hid Q
  have Qy : Box3 W0 (w.heap.size + 1) 3 (.bool b4) (.slice A4 n4 c4) (.slice C4 m4 d4) := by rw [hW0]; exact ⟨by simp [go_sem], by simp [go_sem], by simp [go_sem]⟩
  replace Qy := Lib.hid Qy
  have z0 : w.heap.size < W0.heap.size := by rw [hW0]; simp <;> omega
  replace z0 := Lib.hid z0
  have z1 : w.heap.size + 1 < W0.heap.size := by rw [hW0]; simp <;> omega
  replace z1 := Lib.hid z1
  clear hW0
  replace Fa := Lib.hid (Fa.out.kept G0.keeps)
  replace Fb := Lib.hid (Fb.out.kept G0.keeps)
  replace Fc := Lib.hid (Fc.out.kept G0.keeps)
  replace Fd := Lib.hid (Fd.out.kept G0.keeps)
  replace G0 := Lib.hid G0
  refine (fcmp_any _ _ ax bx k k _ Fa.out Fc.out hk hk hs2).mono ?_
  rintro e w1 ⟨rfl, g1⟩
  replace P := Lib.hid (P.out.grew g1)
  replace Py := Lib.hid (Py.out.grew g1)
  replace Q := Lib.hid (Q.out.grew g1)
  replace Qy := Lib.hid (Qy.out.grew g1)
  replace z0 := Lib.hid (lt_grew z0.out g1)
  replace z1 := Lib.hid (lt_grew z1.out g1)
  replace Fa := Lib.hid (Fa.out.kept g1.keeps)
  replace Fb := Lib.hid (Fb.out.kept g1.keeps)
  replace Fc := Lib.hid (Fc.out.kept g1.keeps)
  replace Fd := Lib.hid (Fd.out.kept g1.keeps)
  replace G0 := Lib.hid (G0.out.trans g1)
  clear g1
  rw [hx.out]

  by_cases h0 : x = 0
  · as_aux_lemma =>
    subst h0
    have eO' := Lib.hid (eO.out.trans (if_pos rfl))
    obtain ⟨P0, P1, P2⟩ := P.out
    obtain ⟨Py0, Py1, Py2⟩ := Py.out
    obtain ⟨Q0, Q1, Q2⟩ := Q.out
    obtain ⟨Qy0, Qy1, Qy2⟩ := Qy.out
    go_wp2_with fail
    clear P0 P1 P2 Py0 Py1 Py2 Q0 Q1 Q2 Qy0 Qy1 Qy2
    refine (fcmp_any _ _ ay b_y k k _ Fb.out Fd.out hk hk hs2).mono ?_
    rintro e w2 ⟨rfl, g2⟩
    replace P := Lib.hid (P.out.grew g2)
    replace Py := Lib.hid (Py.out.grew g2)
    replace Q := Lib.hid (Q.out.grew g2)
    replace Qy := Lib.hid (Qy.out.grew g2)
    replace z0 := Lib.hid (lt_grew z0.out g2)
    replace z1 := Lib.hid (lt_grew z1.out g2)
    replace Fa := Lib.hid (Fa.out.kept g2.keeps)
    replace Fb := Lib.hid (Fb.out.kept g2.keeps)
    replace Fc := Lib.hid (Fc.out.kept g2.keeps)
    replace Fd := Lib.hid (Fd.out.kept g2.keeps)
    replace G0 := Lib.hid (G0.out.trans g2)
    clear g2
    go_wp2_with fail
    go_ret
    exact ⟨by rw [eO'.out]; rfl, G0.out⟩
  · as_aux_lemma =>

    have eO' := Lib.hid (eO.out.trans (if_neg h0))
    have hxb : (x == 0) = false := by simpa using h0
    obtain ⟨P0, P1, P2⟩ := P.out
    obtain ⟨Py0, Py1, Py2⟩ := Py.out
    obtain ⟨Q0, Q1, Q2⟩ := Q.out
    obtain ⟨Qy0, Qy1, Qy2⟩ := Qy.out
    go_wp2_with fail
    clear P0 P1 P2 Py0 Py1 Py2 Q0 Q1 Q2 Qy0 Qy1 Qy2
    go_ret
    exact ⟨by rw [eO'.out]; rfl, G0.out⟩

set_option maxRecDepth 100000 in
set_option maxHeartbeats 8000000 in
theorem ssame_any (Va Vb : Value) (ax ay bx b_y : Rat) (k : Nat) (w : World) (ha : SpotV w Va ax ay k) (hb : SpotV w Vb bx b_y k) (hk : 1 ≤ k) (hs : k < 67108864) :
    Calls Tryz.prog 21 #[Va, Vb] w fun e w' => e = .returned (.bool (spotCmp ax ay bx b_y == 0)) ∧ Grew w w' := by
  obtain ⟨b1, A1, n1, c1, C1, m1, d1, b2, A2, n2, c2, C2, m2, d2, rfl, -, -, Sa⟩ := ha.laid
  obtain ⟨b3, A3, n3, c3, C3, m3, d3, b4, A4, n4, c4, C4, m4, d4, rfl, -, -, Sb⟩ := hb.laid
  clear ha hb
  go_enter Tryz.func21, Tryz.ntmps21
  go_wp2_with fail
  refine gen_calls ?_
  intro W0 hW0
  have G0 : Grew w W0 := by rw [hW0]; exact ((Grew.refl w).alloc _).alloc _
  have P : Box3 W0 (w.heap.size) 0 (.bool b1) (.slice A1 n1 c1) (.slice C1 m1 d1) := by rw [hW0]; exact ⟨by simp [go_sem], by simp [go_sem], by simp [go_sem]⟩
  replace P := Lib.hid P
  have Py : Box3 W0 (w.heap.size) 3 (.bool b2) (.slice A2 n2 c2) (.slice C2 m2 d2) := by rw [hW0]; exact ⟨by simp [go_sem], by simp [go_sem], by simp [go_sem]⟩
  replace Py := Lib.hid Py
  have Q : Box3 W0 (w.heap.size + 1) 0 (.bool b3) (.slice A3 n3 c3) (.slice C3 m3 d3) := by rw [hW0]; exact ⟨by simp [go_sem], by simp [go_sem], by simp [go_sem]⟩
  replace Q := Lib.hid Q
  have Qy : Box3 W0 (w.heap.size + 1) 3 (.bool b4) (.slice A4 n4 c4) (.slice C4 m4 d4) := by rw [hW0]; exact ⟨by simp [go_sem], by simp [go_sem], by simp [go_sem]⟩
  replace Qy := Lib.hid Qy
  have z0 : w.heap.size < W0.heap.size := by rw [hW0]; simp <;> omega
  replace z0 := Lib.hid z0
  have z1 : w.heap.size + 1 < W0.heap.size := by rw [hW0]; simp <;> omega
  replace z1 := Lib.hid z1
  clear hW0
  replace Sa := Lib.hid (Sa.out.kept G0.keeps)
  replace Sb := Lib.hid (Sb.out.kept G0.keeps)
  replace G0 := Lib.hid G0
  refine (scmp_any _ _ ax ay bx b_y k _ Sa.out Sb.out hk hs).mono ?_
  rintro e w1 ⟨rfl, g1⟩
  replace P := Lib.hid (P.out.grew g1)
  replace Py := Lib.hid (Py.out.grew g1)
  replace Q := Lib.hid (Q.out.grew g1)
  replace Qy := Lib.hid (Qy.out.grew g1)
  replace z0 := Lib.hid (lt_grew z0.out g1)
  replace z1 := Lib.hid (lt_grew z1.out g1)
  replace Sa := Lib.hid (Sa.out.kept g1.keeps)
  replace Sb := Lib.hid (Sb.out.kept g1.keeps)
  replace G0 := Lib.hid (G0.out.trans g1)
  clear g1
  go_wp2_with fail
  go_ret
  exact ⟨rfl, G0.out⟩

set_option maxRecDepth 100000 in
set_option maxHeartbeats 8000000 in
theorem stoward_any (Va Vb Vc : Value) (ax ay bx b_y t : Rat) (k l : Nat) (w : World) (ha : SpotV w Va ax ay k) (hb : SpotV w Vb bx b_y k) (hc : FracV w Vc t l) (hk : 1 ≤ k) (hl : 1 ≤ l) (hs : k < 67108864) (hs9 : l < 67108864) :
    Calls Tryz.prog 24 #[Va, Vb, Vc] w fun e w' => ∃ V, e = .returned V ∧ SpotC w' V (ax + (bx - ax) * t) (ay + (b_y - ay) * t) ∧ Grew w w' := by
  obtain ⟨b1, A1, n1, c1, C1, m1, d1, b2, A2, n2, c2, C2, m2, d2, rfl, Fa, Fb, -⟩ := ha.laid
  obtain ⟨b3, A3, n3, c3, C3, m3, d3, b4, A4, n4, c4, C4, m4, d4, rfl, Fc, Fd, -⟩ := hb.laid
  obtain ⟨b5, A5, n5, c5, C5, m5, d5, rfl, Fe⟩ := hc.laid
  clear ha hb hc
  have hs2 : k + k < 549755813887 := by omega
  have hs3 : (k + k + 1) + l < 549755813888 := by omega
  have hs4 : k + ((k + k + 1) + l) < 549755813887 := by omega
  have hk1 : 1 ≤ k + k + 1 := by omega
  have hk2 : 1 ≤ (k + k + 1) + l := by omega
  have q1 := Lib.hid ((Fa.out.qb hk))
  have q2 := Lib.hid ((Fb.out.qb hk))
  have q3 := Lib.hid ((Fc.out.qb hk))
  have q4 := Lib.hid ((Fd.out.qb hk))
  have q5 := Lib.hid ((Fe.out.qb hl))
  have q6 := Lib.hid ((q3.out.sub q1.out).mul q5.out)
  have q7 := Lib.hid ((q4.out.sub q2.out).mul q5.out)
  go_enter Tryz.func24, Tryz.ntmps24
  go_wp2_with fail
  refine gen_wp ?_
  intro W0 hW0
  have G0 : Grew w W0 := by rw [hW0]; exact ((((Grew.refl w).alloc _).alloc _).alloc _).alloc _
  have P : Box3 W0 (w.heap.size) 0 (.bool b1) (.slice A1 n1 c1) (.slice C1 m1 d1) := by rw [hW0]; exact ⟨by simp [go_sem], by simp [go_sem], by simp [go_sem]⟩
  replace P := Lib.hid P
  have Py : Box3 W0 (w.heap.size) 3 (.bool b2) (.slice A2 n2 c2) (.slice C2 m2 d2) := by rw [hW0]; exact ⟨by simp [go_sem], by simp [go_sem], by simp [go_sem]⟩
  replace Py := Lib.hid Py
  have Q : Box3 W0 (w.heap.size + 1) 0 (.bool b3) (.slice A3 n3 c3) (.slice C3 m3 d3) := by rw [hW0]; exact ⟨by simp [go_sem], by simp [go_sem], by simp [go_sem]⟩
  replace Q := Lib.hid Q
  have Qy : Box3 W0 (w.heap.size + 1) 3 (.bool b4) (.slice A4 n4 c4) (.slice C4 m4 d4) := by rw [hW0]; exact ⟨by simp [go_sem], by simp [go_sem], by simp [go_sem]⟩
  replace Qy := Lib.hid Qy
  have S : Box3 W0 (w.heap.size + 1 + 1) 0 (.bool b5) (.slice A5 n5 c5) (.slice C5 m5 d5) := by rw [hW0]; exact ⟨by simp [go_sem], by simp [go_sem], by simp [go_sem]⟩
  replace S := Lib.hid S
  have R : Res3 W0 (w.heap.size + 1 + 1 + 1) 0 (.bool false) (.slice none 0 0) (.slice none 0 0) := by rw [hW0]; exact ⟨by simp [go_sem], by simp [go_sem], by simp [go_sem], by simp [go_sem], by simp [go_sem], by simp [go_sem], by simp⟩
  replace R := Lib.hid R
  have R_ : Res3 W0 (w.heap.size + 1 + 1 + 1) 3 (.bool false) (.slice none 0 0) (.slice none 0 0) := by rw [hW0]; exact ⟨by simp [go_sem], by simp [go_sem], by simp [go_sem], by simp [go_sem], by simp [go_sem], by simp [go_sem], by simp⟩
  replace R_ := Lib.hid R_
  have z0 : w.heap.size < W0.heap.size := by rw [hW0]; simp <;> omega
  replace z0 := Lib.hid z0
  have z1 : w.heap.size + 1 < W0.heap.size := by rw [hW0]; simp <;> omega
  replace z1 := Lib.hid z1
  have z2 : w.heap.size + 1 + 1 < W0.heap.size := by rw [hW0]; simp <;> omega
  replace z2 := Lib.hid z2
  have z3 : w.heap.size + 1 + 1 + 1 < W0.heap.size := by rw [hW0]; simp <;> omega
  replace z3 := Lib.hid z3
  clear hW0
  replace Fa := Lib.hid (Fa.out.kept G0.keeps)
  replace Fb := Lib.hid (Fb.out.kept G0.keeps)
  replace Fc := Lib.hid (Fc.out.kept G0.keeps)
  replace Fd := Lib.hid (Fd.out.kept G0.keeps)
  replace Fe := Lib.hid (Fe.out.kept G0.keeps)
  replace G0 := Lib.hid G0
  go_upto_region 1 with fail
  go_cut [7] (fun s7 wx => ∃ e7 : Nat, s7 = .pointer (some ⟨e7, 0, none⟩) ∧ At3 wx e7 (fun w V => FracC w V ((bx - ax) * t)) ∧ W0.heap.size ≤ e7 ∧ Grew W0 wx)
  · have KS : ∀ X, Grew W0 X → (fun w' => w'.cell? ⟨w.heap.size, 0, none⟩ = some (.bool b1) ∧ w'.cell? ⟨w.heap.size, 1, none⟩ = some (.slice A1 n1 c1) ∧ w'.cell? ⟨w.heap.size, 2, none⟩ = some (.slice C1 m1 d1) ∧ w'.cell? ⟨w.heap.size + 1, 0, none⟩ = some (.bool b3) ∧ w'.cell? ⟨w.heap.size + 1, 1, none⟩ = some (.slice A3 n3 c3) ∧ w'.cell? ⟨w.heap.size + 1, 2, none⟩ = some (.slice C3 m3 d3) ∧ w'.cell? ⟨w.heap.size + 1 + 1, 0, none⟩ = some (.bool b5) ∧ w'.cell? ⟨w.heap.size + 1 + 1, 1, none⟩ = some (.slice A5 n5 c5) ∧ w'.cell? ⟨w.heap.size + 1 + 1, 2, none⟩ = some (.slice C5 m5 d5)) X := fun X g => ⟨g.cell P.out.p0, g.cell P.out.p1, g.cell P.out.p2, g.cell Q.out.p0, g.cell Q.out.p1, g.cell Q.out.p2, g.cell S.out.p0, g.cell S.out.p1, g.cell S.out.p2⟩
    replace KS := Lib.hid KS
    go_region_held3 (fun w' => w'.cell? ⟨w.heap.size, 0, none⟩ = some (.bool b1) ∧ w'.cell? ⟨w.heap.size, 1, none⟩ = some (.slice A1 n1 c1) ∧ w'.cell? ⟨w.heap.size, 2, none⟩ = some (.slice C1 m1 d1) ∧ w'.cell? ⟨w.heap.size + 1, 0, none⟩ = some (.bool b3) ∧ w'.cell? ⟨w.heap.size + 1, 1, none⟩ = some (.slice A3 n3 c3) ∧ w'.cell? ⟨w.heap.size + 1, 2, none⟩ = some (.slice C3 m3 d3) ∧ w'.cell? ⟨w.heap.size + 1 + 1, 0, none⟩ = some (.bool b5) ∧ w'.cell? ⟨w.heap.size + 1 + 1, 1, none⟩ = some (.slice A5 n5 c5) ∧ w'.cell? ⟨w.heap.size + 1 + 1, 2, none⟩ = some (.slice C5 m5 d5))
      (first | (refine KS.out _ ?_; (repeat (first | with_reducible exact Grew.refl _ | with_reducible refine Grew.setCell ?_ (by simp <;> omega) _ | with_reducible refine Grew.alloc ?_ _ | with_reducible refine Grew.drew ?_ | with_reducible apply Grew.trans ?_ g2 | with_reducible apply Grew.trans ?_ g1 )); done))
      (first | (go_at_call 34; refine (fsub_any _ _ bx ax k k _ (Fc.out.kept (Grew.keeps (by (repeat (first | with_reducible exact Grew.refl _ | with_reducible refine Grew.setCell ?_ (by simp <;> omega) _ | with_reducible refine Grew.alloc ?_ _ | with_reducible refine Grew.drew ?_ ))))) (Fa.out.kept (Grew.keeps (by (repeat (first | with_reducible exact Grew.refl _ | with_reducible refine Grew.setCell ?_ (by simp <;> omega) _ | with_reducible refine Grew.alloc ?_ _ | with_reducible refine Grew.drew ?_ ))))) hk hk hs2).mono ?_; rintro e w1 ⟨V1, rfl, hV1, g1⟩; have zn1 : W0.heap.size ≤ w1.heap.size := (by have t := g1.size; (try simp at t); omega); obtain ⟨b13, A13, n13, c13, C13, m13, d13, rfl, X1⟩ := hV1.laid; clear hV1; have Y1 := Lib.hid (X1.out.v (q3.out.sub q1.out)); (first | (with_reducible have h0_0 := res_new g1) | (with_reducible have h0_0 := res_newD g1) | skip)) | (go_at_call 33; refine (fmul_any _ _ (bx - ax) t (k + k + 1) l _ (Y1.out.kept (Grew.keeps (by (repeat (first | with_reducible exact Grew.refl _ | with_reducible refine Grew.setCell ?_ (by simp <;> omega) _ | with_reducible refine Grew.alloc ?_ _ | with_reducible refine Grew.drew ?_ | with_reducible apply Grew.trans ?_ g1 ))))) (Fe.out.kept (Grew.keeps (by (repeat (first | with_reducible exact Grew.refl _ | with_reducible refine Grew.setCell ?_ (by simp <;> omega) _ | with_reducible refine Grew.alloc ?_ _ | with_reducible refine Grew.drew ?_ | with_reducible apply Grew.trans ?_ g1 ))))) hk1 hl hs3).mono ?_; rintro e w2 ⟨V2, rfl, hV2, g2⟩; have zn2 : w1.heap.size ≤ w2.heap.size := (by have t := g2.size; (try simp at t); omega); obtain ⟨b14, A14, n14, c14, C14, m14, d14, rfl, X2⟩ := hV2.laid; clear hV2; (try replace h0_0 : Res3 w2 (W0.heap.size) 0 (.bool false) (.slice none 0 0) (.slice none 0 0) := h0_0.grew (by (repeat (first | with_reducible exact Grew.refl _ | with_reducible refine Grew.setCell ?_ (by simp <;> omega) _ | with_reducible refine Grew.alloc ?_ _ | with_reducible refine Grew.drew ?_ | with_reducible apply Grew.trans ?_ g2 )))); (first | (with_reducible have h1_0 := res_new g2) | (with_reducible have h1_0 := res_newD g2) | skip); (try (have tt := h0_0; obtain ⟨h0_00, h0_01, h0_02, h0_0f0, h0_0f1, h0_0f2, h0_0s⟩ := tt)); (try (have tt := h1_0; obtain ⟨h1_00, h1_01, h1_02, h1_0f0, h1_0f1, h1_0f2, h1_0s⟩ := tt))))
    all_goals
      go_wp2_with fail
      go_meet
      have XX2 := Lib.hid (X2.out.kept (Grew.keeps (w := w2) (w' := w2) (by (repeat (first | with_reducible exact Grew.refl _ | with_reducible refine Grew.setCell ?_ (by simp <;> omega) _ | with_reducible refine Grew.alloc ?_ _ | with_reducible refine Grew.drew ?_ )))))
      refine ⟨_, rfl, ?_, ?_, ?_⟩
      · repeat (first | with_reducible exact h0_0  | with_reducible exact h1_0 | with_reducible exact Keeps.refl _ | with_reducible refine At3.of_store (w := w2) (Rd.fracC _) ?_ ?_ XX2.out | with_reducible refine At3.of_alloc (w := w2) (Rd.fracC _) (by simp) ?_ XX2.out | with_reducible refine At3.store_far (Rd.fracC _) ?_ ?_ (by omega) | with_reducible refine At3.grew (Rd.fracC _) ?_ ((Grew.refl _).alloc _) | with_reducible refine Keeps.store ?_ ?_ | with_reducible refine Keeps.alloc ?_ | with_reducible refine Res3.store_far ?_ ?_ (by omega))
      · omega
      · (repeat (first | with_reducible exact Grew.refl _ | with_reducible refine Grew.setCell ?_ (by simp <;> omega) _ | with_reducible refine Grew.alloc ?_ _ | with_reducible refine Grew.drew ?_ | with_reducible apply Grew.trans ?_ g2 | with_reducible apply Grew.trans ?_ g1 ))
  obtain ⟨e7, rfl, L, E7, GA⟩ := hcut
  have y107 := Lib.hid (Nat.lt_of_lt_of_le (R.out).2.2.2.2.2.2 E7)
  replace R := Lib.hid (R.out.grew GA)
  replace R_ := Lib.hid (R_.out.grew GA)
  replace P := Lib.hid (P.out.grew GA)
  replace Py := Lib.hid (Py.out.grew GA)
  replace Q := Lib.hid (Q.out.grew GA)
  replace Qy := Lib.hid (Qy.out.grew GA)
  replace S := Lib.hid (S.out.grew GA)
  replace z0 := Lib.hid (lt_grew z0.out GA)
  replace z1 := Lib.hid (lt_grew z1.out GA)
  replace z2 := Lib.hid (lt_grew z2.out GA)
  replace z3 := Lib.hid (lt_grew z3.out GA)
  replace Fa := Lib.hid (Fa.out.kept GA.keeps)
  replace Fb := Lib.hid (Fb.out.kept GA.keeps)
  replace Fc := Lib.hid (Fc.out.kept GA.keeps)
  replace Fd := Lib.hid (Fd.out.kept GA.keeps)
  replace Fe := Lib.hid (Fe.out.kept GA.keeps)
  replace G0 := Lib.hid (G0.out.trans GA)
  obtain ⟨b107, A107, n107, c107, C107, m107, d107, L, XL, Z7⟩ := L
  replace L := Lib.hid L
  replace XL := Lib.hid XL
  replace Z7 := Lib.hid Z7
  clear E7
  clear GA
  go_upto_region 2 with fail
  go_cut [8] (fun s8 wx => ∃ e8 : Nat, s8 = .pointer (some ⟨e8, 0, none⟩) ∧ At3 wx e8 (fun w V => FracC w V ((b_y - ay) * t)) ∧ wc.heap.size ≤ e8 ∧ Grew wc wx)
  · have KS : ∀ X, Grew wc X → (fun w' => w'.cell? ⟨w.heap.size, 3, none⟩ = some (.bool b2) ∧ w'.cell? ⟨w.heap.size, 4, none⟩ = some (.slice A2 n2 c2) ∧ w'.cell? ⟨w.heap.size, 5, none⟩ = some (.slice C2 m2 d2) ∧ w'.cell? ⟨w.heap.size + 1, 3, none⟩ = some (.bool b4) ∧ w'.cell? ⟨w.heap.size + 1, 4, none⟩ = some (.slice A4 n4 c4) ∧ w'.cell? ⟨w.heap.size + 1, 5, none⟩ = some (.slice C4 m4 d4) ∧ w'.cell? ⟨w.heap.size + 1 + 1, 0, none⟩ = some (.bool b5) ∧ w'.cell? ⟨w.heap.size + 1 + 1, 1, none⟩ = some (.slice A5 n5 c5) ∧ w'.cell? ⟨w.heap.size + 1 + 1, 2, none⟩ = some (.slice C5 m5 d5)) X := fun X g => ⟨g.cell Py.out.p0, g.cell Py.out.p1, g.cell Py.out.p2, g.cell Qy.out.p0, g.cell Qy.out.p1, g.cell Qy.out.p2, g.cell S.out.p0, g.cell S.out.p1, g.cell S.out.p2⟩
    replace KS := Lib.hid KS
    go_region_held3 (fun w' => w'.cell? ⟨w.heap.size, 3, none⟩ = some (.bool b2) ∧ w'.cell? ⟨w.heap.size, 4, none⟩ = some (.slice A2 n2 c2) ∧ w'.cell? ⟨w.heap.size, 5, none⟩ = some (.slice C2 m2 d2) ∧ w'.cell? ⟨w.heap.size + 1, 3, none⟩ = some (.bool b4) ∧ w'.cell? ⟨w.heap.size + 1, 4, none⟩ = some (.slice A4 n4 c4) ∧ w'.cell? ⟨w.heap.size + 1, 5, none⟩ = some (.slice C4 m4 d4) ∧ w'.cell? ⟨w.heap.size + 1 + 1, 0, none⟩ = some (.bool b5) ∧ w'.cell? ⟨w.heap.size + 1 + 1, 1, none⟩ = some (.slice A5 n5 c5) ∧ w'.cell? ⟨w.heap.size + 1 + 1, 2, none⟩ = some (.slice C5 m5 d5))
      (first | (refine KS.out _ ?_; (repeat (first | with_reducible exact Grew.refl _ | with_reducible refine Grew.setCell ?_ (by simp <;> omega) _ | with_reducible refine Grew.alloc ?_ _ | with_reducible refine Grew.drew ?_ | with_reducible apply Grew.trans ?_ g4 | with_reducible apply Grew.trans ?_ g3 )); done))
      (first | (go_at_call 34; refine (fsub_any _ _ b_y ay k k _ (Fd.out.kept (Grew.keeps (by (repeat (first | with_reducible exact Grew.refl _ | with_reducible refine Grew.setCell ?_ (by simp <;> omega) _ | with_reducible refine Grew.alloc ?_ _ | with_reducible refine Grew.drew ?_ ))))) (Fb.out.kept (Grew.keeps (by (repeat (first | with_reducible exact Grew.refl _ | with_reducible refine Grew.setCell ?_ (by simp <;> omega) _ | with_reducible refine Grew.alloc ?_ _ | with_reducible refine Grew.drew ?_ ))))) hk hk hs2).mono ?_; rintro e w3 ⟨V3, rfl, hV3, g3⟩; have zn3 : wc.heap.size ≤ w3.heap.size := (by have t := g3.size; (try simp at t); omega); obtain ⟨b13, A13, n13, c13, C13, m13, d13, rfl, X3⟩ := hV3.laid; clear hV3; have Y3 := Lib.hid (X3.out.v (q4.out.sub q2.out)); (first | (with_reducible have h2_0 := res_new g3) | (with_reducible have h2_0 := res_newD g3) | skip)) | (go_at_call 33; refine (fmul_any _ _ (b_y - ay) t (k + k + 1) l _ (Y3.out.kept (Grew.keeps (by (repeat (first | with_reducible exact Grew.refl _ | with_reducible refine Grew.setCell ?_ (by simp <;> omega) _ | with_reducible refine Grew.alloc ?_ _ | with_reducible refine Grew.drew ?_ | with_reducible apply Grew.trans ?_ g3 ))))) (Fe.out.kept (Grew.keeps (by (repeat (first | with_reducible exact Grew.refl _ | with_reducible refine Grew.setCell ?_ (by simp <;> omega) _ | with_reducible refine Grew.alloc ?_ _ | with_reducible refine Grew.drew ?_ | with_reducible apply Grew.trans ?_ g3 ))))) hk1 hl hs3).mono ?_; rintro e w4 ⟨V4, rfl, hV4, g4⟩; have zn4 : w3.heap.size ≤ w4.heap.size := (by have t := g4.size; (try simp at t); omega); obtain ⟨b14, A14, n14, c14, C14, m14, d14, rfl, X4⟩ := hV4.laid; clear hV4; (try replace h2_0 : Res3 w4 (wc.heap.size) 0 (.bool false) (.slice none 0 0) (.slice none 0 0) := h2_0.grew (by (repeat (first | with_reducible exact Grew.refl _ | with_reducible refine Grew.setCell ?_ (by simp <;> omega) _ | with_reducible refine Grew.alloc ?_ _ | with_reducible refine Grew.drew ?_ | with_reducible apply Grew.trans ?_ g4 )))); (first | (with_reducible have h3_0 := res_new g4) | (with_reducible have h3_0 := res_newD g4) | skip); (try (have tt := h2_0; obtain ⟨h2_00, h2_01, h2_02, h2_0f0, h2_0f1, h2_0f2, h2_0s⟩ := tt)); (try (have tt := h3_0; obtain ⟨h3_00, h3_01, h3_02, h3_0f0, h3_0f1, h3_0f2, h3_0s⟩ := tt))))
    all_goals
      go_wp2_with fail
      go_meet
      have XX4 := Lib.hid (X4.out.kept (Grew.keeps (w := w4) (w' := w4) (by (repeat (first | with_reducible exact Grew.refl _ | with_reducible refine Grew.setCell ?_ (by simp <;> omega) _ | with_reducible refine Grew.alloc ?_ _ | with_reducible refine Grew.drew ?_ )))))
      refine ⟨_, rfl, ?_, ?_, ?_⟩
      · repeat (first | with_reducible exact h2_0  | with_reducible exact h3_0 | with_reducible exact Keeps.refl _ | with_reducible refine At3.of_store (w := w4) (Rd.fracC _) ?_ ?_ XX4.out | with_reducible refine At3.of_alloc (w := w4) (Rd.fracC _) (by simp) ?_ XX4.out | with_reducible refine At3.store_far (Rd.fracC _) ?_ ?_ (by omega) | with_reducible refine At3.grew (Rd.fracC _) ?_ ((Grew.refl _).alloc _) | with_reducible refine Keeps.store ?_ ?_ | with_reducible refine Keeps.alloc ?_ | with_reducible refine Res3.store_far ?_ ?_ (by omega))
      · omega
      · (repeat (first | with_reducible exact Grew.refl _ | with_reducible refine Grew.setCell ?_ (by simp <;> omega) _ | with_reducible refine Grew.alloc ?_ _ | with_reducible refine Grew.drew ?_ | with_reducible apply Grew.trans ?_ g4 | with_reducible apply Grew.trans ?_ g3 ))
  obtain ⟨e8, rfl, M, E8, GA⟩ := hcut
  have y108 := Lib.hid (Nat.lt_of_lt_of_le (R.out).2.2.2.2.2.2 E8)
  replace R := Lib.hid (R.out.grew GA)
  replace R_ := Lib.hid (R_.out.grew GA)
  replace P := Lib.hid (P.out.grew GA)
  replace Py := Lib.hid (Py.out.grew GA)
  replace Q := Lib.hid (Q.out.grew GA)
  replace Qy := Lib.hid (Qy.out.grew GA)
  replace S := Lib.hid (S.out.grew GA)
  replace L := Lib.hid (L.out.grew GA)
  replace z0 := Lib.hid (lt_grew z0.out GA)
  replace z1 := Lib.hid (lt_grew z1.out GA)
  replace z2 := Lib.hid (lt_grew z2.out GA)
  replace z3 := Lib.hid (lt_grew z3.out GA)
  replace Z7 := Lib.hid (lt_grew Z7.out GA)
  replace Fa := Lib.hid (Fa.out.kept GA.keeps)
  replace Fb := Lib.hid (Fb.out.kept GA.keeps)
  replace Fc := Lib.hid (Fc.out.kept GA.keeps)
  replace Fd := Lib.hid (Fd.out.kept GA.keeps)
  replace Fe := Lib.hid (Fe.out.kept GA.keeps)
  replace XL := Lib.hid (XL.out.kept GA.keeps)
  replace G0 := Lib.hid (G0.out.trans GA)
  obtain ⟨b108, A108, n108, c108, C108, m108, d108, M, XM, Z8⟩ := M
  replace M := Lib.hid M
  replace XM := Lib.hid XM
  replace Z8 := Lib.hid Z8
  clear E8
  clear GA
  have YL := Lib.hid (XL.out.v q6.out)
  have YM := Lib.hid (XM.out.v q7.out)
  -- YL YM
  go_upto_region 3 with fail
  have gd : Grew wc wc.drew := (Grew.refl wc).drew
  replace R := Lib.hid (R.out.grew gd)
  replace R_ := Lib.hid (R_.out.grew gd)
  replace P := Lib.hid (P.out.grew gd)
  replace Py := Lib.hid (Py.out.grew gd)
  replace Q := Lib.hid (Q.out.grew gd)
  replace Qy := Lib.hid (Qy.out.grew gd)
  replace S := Lib.hid (S.out.grew gd)
  replace L := Lib.hid (L.out.grew gd)
  replace M := Lib.hid (M.out.grew gd)
  replace z0 := Lib.hid (lt_grew z0.out gd)
  replace z1 := Lib.hid (lt_grew z1.out gd)
  replace z2 := Lib.hid (lt_grew z2.out gd)
  replace z3 := Lib.hid (lt_grew z3.out gd)
  replace Z7 := Lib.hid (lt_grew Z7.out gd)
  replace Z8 := Lib.hid (lt_grew Z8.out gd)
  replace Fa := Lib.hid (Fa.out.kept gd.keeps)
  replace Fb := Lib.hid (Fb.out.kept gd.keeps)
  replace Fc := Lib.hid (Fc.out.kept gd.keeps)
  replace Fd := Lib.hid (Fd.out.kept gd.keeps)
  replace Fe := Lib.hid (Fe.out.kept gd.keeps)
  replace XL := Lib.hid (XL.out.kept gd.keeps)
  replace XM := Lib.hid (XM.out.kept gd.keeps)
  replace YL := Lib.hid (YL.out.kept gd.keeps)
  replace YM := Lib.hid (YM.out.kept gd.keeps)
  replace gd := Lib.hid gd
  have ZP := P
  have ZPy := Py
  have ZL := L
  have ZM := M
  go_region_held3 (fun w' => w'.cell? ⟨w.heap.size, 0, none⟩ = some (.bool b1) ∧ w'.cell? ⟨w.heap.size, 1, none⟩ = some (.slice A1 n1 c1) ∧ w'.cell? ⟨w.heap.size, 2, none⟩ = some (.slice C1 m1 d1) ∧ w'.cell? ⟨w.heap.size, 3, none⟩ = some (.bool b2) ∧ w'.cell? ⟨w.heap.size, 4, none⟩ = some (.slice A2 n2 c2) ∧ w'.cell? ⟨w.heap.size, 5, none⟩ = some (.slice C2 m2 d2) ∧ w'.cell? ⟨e7, 0, none⟩ = some (.bool b107) ∧ w'.cell? ⟨e7, 1, none⟩ = some (.slice A107 n107 c107) ∧ w'.cell? ⟨e7, 2, none⟩ = some (.slice C107 m107 d107) ∧ w'.cell? ⟨e8, 0, none⟩ = some (.bool b108) ∧ w'.cell? ⟨e8, 1, none⟩ = some (.slice A108 n108 c108) ∧ w'.cell? ⟨e8, 2, none⟩ = some (.slice C108 m108 d108))
    (first | (with_reducible exact ⟨ZP.out.p0, ZP.out.p1, ZP.out.p2, ZPy.out.p0, ZPy.out.p1, ZPy.out.p2, ZL.out.p0, ZL.out.p1, ZL.out.p2, ZM.out.p0, ZM.out.p1, ZM.out.p2⟩) | (with_reducible exact ⟨g5.cell ZP.out.p0, g5.cell ZP.out.p1, g5.cell ZP.out.p2, g5.cell ZPy.out.p0, g5.cell ZPy.out.p1, g5.cell ZPy.out.p2, g5.cell ZL.out.p0, g5.cell ZL.out.p1, g5.cell ZL.out.p2, g5.cell ZM.out.p0, g5.cell ZM.out.p1, g5.cell ZM.out.p2⟩) | (with_reducible exact ⟨(g5.trans g6).cell ZP.out.p0, (g5.trans g6).cell ZP.out.p1, (g5.trans g6).cell ZP.out.p2, (g5.trans g6).cell ZPy.out.p0, (g5.trans g6).cell ZPy.out.p1, (g5.trans g6).cell ZPy.out.p2, (g5.trans g6).cell ZL.out.p0, (g5.trans g6).cell ZL.out.p1, (g5.trans g6).cell ZL.out.p2, (g5.trans g6).cell ZM.out.p0, (g5.trans g6).cell ZM.out.p1, (g5.trans g6).cell ZM.out.p2⟩) | (with_reducible exact ⟨other3 (o := 3) (by omega) (other3 (o := 0) (by omega) ((g5.trans g6).cell ZP.out.p0)), other3 (o := 3) (by omega) (other3 (o := 0) (by omega) ((g5.trans g6).cell ZP.out.p1)), other3 (o := 3) (by omega) (other3 (o := 0) (by omega) ((g5.trans g6).cell ZP.out.p2)), other3 (o := 3) (by omega) (other3 (o := 0) (by omega) ((g5.trans g6).cell ZPy.out.p0)), other3 (o := 3) (by omega) (other3 (o := 0) (by omega) ((g5.trans g6).cell ZPy.out.p1)), other3 (o := 3) (by omega) (other3 (o := 0) (by omega) ((g5.trans g6).cell ZPy.out.p2)), other3 (o := 3) (by have := y107.out; omega) (other3 (o := 0) (by have := y107.out; omega) ((g5.trans g6).cell ZL.out.p0)), other3 (o := 3) (by have := y107.out; omega) (other3 (o := 0) (by have := y107.out; omega) ((g5.trans g6).cell ZL.out.p1)), other3 (o := 3) (by have := y107.out; omega) (other3 (o := 0) (by have := y107.out; omega) ((g5.trans g6).cell ZL.out.p2)), other3 (o := 3) (by have := y108.out; omega) (other3 (o := 0) (by have := y108.out; omega) ((g5.trans g6).cell ZM.out.p0)), other3 (o := 3) (by have := y108.out; omega) (other3 (o := 0) (by have := y108.out; omega) ((g5.trans g6).cell ZM.out.p1)), other3 (o := 3) (by have := y108.out; omega) (other3 (o := 0) (by have := y108.out; omega) ((g5.trans g6).cell ZM.out.p2))⟩))
    (first | (go_at_call_of 54 (Value.agg #[.bool b1, .slice A1 n1 c1, .slice C1 m1 d1]); refine (fadd_any _ _ ax ((bx - ax) * t) k (k + k + 1 + l) _ Fa.out YL.out hk hk2 hs4).mono ?_; rintro e w5 ⟨V5, rfl, hV5, g5⟩; obtain ⟨b15, A15, n15, c15, C15, m15, d15, rfl, X5⟩ := hV5.laid; clear hV5; replace R := Lib.hid (R.out.grew g5); replace R_ := Lib.hid (R_.out.grew g5); replace P := Lib.hid (P.out.grew g5); replace Py := Lib.hid (Py.out.grew g5); replace Q := Lib.hid (Q.out.grew g5); replace Qy := Lib.hid (Qy.out.grew g5); replace S := Lib.hid (S.out.grew g5); replace L := Lib.hid (L.out.grew g5); replace M := Lib.hid (M.out.grew g5); replace z0 := Lib.hid (lt_grew z0.out g5); replace z1 := Lib.hid (lt_grew z1.out g5); replace z2 := Lib.hid (lt_grew z2.out g5); replace z3 := Lib.hid (lt_grew z3.out g5); replace Z7 := Lib.hid (lt_grew Z7.out g5); replace Z8 := Lib.hid (lt_grew Z8.out g5); replace Fa := Lib.hid (Fa.out.kept g5.keeps); replace Fb := Lib.hid (Fb.out.kept g5.keeps); replace Fc := Lib.hid (Fc.out.kept g5.keeps); replace Fd := Lib.hid (Fd.out.kept g5.keeps); replace Fe := Lib.hid (Fe.out.kept g5.keeps); replace XL := Lib.hid (XL.out.kept g5.keeps); replace XM := Lib.hid (XM.out.kept g5.keeps); replace YL := Lib.hid (YL.out.kept g5.keeps); replace YM := Lib.hid (YM.out.kept g5.keeps)) | (go_at_call 54; refine (fadd_any _ _ ay ((b_y - ay) * t) k (k + k + 1 + l) _ Fb.out YM.out hk hk2 hs4).mono ?_; rintro e w6 ⟨V6, rfl, hV6, g6⟩; obtain ⟨b16, A16, n16, c16, C16, m16, d16, rfl, X6⟩ := hV6.laid; clear hV6; replace R := Lib.hid (R.out.grew g6); replace R_ := Lib.hid (R_.out.grew g6); replace P := Lib.hid (P.out.grew g6); replace Py := Lib.hid (Py.out.grew g6); replace Q := Lib.hid (Q.out.grew g6); replace Qy := Lib.hid (Qy.out.grew g6); replace S := Lib.hid (S.out.grew g6); replace L := Lib.hid (L.out.grew g6); replace M := Lib.hid (M.out.grew g6); replace z0 := Lib.hid (lt_grew z0.out g6); replace z1 := Lib.hid (lt_grew z1.out g6); replace z2 := Lib.hid (lt_grew z2.out g6); replace z3 := Lib.hid (lt_grew z3.out g6); replace Z7 := Lib.hid (lt_grew Z7.out g6); replace Z8 := Lib.hid (lt_grew Z8.out g6); replace Fa := Lib.hid (Fa.out.kept g6.keeps); replace Fb := Lib.hid (Fb.out.kept g6.keeps); replace Fc := Lib.hid (Fc.out.kept g6.keeps); replace Fd := Lib.hid (Fd.out.kept g6.keeps); replace Fe := Lib.hid (Fe.out.kept g6.keeps); replace XL := Lib.hid (XL.out.kept g6.keeps); replace XM := Lib.hid (XM.out.kept g6.keeps); replace YL := Lib.hid (YL.out.kept g6.keeps); replace YM := Lib.hid (YM.out.kept g6.keeps); replace X5 := Lib.hid (X5.out.kept g6.keeps); obtain ⟨R0, R1, R2, Rf0, Rf1, Rf2, Rs⟩ := R.out; obtain ⟨R_0, R_1, R_2, R_f0, R_f1, R_f2, R_s⟩ := R_.out))
  replace G0 := Lib.hid (((G0.out.trans gd.out).trans g5).trans g6)
  clear gd g5 g6 ZP ZPy ZL ZM
  refine gen_then ?_
  intro W9 hW9
  obtain ⟨q0, q1, q2, q3, q4, q5, qK, qG⟩ := store6 R0 R1 R2 R_0 R_1 R_2 hW9
  have GE := qG w (by omega) G0.out
  have QK := Lib.hid qK
  clear qK qG hW9 R0 R1 R2 R_0 R_1 R_2
  go_wp2_with fail
  exact bodyPost_ret (v := .agg #[.bool b15, .slice A15 n15 c15, .slice C15 m15 d15, .bool b16, .slice A16 n16 c16, .slice C16 m16 d16]) (by simp [results, Tryz.results24, go_sem, q0, q1, q2, q3, q4, q5]) rfl ⟨_, rfl, SpotC.mk (X5.out.kept QK.out) (X6.out.kept QK.out), GE⟩
end Go.Proofs.YtpglnfccmhkocaaGreat
