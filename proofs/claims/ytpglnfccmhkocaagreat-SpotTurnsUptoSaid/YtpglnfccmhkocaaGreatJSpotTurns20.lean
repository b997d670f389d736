/- r05.Turn, between, On, and that they answer what spot.Turn and spot.On answer. Condition: what comes in reads; fewer than 2^26 words. SpotTurns, the walk. Condition: what comes in reads; fewer than 2^26 words. How spots come in: an argument of type api.Spot reads as two fractions, of no more words than its reading's bulk. Conditions: none. -/
import Derived.Test.YtpglnfccmhkocaaGreatJSpotTurns19
import Derived.Test.YtpglnfccmhkocaaGreatRows
import Derived.WalkKit
import Derived.ProofKit
import Derived.OpenShut
import Derived.JoinedCond
import Derived.ChangeSlices
import Derived.Carry
namespace Go.Proofs.YtpglnfccmhkocaaGreat
open Go.RowKit

theorem areaQ_eq (ax ay bx b_y cx cy : Rat) : areaQ ax ay bx b_y cx cy = (bx - ax) * (cy - ay) - (b_y - ay) * (cx - ax) := by unfold areaQ; grind
theorem areaQ_turn (ax ay bx b_y cx cy : Rat) : sgQ (areaQ ax ay bx b_y cx cy) = turnQ ax ay bx b_y cx cy := by rw [areaQ_eq, turnQ_eq]
theorem areaQ_qb {ax ay bx b_y cx cy : Rat} {k : Nat} (q1 : QB ax k) (q2 : QB ay k) (q3 : QB bx k) (q4 : QB b_y k) (q5 : QB cx k) (q6 : QB cy k) : QB (areaQ ax ay bx b_y cx cy) (9 * k + 5) :=
  (((q1.mul (q4.sub q6)).add (q3.mul (q6.sub q2))).add (q5.mul (q2.sub q4))).mono (by omega)

/-- Not on the same side of both. -/
def betwQ (a b c : Rat) : Bool := decide (cmpQ a c * cmpQ b c ≤ 0)
theorem cmpQ_bd (a b : Rat) : -1 ≤ cmpQ a b ∧ cmpQ a b ≤ 1 := by unfold cmpQ; split <;> (try split) <;> omega
theorem betwQ_within (a b c : Rat) : betwQ a b c = withinQ a b c := by
  unfold betwQ withinQ midQ cmpQ
  by_cases h1 : a < c <;> by_cases h2 : c < a <;> by_cases h3 : b < c <;> by_cases h4 : c < b <;> by_cases h5 : b < a <;>
    first | (simp [h1, h2, h3, h4, h5]; done) | (exfalso; grind)

set_option maxRecDepth 100000 in
set_option maxHeartbeats 4000000 in
theorem between_any (Va Vb Vc : Value) (p q r : Rat) (k : Nat) (w : World) (ha : FracR w Va p k) (hb : FracR w Vb q k) (hc : FracR w Vc r k) (hk : 1 ≤ k) (hs : k < 67108864) :
    Calls Tryz.prog 39 #[Va, Vb, Vc] w fun e w' => e = .returned (.bool (withinQ p q r)) ∧ Grew w w' := by
  obtain ⟨b1, A1, n1, c1, C1, m1, d1, rfl, Fa⟩ := ha.laid
  obtain ⟨b2, A2, n2, c2, C2, m2, d2, rfl, Fb⟩ := hb.laid
  obtain ⟨b3, A3, n3, c3, C3, m3, d3, rfl, Fc⟩ := hc.laid
  clear ha hb hc
  have hk0 : 1 ≤ k ∧ 1 ≤ k := ⟨hk, hk⟩
  have hs0 : k < 1073741824 ∧ k < 1073741824 := by omega
  have e0 : decide (cmpQ p r * cmpQ q r ≤ 0) = withinQ p q r := betwQ_within p q r
  have ⟨x0, x1⟩ := cmpQ_bd p r
  have ⟨y0, y1⟩ := cmpQ_bd q r
  obtain ⟨x, hx⟩ : ∃ x, cmpQ p r = x := ⟨_, rfl⟩
  obtain ⟨y, hy⟩ : ∃ y, cmpQ q r = y := ⟨_, rfl⟩
  rw [hx, hy] at e0
  rw [hx] at x0 x1
  rw [hy] at y0 y1
  replace hx := Lib.hid hx
  replace hy := Lib.hid hy
  have hw : IntKind.i64.wrap (x * y) = x * y := by
    rcases (show x = -1 ∨ x = 0 ∨ x = 1 by omega) with rfl | rfl | rfl <;> rcases (show y = -1 ∨ y = 0 ∨ y = 1 by omega) with rfl | rfl | rfl <;> rfl
  replace e0 := Lib.hid e0
  clear x0 x1 y0 y1
  go_enter Tryz.func39, Tryz.ntmps39
  go_wp2_with fail
  refine gen_wp ?_
  intro W0 hW0
  have G0 : Grew w W0 := by rw [hW0]; exact (((Grew.refl w).alloc _).alloc _).alloc _
  have P : Box3 W0 (w.heap.size) 0 (.bool b1) (.slice A1 n1 c1) (.slice C1 m1 d1) := by rw [hW0]; exact ⟨by simp [go_sem], by simp [go_sem], by simp [go_sem]⟩
  replace P := Lib.hid P
  have Q : Box3 W0 (w.heap.size + 1) 0 (.bool b2) (.slice A2 n2 c2) (.slice C2 m2 d2) := by rw [hW0]; exact ⟨by simp [go_sem], by simp [go_sem], by simp [go_sem]⟩
  replace Q := Lib.hid Q
  have S : Box3 W0 (w.heap.size + 1 + 1) 0 (.bool b3) (.slice A3 n3 c3) (.slice C3 m3 d3) := by rw [hW0]; exact ⟨by simp [go_sem], by simp [go_sem], by simp [go_sem]⟩
  replace S := Lib.hid S
  have z0 : w.heap.size < W0.heap.size := by rw [hW0]; simp <;> omega
  replace z0 := Lib.hid z0
  have z1 : w.heap.size + 1 < W0.heap.size := by rw [hW0]; simp <;> omega
  replace z1 := Lib.hid z1
  have z2 : w.heap.size + 1 + 1 < W0.heap.size := by rw [hW0]; simp <;> omega
  replace z2 := Lib.hid z2
  clear hW0
  replace Fa := Lib.hid (Fa.out.kept G0.keeps)
  replace Fb := Lib.hid (Fb.out.kept G0.keeps)
  replace Fc := Lib.hid (Fc.out.kept G0.keeps)
  replace G0 := Lib.hid G0
  have gd : Grew W0 W0.drew := (Grew.refl W0).drew
  replace P := Lib.hid (P.out.grew gd)
  replace Q := Lib.hid (Q.out.grew gd)
  replace S := Lib.hid (S.out.grew gd)
  replace z0 := Lib.hid (lt_grew z0.out gd)
  replace z1 := Lib.hid (lt_grew z1.out gd)
  replace z2 := Lib.hid (lt_grew z2.out gd)
  replace Fa := Lib.hid (Fa.out.kept gd.keeps)
  replace Fb := Lib.hid (Fb.out.kept gd.keeps)
  replace Fc := Lib.hid (Fc.out.kept gd.keeps)
  replace gd := Lib.hid gd
  have ZP := P
  have ZQ := Q
  have ZS := S
  go_region_held3 (fun w' => w'.cell? ⟨w.heap.size, 0, none⟩ = some (.bool b1) ∧ w'.cell? ⟨w.heap.size, 1, none⟩ = some (.slice A1 n1 c1) ∧ w'.cell? ⟨w.heap.size, 2, none⟩ = some (.slice C1 m1 d1) ∧ w'.cell? ⟨w.heap.size + 1, 0, none⟩ = some (.bool b2) ∧ w'.cell? ⟨w.heap.size + 1, 1, none⟩ = some (.slice A2 n2 c2) ∧ w'.cell? ⟨w.heap.size + 1, 2, none⟩ = some (.slice C2 m2 d2) ∧ w'.cell? ⟨w.heap.size + 1 + 1, 0, none⟩ = some (.bool b3) ∧ w'.cell? ⟨w.heap.size + 1 + 1, 1, none⟩ = some (.slice A3 n3 c3) ∧ w'.cell? ⟨w.heap.size + 1 + 1, 2, none⟩ = some (.slice C3 m3 d3))
    (first | (with_reducible exact ⟨ZP.out.p0, ZP.out.p1, ZP.out.p2, ZQ.out.p0, ZQ.out.p1, ZQ.out.p2, ZS.out.p0, ZS.out.p1, ZS.out.p2⟩) | (with_reducible exact ⟨g1.cell ZP.out.p0, g1.cell ZP.out.p1, g1.cell ZP.out.p2, g1.cell ZQ.out.p0, g1.cell ZQ.out.p1, g1.cell ZQ.out.p2, g1.cell ZS.out.p0, g1.cell ZS.out.p1, g1.cell ZS.out.p2⟩) | (with_reducible exact ⟨(g1.trans g2).cell ZP.out.p0, (g1.trans g2).cell ZP.out.p1, (g1.trans g2).cell ZP.out.p2, (g1.trans g2).cell ZQ.out.p0, (g1.trans g2).cell ZQ.out.p1, (g1.trans g2).cell ZQ.out.p2, (g1.trans g2).cell ZS.out.p0, (g1.trans g2).cell ZS.out.p1, (g1.trans g2).cell ZS.out.p2⟩))
    (first | (go_at_call_of 52 (Value.agg #[.bool b1, .slice A1 n1 c1, .slice C1 m1 d1]); refine (rfcmp_any _ _ p r k k _ Fa.out Fc.out hk0 hs0).mono ?_; rintro e w1 ⟨rfl, g1⟩; rw [show cmpQ p r = x from hx.out]; replace P := Lib.hid (P.out.grew g1); replace Q := Lib.hid (Q.out.grew g1); replace S := Lib.hid (S.out.grew g1); replace z0 := Lib.hid (lt_grew z0.out g1); replace z1 := Lib.hid (lt_grew z1.out g1); replace z2 := Lib.hid (lt_grew z2.out g1); replace Fa := Lib.hid (Fa.out.kept g1.keeps); replace Fb := Lib.hid (Fb.out.kept g1.keeps); replace Fc := Lib.hid (Fc.out.kept g1.keeps)) | (go_at_call 52; refine (rfcmp_any _ _ q r k k _ Fb.out Fc.out hk0 hs0).mono ?_; rintro e w2 ⟨rfl, g2⟩; rw [show cmpQ q r = y from hy.out]; replace P := Lib.hid (P.out.grew g2); replace Q := Lib.hid (Q.out.grew g2); replace S := Lib.hid (S.out.grew g2); replace z0 := Lib.hid (lt_grew z0.out g2); replace z1 := Lib.hid (lt_grew z1.out g2); replace z2 := Lib.hid (lt_grew z2.out g2); replace Fa := Lib.hid (Fa.out.kept g2.keeps); replace Fb := Lib.hid (Fb.out.kept g2.keeps); replace Fc := Lib.hid (Fc.out.kept g2.keeps)))
  replace G0 := Lib.hid (((G0.out.trans gd.out).trans g1).trans g2)
  clear gd g1 g2 ZP ZQ ZS
  go_wp2_with fail
  go_ret
  exact ⟨by rw [← e0.out]; rfl, G0.out⟩

set_option maxRecDepth 100000 in
set_option maxHeartbeats 8000000 in
theorem rturn_any (Va Vb Vc : Value) (ax ay bx b_y cx cy : Rat) (k : Nat) (w : World) (ha : SpotR w Va ax ay k) (hb : SpotR w Vb bx b_y k) (hc : SpotR w Vc cx cy k) (hk : 1 ≤ k) (hs : k < 67108864) :
    Calls Tryz.prog 9 #[Va, Vb, Vc] w fun e w' => e = .returned (.int .i64 (turnQ ax ay bx b_y cx cy)) ∧ Grew w w' := by
  obtain ⟨b1, A1, n1, c1, C1, m1, d1, b2, A2, n2, c2, C2, m2, d2, rfl, Fa, Fb, Sa⟩ := ha.laid
  obtain ⟨b3, A3, n3, c3, C3, m3, d3, b4, A4, n4, c4, C4, m4, d4, rfl, Fc, Fd, Sb⟩ := hb.laid
  obtain ⟨b5, A5, n5, c5, C5, m5, d5, b6, A6, n6, c6, C6, m6, d6, rfl, Fe, Ff, Sc⟩ := hc.laid
  have q := Lib.hid (areaQ_qb (Fa.out.v.qb hk) (Fb.out.v.qb hk) (Fc.out.v.qb hk) (Fd.out.v.qb hk) (Fe.out.v.qb hk) (Ff.out.v.qb hk))
  clear ha hb hc Fa Fb Fc Fd Fe Ff
  have e0 := Lib.hid (areaQ_turn ax ay bx b_y cx cy)
  go_enter Tryz.func9, Tryz.ntmps9
  go_wp2_with fail
  refine gen_calls ?_
  intro W0 hW0
  have G0 : Grew w W0 := by rw [hW0]; exact (((Grew.refl w).alloc _).alloc _).alloc _
  have P : Box3 W0 (w.heap.size) 0 (.bool b1) (.slice A1 n1 c1) (.slice C1 m1 d1) := by rw [hW0]; exact ⟨by simp [go_sem], by simp [go_sem], by simp [go_sem]⟩
  replace P := Lib.hid P
  have Py : Box3 W0 (w.heap.size) 3 (.bool b2) (.slice A2 n2 c2) (.slice C2 m2 d2) := by rw [hW0]; exact ⟨by simp [go_sem], by simp [go_sem], by simp [go_sem]⟩
  replace Py := Lib.hid Py
  have Q : Box3 W0 (w.heap.size + 1) 0 (.bool b3) (.slice A3 n3 c3) (.slice C3 m3 d3) := by rw [hW0]; exact ⟨by simp [go_sem], by simp [go_sem], by simp [go_sem]⟩
  replace Q := Lib.hid Q
  have Qy : Box3 W0 (w.heap.size + 1) 3 (.bool b4) (.slice A4 n4 c4) (.slice C4 m4 d4) := by rw [hW0]; exact ⟨by simp [go_sem], by simp [go_sem], by simp [go_sem]⟩
  replace Qy := Lib.hid Qy
  have S : Box3 W0 (w.heap.size + 1 + 1) 0 (.bool b5) (.slice A5 n5 c5) (.slice C5 m5 d5) := by rw [hW0]; exact ⟨by simp [go_sem], by simp [go_sem], by simp [go_sem]⟩
  replace S := Lib.hid S
  have Sy : Box3 W0 (w.heap.size + 1 + 1) 3 (.bool b6) (.slice A6 n6 c6) (.slice C6 m6 d6) := by rw [hW0]; exact ⟨by simp [go_sem], by simp [go_sem], by simp [go_sem]⟩
  replace Sy := Lib.hid Sy
  have z0 : w.heap.size < W0.heap.size := by rw [hW0]; simp <;> omega
  replace z0 := Lib.hid z0
  have z1 : w.heap.size + 1 < W0.heap.size := by rw [hW0]; simp <;> omega
  replace z1 := Lib.hid z1
  have z2 : w.heap.size + 1 + 1 < W0.heap.size := by rw [hW0]; simp <;> omega
  replace z2 := Lib.hid z2
  clear hW0
  replace Sa := Lib.hid (Sa.out.kept G0.keeps)
  replace Sb := Lib.hid (Sb.out.kept G0.keeps)
  replace Sc := Lib.hid (Sc.out.kept G0.keeps)
  replace G0 := Lib.hid G0
  refine (area_any _ _ _ ax ay bx b_y cx cy k _ Sa.out Sb.out Sc.out hk hs).mono ?_
  rintro e w1 ⟨V1, rfl, hV1, g1⟩
  have hX := Lib.hid (hV1.r q.out)
  obtain ⟨b7, A7, n7, c7, C7, m7, d7, rfl, -⟩ := hV1.laid
  have X1 := hX
  clear hV1 hX
  replace P := Lib.hid (P.out.grew g1)
  replace Py := Lib.hid (Py.out.grew g1)
  replace Q := Lib.hid (Q.out.grew g1)
  replace Qy := Lib.hid (Qy.out.grew g1)
  replace S := Lib.hid (S.out.grew g1)
  replace Sy := Lib.hid (Sy.out.grew g1)
  replace z0 := Lib.hid (lt_grew z0.out g1)
  replace z1 := Lib.hid (lt_grew z1.out g1)
  replace z2 := Lib.hid (lt_grew z2.out g1)
  replace Sa := Lib.hid (Sa.out.kept g1.keeps)
  replace Sb := Lib.hid (Sb.out.kept g1.keeps)
  replace Sc := Lib.hid (Sc.out.kept g1.keeps)
  replace G0 := Lib.hid (G0.out.trans g1)
  clear g1
  go_wp2_with fail
  refine (rfsign_any _ _ _ _ X1.out (by omega) (by omega)).mono ?_
  rintro e w2 ⟨rfl, g2⟩
  replace P := Lib.hid (P.out.grew g2)
  replace Py := Lib.hid (Py.out.grew g2)
  replace Q := Lib.hid (Q.out.grew g2)
  replace Qy := Lib.hid (Qy.out.grew g2)
  replace S := Lib.hid (S.out.grew g2)
  replace Sy := Lib.hid (Sy.out.grew g2)
  replace z0 := Lib.hid (lt_grew z0.out g2)
  replace z1 := Lib.hid (lt_grew z1.out g2)
  replace z2 := Lib.hid (lt_grew z2.out g2)
  replace Sa := Lib.hid (Sa.out.kept g2.keeps)
  replace Sb := Lib.hid (Sb.out.kept g2.keeps)
  replace Sc := Lib.hid (Sc.out.kept g2.keeps)
  replace X1 := Lib.hid (X1.out.kept g2.keeps)
  replace G0 := Lib.hid (G0.out.trans g2)
  clear g2
  rw [e0.out]
  go_wp2_with fail
  go_ret
  exact ⟨rfl, G0.out⟩

set_option maxRecDepth 100000 in
set_option maxHeartbeats 8000000 in
theorem ron_any (Va Vb Vc : Value) (ax ay bx b_y cx cy : Rat) (k : Nat) (w : World) (ha : SpotR w Va ax ay k) (hb : SpotR w Vb bx b_y k) (hc : SpotR w Vc cx cy k) (hk : 1 ≤ k) (hs : k < 67108864) :
    Calls Tryz.prog 11 #[Va, Vb, Vc] w fun e w' => e = .returned (.bool (onQ ax ay bx b_y cx cy)) ∧ Grew w w' := by
  obtain ⟨b1, A1, n1, c1, C1, m1, d1, b2, A2, n2, c2, C2, m2, d2, rfl, Fa, Fb, Sa⟩ := ha.laid
  obtain ⟨b3, A3, n3, c3, C3, m3, d3, b4, A4, n4, c4, C4, m4, d4, rfl, Fc, Fd, Sb⟩ := hb.laid
  obtain ⟨b5, A5, n5, c5, C5, m5, d5, b6, A6, n6, c6, C6, m6, d6, rfl, Fe, Ff, Sc⟩ := hc.laid
  clear ha hb hc
  have eO : onQ ax ay bx b_y cx cy = (decide (turnQ ax ay bx b_y cx cy = 0) && withinQ ax bx cx && withinQ ay b_y cy) := by
    unfold onQ; cases withinQ ax bx cx <;> cases withinQ ay b_y cy <;> cases decide (turnQ ax ay bx b_y cx cy = 0) <;> rfl
  generalize onQ ax ay bx b_y cx cy = oo at *
  replace eO := Lib.hid eO
  go_enter Tryz.func11, Tryz.ntmps11
  go_wp2_with fail
  refine gen_calls ?_
  intro W0 hW0
  have G0 : Grew w W0 := by rw [hW0]; exact (((Grew.refl w).alloc _).alloc _).alloc _
  have P : Box3 W0 (w.heap.size) 0 (.bool b1) (.slice A1 n1 c1) (.slice C1 m1 d1) := by rw [hW0]; exact ⟨by simp [go_sem], by simp [go_sem], by simp [go_sem]⟩
  replace P := Lib.hid P
  have Py : Box3 W0 (w.heap.size) 3 (.bool b2) (.slice A2 n2 c2) (.slice C2 m2 d2) := by rw [hW0]; exact ⟨by simp [go_sem], by simp [go_sem], by simp [go_sem]⟩
  replace Py := Lib.hid Py
  have Q : Box3 W0 (w.heap.size + 1) 0 (.bool b3) (.slice A3 n3 c3) (.slice C3 m3 d3) := by rw [hW0]; exact ⟨by simp [go_sem], by simp [go_sem], by simp [go_sem]⟩
  replace Q := Lib.hid Q
  have Qy : Box3 W0 (w.heap.size + 1) 3 (.bool b4) (.slice A4 n4 c4) (.slice C4 m4 d4) := by rw [hW0]; exact ⟨by simp [go_sem], by simp [go_sem], by simp [go_sem]⟩
  replace Qy := Lib.hid Qy
  have S : Box3 W0 (w.heap.size + 1 + 1) 0 (.bool b5) (.slice A5 n5 c5) (.slice C5 m5 d5) := by rw [hW0]; exact ⟨by simp [go_sem], by simp [go_sem], by simp [go_sem]⟩
  replace S := Lib.hid S
  have Sy : Box3 W0 (w.heap.size + 1 + 1) 3 (.bool b6) (.slice A6 n6 c6) (.slice C6 m6 d6) := by rw [hW0]; exact ⟨by simp [go_sem], by simp [go_sem], by simp [go_sem]⟩
  replace Sy := Lib.hid Sy
  have z0 : w.heap.size < W0.heap.size := by rw [hW0]; simp <;> omega
  replace z0 := Lib.hid z0
  have z1 : w.heap.size + 1 < W0.heap.size := by rw [hW0]; simp <;> omega
  replace z1 := Lib.hid z1
  have z2 : w.heap.size + 1 + 1 < W0.heap.size := by rw [hW0]; simp <;> omega
  replace z2 := Lib.hid z2
  clear hW0
  replace Fa := Lib.hid (Fa.out.kept G0.keeps)
  replace Fb := Lib.hid (Fb.out.kept G0.keeps)
  replace Fc := Lib.hid (Fc.out.kept G0.keeps)
  replace Fd := Lib.hid (Fd.out.kept G0.keeps)
  replace Fe := Lib.hid (Fe.out.kept G0.keeps)
  replace Ff := Lib.hid (Ff.out.kept G0.keeps)
  replace Sa := Lib.hid (Sa.out.kept G0.keeps)
  replace Sb := Lib.hid (Sb.out.kept G0.keeps)
  replace Sc := Lib.hid (Sc.out.kept G0.keeps)
  replace G0 := Lib.hid G0
  refine (rturn_any _ _ _ ax ay bx b_y cx cy k _ Sa.out Sb.out Sc.out hk hs).mono ?_
  rintro e w1 ⟨rfl, g1⟩
  replace P := Lib.hid (P.out.grew g1)
  replace Py := Lib.hid (Py.out.grew g1)
  replace Q := Lib.hid (Q.out.grew g1)
  replace Qy := Lib.hid (Qy.out.grew g1)
  replace S := Lib.hid (S.out.grew g1)
  replace Sy := Lib.hid (Sy.out.grew g1)
  replace z0 := Lib.hid (lt_grew z0.out g1)
  replace z1 := Lib.hid (lt_grew z1.out g1)
  replace z2 := Lib.hid (lt_grew z2.out g1)
  replace Fa := Lib.hid (Fa.out.kept g1.keeps)
  replace Fb := Lib.hid (Fb.out.kept g1.keeps)
  replace Fc := Lib.hid (Fc.out.kept g1.keeps)
  replace Fd := Lib.hid (Fd.out.kept g1.keeps)
  replace Fe := Lib.hid (Fe.out.kept g1.keeps)
  replace Ff := Lib.hid (Ff.out.kept g1.keeps)
  replace Sa := Lib.hid (Sa.out.kept g1.keeps)
  replace Sb := Lib.hid (Sb.out.kept g1.keeps)
  replace Sc := Lib.hid (Sc.out.kept g1.keeps)
  replace G0 := Lib.hid (G0.out.trans g1)
  clear g1
  generalize turnQ ax ay bx b_y cx cy = t at *

  by_cases ht : t = 0
  · as_aux_lemma =>
    subst ht
    rw [decide_eq_true rfl, Bool.true_and] at eO
    obtain ⟨P0, P1, P2⟩ := P.out
    obtain ⟨Py0, Py1, Py2⟩ := Py.out
    obtain ⟨Q0, Q1, Q2⟩ := Q.out
    obtain ⟨Qy0, Qy1, Qy2⟩ := Qy.out
    obtain ⟨S0, S1, S2⟩ := S.out
    obtain ⟨Sy0, Sy1, Sy2⟩ := Sy.out
    go_wp2_with fail
    clear P0 P1 P2 Py0 Py1 Py2 Q0 Q1 Q2 Qy0 Qy1 Qy2 S0 S1 S2 Sy0 Sy1 Sy2
    refine (between_any _ _ _ ax bx cx k _ Fa.out Fc.out Fe.out hk hs).mono ?_
    rintro e w2 ⟨rfl, g2⟩
    replace P := Lib.hid (P.out.grew g2)
    replace Py := Lib.hid (Py.out.grew g2)
    replace Q := Lib.hid (Q.out.grew g2)
    replace Qy := Lib.hid (Qy.out.grew g2)
    replace S := Lib.hid (S.out.grew g2)
    replace Sy := Lib.hid (Sy.out.grew g2)
    replace z0 := Lib.hid (lt_grew z0.out g2)
    replace z1 := Lib.hid (lt_grew z1.out g2)
    replace z2 := Lib.hid (lt_grew z2.out g2)
    replace Fa := Lib.hid (Fa.out.kept g2.keeps)
    replace Fb := Lib.hid (Fb.out.kept g2.keeps)
    replace Fc := Lib.hid (Fc.out.kept g2.keeps)
    replace Fd := Lib.hid (Fd.out.kept g2.keeps)
    replace Fe := Lib.hid (Fe.out.kept g2.keeps)
    replace Ff := Lib.hid (Ff.out.kept g2.keeps)
    replace Sa := Lib.hid (Sa.out.kept g2.keeps)
    replace Sb := Lib.hid (Sb.out.kept g2.keeps)
    replace Sc := Lib.hid (Sc.out.kept g2.keeps)
    replace G0 := Lib.hid (G0.out.trans g2)
    clear g2
    generalize withinQ ax bx cx = B1 at *

    cases B1
    · as_aux_lemma =>
      rw [Bool.false_and] at eO
      obtain ⟨P0, P1, P2⟩ := P.out
      obtain ⟨Py0, Py1, Py2⟩ := Py.out
      obtain ⟨Q0, Q1, Q2⟩ := Q.out
      obtain ⟨Qy0, Qy1, Qy2⟩ := Qy.out
      obtain ⟨S0, S1, S2⟩ := S.out
      obtain ⟨Sy0, Sy1, Sy2⟩ := Sy.out
      go_wp2_with fail
      clear P0 P1 P2 Py0 Py1 Py2 Q0 Q1 Q2 Qy0 Qy1 Qy2 S0 S1 S2 Sy0 Sy1 Sy2
      go_ret
      exact ⟨by rw [eO.out]; rfl, G0.out⟩
    · as_aux_lemma =>

      rw [Bool.true_and] at eO
      obtain ⟨P0, P1, P2⟩ := P.out
      obtain ⟨Py0, Py1, Py2⟩ := Py.out
      obtain ⟨Q0, Q1, Q2⟩ := Q.out
      obtain ⟨Qy0, Qy1, Qy2⟩ := Qy.out
      obtain ⟨S0, S1, S2⟩ := S.out
      obtain ⟨Sy0, Sy1, Sy2⟩ := Sy.out
      go_wp2_with fail
      clear P0 P1 P2 Py0 Py1 Py2 Q0 Q1 Q2 Qy0 Qy1 Qy2 S0 S1 S2 Sy0 Sy1 Sy2
      refine (between_any _ _ _ ay b_y cy k _ Fb.out Fd.out Ff.out hk hs).mono ?_
      rintro e w3 ⟨rfl, g3⟩
      replace P := Lib.hid (P.out.grew g3)
      replace Py := Lib.hid (Py.out.grew g3)
      replace Q := Lib.hid (Q.out.grew g3)
      replace Qy := Lib.hid (Qy.out.grew g3)
      replace S := Lib.hid (S.out.grew g3)
      replace Sy := Lib.hid (Sy.out.grew g3)
      replace z0 := Lib.hid (lt_grew z0.out g3)
      replace z1 := Lib.hid (lt_grew z1.out g3)
      replace z2 := Lib.hid (lt_grew z2.out g3)
      replace Fa := Lib.hid (Fa.out.kept g3.keeps)
      replace Fb := Lib.hid (Fb.out.kept g3.keeps)
      replace Fc := Lib.hid (Fc.out.kept g3.keeps)
      replace Fd := Lib.hid (Fd.out.kept g3.keeps)
      replace Fe := Lib.hid (Fe.out.kept g3.keeps)
      replace Ff := Lib.hid (Ff.out.kept g3.keeps)
      replace Sa := Lib.hid (Sa.out.kept g3.keeps)
      replace Sb := Lib.hid (Sb.out.kept g3.keeps)
      replace Sc := Lib.hid (Sc.out.kept g3.keeps)
      replace G0 := Lib.hid (G0.out.trans g3)
      clear g3
      generalize withinQ ay b_y cy = B2 at *
      go_wp2_with fail
      go_ret
      exact ⟨by rw [eO.out]; rfl, G0.out⟩
  · as_aux_lemma =>


    have eO' := Lib.hid (show oo = false by rw [eO.out, decide_eq_false ht]; rfl)
    have htb : (t == 0) = false := by simpa using ht
    clear eO
    go_wp2_with fail
    go_ret
    exact ⟨by rw [eO'.out]; rfl, G0.out⟩
end Go.Proofs.YtpglnfccmhkocaaGreat
namespace Go.Proofs.YtpglnfccmhkocaaGreat
open Go.RowKit

set_option maxRecDepth 100000 in
set_option maxHeartbeats 8000000 in
theorem turnsl_any (Va Vb Vc : Value) (ax ay bx b_y cx cy : Rat) (k : Nat) (w : World) (ha : SpotR w Va ax ay k) (hb : SpotR w Vb bx b_y k) (hc : SpotR w Vc cx cy k) (hk : 1 ≤ k) (hs : k < 67108864) :
    Calls Tryz.prog 3 #[Va, Vb, Vc] w fun e w' => e = .returned (.bool true) ∧ Grew w w' := by
  obtain ⟨b1, A1, n1, c1, C1, m1, d1, b2, A2, n2, c2, C2, m2, d2, rfl, -, -, Sa⟩ := ha.laid
  obtain ⟨b3, A3, n3, c3, C3, m3, d3, b4, A4, n4, c4, C4, m4, d4, rfl, -, -, Sb⟩ := hb.laid
  obtain ⟨b5, A5, n5, c5, C5, m5, d5, b6, A6, n6, c6, C6, m6, d6, rfl, -, -, Sc⟩ := hc.laid
  have hks : k < 1073741824 := by omega
  obtain ⟨t, ht⟩ : ∃ t, turnQ ax ay bx b_y cx cy = t := ⟨_, rfl⟩
  obtain ⟨o, ho⟩ : ∃ o, onQ ax ay bx b_y cx cy = o := ⟨_, rfl⟩
  replace ht := Lib.hid ht
  replace ho := Lib.hid ho
  clear ha hb hc
  go_enter Tryz.func3, Tryz.ntmps3
  go_wp2_with fail
  refine gen_wp ?_
  intro W0 hW0
  have G0 : Grew w W0 := by rw [hW0]; exact (((Grew.refl w).alloc _).alloc _).alloc _
  have P : Box3 W0 (w.heap.size) 0 (.bool b1) (.slice A1 n1 c1) (.slice C1 m1 d1) := by rw [hW0]; exact ⟨by simp [go_sem], by simp [go_sem], by simp [go_sem]⟩
  replace P := Lib.hid P
  have Py : Box3 W0 (w.heap.size) 3 (.bool b2) (.slice A2 n2 c2) (.slice C2 m2 d2) := by rw [hW0]; exact ⟨by simp [go_sem], by simp [go_sem], by simp [go_sem]⟩
  replace Py := Lib.hid Py
  have Q : Box3 W0 (w.heap.size + 1) 0 (.bool b3) (.slice A3 n3 c3) (.slice C3 m3 d3) := by rw [hW0]; exact ⟨by simp [go_sem], by simp [go_sem], by simp [go_sem]⟩
  replace Q := Lib.hid Q
  have Qy : Box3 W0 (w.heap.size + 1) 3 (.bool b4) (.slice A4 n4 c4) (.slice C4 m4 d4) := by rw [hW0]; exact ⟨by simp [go_sem], by simp [go_sem], by simp [go_sem]⟩
  replace Qy := Lib.hid Qy
  have S : Box3 W0 (w.heap.size + 1 + 1) 0 (.bool b5) (.slice A5 n5 c5) (.slice C5 m5 d5) := by rw [hW0]; exact ⟨by simp [go_sem], by simp [go_sem], by simp [go_sem]⟩
  replace S := Lib.hid S
  have Sy : Box3 W0 (w.heap.size + 1 + 1) 3 (.bool b6) (.slice A6 n6 c6) (.slice C6 m6 d6) := by rw [hW0]; exact ⟨by simp [go_sem], by simp [go_sem], by simp [go_sem]⟩
  replace Sy := Lib.hid Sy
  have z0 : w.heap.size < W0.heap.size := by rw [hW0]; simp <;> omega
  replace z0 := Lib.hid z0
  have z1 : w.heap.size + 1 < W0.heap.size := by rw [hW0]; simp <;> omega
  replace z1 := Lib.hid z1
  have z2 : w.heap.size + 1 + 1 < W0.heap.size := by rw [hW0]; simp <;> omega
  replace z2 := Lib.hid z2
  clear hW0
  replace Sa := Lib.hid (Sa.out.kept G0.keeps)
  replace Sb := Lib.hid (Sb.out.kept G0.keeps)
  replace Sc := Lib.hid (Sc.out.kept G0.keeps)
  replace G0 := Lib.hid G0
  have gd : Grew W0 W0.drew := (Grew.refl W0).drew
  replace P := Lib.hid (P.out.grew gd)
  replace Py := Lib.hid (Py.out.grew gd)
  replace Q := Lib.hid (Q.out.grew gd)
  replace Qy := Lib.hid (Qy.out.grew gd)
  replace S := Lib.hid (S.out.grew gd)
  replace Sy := Lib.hid (Sy.out.grew gd)
  replace z0 := Lib.hid (lt_grew z0.out gd)
  replace z1 := Lib.hid (lt_grew z1.out gd)
  replace z2 := Lib.hid (lt_grew z2.out gd)
  replace Sa := Lib.hid (Sa.out.kept gd.keeps)
  replace Sb := Lib.hid (Sb.out.kept gd.keeps)
  replace Sc := Lib.hid (Sc.out.kept gd.keeps)
  replace gd := Lib.hid gd
  have ZP := P
  have ZPy := Py
  have ZQ := Q
  have ZQy := Qy
  have ZS := S
  have ZSy := Sy
  go_region_held3 (fun w' => w'.cell? ⟨w.heap.size, 0, none⟩ = some (.bool b1) ∧ w'.cell? ⟨w.heap.size, 1, none⟩ = some (.slice A1 n1 c1) ∧ w'.cell? ⟨w.heap.size, 2, none⟩ = some (.slice C1 m1 d1) ∧ w'.cell? ⟨w.heap.size, 3, none⟩ = some (.bool b2) ∧ w'.cell? ⟨w.heap.size, 4, none⟩ = some (.slice A2 n2 c2) ∧ w'.cell? ⟨w.heap.size, 5, none⟩ = some (.slice C2 m2 d2) ∧ w'.cell? ⟨w.heap.size + 1, 0, none⟩ = some (.bool b3) ∧ w'.cell? ⟨w.heap.size + 1, 1, none⟩ = some (.slice A3 n3 c3) ∧ w'.cell? ⟨w.heap.size + 1, 2, none⟩ = some (.slice C3 m3 d3) ∧ w'.cell? ⟨w.heap.size + 1, 3, none⟩ = some (.bool b4) ∧ w'.cell? ⟨w.heap.size + 1, 4, none⟩ = some (.slice A4 n4 c4) ∧ w'.cell? ⟨w.heap.size + 1, 5, none⟩ = some (.slice C4 m4 d4) ∧ w'.cell? ⟨w.heap.size + 1 + 1, 0, none⟩ = some (.bool b5) ∧ w'.cell? ⟨w.heap.size + 1 + 1, 1, none⟩ = some (.slice A5 n5 c5) ∧ w'.cell? ⟨w.heap.size + 1 + 1, 2, none⟩ = some (.slice C5 m5 d5) ∧ w'.cell? ⟨w.heap.size + 1 + 1, 3, none⟩ = some (.bool b6) ∧ w'.cell? ⟨w.heap.size + 1 + 1, 4, none⟩ = some (.slice A6 n6 c6) ∧ w'.cell? ⟨w.heap.size + 1 + 1, 5, none⟩ = some (.slice C6 m6 d6))
    (first | (with_reducible exact ⟨ZP.out.p0, ZP.out.p1, ZP.out.p2, ZPy.out.p0, ZPy.out.p1, ZPy.out.p2, ZQ.out.p0, ZQ.out.p1, ZQ.out.p2, ZQy.out.p0, ZQy.out.p1, ZQy.out.p2, ZS.out.p0, ZS.out.p1, ZS.out.p2, ZSy.out.p0, ZSy.out.p1, ZSy.out.p2⟩) | (with_reducible exact ⟨g1.cell ZP.out.p0, g1.cell ZP.out.p1, g1.cell ZP.out.p2, g1.cell ZPy.out.p0, g1.cell ZPy.out.p1, g1.cell ZPy.out.p2, g1.cell ZQ.out.p0, g1.cell ZQ.out.p1, g1.cell ZQ.out.p2, g1.cell ZQy.out.p0, g1.cell ZQy.out.p1, g1.cell ZQy.out.p2, g1.cell ZS.out.p0, g1.cell ZS.out.p1, g1.cell ZS.out.p2, g1.cell ZSy.out.p0, g1.cell ZSy.out.p1, g1.cell ZSy.out.p2⟩) | (with_reducible exact ⟨(g1.trans g2).cell ZP.out.p0, (g1.trans g2).cell ZP.out.p1, (g1.trans g2).cell ZP.out.p2, (g1.trans g2).cell ZPy.out.p0, (g1.trans g2).cell ZPy.out.p1, (g1.trans g2).cell ZPy.out.p2, (g1.trans g2).cell ZQ.out.p0, (g1.trans g2).cell ZQ.out.p1, (g1.trans g2).cell ZQ.out.p2, (g1.trans g2).cell ZQy.out.p0, (g1.trans g2).cell ZQy.out.p1, (g1.trans g2).cell ZQy.out.p2, (g1.trans g2).cell ZS.out.p0, (g1.trans g2).cell ZS.out.p1, (g1.trans g2).cell ZS.out.p2, (g1.trans g2).cell ZSy.out.p0, (g1.trans g2).cell ZSy.out.p1, (g1.trans g2).cell ZSy.out.p2⟩) | (with_reducible exact ⟨((g1.trans g2).trans g3).cell ZP.out.p0, ((g1.trans g2).trans g3).cell ZP.out.p1, ((g1.trans g2).trans g3).cell ZP.out.p2, ((g1.trans g2).trans g3).cell ZPy.out.p0, ((g1.trans g2).trans g3).cell ZPy.out.p1, ((g1.trans g2).trans g3).cell ZPy.out.p2, ((g1.trans g2).trans g3).cell ZQ.out.p0, ((g1.trans g2).trans g3).cell ZQ.out.p1, ((g1.trans g2).trans g3).cell ZQ.out.p2, ((g1.trans g2).trans g3).cell ZQy.out.p0, ((g1.trans g2).trans g3).cell ZQy.out.p1, ((g1.trans g2).trans g3).cell ZQy.out.p2, ((g1.trans g2).trans g3).cell ZS.out.p0, ((g1.trans g2).trans g3).cell ZS.out.p1, ((g1.trans g2).trans g3).cell ZS.out.p2, ((g1.trans g2).trans g3).cell ZSy.out.p0, ((g1.trans g2).trans g3).cell ZSy.out.p1, ((g1.trans g2).trans g3).cell ZSy.out.p2⟩) | (with_reducible exact ⟨(((g1.trans g2).trans g3).trans g4).cell ZP.out.p0, (((g1.trans g2).trans g3).trans g4).cell ZP.out.p1, (((g1.trans g2).trans g3).trans g4).cell ZP.out.p2, (((g1.trans g2).trans g3).trans g4).cell ZPy.out.p0, (((g1.trans g2).trans g3).trans g4).cell ZPy.out.p1, (((g1.trans g2).trans g3).trans g4).cell ZPy.out.p2, (((g1.trans g2).trans g3).trans g4).cell ZQ.out.p0, (((g1.trans g2).trans g3).trans g4).cell ZQ.out.p1, (((g1.trans g2).trans g3).trans g4).cell ZQ.out.p2, (((g1.trans g2).trans g3).trans g4).cell ZQy.out.p0, (((g1.trans g2).trans g3).trans g4).cell ZQy.out.p1, (((g1.trans g2).trans g3).trans g4).cell ZQy.out.p2, (((g1.trans g2).trans g3).trans g4).cell ZS.out.p0, (((g1.trans g2).trans g3).trans g4).cell ZS.out.p1, (((g1.trans g2).trans g3).trans g4).cell ZS.out.p2, (((g1.trans g2).trans g3).trans g4).cell ZSy.out.p0, (((g1.trans g2).trans g3).trans g4).cell ZSy.out.p1, (((g1.trans g2).trans g3).trans g4).cell ZSy.out.p2⟩) | (with_reducible exact ⟨((((g1.trans g2).trans g3).trans g4).trans g5).cell ZP.out.p0, ((((g1.trans g2).trans g3).trans g4).trans g5).cell ZP.out.p1, ((((g1.trans g2).trans g3).trans g4).trans g5).cell ZP.out.p2, ((((g1.trans g2).trans g3).trans g4).trans g5).cell ZPy.out.p0, ((((g1.trans g2).trans g3).trans g4).trans g5).cell ZPy.out.p1, ((((g1.trans g2).trans g3).trans g4).trans g5).cell ZPy.out.p2, ((((g1.trans g2).trans g3).trans g4).trans g5).cell ZQ.out.p0, ((((g1.trans g2).trans g3).trans g4).trans g5).cell ZQ.out.p1, ((((g1.trans g2).trans g3).trans g4).trans g5).cell ZQ.out.p2, ((((g1.trans g2).trans g3).trans g4).trans g5).cell ZQy.out.p0, ((((g1.trans g2).trans g3).trans g4).trans g5).cell ZQy.out.p1, ((((g1.trans g2).trans g3).trans g4).trans g5).cell ZQy.out.p2, ((((g1.trans g2).trans g3).trans g4).trans g5).cell ZS.out.p0, ((((g1.trans g2).trans g3).trans g4).trans g5).cell ZS.out.p1, ((((g1.trans g2).trans g3).trans g4).trans g5).cell ZS.out.p2, ((((g1.trans g2).trans g3).trans g4).trans g5).cell ZSy.out.p0, ((((g1.trans g2).trans g3).trans g4).trans g5).cell ZSy.out.p1, ((((g1.trans g2).trans g3).trans g4).trans g5).cell ZSy.out.p2⟩))
    (first | (go_at_call 8; refine (turn_any _ _ _ ax ay bx b_y cx cy k _ Sa.out.v Sb.out.v Sc.out.v hk hks).mono ?_; rintro e w1 ⟨rfl, g1⟩; rw [show cmpQ ((bx - ax) * (cy - ay)) ((b_y - ay) * (cx - ax)) = t from ht.out]; replace P := Lib.hid (P.out.grew g1); replace Py := Lib.hid (Py.out.grew g1); replace Q := Lib.hid (Q.out.grew g1); replace Qy := Lib.hid (Qy.out.grew g1); replace S := Lib.hid (S.out.grew g1); replace Sy := Lib.hid (Sy.out.grew g1); replace z0 := Lib.hid (lt_grew z0.out g1); replace z1 := Lib.hid (lt_grew z1.out g1); replace z2 := Lib.hid (lt_grew z2.out g1); replace Sa := Lib.hid (Sa.out.kept g1.keeps); replace Sb := Lib.hid (Sb.out.kept g1.keeps); replace Sc := Lib.hid (Sc.out.kept g1.keeps)) | (go_at_call 9; refine (rturn_any _ _ _ ax ay bx b_y cx cy k _ Sa.out Sb.out Sc.out hk hs).mono ?_; rintro e w2 ⟨rfl, g2⟩; rw [ht.out]; replace P := Lib.hid (P.out.grew g2); replace Py := Lib.hid (Py.out.grew g2); replace Q := Lib.hid (Q.out.grew g2); replace Qy := Lib.hid (Qy.out.grew g2); replace S := Lib.hid (S.out.grew g2); replace Sy := Lib.hid (Sy.out.grew g2); replace z0 := Lib.hid (lt_grew z0.out g2); replace z1 := Lib.hid (lt_grew z1.out g2); replace z2 := Lib.hid (lt_grew z2.out g2); replace Sa := Lib.hid (Sa.out.kept g2.keeps); replace Sb := Lib.hid (Sb.out.kept g2.keeps); replace Sc := Lib.hid (Sc.out.kept g2.keeps)) | (go_at_call 10; refine (on_any _ _ _ ax ay bx b_y cx cy k _ Sa.out.v Sb.out.v Sc.out.v hk hks).mono ?_; rintro e w3 ⟨rfl, g3⟩; rw [ho.out]; replace P := Lib.hid (P.out.grew g3); replace Py := Lib.hid (Py.out.grew g3); replace Q := Lib.hid (Q.out.grew g3); replace Qy := Lib.hid (Qy.out.grew g3); replace S := Lib.hid (S.out.grew g3); replace Sy := Lib.hid (Sy.out.grew g3); replace z0 := Lib.hid (lt_grew z0.out g3); replace z1 := Lib.hid (lt_grew z1.out g3); replace z2 := Lib.hid (lt_grew z2.out g3); replace Sa := Lib.hid (Sa.out.kept g3.keeps); replace Sb := Lib.hid (Sb.out.kept g3.keeps); replace Sc := Lib.hid (Sc.out.kept g3.keeps)) | (go_at_call 11; refine (ron_any _ _ _ ax ay bx b_y cx cy k _ Sa.out Sb.out Sc.out hk hs).mono ?_; rintro e w4 ⟨rfl, g4⟩; rw [ho.out]; replace P := Lib.hid (P.out.grew g4); replace Py := Lib.hid (Py.out.grew g4); replace Q := Lib.hid (Q.out.grew g4); replace Qy := Lib.hid (Qy.out.grew g4); replace S := Lib.hid (S.out.grew g4); replace Sy := Lib.hid (Sy.out.grew g4); replace z0 := Lib.hid (lt_grew z0.out g4); replace z1 := Lib.hid (lt_grew z1.out g4); replace z2 := Lib.hid (lt_grew z2.out g4); replace Sa := Lib.hid (Sa.out.kept g4.keeps); replace Sb := Lib.hid (Sb.out.kept g4.keeps); replace Sc := Lib.hid (Sc.out.kept g4.keeps)) | (go_at_call 12; refine (lives05_any _).mono ?_; rintro e w5 ⟨rfl, g5⟩; replace P := Lib.hid (P.out.grew g5); replace Py := Lib.hid (Py.out.grew g5); replace Q := Lib.hid (Q.out.grew g5); replace Qy := Lib.hid (Qy.out.grew g5); replace S := Lib.hid (S.out.grew g5); replace Sy := Lib.hid (Sy.out.grew g5); replace z0 := Lib.hid (lt_grew z0.out g5); replace z1 := Lib.hid (lt_grew z1.out g5); replace z2 := Lib.hid (lt_grew z2.out g5); replace Sa := Lib.hid (Sa.out.kept g5.keeps); replace Sb := Lib.hid (Sb.out.kept g5.keeps); replace Sc := Lib.hid (Sc.out.kept g5.keeps)))
  replace G0 := Lib.hid ((((((G0.out.trans gd.out).trans g1).trans g2).trans g3).trans g4).trans g5)
  clear gd g1 g2 g3 g4 g5 ZP ZPy ZQ ZQy ZS ZSy
  go_wp2_with fail
  go_ret
  exact ⟨by rfl, G0.out⟩
end Go.Proofs.YtpglnfccmhkocaaGreat
namespace Go.Proofs.YtpglnfccmhkocaaGreat
open Go.ChangeShapes Go.WideShapes Go.ChangeAt Go.RowKit

theorem cells_u32 : Tryz.prog.cellsOf 68 = 1 := by kernel_rfl

section
variable {H : Type} {enc : TypeId × Value → H} {w : World} {base : Nat} {spare : Nat → Bool} {held : Bool}

theorem bulk_lits (k : IntKind) : ∀ zs : List Int, Rows.uptoBulkAll (H := H) (lits k zs) = zs.length
  | [] => by simp [lits, Rows.uptoBulkAll]
  | z :: zs => by
    have h := bulk_lits k zs
    unfold lits at h ⊢
    simp only [List.map_cons, Rows.uptoBulkAll, Rows.uptoBulk, h, List.length_cons]
    omega

/-- A slice of words that comes in reads as a number. -/
theorem open_words {fuel : Nat} {cs : List Value} {x : DataW H × List MemPlace} (h : DataW.trod enc Tryz.prog w base spare held fuel 22 cs = some x) :
    ∃ A n c N, cs = [.slice A n c] ∧ Num 4294967296 .u32 w (.slice A n c) N n ∧ n ≤ Rows.uptoBulk x.1 := by
  rcases open_ints Tryz.underlying22 Tryz.underlying68 cells_u32 h with ⟨rfl, rfl⟩ | ⟨a, ln, cap, zs, rfl, _, hl, hm, hz, rfl, hcell, hwz⟩
  · exact ⟨none, 0, 0, 0, rfl, Num.nil _ _ _, by omega⟩
  · have hzl : ln ≤ zs.length := by rw [hz]; split <;> omega
    have hu : ∀ z ∈ zs, 0 ≤ z ∧ z < 4294967296 := by
      intro z hzm
      have h1 := hwz z hzm
      have h2 : IntKind.u32.min = 0 := rfl
      have h3 : IntKind.u32.max = 4294967295 := rfl
      simp only [Lit.wf, Bool.and_eq_true, decide_eq_true_eq] at h1
      omega
    let xs : List Nat := (zs.take ln).map Int.toNat
    have hxl : xs.length = ln := by simp [xs]; omega
    have hxb : ∀ y ∈ xs, y < 4294967296 := by
      intro y hy
      obtain ⟨z, hz1, rfl⟩ := List.mem_map.1 hy
      have := hu z (List.mem_of_mem_take hz1)
      omega
    have hN : val 4294967296 xs < 4294967296 ^ ln := by rw [← hxl]; exact val_lt (by omega) xs hxb
    have hnum : Num 4294967296 .u32 w (.slice (some a) ln cap) (val 4294967296 xs) ln := by
      refine ⟨some a, cap, rfl, hl, by unfold maxLen at hm; omega, hN, fun h0 => ?_⟩
      obtain ⟨b, off, sp⟩ := a
      have hsp : sp = none := by simpa [Addr.add] using World.cell?_spot (hcell 0 (by omega))
      subst hsp
      refine ⟨b, off, rfl, fun i hi => ?_⟩
      have hc := hcell i (by omega)
      rw [add_plain] at hc
      rw [hc, dig_val (by omega) xs hxb i]
      have hi' : i < zs.length := by omega
      have e : xs.getD i 0 = (zs.getD i 0).toNat := by simp [xs, hi, hi']
      have hz0 := hu (zs.getD i 0) (by simp [hi'])
      rw [e, Int.toNat_of_nonneg hz0.1]
    refine ⟨some a, ln, cap, _, rfl, hnum, ?_⟩
    have h2 : Rows.uptoBulk (DataW.slice (lits (H := H) .u32 (zs.take ln)) (lits .u32 (zs.drop ln))) ≥ ln := by
      simp only [Rows.uptoBulk, bulk_lits, List.length_take, List.length_drop]
      omega
    exact h2

set_option maxRecDepth 100000 in
theorem open_frac {fuel : Nat} {cs : List Value} {x : DataW H × List MemPlace} (h : DataW.trod enc Tryz.prog w base spare held fuel 26 cs = some x) :
    ∃ b A n c C m d q, cs = [.bool b, .slice A n c, .slice C m d] ∧ FracR w (.agg #[.bool b, .slice A n c, .slice C m d]) q (Rows.uptoBulk x.1) := by
  obtain ⟨y0, y1, n1, rfl, hl, h0, h1⟩ := trod_struct2 Tryz.underlying26 h
  obtain ⟨z0, z1, n2, rfl, hl2, g0, g1⟩ := trod_struct2 Tryz.underlying24 h0
  have e3 : Tryz.prog.cellsOf 26 = 3 := by kernel_rfl
  have e2 : Tryz.prog.cellsOf 24 = 2 := by kernel_rfl
  have e1 : Tryz.prog.cellsOf 22 = 1 := by kernel_rfl
  have e0 : Tryz.prog.cellsOf 4 = 1 := by kernel_rfl
  rw [e3] at hl
  match cs, hl with
  | [a0, a1, a2], _ =>
    simp only [e0, e1, e2, List.drop_zero, List.drop_succ_cons, List.take_succ_cons, List.take_zero] at h1 g0 g1
    obtain ⟨b, hb, -⟩ := DataW.trod_bool Tryz.underlying4 g0
    obtain ⟨A, n, c, N, hA, hN, hNl⟩ := open_words g1
    obtain ⟨C, m, d, D, hC, hD, hDl⟩ := open_words h1
    injection hb with hb
    injection hA with hA
    injection hC with hC
    subst hb; subst hA; subst hC
    refine ⟨b, A, n, c, C, m, d, _, rfl, b, N, D, n, m, _, _, rfl, hN, hD, rfl, ?_, ?_⟩
    · simp only [Rows.uptoBulk, Rows.uptoBulkAll]; omega
    · simp only [Rows.uptoBulk, Rows.uptoBulkAll]; omega

set_option maxRecDepth 100000 in
theorem open_spot {fuel : Nat} {cs : List Value} {x : DataW H × List MemPlace} (h : DataW.trod enc Tryz.prog w base spare held fuel 28 cs = some x) :
    ∃ p q, SpotR w (.agg cs.toArray) p q (Rows.uptoBulk x.1) := by
  obtain ⟨y0, y1, n1, rfl, hl, h0, h1⟩ := trod_struct2 Tryz.underlying28 h
  have e6 : Tryz.prog.cellsOf 28 = 6 := by kernel_rfl
  have e3 : Tryz.prog.cellsOf 26 = 3 := by kernel_rfl
  rw [e6] at hl
  match cs, hl with
  | [a0, a1, a2, a3, a4, a5], _ =>
    simp only [e3, List.drop_zero, List.drop_succ_cons, List.take_succ_cons, List.take_zero] at h0 h1
    obtain ⟨b, A, n, c, C, m, d, p, e, hp⟩ := open_frac h0
    obtain ⟨b', A', n', c', C', m', d', q, e', hq⟩ := open_frac h1
    injection e with i0 e; injection e with i1 e; injection e with i2 e
    injection e' with i3 e'; injection e' with i4 e'; injection e' with i5 e'
    subst i0; subst i1; subst i2; subst i3; subst i4; subst i5
    obtain ⟨neg, N, D, n1, m1, va, vd, w1, w2, w3, w4, w5, w6⟩ := hp
    obtain ⟨neg', N', D', n1', m1', va', vd', w1', w2', w3', w4', w5', w6'⟩ := hq
    refine ⟨p, q, b, A, n, c, C, m, d, b', A', n', c', C', m', d', rfl, ⟨neg, N, D, n1, m1, va, vd, w1, w2, w3, w4, ?_, ?_⟩, ⟨neg', N', D', n1', m1', va', vd', w1', w2', w3', w4', ?_, ?_⟩⟩ <;>
      (simp only [Rows.uptoBulk, Rows.uptoBulkAll]; omega)
end

/-- The row's last step where only new memory was made. -/
theorem post_grew {H : Type} {enc : TypeId × Value → H} {P : Program} {f : Func} {s : ChangeSpec} {apart fresh handsOn again : Bool} {W W' : World} {args : Array Value} {v : Value} {ds gs : List (DataW H)} {before pa pv : List MemPlace}
    (hW : DataW.Whole enc P f.params.toList s.vars apart W args.toList ds gs before)
    (hres : ∀ (b : Nat) (sp : Nat → Bool) (hd : Bool), DataW.TrodAll enc P W' b sp hd f.resultTypes.toList (v.resultList f.resultTypes.size) (s.fn H (ds ++ gs)).results [])
    (hargs : ∀ sp : Nat → Bool, (∀ p ∈ before, sp p.block = true) → DataW.TrodAll enc P W' 0 sp true f.params.toList args.toList (s.fn H (ds ++ gs)).args pa)
    (hvars : ∀ sp : Nat → Bool, (∀ p ∈ before, sp p.block = true) → DataW.TrodVars enc P W' sp s.vars (s.fn H (ds ++ gs)).vars pv)
    (hps : before = pa ++ pv) (g : Grew W W')
    (hok : ∀ (j : Nat) (t : TypeId) (r : Value), f.resultTypes[j]? = some t → (v.resultList f.resultTypes.size)[j]? = some r → Value.okWide P W' .any 0 t r) :
    s.post enc P f apart fresh handsOn again W args v W' := by
  have hb := g.below
  have hlt : ∀ p ∈ before, p.block < W.heap.size := fun p hp => hW.lt p hp
  have hold : ∀ p ∈ before, (fun b => decide (b < W.heap.size)) p.block = true := fun p hp => by simpa using hlt p hp
  refine ⟨ds, gs, before, [], pa, pv, hW, hres _ _ _, hargs _ hold, hvars _ hold, World.keptBut_mono (fun p hp => ⟨hp, ?_⟩) (hb.frame (· ∈ before)), fun _ => ?_⟩
  · rw [hps, List.mem_append] at hp
    exact Or.inr hp
  · obtain ⟨_, _, _, _, _, hz, hn⟩ := hW
    refine ⟨hok, _, _, ([] ++ pa) ++ pv, ⟨[] ++ pa, pv, trodAll_append (hargs _ (fun _ _ => rfl)) (hres _ _ _), hvars _ (fun _ _ => rfl), rfl, ?_, ?_⟩, ?_⟩
    · intro b off hp
      have hin : MemPlace.cell b off ∈ before := by rw [hps]; simpa using hp
      rw [hb.frozen (hlt _ hin)]
      exact hz b off hin
    · intro ha
      have := hn ha
      rw [hps] at this
      simpa using this
    · intro p hp _
      rw [hps]
      simpa using hp
end Go.Proofs.YtpglnfccmhkocaaGreat
