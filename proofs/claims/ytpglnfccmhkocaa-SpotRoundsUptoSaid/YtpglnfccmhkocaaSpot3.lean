/- spot.On, spot.At, and spot.Turns at three points. Condition: what comes in reads; fewer than 2^30 words. -/
import Derived.Test.YtpglnfccmhkocaaSpot2
namespace Go.Proofs.Ytpglnfccmhkocaa
open Go.RowKit

/-- On which side: by both products. -/
def turnQ (ax ay bx b_y cx cy : Rat) : Int := cmpQ ((bx - ax) * (cy - ay)) ((b_y - ay) * (cx - ax))
def onQ (ax ay bx b_y cx cy : Rat) : Bool := withinQ ax bx cx && withinQ ay b_y cy && decide (turnQ ax ay bx b_y cx cy = 0)

set_option maxRecDepth 100000 in
set_option maxHeartbeats 8000000 in
theorem on_any (Va Vb Vc : Value) (ax ay bx b_y cx cy : Rat) (k : Nat) (w : World) (ha : SpotV w Va ax ay k) (hb : SpotV w Vb bx b_y k) (hc : SpotV w Vc cx cy k) (hk : 1 ≤ k) (hs : k < 1073741824) :
    Calls Try.prog 12 #[Va, Vb, Vc] w fun e w' => e = .returned (.bool (onQ ax ay bx b_y cx cy)) ∧ Grew w w' := by
  obtain ⟨b1, A1, n1, c1, C1, m1, d1, b2, A2, n2, c2, C2, m2, d2, rfl, Fa, Fb, Sa⟩ := ha.laid
  obtain ⟨b3, A3, n3, c3, C3, m3, d3, b4, A4, n4, c4, C4, m4, d4, rfl, Fc, Fd, Sb⟩ := hb.laid
  obtain ⟨b5, A5, n5, c5, C5, m5, d5, b6, A6, n6, c6, C6, m6, d6, rfl, Fe, Ff, Sc⟩ := hc.laid
  clear ha hb hc
  have eO : onQ ax ay bx b_y cx cy = (withinQ ax bx cx && withinQ ay b_y cy && decide (turnQ ax ay bx b_y cx cy = 0)) := rfl
  have eT : turnQ ax ay bx b_y cx cy = cmpQ ((bx - ax) * (cy - ay)) ((b_y - ay) * (cx - ax)) := rfl
  generalize onQ ax ay bx b_y cx cy = oo at *
  replace eO := Lib.hid eO
  replace eT := Lib.hid eT
  go_enter Try.func12, Try.ntmps12
  go_wp2_with fail
  refine gen_calls ?_
  intro W0 hW0
  have G0 : Grew w W0 := by rw [hW0]; exact (((Grew.refl w).alloc _).alloc _).alloc _
  have P : Box3 W0 (w.heap.size) 0 (.bool b1) (.slice A1 n1 c1) (.slice C1 m1 d1) := by rw [hW0]; exact ⟨by simp [go_sem], by simp [go_sem], by simp [go_sem]⟩
  replace P := Lib.hid P
  have Py : Box3 W0 (w.heap.size) 3 (.bool b2) (.slice A2 n2 c2) (.slice C2 m2 d2) := by rw [hW0]; exact ⟨by simp [go_sem], by simp [go_sem], by simp [go_sem]⟩
  replace Py := Lib.hid Py
  have Q : Box3 W0 (w.heap.size + 1) 0 (.bool b3) (.slice A3 n3 c3) (.slice C3 m3 d3) := by rw [hW0]; exact ⟨by simp [go_sem], by simp [go_sem], by simp [go_sem]⟩
  replace Q := Lib.hid Q
  have Qy : Box3 W0 (w.heap.size + 1) 3 (.bool b4) (.slice A4 n4 c4) (.slice C4 m4 d4) := by rw [hW0]; exact ⟨by simp [go_sem], by simp [go_sem], by simp [go_sem]⟩
  replace Qy := Lib.hid Qy
  have S : Box3 W0 (w.heap.size + 1 + 1) 0 (.bool b5) (.slice A5 n5 c5) (.slice C5 m5 d5) := by rw [hW0]; exact ⟨by simp [go_sem], by simp [go_sem], by simp [go_sem]⟩
  replace S := Lib.hid S
  have Sy : Box3 W0 (w.heap.size + 1 + 1) 3 (.bool b6) (.slice A6 n6 c6) (.slice C6 m6 d6) := by rw [hW0]; exact ⟨by simp [go_sem], by simp [go_sem], by simp [go_sem]⟩
  replace Sy := Lib.hid Sy
  have z0 : w.heap.size < W0.heap.size := by rw [hW0]; simp <;> omega
  replace z0 := Lib.hid z0
  have z1 : w.heap.size + 1 < W0.heap.size := by rw [hW0]; simp <;> omega
  replace z1 := Lib.hid z1
  have z2 : w.heap.size + 1 + 1 < W0.heap.size := by rw [hW0]; simp <;> omega
  replace z2 := Lib.hid z2
  clear hW0
  replace Fa := Lib.hid (Fa.out.kept G0.keeps)
  replace Fb := Lib.hid (Fb.out.kept G0.keeps)
  replace Fc := Lib.hid (Fc.out.kept G0.keeps)
  replace Fd := Lib.hid (Fd.out.kept G0.keeps)
  replace Fe := Lib.hid (Fe.out.kept G0.keeps)
  replace Ff := Lib.hid (Ff.out.kept G0.keeps)
  replace Sa := Lib.hid (Sa.out.kept G0.keeps)
  replace Sb := Lib.hid (Sb.out.kept G0.keeps)
  replace Sc := Lib.hid (Sc.out.kept G0.keeps)
  replace G0 := Lib.hid G0
  refine (within_any _ _ _ ax bx cx k _ Fa.out Fc.out Fe.out hk hs).mono ?_
  rintro e w1 ⟨rfl, g1⟩
  replace P := Lib.hid (P.out.grew g1)
  replace Py := Lib.hid (Py.out.grew g1)
  replace Q := Lib.hid (Q.out.grew g1)
  replace Qy := Lib.hid (Qy.out.grew g1)
  replace S := Lib.hid (S.out.grew g1)
  replace Sy := Lib.hid (Sy.out.grew g1)
  replace z0 := Lib.hid (lt_grew z0.out g1)
  replace z1 := Lib.hid (lt_grew z1.out g1)
  replace z2 := Lib.hid (lt_grew z2.out g1)
  replace Fa := Lib.hid (Fa.out.kept g1.keeps)
  replace Fb := Lib.hid (Fb.out.kept g1.keeps)
  replace Fc := Lib.hid (Fc.out.kept g1.keeps)
  replace Fd := Lib.hid (Fd.out.kept g1.keeps)
  replace Fe := Lib.hid (Fe.out.kept g1.keeps)
  replace Ff := Lib.hid (Ff.out.kept g1.keeps)
  replace Sa := Lib.hid (Sa.out.kept g1.keeps)
  replace Sb := Lib.hid (Sb.out.kept g1.keeps)
  replace Sc := Lib.hid (Sc.out.kept g1.keeps)
  replace G0 := Lib.hid (G0.out.trans g1)
  clear g1
  generalize withinQ ax bx cx = B1 at *

  cases B1
  · as_aux_lemma =>
    rw [Bool.false_and, Bool.false_and] at eO
    obtain ⟨P0, P1, P2⟩ := P.out
    obtain ⟨Py0, Py1, Py2⟩ := Py.out
    obtain ⟨Q0, Q1, Q2⟩ := Q.out
    obtain ⟨Qy0, Qy1, Qy2⟩ := Qy.out
    obtain ⟨S0, S1, S2⟩ := S.out
    obtain ⟨Sy0, Sy1, Sy2⟩ := Sy.out
    go_wp2_with fail
    clear P0 P1 P2 Py0 Py1 Py2 Q0 Q1 Q2 Qy0 Qy1 Qy2 S0 S1 S2 Sy0 Sy1 Sy2
    go_ret
    exact ⟨by rw [eO.out]; rfl, G0.out⟩
  · as_aux_lemma =>

    rw [Bool.true_and] at eO
    obtain ⟨P0, P1, P2⟩ := P.out
    obtain ⟨Py0, Py1, Py2⟩ := Py.out
    obtain ⟨Q0, Q1, Q2⟩ := Q.out
    obtain ⟨Qy0, Qy1, Qy2⟩ := Qy.out
    obtain ⟨S0, S1, S2⟩ := S.out
    obtain ⟨Sy0, Sy1, Sy2⟩ := Sy.out
    go_wp2_with fail
    clear P0 P1 P2 Py0 Py1 Py2 Q0 Q1 Q2 Qy0 Qy1 Qy2 S0 S1 S2 Sy0 Sy1 Sy2
    refine (within_any _ _ _ ay b_y cy k _ Fb.out Fd.out Ff.out hk hs).mono ?_
    rintro e w2 ⟨rfl, g2⟩
    replace P := Lib.hid (P.out.grew g2)
    replace Py := Lib.hid (Py.out.grew g2)
    replace Q := Lib.hid (Q.out.grew g2)
    replace Qy := Lib.hid (Qy.out.grew g2)
    replace S := Lib.hid (S.out.grew g2)
    replace Sy := Lib.hid (Sy.out.grew g2)
    replace z0 := Lib.hid (lt_grew z0.out g2)
    replace z1 := Lib.hid (lt_grew z1.out g2)
    replace z2 := Lib.hid (lt_grew z2.out g2)
    replace Fa := Lib.hid (Fa.out.kept g2.keeps)
    replace Fb := Lib.hid (Fb.out.kept g2.keeps)
    replace Fc := Lib.hid (Fc.out.kept g2.keeps)
    replace Fd := Lib.hid (Fd.out.kept g2.keeps)
    replace Fe := Lib.hid (Fe.out.kept g2.keeps)
    replace Ff := Lib.hid (Ff.out.kept g2.keeps)
    replace Sa := Lib.hid (Sa.out.kept g2.keeps)
    replace Sb := Lib.hid (Sb.out.kept g2.keeps)
    replace Sc := Lib.hid (Sc.out.kept g2.keeps)
    replace G0 := Lib.hid (G0.out.trans g2)
    clear g2
    generalize withinQ ay b_y cy = B2 at *

    cases B2
    · as_aux_lemma =>
      rw [Bool.false_and] at eO
      obtain ⟨P0, P1, P2⟩ := P.out
      obtain ⟨Py0, Py1, Py2⟩ := Py.out
      obtain ⟨Q0, Q1, Q2⟩ := Q.out
      obtain ⟨Qy0, Qy1, Qy2⟩ := Qy.out
      obtain ⟨S0, S1, S2⟩ := S.out
      obtain ⟨Sy0, Sy1, Sy2⟩ := Sy.out
      go_wp2_with fail
      clear P0 P1 P2 Py0 Py1 Py2 Q0 Q1 Q2 Qy0 Qy1 Qy2 S0 S1 S2 Sy0 Sy1 Sy2
      go_ret
      exact ⟨by rw [eO.out]; rfl, G0.out⟩
    · as_aux_lemma =>

      rw [Bool.true_and] at eO
      obtain ⟨P0, P1, P2⟩ := P.out
      obtain ⟨Py0, Py1, Py2⟩ := Py.out
      obtain ⟨Q0, Q1, Q2⟩ := Q.out
      obtain ⟨Qy0, Qy1, Qy2⟩ := Qy.out
      obtain ⟨S0, S1, S2⟩ := S.out
      obtain ⟨Sy0, Sy1, Sy2⟩ := Sy.out
      go_wp2_with fail
      clear P0 P1 P2 Py0 Py1 Py2 Q0 Q1 Q2 Qy0 Qy1 Qy2 S0 S1 S2 Sy0 Sy1 Sy2
      refine (turn_any _ _ _ ax ay bx b_y cx cy k _ Sa.out Sb.out Sc.out hk hs).mono ?_
      rintro e w3 ⟨rfl, g3⟩
      replace P := Lib.hid (P.out.grew g3)
      replace Py := Lib.hid (Py.out.grew g3)
      replace Q := Lib.hid (Q.out.grew g3)
      replace Qy := Lib.hid (Qy.out.grew g3)
      replace S := Lib.hid (S.out.grew g3)
      replace Sy := Lib.hid (Sy.out.grew g3)
      replace z0 := Lib.hid (lt_grew z0.out g3)
      replace z1 := Lib.hid (lt_grew z1.out g3)
      replace z2 := Lib.hid (lt_grew z2.out g3)
      replace Fa := Lib.hid (Fa.out.kept g3.keeps)
      replace Fb := Lib.hid (Fb.out.kept g3.keeps)
      replace Fc := Lib.hid (Fc.out.kept g3.keeps)
      replace Fd := Lib.hid (Fd.out.kept g3.keeps)
      replace Fe := Lib.hid (Fe.out.kept g3.keeps)
      replace Ff := Lib.hid (Ff.out.kept g3.keeps)
      replace Sa := Lib.hid (Sa.out.kept g3.keeps)
      replace Sb := Lib.hid (Sb.out.kept g3.keeps)
      replace Sc := Lib.hid (Sc.out.kept g3.keeps)
      replace G0 := Lib.hid (G0.out.trans g3)
      clear g3
      rw [← eT.out]
      generalize turnQ ax ay bx b_y cx cy = t at *
      by_cases ht : t = 0
      · as_aux_lemma =>
        subst ht
        have eO' := Lib.hid (eO.out.trans (decide_eq_true rfl))
        clear eO
        go_wp2_with fail
        go_ret
        exact ⟨by rw [eO'.out]; rfl, G0.out⟩
      · as_aux_lemma =>
        have eO' := Lib.hid (eO.out.trans (decide_eq_false ht))
        have htb : (t == 0) = false := by simpa using ht
        clear eO
        go_wp2_with fail
        go_ret
        exact ⟨by rw [eO'.out]; rfl, G0.out⟩

set_option maxRecDepth 100000 in
set_option maxHeartbeats 8000000 in
theorem at_any (x y : Int) (w : World) (x0 : -9223372036854775808 ≤ x) (x1 : x ≤ 9223372036854775807) (y0 : -9223372036854775808 ≤ y) (y1 : y ≤ 9223372036854775807) :
    Calls Try.prog 43 #[.agg #[.int .i64 x, .int .i64 y]] w fun e w' => ∃ V, e = .returned V ∧ SpotC w' V (x : Rat) (y : Rat) ∧ Grew w w' := by
  go_enter Try.func43, Try.ntmps43
  go_wp2_with fail
  refine gen_wp ?_
  intro W0 hW0
  have G0 : Grew w W0 := by rw [hW0]; exact ((Grew.refl w).alloc _).alloc _
  have P : Box2 W0 (w.heap.size) 0 (.int .i64 x) (.int .i64 y) := by rw [hW0]; exact ⟨by simp [go_sem], by simp [go_sem]⟩
  replace P := Lib.hid P
  have R : Res3 W0 (w.heap.size + 1) 0 (.bool false) (.slice none 0 0) (.slice none 0 0) := by rw [hW0]; exact ⟨by simp [go_sem], by simp [go_sem], by simp [go_sem], by simp [go_sem], by simp [go_sem], by simp [go_sem], by simp⟩
  replace R := Lib.hid R
  have R_ : Res3 W0 (w.heap.size + 1) 3 (.bool false) (.slice none 0 0) (.slice none 0 0) := by rw [hW0]; exact ⟨by simp [go_sem], by simp [go_sem], by simp [go_sem], by simp [go_sem], by simp [go_sem], by simp [go_sem], by simp⟩
  replace R_ := Lib.hid R_
  have z0 : w.heap.size < W0.heap.size := by rw [hW0]; simp <;> omega
  replace z0 := Lib.hid z0
  have z1 : w.heap.size + 1 < W0.heap.size := by rw [hW0]; simp <;> omega
  replace z1 := Lib.hid z1
  clear hW0
  replace G0 := Lib.hid G0
  have gd : Grew W0 W0.drew := (Grew.refl W0).drew
  replace R := Lib.hid (R.out.grew gd)
  replace R_ := Lib.hid (R_.out.grew gd)
  replace P := Lib.hid (P.out.grew gd)
  replace z0 := Lib.hid (lt_grew z0.out gd)
  replace z1 := Lib.hid (lt_grew z1.out gd)
  replace gd := Lib.hid gd
  have ZP := P
  go_region_held3 (fun w' => w'.cell? ⟨w.heap.size, 0, none⟩ = some (.int .i64 x) ∧ w'.cell? ⟨w.heap.size, 1, none⟩ = some (.int .i64 y))
    (first | (with_reducible exact ⟨ZP.out.p0, ZP.out.p1⟩) | (with_reducible exact ⟨g1.cell ZP.out.p0, g1.cell ZP.out.p1⟩) | (with_reducible exact ⟨(g1.trans g2).cell ZP.out.p0, (g1.trans g2).cell ZP.out.p1⟩) | (with_reducible exact ⟨other3 (o := 3) (by omega) (other3 (o := 0) (by omega) ((g1.trans g2).cell ZP.out.p0)), other3 (o := 3) (by omega) (other3 (o := 0) (by omega) ((g1.trans g2).cell ZP.out.p1))⟩))
    (first | (go_at_call 22; refine (fint_any x _ x0 x1).mono ?_; rintro e w1 ⟨V1, rfl, hV1, g1⟩; obtain ⟨b13, A13, n13, c13, C13, m13, d13, rfl, X1⟩ := hV1.laid; clear hV1; replace R := Lib.hid (R.out.grew g1); replace R_ := Lib.hid (R_.out.grew g1); replace P := Lib.hid (P.out.grew g1); replace z0 := Lib.hid (lt_grew z0.out g1); replace z1 := Lib.hid (lt_grew z1.out g1)) | (go_at_call 22; refine (fint_any y _ y0 y1).mono ?_; rintro e w2 ⟨V2, rfl, hV2, g2⟩; obtain ⟨b14, A14, n14, c14, C14, m14, d14, rfl, X2⟩ := hV2.laid; clear hV2; replace R := Lib.hid (R.out.grew g2); replace R_ := Lib.hid (R_.out.grew g2); replace P := Lib.hid (P.out.grew g2); replace z0 := Lib.hid (lt_grew z0.out g2); replace z1 := Lib.hid (lt_grew z1.out g2); replace X1 := Lib.hid (X1.out.kept g2.keeps); obtain ⟨R0, R1, R2, Rf0, Rf1, Rf2, Rs⟩ := R.out; obtain ⟨R_0, R_1, R_2, R_f0, R_f1, R_f2, R_s⟩ := R_.out))
  replace G0 := Lib.hid (((G0.out.trans gd.out).trans g1).trans g2)
  clear gd g1 g2 ZP
  refine gen_then ?_
  intro W9 hW9
  obtain ⟨q0, q1, q2, q3, q4, q5, qK, qG⟩ := store6 R0 R1 R2 R_0 R_1 R_2 hW9
  have GE := qG w (by omega) G0.out
  have QK := Lib.hid qK
  clear qK qG hW9 R0 R1 R2 R_0 R_1 R_2
  go_wp2_with fail
  exact bodyPost_ret (v := .agg #[.bool b13, .slice A13 n13 c13, .slice C13 m13 d13, .bool b14, .slice A14 n14 c14, .slice C14 m14 d14]) (by simp [results, Try.results43, go_sem, q0, q1, q2, q3, q4, q5]) rfl ⟨_, rfl, SpotC.mk (X1.out.kept QK.out) (X2.out.kept QK.out), GE⟩

set_option maxRecDepth 100000 in
set_option maxHeartbeats 2000000 in
theorem near_yes (x y : Int) (w : World) (x0 : -1073741824 ≤ x) (x1 : x ≤ 1073741824) (y0 : -1073741824 ≤ y) (y1 : y ≤ 1073741824) :
    Calls Try.prog 48 #[.agg #[.int .i64 x, .int .i64 y]] w fun e w' => e = .returned (.bool true) ∧ Grew w w' := by
  go_enter Try.func48, Try.ntmps48
  go_wp2_with fail
  go_ret
  exact ⟨rfl, (Grew.refl w).alloc _⟩

set_option maxRecDepth 100000 in
set_option maxHeartbeats 2000000 in
theorem isign_any (x : Int) (w : World) : Calls Try.prog 78 #[.int .i64 x] w fun e w' => e = .returned (.int .i64 (sg x)) ∧ w = w' := by
  rcases Int.lt_trichotomy x 0 with h | h | h
  · have e : sg x = -1 := by unfold sg; rw [if_neg (by omega), if_pos h]
    replace e := Lib.hid e
    go_enter Try.func78, Try.ntmps78
    go_wp2_with fail
    go_ret
    exact ⟨by rw [e.out]; rfl, rfl⟩
  · subst h
    go_enter Try.func78, Try.ntmps78
    go_wp2_with fail
    go_ret
    exact ⟨rfl, rfl⟩
  · have e : sg x = 1 := by unfold sg; rw [if_neg (by omega), if_neg (by omega)]
    have h' : ¬ x < 0 := by omega
    replace e := Lib.hid e
    go_enter Try.func78, Try.ntmps78
    go_wp2_with fail
    go_ret
    exact ⟨by rw [e.out]; rfl, rfl⟩

set_option maxRecDepth 100000 in
set_option maxHeartbeats 4000000 in
theorem turns_lit (w : World) :
    Calls Try.prog 41 #[.agg #[.int .i64 0, .int .i64 0], .agg #[.int .i64 2, .int .i64 0], .agg #[.int .i64 1, .int .i64 1]] w fun e w' => e = .returned (.int .i64 1) ∧ Grew w w' := by
  go_enter Try.func41, Try.ntmps41
  go_wp2_with fail
  refine gen_calls ?_
  intro W0 hW0
  have G0 : Grew w W0 := by rw [hW0]; exact (((Grew.refl w).alloc _).alloc _).alloc _
  have P : Box2 W0 (w.heap.size) 0 (.int .i64 0) (.int .i64 0) := by rw [hW0]; exact ⟨by simp [go_sem], by simp [go_sem]⟩
  replace P := Lib.hid P
  have Q : Box2 W0 (w.heap.size + 1) 0 (.int .i64 2) (.int .i64 0) := by rw [hW0]; exact ⟨by simp [go_sem], by simp [go_sem]⟩
  replace Q := Lib.hid Q
  have S : Box2 W0 (w.heap.size + 1 + 1) 0 (.int .i64 1) (.int .i64 1) := by rw [hW0]; exact ⟨by simp [go_sem], by simp [go_sem]⟩
  replace S := Lib.hid S
  have z0 : w.heap.size < W0.heap.size := by rw [hW0]; simp <;> omega
  replace z0 := Lib.hid z0
  have z1 : w.heap.size + 1 < W0.heap.size := by rw [hW0]; simp <;> omega
  replace z1 := Lib.hid z1
  have z2 : w.heap.size + 1 + 1 < W0.heap.size := by rw [hW0]; simp <;> omega
  replace z2 := Lib.hid z2
  clear hW0
  replace G0 := Lib.hid G0
  refine (near_yes 0 0 _ (by omega) (by omega) (by omega) (by omega)).mono ?_
  rintro e w1 ⟨rfl, g1⟩
  replace P := Lib.hid (P.out.grew g1)
  replace Q := Lib.hid (Q.out.grew g1)
  replace S := Lib.hid (S.out.grew g1)
  replace z0 := Lib.hid (lt_grew z0.out g1)
  replace z1 := Lib.hid (lt_grew z1.out g1)
  replace z2 := Lib.hid (lt_grew z2.out g1)
  replace G0 := Lib.hid (G0.out.trans g1)
  clear g1
  obtain ⟨P0, P1⟩ := P.out
  obtain ⟨Q0, Q1⟩ := Q.out
  obtain ⟨S0, S1⟩ := S.out
  go_wp2_with fail
  clear P0 P1 Q0 Q1 S0 S1
  refine (near_yes 2 0 _ (by omega) (by omega) (by omega) (by omega)).mono ?_
  rintro e w2 ⟨rfl, g2⟩
  replace P := Lib.hid (P.out.grew g2)
  replace Q := Lib.hid (Q.out.grew g2)
  replace S := Lib.hid (S.out.grew g2)
  replace z0 := Lib.hid (lt_grew z0.out g2)
  replace z1 := Lib.hid (lt_grew z1.out g2)
  replace z2 := Lib.hid (lt_grew z2.out g2)
  replace G0 := Lib.hid (G0.out.trans g2)
  clear g2
  obtain ⟨P0, P1⟩ := P.out
  obtain ⟨Q0, Q1⟩ := Q.out
  obtain ⟨S0, S1⟩ := S.out
  go_wp2_with fail
  clear P0 P1 Q0 Q1 S0 S1
  refine (near_yes 1 1 _ (by omega) (by omega) (by omega) (by omega)).mono ?_
  rintro e w3 ⟨rfl, g3⟩
  replace P := Lib.hid (P.out.grew g3)
  replace Q := Lib.hid (Q.out.grew g3)
  replace S := Lib.hid (S.out.grew g3)
  replace z0 := Lib.hid (lt_grew z0.out g3)
  replace z1 := Lib.hid (lt_grew z1.out g3)
  replace z2 := Lib.hid (lt_grew z2.out g3)
  replace G0 := Lib.hid (G0.out.trans g3)
  clear g3
  obtain ⟨P0, P1⟩ := P.out
  obtain ⟨Q0, Q1⟩ := Q.out
  obtain ⟨S0, S1⟩ := S.out
  go_wp2_with fail
  clear P0 P1 Q0 Q1 S0 S1
  refine (isign_any _ _).mono ?_
  rintro e w' ⟨rfl, rfl⟩
  go_wp2_with fail
  go_ret
  exact ⟨rfl, G0.out⟩
end Go.Proofs.Ytpglnfccmhkocaa
