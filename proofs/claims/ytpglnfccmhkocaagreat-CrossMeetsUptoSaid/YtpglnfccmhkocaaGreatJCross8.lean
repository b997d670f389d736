/- cross.Cross. Condition: ints of 64 bits. r05.clean, spot.clean, r05.Row. Condition: what comes in reads; fewer than 2^26 words, fewer than 2^36 spots. r05.Row. Condition: what comes in reads; fewer than 2^26 words, at most 2^40 spots. r17.Same at one row; r04.Make, r04.Div. Condition: what comes in reads. -/
import Derived.Test.YtpglnfccmhkocaaGreatJCross6
import Derived.Deep.LoopGhost
import Derived.Deep.RegionHeld3
namespace Go.Proofs.YtpglnfccmhkocaaGreat
open Go.RowKit

/-- Do two ways go through one another, as the program finds it? -/
def crossB (ax ay bx b_y cx cy dx dy : Int) : Bool :=
  if (fitB ax ay && fitB bx b_y) = true ∧ (fitB cx cy && fitB dx dy) = true then
    (if (lieZ ax ay bx b_y cx cy dx dy).1 = 1 then
      (if (lieZ ax ay bx b_y cx cy dx dy).2.1 ≠ 0 ∧ (lieZ ax ay bx b_y cx cy dx dy).2.1 ≠ (lieZ ax ay bx b_y cx cy dx dy).2.2 ∧ crossZ (cx - ax) (cy - ay) (bx - ax) (b_y - ay) ≠ 0 ∧ crossZ (cx - ax) (cy - ay) (bx - ax) (b_y - ay) ≠ (lieZ ax ay bx b_y cx cy dx dy).2.2 then true else false)
    else false)
  else false

set_option maxRecDepth 100000 in
set_option maxHeartbeats 8000000 in
theorem cross_any (ax ay bx b_y cx cy dx dy : Int) (w : World) :
    Calls Tryz.prog 28 #[segV ax ay bx b_y, segV cx cy dx dy] w fun e w' => e = .returned (.bool (crossB ax ay bx b_y cx cy dx dy)) ∧ Grew w w' := by
  obtain ⟨ML, hML⟩ : ∃ ML, crossB ax ay bx b_y cx cy dx dy = ML := ⟨_, rfl⟩
  rw [hML]
  unfold crossB at hML
  obtain ⟨s, hs⟩ : ∃ s, (fitB ax ay && fitB bx b_y) = s := ⟨_, rfl⟩
  obtain ⟨t, ht⟩ : ∃ t, (fitB cx cy && fitB dx dy) = t := ⟨_, rfl⟩
  rw [hs, ht] at hML
  have hs' := Lib.hid hs
  have ht' := Lib.hid ht
  replace hML := Lib.hid hML
  replace hs := Lib.hid hs
  replace ht := Lib.hid ht
  go_enter Tryz.func28, Tryz.ntmps28
  go_wp2_with fail
  refine gen_calls ?_
  intro W0 hW0
  have G0 : Grew w W0 := by rw [hW0]; exact ((Grew.refl w).alloc _).alloc _
  have P : Box4 W0 (w.heap.size) 0 (.int .i64 ax) (.int .i64 ay) (.int .i64 bx) (.int .i64 b_y) := by rw [hW0]; exact ⟨by simp [go_sem], by simp [go_sem], by simp [go_sem], by simp [go_sem]⟩
  replace P := Lib.hid P
  have Q : Box4 W0 (w.heap.size + 1) 0 (.int .i64 cx) (.int .i64 cy) (.int .i64 dx) (.int .i64 dy) := by rw [hW0]; exact ⟨by simp [go_sem], by simp [go_sem], by simp [go_sem], by simp [go_sem]⟩
  replace Q := Lib.hid Q
  have z0 : w.heap.size < W0.heap.size := by rw [hW0]; simp <;> omega
  replace z0 := Lib.hid z0
  have z1 : w.heap.size + 1 < W0.heap.size := by rw [hW0]; simp <;> omega
  replace z1 := Lib.hid z1
  clear hW0
  replace G0 := Lib.hid G0
  refine (cmay_any ax ay bx b_y _).mono ?_
  rintro e w1 ⟨rfl, g1⟩
  replace P := Lib.hid (P.out.grew g1)
  replace Q := Lib.hid (Q.out.grew g1)
  replace z0 := Lib.hid (lt_grew z0.out g1)
  replace z1 := Lib.hid (lt_grew z1.out g1)
  replace G0 := Lib.hid (G0.out.trans g1)
  clear g1
  rw [hs.out]

  cases s
  ·
    have e := Lib.hid (show false = ML by rw [← hML.out, if_neg (by simp)])
    go_wp2_with fail
    go_ret
    exact ⟨by rw [← e.out]; rfl, G0.out⟩
  ·

    obtain ⟨P0, P1, P2, P3⟩ := P.out
    obtain ⟨Q0, Q1, Q2, Q3⟩ := Q.out
    go_wp2_with fail
    clear P0 P1 P2 P3 Q0 Q1 Q2 Q3
    refine (cmay_any cx cy dx dy _).mono ?_
    rintro e w2 ⟨rfl, g2⟩
    replace P := Lib.hid (P.out.grew g2)
    replace Q := Lib.hid (Q.out.grew g2)
    replace z0 := Lib.hid (lt_grew z0.out g2)
    replace z1 := Lib.hid (lt_grew z1.out g2)
    replace G0 := Lib.hid (G0.out.trans g2)
    clear g2
    rw [ht.out]
    cases t
    ·
      have e := Lib.hid (show false = ML by rw [← hML.out, if_neg (by simp)])
      go_wp2_with fail
      go_ret
      exact ⟨by rw [← e.out]; rfl, G0.out⟩
    ·
      have hM := hML.out
      rw [if_pos (by simp)] at hM
      have f1 := hs'.out
      have f2 := ht'.out
      rw [Bool.and_eq_true] at f1 f2
      obtain ⟨⟨k, n, d⟩, hL⟩ : ∃ L, lieZ ax ay bx b_y cx cy dx dy = L := ⟨_, rfl⟩
      rw [hL] at hM
      simp only at hM
      have F1 := Lib.hid f1
      have F2 := Lib.hid f2
      replace hL := Lib.hid hL
      replace hM := Lib.hid hM
      clear hML hs ht hs' ht' f1 f2
      obtain ⟨P0, P1, P2, P3⟩ := P.out
      obtain ⟨Q0, Q1, Q2, Q3⟩ := Q.out
      go_wp2_with fail
      clear P0 P1 P2 P3 Q0 Q1 Q2 Q3
      refine (lie_g ax ay bx b_y cx cy dx dy k n d _ F1.out.1 F1.out.2 F2.out.1 F2.out.2 hL.out).mono ?_
      rintro e w3 ⟨rfl, g3⟩
      replace P := Lib.hid (P.out.grew g3)
      replace Q := Lib.hid (Q.out.grew g3)
      replace z0 := Lib.hid (lt_grew z0.out g3)
      replace z1 := Lib.hid (lt_grew z1.out g3)
      replace G0 := Lib.hid (G0.out.trans g3)
      clear g3

      by_cases k1 : k = 1
      ·
        subst k1
        have hM2 := hM.out
        rw [if_pos rfl] at hM2
        by_cases n1 : n = 0
        ·
          have ee := Lib.hid (hM2.symm.trans (if_neg (fun h => h.1 n1)))
          subst n1
          clear hM hM2
          go_wp2_with fail
          go_ret
          exact ⟨by rw [ee.out]; rfl, G0.out⟩
        ·
          by_cases n2 : n = d
          ·
            have ee := Lib.hid (hM2.symm.trans (if_neg (fun h => h.2.1 n2)))
            subst n2
            clear hM hM2
            have nb : (n == 0) = false := by simpa using n1
            go_wp2_with fail
            go_ret
            exact ⟨by rw [ee.out]; rfl, G0.out⟩
          ·
            have nb : (n == 0) = false := by simpa using n1
            have nb2 : (n == d) = false := by simpa using n2
            obtain ⟨m, hm⟩ : ∃ m, crossZ (cx - ax) (cy - ay) (bx - ax) (b_y - ay) = m := ⟨_, rfl⟩
            rw [hm] at hM2
            have i1 := (fitB_iff _ _).1 F1.out.1
            have i2 := (fitB_iff _ _).1 F1.out.2
            have i3 := (fitB_iff _ _).1 F2.out.1
            have r1 := Lib.hid (show In24 (bx - ax) by unfold In24; omega)
            have r2 := Lib.hid (show In24 (b_y - ay) by unfold In24; omega)
            have r5 := Lib.hid (show In24 (cx - ax) by unfold In24; omega)
            have r6 := Lib.hid (show In24 (cy - ay) by unfold In24; omega)
            replace hm := Lib.hid hm
            replace hM2 := Lib.hid hM2
            clear hM i1 i2 i3

            obtain ⟨P0, P1, P2, P3⟩ := P.out
            obtain ⟨Q0, Q1, Q2, Q3⟩ := Q.out
            go_wp2_with fail
            clear P0 P1 P2 P3 Q0 Q1 Q2 Q3
            refine (fromg_any ax ay cx cy _ r5.out r6.out).mono ?_
            rintro e w4 ⟨rfl, g4⟩
            replace P := Lib.hid (P.out.grew g4)
            replace Q := Lib.hid (Q.out.grew g4)
            replace z0 := Lib.hid (lt_grew z0.out g4)
            replace z1 := Lib.hid (lt_grew z1.out g4)
            replace G0 := Lib.hid (G0.out.trans g4)
            clear g4
            go_upto_region 7 with fail
            refine gen_wp ?_
            intro W1 hW1
            have gl : Grew w4 W1 := by rw [hW1]; exact (Grew.refl _).alloc _
            replace P := Lib.hid (P.out.grew gl)
            replace Q := Lib.hid (Q.out.grew gl)
            replace z0 := Lib.hid (lt_grew z0.out gl)
            replace z1 := Lib.hid (lt_grew z1.out gl)
            have K : Box2 W1 (w4.heap.size) 0 (.int .i64 (cx - ax)) (.int .i64 (cy - ay)) := by rw [hW1]; exact ⟨by simp [go_sem], by simp [go_sem]⟩
            replace K := Lib.hid K
            have z2 : w4.heap.size < W1.heap.size := by rw [hW1]; simp <;> omega
            replace z2 := Lib.hid z2
            clear hW1
            replace G0 := Lib.hid (G0.out.trans gl)
            clear gl
            have gd : Grew W1 W1.drew := (Grew.refl W1).drew
            replace P := Lib.hid (P.out.grew gd)
            replace Q := Lib.hid (Q.out.grew gd)
            replace K := Lib.hid (K.out.grew gd)
            replace z0 := Lib.hid (lt_grew z0.out gd)
            replace z1 := Lib.hid (lt_grew z1.out gd)
            replace z2 := Lib.hid (lt_grew z2.out gd)
            replace gd := Lib.hid gd
            have ZP := P
            have ZK := K
            go_region_held3 (fun w' => w'.cell? ⟨w.heap.size, 0, none⟩ = some (.int .i64 ax) ∧ w'.cell? ⟨w.heap.size, 1, none⟩ = some (.int .i64 ay) ∧ w'.cell? ⟨w.heap.size, 2, none⟩ = some (.int .i64 bx) ∧ w'.cell? ⟨w.heap.size, 3, none⟩ = some (.int .i64 b_y) ∧ w'.cell? ⟨w4.heap.size, 0, none⟩ = some (.int .i64 (cx - ax)) ∧ w'.cell? ⟨w4.heap.size, 1, none⟩ = some (.int .i64 (cy - ay)))
              (first | (with_reducible exact ⟨ZP.out.p0, ZP.out.p1, ZP.out.p2, ZP.out.p3, ZK.out.p0, ZK.out.p1⟩) | (with_reducible exact ⟨g5.cell ZP.out.p0, g5.cell ZP.out.p1, g5.cell ZP.out.p2, g5.cell ZP.out.p3, g5.cell ZK.out.p0, g5.cell ZK.out.p1⟩) | (with_reducible exact ⟨(g5.trans g6).cell ZP.out.p0, (g5.trans g6).cell ZP.out.p1, (g5.trans g6).cell ZP.out.p2, (g5.trans g6).cell ZP.out.p3, (g5.trans g6).cell ZK.out.p0, (g5.trans g6).cell ZK.out.p1⟩))
              (first | (have chk := g5; clear chk; go_at_call 65; refine (timesg_any (cx - ax) (cy - ay) (bx - ax) (b_y - ay) _ r5.out r6.out r1.out r2.out).mono ?_; rintro e w6 ⟨rfl, g6⟩; rw [hm.out]; replace P := Lib.hid (P.out.grew g6); replace Q := Lib.hid (Q.out.grew g6); replace K := Lib.hid (K.out.grew g6); replace z0 := Lib.hid (lt_grew z0.out g6); replace z1 := Lib.hid (lt_grew z1.out g6); replace z2 := Lib.hid (lt_grew z2.out g6)) | (go_at_call 64; refine (fromg_any ax ay bx b_y _ r1.out r2.out).mono ?_; rintro e w5 ⟨rfl, g5⟩; replace P := Lib.hid (P.out.grew g5); replace Q := Lib.hid (Q.out.grew g5); replace K := Lib.hid (K.out.grew g5); replace z0 := Lib.hid (lt_grew z0.out g5); replace z1 := Lib.hid (lt_grew z1.out g5); replace z2 := Lib.hid (lt_grew z2.out g5)))
            replace G0 := Lib.hid (((G0.out.trans gd.out).trans g5).trans g6)
            clear gd g5 g6 ZP ZK
            by_cases m1 : m = 0
            ·
              have ee := Lib.hid (hM2.out.symm.trans (if_neg (fun h => h.2.2.1 m1)))
              subst m1
              go_wp2_with fail
              go_ret
              exact ⟨by rw [ee.out]; rfl, G0.out⟩
            ·
              have mb : (m == 0) = false := by simpa using m1
              by_cases m2 : m = d
              ·
                have ee := Lib.hid (hM2.out.symm.trans (if_neg (fun h => h.2.2.2 m2)))
                subst m2
                go_wp2_with fail
                go_ret
                exact ⟨by rw [ee.out]; rfl, G0.out⟩
              ·
                have ee := Lib.hid (hM2.out.symm.trans (if_pos ⟨n1, n2, m1, m2⟩))
                have mb2 : (m == d) = false := by simpa using m2
                have mn1 : (m != 0) = true := by simpa using m1
                have mn2 : (m != d) = true := by simpa using m2
                go_wp2_with fail
                go_ret
                exact ⟨by rw [ee.out]; rfl, G0.out⟩
      ·
        have ee := Lib.hid (hM.out.symm.trans (if_neg k1))
        have kb : (k == 1) = false := by simpa using k1
        clear hM
        go_wp2_with fail
        go_ret
        exact ⟨by rw [ee.out]; rfl, G0.out⟩
end Go.Proofs.YtpglnfccmhkocaaGreat
namespace Go.Proofs.YtpglnfccmhkocaaGreat
open Go.RowKit

set_option maxRecDepth 100000 in
set_option maxHeartbeats 4000000 in
theorem rclean_any (Va : Value) (x y : Rat) (k : Nat) (w : World) (ha : SpotR w Va x y k) (hs : k < 67108864) :
    Calls Tryz.prog 70 #[Va] w fun e w' => ∃ V, e = .returned V ∧ SpotC w' V x y ∧ Grew w w' := by
  obtain ⟨b1, A1, n1, c1, C1, m1, d1, b2, A2, n2, c2, C2, m2, d2, rfl, Fa, Fb, -⟩ := ha.laid
  clear ha
  go_enter Tryz.func70, Tryz.ntmps70
  go_wp2_with fail
  refine gen_wp ?_
  intro W0 hW0
  have G0 : Grew w W0 := by rw [hW0]; exact ((Grew.refl w).alloc _).alloc _
  have P : Box3 W0 (w.heap.size) 0 (.bool b1) (.slice A1 n1 c1) (.slice C1 m1 d1) := by rw [hW0]; exact ⟨by simp [go_sem], by simp [go_sem], by simp [go_sem]⟩
  replace P := Lib.hid P
  have Py : Box3 W0 (w.heap.size) 3 (.bool b2) (.slice A2 n2 c2) (.slice C2 m2 d2) := by rw [hW0]; exact ⟨by simp [go_sem], by simp [go_sem], by simp [go_sem]⟩
  replace Py := Lib.hid Py
  have R : Res3 W0 (w.heap.size + 1) 0 (.bool false) (.slice none 0 0) (.slice none 0 0) := by rw [hW0]; exact ⟨by simp [go_sem], by simp [go_sem], by simp [go_sem], by simp [go_sem], by simp [go_sem], by simp [go_sem], by simp⟩
  replace R := Lib.hid R
  have R_ : Res3 W0 (w.heap.size + 1) 3 (.bool false) (.slice none 0 0) (.slice none 0 0) := by rw [hW0]; exact ⟨by simp [go_sem], by simp [go_sem], by simp [go_sem], by simp [go_sem], by simp [go_sem], by simp [go_sem], by simp⟩
  replace R_ := Lib.hid R_
  have z0 : w.heap.size < W0.heap.size := by rw [hW0]; simp <;> omega
  replace z0 := Lib.hid z0
  have z1 : w.heap.size + 1 < W0.heap.size := by rw [hW0]; simp <;> omega
  replace z1 := Lib.hid z1
  clear hW0
  replace Fa := Lib.hid (Fa.out.kept G0.keeps)
  replace Fb := Lib.hid (Fb.out.kept G0.keeps)
  replace G0 := Lib.hid G0
  have gd : Grew W0 W0.drew := (Grew.refl W0).drew
  replace R := Lib.hid (R.out.grew gd)
  replace R_ := Lib.hid (R_.out.grew gd)
  replace P := Lib.hid (P.out.grew gd)
  replace Py := Lib.hid (Py.out.grew gd)
  replace z0 := Lib.hid (lt_grew z0.out gd)
  replace z1 := Lib.hid (lt_grew z1.out gd)
  replace Fa := Lib.hid (Fa.out.kept gd.keeps)
  replace Fb := Lib.hid (Fb.out.kept gd.keeps)
  replace gd := Lib.hid gd
  have ZP := P
  have ZPy := Py
  go_region_held3 (fun w' => w'.cell? ⟨w.heap.size, 0, none⟩ = some (.bool b1) ∧ w'.cell? ⟨w.heap.size, 1, none⟩ = some (.slice A1 n1 c1) ∧ w'.cell? ⟨w.heap.size, 2, none⟩ = some (.slice C1 m1 d1) ∧ w'.cell? ⟨w.heap.size, 3, none⟩ = some (.bool b2) ∧ w'.cell? ⟨w.heap.size, 4, none⟩ = some (.slice A2 n2 c2) ∧ w'.cell? ⟨w.heap.size, 5, none⟩ = some (.slice C2 m2 d2))
    (first | (with_reducible exact ⟨ZP.out.p0, ZP.out.p1, ZP.out.p2, ZPy.out.p0, ZPy.out.p1, ZPy.out.p2⟩) | (with_reducible exact ⟨g1.cell ZP.out.p0, g1.cell ZP.out.p1, g1.cell ZP.out.p2, g1.cell ZPy.out.p0, g1.cell ZPy.out.p1, g1.cell ZPy.out.p2⟩) | (with_reducible exact ⟨(g1.trans g2).cell ZP.out.p0, (g1.trans g2).cell ZP.out.p1, (g1.trans g2).cell ZP.out.p2, (g1.trans g2).cell ZPy.out.p0, (g1.trans g2).cell ZPy.out.p1, (g1.trans g2).cell ZPy.out.p2⟩) | (with_reducible exact ⟨other3 (o := 3) (by omega) (other3 (o := 0) (by omega) ((g1.trans g2).cell ZP.out.p0)), other3 (o := 3) (by omega) (other3 (o := 0) (by omega) ((g1.trans g2).cell ZP.out.p1)), other3 (o := 3) (by omega) (other3 (o := 0) (by omega) ((g1.trans g2).cell ZP.out.p2)), other3 (o := 3) (by omega) (other3 (o := 0) (by omega) ((g1.trans g2).cell ZPy.out.p0)), other3 (o := 3) (by omega) (other3 (o := 0) (by omega) ((g1.trans g2).cell ZPy.out.p1)), other3 (o := 3) (by omega) (other3 (o := 0) (by omega) ((g1.trans g2).cell ZPy.out.p2))⟩))
    (first | (have chk := g1; clear chk; go_at_call 98; refine (rfreduce_any _ y k _ Fb.out (by omega)).mono ?_; rintro e w2 ⟨V2, rfl, hV2, g2⟩; obtain ⟨b14, A14, n14, c14, C14, m14, d14, rfl, X2⟩ := hV2.laid; clear hV2; replace R := Lib.hid (R.out.grew g2); replace R_ := Lib.hid (R_.out.grew g2); replace P := Lib.hid (P.out.grew g2); replace Py := Lib.hid (Py.out.grew g2); replace z0 := Lib.hid (lt_grew z0.out g2); replace z1 := Lib.hid (lt_grew z1.out g2); replace Fa := Lib.hid (Fa.out.kept g2.keeps); replace Fb := Lib.hid (Fb.out.kept g2.keeps); replace X1 := Lib.hid (X1.out.kept g2.keeps); obtain ⟨R0, R1, R2, Rf0, Rf1, Rf2, Rs⟩ := R.out; obtain ⟨R_0, R_1, R_2, R_f0, R_f1, R_f2, R_s⟩ := R_.out) | (go_at_call 98; refine (rfreduce_any _ x k _ Fa.out (by omega)).mono ?_; rintro e w1 ⟨V1, rfl, hV1, g1⟩; obtain ⟨b13, A13, n13, c13, C13, m13, d13, rfl, X1⟩ := hV1.laid; clear hV1; replace R := Lib.hid (R.out.grew g1); replace R_ := Lib.hid (R_.out.grew g1); replace P := Lib.hid (P.out.grew g1); replace Py := Lib.hid (Py.out.grew g1); replace z0 := Lib.hid (lt_grew z0.out g1); replace z1 := Lib.hid (lt_grew z1.out g1); replace Fa := Lib.hid (Fa.out.kept g1.keeps); replace Fb := Lib.hid (Fb.out.kept g1.keeps)))
  replace G0 := Lib.hid (((G0.out.trans gd.out).trans g1).trans g2)
  clear gd g1 g2 ZP ZPy
  refine gen_then ?_
  intro W9 hW9
  obtain ⟨q0, q1, q2, q3, q4, q5, qK, qG⟩ := store6 R0 R1 R2 R_0 R_1 R_2 hW9
  have GE := qG w (by omega) G0.out
  have QK := Lib.hid qK
  clear qK qG hW9 R0 R1 R2 R_0 R_1 R_2
  go_wp2_with fail
  exact bodyPost_ret (v := .agg #[.bool b13, .slice A13 n13 c13, .slice C13 m13 d13, .bool b14, .slice A14 n14 c14, .slice C14 m14 d14]) (by simp [results, Tryz.results70, go_sem, q0, q1, q2, q3, q4, q5]) rfl ⟨_, rfl, SpotC.mk (X1.out.kept QK.out) (X2.out.kept QK.out), GE⟩

theorem info_spot : (Tryz.prog.info? 28).map (fun i => (i.zero, i.size, i.bytes)) = some (some (.agg #[.bool false, .slice none 0 0, .slice none 0 0, .bool false, .slice none 0 0, .slice none 0 0]), 6, 112) := by kernel_rfl
theorem zero_spot : ∀ u ∈ (Value.agg #[.bool false, .slice none 0 0, .slice none 0 0, .bool false, .slice none 0 0, .slice none 0 0]).cells, NoInt u := by
  intro u hu k x e
  subst e
  simp [Value.cells] at hu
theorem noint6 (b b' : Bool) (A C A' C' : Option Addr) (n c m d n' c' m' d' : Nat) : ∀ u ∈ #[Value.bool b, .slice A n c, .slice C m d, .bool b', .slice A' n' c', .slice C' m' d'].toList, NoInt u := by
  intro u hu
  simp at hu
  rcases hu with rfl | rfl | rfl | rfl | rfl | rfl <;> intro k x e <;> simp at e
theorem one6 (b b' : Bool) (A C A' C' : Option Addr) (n c m d n' c' m' d' : Nat) : ∀ u ∈ #[Value.bool b, .slice A n c, .slice C m d, .bool b', .slice A' n' c', .slice C' m' d'].toList, u.oneCell' = true := by
  intro u hu
  simp at hu
  rcases hu with rfl | rfl | rfl | rfl | rfl | rfl <;> rfl

theorem insStep_fold_mem (p : Rat × Rat) : ∀ (os : List (Rat × Rat)) (s : List (Rat × Rat) × Bool) (q : Rat × Rat), q ∈ (os.foldl (insStep p) s).1 → q = p ∨ q ∈ os ∨ q ∈ s.1
  | [], s, q, h => .inr (.inr h)
  | o :: os, s, q, h => by
    rcases insStep_fold_mem p os (insStep p s o) q h with h | h | h
    · exact .inl h
    · exact .inr (.inl (List.mem_cons_of_mem _ h))
    · unfold insStep at h
      simp only [List.mem_append, List.mem_singleton] at h
      rcases h with (h | h) | h
      · exact .inr (.inr h)
      · split at h
        · exact .inl (by simpa using h)
        · simp at h
      · exact .inr (.inl (by rw [h]; exact List.mem_cons_self))
theorem insAll_mem {p q : Rat × Rat} {os : List (Rat × Rat)} (h : q ∈ insAll p os) : q = p ∨ q ∈ os := by
  unfold insAll at h
  simp only at h
  split at h
  · rcases insStep_fold_mem p os ([], false) q h with h | h | h
    · exact .inl h
    · exact .inr h
    · simp at h
  · simp only [List.mem_append, List.mem_singleton] at h
    rcases h with h | h
    · rcases insStep_fold_mem p os ([], false) q h with h | h | h
      · exact .inl h
      · exact .inr h
      · simp at h
    · exact .inl h
theorem rowQ_fold_mem : ∀ (l : List (Rat × Rat)) (s : List (Rat × Rat)) (q : Rat × Rat), q ∈ l.foldl (fun out p => insAll p out) s → q ∈ l ∨ q ∈ s
  | [], s, q, h => .inr h
  | p :: l, s, q, h => by
    rcases rowQ_fold_mem l (insAll p s) q h with h | h
    · exact .inl (List.mem_cons_of_mem _ h)
    · rcases insAll_mem h with h | h
      · exact .inl (by rw [h]; exact List.mem_cons_self)
      · exact .inr h
theorem rowQ_mem {l : List (Rat × Rat)} {q : Rat × Rat} (h : q ∈ rowQ l) : q ∈ l := by
  rcases rowQ_fold_mem l [] q h with h | h
  · exact h
  · simp at h
theorem insStep_len (p : Rat × Rat) (s : List (Rat × Rat) × Bool) (o : Rat × Rat) (c : Nat) (h : s.1.length + (if s.2 = true then 0 else 1) ≤ c) : (insStep p s o).1.length + (if (insStep p s o).2 = true then 0 else 1) ≤ c + 1 := by
  unfold insStep
  obtain ⟨a, b⟩ := s
  by_cases h0 : spotCmp p.1 p.2 o.1 o.2 < 0
  · have h1 : spotCmp p.1 p.2 o.1 o.2 ≤ 0 := by omega
    cases b <;> simp [h0, h1] at * <;> omega
  · by_cases h1 : spotCmp p.1 p.2 o.1 o.2 ≤ 0 <;> cases b <;> simp [h0, h1] at * <;> omega
theorem insStep_fold_len (p : Rat × Rat) : ∀ (os : List (Rat × Rat)) (s : List (Rat × Rat) × Bool) (c : Nat), s.1.length + (if s.2 = true then 0 else 1) ≤ c → (os.foldl (insStep p) s).1.length + (if (os.foldl (insStep p) s).2 = true then 0 else 1) ≤ c + os.length
  | [], s, c, h => h
  | o :: os, s, c, h => by
    have := insStep_fold_len p os (insStep p s o) (c + 1) (insStep_len p s o c h)
    rw [List.foldl_cons, List.length_cons]
    exact Nat.le_trans this (by omega)
theorem insAll_len (p : Rat × Rat) (os : List (Rat × Rat)) : (insAll p os).length ≤ os.length + 1 := by
  have h := insStep_fold_len p os ([], false) 1 (by simp)
  unfold insAll
  simp only
  split
  · next e => rw [e] at h; simp at h; omega
  · next e => simp; simp [e] at h; omega
theorem rowQ_fold_len : ∀ (l : List (Rat × Rat)) (s : List (Rat × Rat)), (l.foldl (fun out p => insAll p out) s).length ≤ s.length + l.length
  | [], s => by simp
  | p :: l, s => by
    have h1 := rowQ_fold_len l (insAll p s)
    have h2 := insAll_len p s
    simp only [List.foldl_cons, List.length_cons]
    omega
theorem rowQ_len (l : List (Rat × Rat)) : (rowQ l).length ≤ l.length := by
  have := rowQ_fold_len l []
  simpa [rowQ] using this
end Go.Proofs.YtpglnfccmhkocaaGreat
namespace Go.Proofs.YtpglnfccmhkocaaGreat
open Go.RowKit

theorem insAll_fold (p : Rat × Rat) (out : List (Rat × Rat)) (a : List (Rat × Rat)) (b : Bool) (h : out.foldl (insStep p) ([], false) = (a, b)) : insAll p out = if b = true then a else a ++ [p] := by
  unfold insAll; rw [h]
theorem fold_take_succ (p : Rat × Rat) (out : List (Rat × Rat)) (m : Nat) (q : Rat × Rat) (h : out[m]? = some q) (s : List (Rat × Rat) × Bool) :
    (out.take (m + 1)).foldl (insStep p) s = insStep p ((out.take m).foldl (insStep p) s) q := by
  rw [List.take_add_one, h, Option.toList_some, List.foldl_append]; rfl

theorem insStep_lt {p q : Rat × Rat} (a : List (Rat × Rat)) (h : spotCmp p.1 p.2 q.1 q.2 < 0) : insStep p (a, false) q = (a ++ [p] ++ [q], true) := by
  unfold insStep
  have h1 : spotCmp p.1 p.2 q.1 q.2 ≤ 0 := by omega
  simp [h, h1]
theorem insStep_in {p q : Rat × Rat} (a : List (Rat × Rat)) : insStep p (a, true) q = (a ++ [q], true) := by
  unfold insStep; simp
theorem insStep_eq {p q : Rat × Rat} (a : List (Rat × Rat)) (b : Bool) (h : spotCmp p.1 p.2 q.1 q.2 = 0) : insStep p (a, b) q = (a ++ [q], true) := by
  unfold insStep
  simp [h]
theorem insStep_gt {p q : Rat × Rat} (a : List (Rat × Rat)) (b : Bool) (h : 0 < spotCmp p.1 p.2 q.1 q.2) : insStep p (a, b) q = (a ++ [q], b) := by
  unfold insStep
  have h1 : ¬ spotCmp p.1 p.2 q.1 q.2 < 0 := by omega
  have h2 : ¬ spotCmp p.1 p.2 q.1 q.2 ≤ 0 := by omega
  simp [h1, h2]
theorem OwnC.snoc {e : TypeId} {w w' : World} {base : Nat} {v' : Value} {l : List (Rat × Rat)} {p : Rat × Rat} {xs : List Value} {b b' : Bool} {A C A' C' : Option Addr} {n c m d n' c' m' d' : Nat}
    (h : OwnS w' base e 6 v' (l.length + 1) (xs ++ #[.bool b, .slice A n c, .slice C m d, .bool b', .slice A' n' c', .slice C' m' d'].toList)) (hF : Flat w xs l)
    (hV : SpotC w (.agg #[.bool b, .slice A n c, .slice C m d, .bool b', .slice A' n' c', .slice C' m' d']) p.1 p.2) (k : Keeps w w') : OwnC e w' base v' (l ++ [p]) :=
  ⟨_, by rw [List.length_append]; exact h, (hF.kept k).snoc (SpotC.kept hV k)⟩

set_option maxRecDepth 100000 in
set_option maxHeartbeats 16000000 in
theorem rrow_any (v : Value) (l : List (Rat × Rat)) (k : Nat) (w : World) (hr : RowR k w v l) (hq : ∀ p ∈ l, QB p.1 k ∧ QB p.2 k) (hk : 1 ≤ k) (hs : k < 67108864) (hl : l.length ≤ 1099511627776) :
    Calls Tryz.prog 32 #[v] w fun e w' => ∃ v', e = .returned v' ∧ RowC w' v' (rowQ l) ∧ Grew w w' := by
  obtain ⟨A, c, rfl, h1, h2, h3⟩ := hr
  obtain ⟨L, hL⟩ : ∃ L, l.length = L := ⟨_, rfl⟩
  rw [hL] at h1 hl h3
  rw [hL]
  have hm : L ≤ 9223372036854775807 := by omega
  replace h3 := Lib.hid h3
  replace hq := Lib.hid hq
  go_enter Tryz.func32, Tryz.ntmps32
  go_wp2_with fail
  go_loopg [3, 4] L (fun gk ov i wr => ∃ j : Nat, gk + j = L ∧ i = .int .i64 j ∧ OwnC 28 wr w.heap.size ov (rowQ (l.take j)) ∧ Grew w wr)
  case atStart => exact ⟨0, rfl, rfl, OwnC.nil _ _ _, Grew.refl _⟩
  case round =>
    obtain ⟨j, hj, rfl, hO, hG⟩ := hrel
    obtain ⟨wo, rfl⟩ : ∃ wo : World, wo = wr := ⟨_, rfl⟩
    obtain ⟨G, rfl⟩ : ∃ G : Nat, G = gk := ⟨_, rfl⟩
    by_cases hlt : j < L
    · obtain ⟨b, o, rfl, he⟩ := h3.out (by omega)
      obtain ⟨p, hp⟩ : ∃ p, l[j]? = some p := ⟨l[j]'(by omega), List.getElem?_eq_getElem _⟩
      have hnext := Lib.hid (rowQ_succ l j p hp)
      have hlen := rowQ_len (l.take j)
      have hmem := Lib.hid (fun q (h : q ∈ rowQ (l.take j)) => hq.out q (List.mem_of_mem_take (rowQ_mem h)))
      obtain ⟨b1, A1, n1, c1, C1, m1, d1, b2, A2, n2, c2, C2, m2, d2, ⟨e0, e1, e2, e3, e4, e5⟩, S1⟩ := he j p hp
      have f0 : wo.cell? ⟨b, o + j * 6, none⟩ = some (.bool b1) := hG.cell e0
      have f1 : wo.cell? ⟨b, o + j * 6 + 1, none⟩ = some (.slice A1 n1 c1) := hG.cell e1
      have f2 : wo.cell? ⟨b, o + j * 6 + 2, none⟩ = some (.slice C1 m1 d1) := hG.cell e2
      have f3 : wo.cell? ⟨b, o + j * 6 + 3, none⟩ = some (.bool b2) := hG.cell e3
      have f4 : wo.cell? ⟨b, o + j * 6 + 4, none⟩ = some (.slice A2 n2 c2) := hG.cell e4
      have f5 : wo.cell? ⟨b, o + j * 6 + 5, none⟩ = some (.slice C2 m2 d2) := hG.cell e5
      replace S1 := Lib.hid (SpotR.kept S1 hG.keeps)
      have hrow := hO.row
      have hO' := Lib.hid hO
      generalize rowQ (l.take j) = out at *
      obtain ⟨A9, c9, rfl, k1, k2, k3⟩ := hrow
      replace k3 := Lib.hid k3
      have hGo := Lib.hid hG
      have hol : out.length ≤ 1099511627776 := by simp at hlen; omega
      clear e0 e1 e2 e3 e4 e5 he hlen hO hG
      obtain ⟨M, hM⟩ : ∃ M, out.length = M := ⟨_, rfl⟩
      rw [hM] at k1 k3 hol
      rw [hM]
      go_wp2_with fail
      go_loopg [5, 6, 7] M (fun gk nv inn kk wr => ∃ m : Nat, gk + m = M ∧ kk = .int .i64 m ∧ inn = .bool ((out.take m).foldl (insStep p) ([], false)).2 ∧ OwnC 28 wr wo.heap.size nv ((out.take m).foldl (insStep p) ([], false)).1 ∧ Grew wo wr)
      case atStart => exact ⟨0, rfl, rfl, rfl, OwnC.nil _ _ _, Grew.refl _⟩
      case round =>
        obtain ⟨m, hj2, rfl, rfl, hN, hGr⟩ := hrel
        by_cases hml : m < M
        · obtain ⟨g, o9, rfl, ke⟩ := k3.out (by omega)
          obtain ⟨q, hq9⟩ : ∃ q, out[m]? = some q := ⟨out[m]'(by omega), List.getElem?_eq_getElem _⟩
          obtain ⟨b3, A3, n3, c3, C3, m3, d3, b4, A4, n4, c4, C4, m4, d4, ⟨e0, e1, e2, e3, e4, e5⟩, S2⟩ := ke m q hq9
          replace e0 : wo.cell? ⟨g, o9 + m * 6, none⟩ = some (.bool b3) := e0
          replace e1 : wo.cell? ⟨g, o9 + m * 6 + 1, none⟩ = some (.slice A3 n3 c3) := e1
          replace e2 : wo.cell? ⟨g, o9 + m * 6 + 2, none⟩ = some (.slice C3 m3 d3) := e2
          replace e3 : wo.cell? ⟨g, o9 + m * 6 + 3, none⟩ = some (.bool b4) := e3
          replace e4 : wo.cell? ⟨g, o9 + m * 6 + 4, none⟩ = some (.slice A4 n4 c4) := e4
          replace e5 : wo.cell? ⟨g, o9 + m * 6 + 5, none⟩ = some (.slice C4 m4 d4) := e5
          have g0 : wr.cell? ⟨g, o9 + m * 6, none⟩ = some (.bool b3) := hGr.cell e0
          have g1 : wr.cell? ⟨g, o9 + m * 6 + 1, none⟩ = some (.slice A3 n3 c3) := hGr.cell e1
          have g2 : wr.cell? ⟨g, o9 + m * 6 + 2, none⟩ = some (.slice C3 m3 d3) := hGr.cell e2
          have g3 : wr.cell? ⟨g, o9 + m * 6 + 3, none⟩ = some (.bool b4) := hGr.cell e3
          have g4 : wr.cell? ⟨g, o9 + m * 6 + 4, none⟩ = some (.slice A4 n4 c4) := hGr.cell e4
          have g5 : wr.cell? ⟨g, o9 + m * 6 + 5, none⟩ = some (.slice C4 m4 d4) := hGr.cell e5
          have h0 : wr.cell? ⟨b, o + j * 6, none⟩ = some (.bool b1) := hGr.cell f0
          have h1 : wr.cell? ⟨b, o + j * 6 + 1, none⟩ = some (.slice A1 n1 c1) := hGr.cell f1
          have h2 : wr.cell? ⟨b, o + j * 6 + 2, none⟩ = some (.slice C1 m1 d1) := hGr.cell f2
          have h3 : wr.cell? ⟨b, o + j * 6 + 3, none⟩ = some (.bool b2) := hGr.cell f3
          have h4 : wr.cell? ⟨b, o + j * 6 + 4, none⟩ = some (.slice A2 n2 c2) := hGr.cell f4
          have h5 : wr.cell? ⟨b, o + j * 6 + 5, none⟩ = some (.slice C2 m2 d2) := hGr.cell f5
          have S2r := Lib.hid (SpotC.kept S2 hGr.keeps)
          replace S2 := Lib.hid S2
          have S3 := Lib.hid (SpotR.kept S1.out hGr.keeps)
          have q1 := Lib.hid (hmem.out q (List.mem_of_getElem? hq9))
          have hjl : (j : Int) < (L : Int) := by omega
          have hml2 : (m : Int) < (M : Int) := by omega
          go_wp2_with fail
          go_region_held3 (fun w' => w'.cell? ⟨b, o + j * 6, none⟩ = some (.bool b1) ∧ w'.cell? ⟨b, o + j * 6 + 1, none⟩ = some (.slice A1 n1 c1) ∧ w'.cell? ⟨b, o + j * 6 + 2, none⟩ = some (.slice C1 m1 d1) ∧ w'.cell? ⟨b, o + j * 6 + 3, none⟩ = some (.bool b2) ∧ w'.cell? ⟨b, o + j * 6 + 4, none⟩ = some (.slice A2 n2 c2) ∧ w'.cell? ⟨b, o + j * 6 + 5, none⟩ = some (.slice C2 m2 d2) ∧ w'.cell? ⟨g, o9 + m * 6, none⟩ = some (.bool b3) ∧ w'.cell? ⟨g, o9 + m * 6 + 1, none⟩ = some (.slice A3 n3 c3) ∧ w'.cell? ⟨g, o9 + m * 6 + 2, none⟩ = some (.slice C3 m3 d3) ∧ w'.cell? ⟨g, o9 + m * 6 + 3, none⟩ = some (.bool b4) ∧ w'.cell? ⟨g, o9 + m * 6 + 4, none⟩ = some (.slice A4 n4 c4) ∧ w'.cell? ⟨g, o9 + m * 6 + 5, none⟩ = some (.slice C4 m4 d4))
            (first | exact ⟨h0, h1, h2, h3, h4, h5, g0, g1, g2, g3, g4, g5⟩ | exact ⟨gc.cell h0, gc.cell h1, gc.cell h2, gc.cell h3, gc.cell h4, gc.cell h5, gc.cell g0, gc.cell g1, gc.cell g2, gc.cell g3, gc.cell g4, gc.cell g5⟩)
            (first | (go_at_call 20; refine (rscmp_any _ _ p.1 p.2 q.1 q.2 k _ (SpotR.kept S3.out ((Grew.refl wr).drew).keeps) ((SpotC.kept S2r.out ((Grew.refl wr).drew).keeps).r q1.out.1 q1.out.2) hk hs).mono ?_; rintro e wx ⟨rfl, gc⟩))
          have gA := (hGr.drew).trans gc
          have oA := OwnC.grew hN (((Grew.refl wr).drew).trans gc)
          have hfl := insStep_fold_len p (out.take m) ([], false) 1 (by simp)
          have hstep := fold_take_succ p out m q hq9 ([], false)
          obtain ⟨⟨a, bo⟩, hst⟩ : ∃ s, (out.take m).foldl (insStep p) ([], false) = s := ⟨_, rfl⟩
          rw [hst] at oA hstep hfl ⊢
          replace oA : OwnC 28 wx wo.heap.size _ a := oA
          have hal : a.length ≤ m + 1 := by simp only [List.length_take] at hfl; omega
          obtain ⟨cc, hcc⟩ : ∃ cc, spotCmp p.1 p.2 q.1 q.2 = cc := ⟨_, rfl⟩
          rw [hcc]
          have c1' := fun h : cc < 0 => insStep_lt (p := p) (q := q) a (by rw [hcc]; exact h)
          have c2' := fun h : cc = 0 => insStep_eq (p := p) (q := q) a bo (by rw [hcc]; exact h)
          have c3' := fun h : 0 < cc => insStep_gt (p := p) (q := q) a bo (by rw [hcc]; exact h)
          replace hstep := Lib.hid hstep
          replace c1' := Lib.hid c1'
          replace c2' := Lib.hid c2'
          replace c3' := Lib.hid c3'
          clear hst hN hGr gc hfl hcc h0 h1 h2 h3 h4 h5 g0 g1 g2 g3 g4 g5 S3 S2r q1 ke
          rcases Int.lt_trichotomy cc 0 with hc | hc | hc
          · cases bo
            ·
              have st9 := Lib.hid (hstep.out.trans (c1'.out hc))
              clear c1' c2' c3' hstep
              have t0 := gA.cell f0
              have t1 := gA.cell f1
              have t2 := gA.cell f2
              have t3 := gA.cell f3
              have t4 := gA.cell f4
              have t5 := gA.cell f5
              have SS := Lib.hid (SpotR.kept S1.out gA.keeps)
              have og := Lib.hid oA
              have gg := Lib.hid gA
              clear oA gA
              go_wp2_with fail
              refine (rclean_any _ p.1 p.2 k _ SS.out hs).mono ?_
              rintro e wy ⟨V, rfl, hV, gy⟩
              obtain ⟨b7, A7, n7, c7, C7, m7, d7, b8, A8, n8, c8, C8, m8, d8, rfl, -, -, X7⟩ := hV.laid
              obtain ⟨xs, hown, hF⟩ := OwnC.grew og.out gy
              have gwy := gg.out.trans gy
              have hsz := gwy.size
              have ho := Lib.hid hown
              replace hF := Lib.hid hF
              replace gwy := Lib.hid gwy
              clear hV gy t0 t1 t2 t3 t4 t5 SS og gg hown
              go_wp2_with (first | fail | (at_builtin; (refine wpList_appS1 _ rfl (.tmp 36) (.tmp 42) 48 rfl wo.heap.size 28 _ 6 112 Tryz.underlying48 info_spot rfl (by omega) zero_spot _ _ _ rfl ho.out _ rfl (one6 _ _ _ _ _ _ _ _ _ _ _ _ _ _) (noint6 _ _ _ _ _ _ _ _ _ _ _ _ _ _) rfl (by omega) (by omega) hsz ?_); intro vA wzA hown1 hG1 hK1; have gzA := hG1 wo (Nat.le_refl _) gwy.out; have ozA := OwnC.snoc (p := p) hown1 hF.out X7.out hK1; clear hown1 hG1 hK1 ho hF X7 gwy hsz; have hal2 : (a ++ [p]).length ≤ m + 2 := (by rw [List.length_append]; simp; omega); have t0 := gzA.cell e0; have t1 := gzA.cell e1; have t2 := gzA.cell e2; have t3 := gzA.cell e3; have t4 := gzA.cell e4; have t5 := gzA.cell e5; have X9 := Lib.hid (SpotC.kept S2.out gzA.keeps); obtain ⟨xs9, hown9, hF9⟩ := id ozA; have hsz9 := gzA.size; have ho9 := Lib.hid hown9; replace hF9 := Lib.hid hF9; have gwq := Lib.hid gzA; clear hown9 ozA gzA) | (at_builtin; (refine wpList_appS1 _ rfl (.tmp 46) (.tmp 51) 48 rfl wo.heap.size 28 _ 6 112 Tryz.underlying48 info_spot rfl (by omega) zero_spot _ _ _ rfl ho9.out _ rfl (one6 _ _ _ _ _ _ _ _ _ _ _ _ _ _) (noint6 _ _ _ _ _ _ _ _ _ _ _ _ _ _) rfl (by omega) (by omega) hsz9 ?_); intro vB wzB hown1 hG1 hK1))
              have gzB := hG1 wo (Nat.le_refl _) gwq.out
              have ozB := OwnC.snoc (p := q) hown1 hF9.out X9.out hK1
              clear hown1 hG1 hK1 ho9 hF9 X9 gwq hsz9 t0 t1 t2 t3 t4 t5
              go_wp2_with fail
              go_roundg (gk - 1)
              case rel => exact ⟨m + 1, by omega, by go_num, by rw [st9.out], by rw [st9.out]; exact ozB, gzB⟩
              case measure => omega
            ·
              have st9 := Lib.hid (hstep.out.trans (insStep_in (p := p) (q := q) a))
              clear c1' c2' c3' hstep
              have t0 := gA.cell e0
              have t1 := gA.cell e1
              have t2 := gA.cell e2
              have t3 := gA.cell e3
              have t4 := gA.cell e4
              have t5 := gA.cell e5
              have X9 := Lib.hid (SpotC.kept S2.out gA.keeps)
              obtain ⟨xs9, hown9, hF9⟩ := id oA
              have hsz9 := gA.size
              have ho9 := Lib.hid hown9
              replace hF9 := Lib.hid hF9
              have gwq := Lib.hid gA
              clear hown9 oA gA
              go_wp2_with (first | fail | (at_builtin; (refine wpList_appS1 _ rfl (.tmp 46) (.tmp 51) 48 rfl wo.heap.size 28 _ 6 112 Tryz.underlying48 info_spot rfl (by omega) zero_spot _ _ _ rfl ho9.out _ rfl (one6 _ _ _ _ _ _ _ _ _ _ _ _ _ _) (noint6 _ _ _ _ _ _ _ _ _ _ _ _ _ _) rfl (by omega) (by omega) hsz9 ?_); intro vB wzB hown1 hG1 hK1))
              have gzB := hG1 wo (Nat.le_refl _) gwq.out
              have ozB := OwnC.snoc (p := q) hown1 hF9.out X9.out hK1
              clear hown1 hG1 hK1 ho9 hF9 X9 gwq hsz9 t0 t1 t2 t3 t4 t5
              go_wp2_with fail
              go_roundg (gk - 1)
              case rel => exact ⟨m + 1, by omega, by go_num, by rw [st9.out], by rw [st9.out]; exact ozB, gzB⟩
              case measure => omega
          ·
            have st9 := Lib.hid (hstep.out.trans (c2'.out hc))
            clear c1' c2' c3' hstep
            subst hc
            have t0 := gA.cell e0
            have t1 := gA.cell e1
            have t2 := gA.cell e2
            have t3 := gA.cell e3
            have t4 := gA.cell e4
            have t5 := gA.cell e5
            have X9 := Lib.hid (SpotC.kept S2.out gA.keeps)
            obtain ⟨xs9, hown9, hF9⟩ := id oA
            have hsz9 := gA.size
            have ho9 := Lib.hid hown9
            replace hF9 := Lib.hid hF9
            have gwq := Lib.hid gA
            clear hown9 oA gA
            go_wp2_with (first | fail | (at_builtin; (refine wpList_appS1 _ rfl (.tmp 46) (.tmp 51) 48 rfl wo.heap.size 28 _ 6 112 Tryz.underlying48 info_spot rfl (by omega) zero_spot _ _ _ rfl ho9.out _ rfl (one6 _ _ _ _ _ _ _ _ _ _ _ _ _ _) (noint6 _ _ _ _ _ _ _ _ _ _ _ _ _ _) rfl (by omega) (by omega) hsz9 ?_); intro vB wzB hown1 hG1 hK1))
            have gzB := hG1 wo (Nat.le_refl _) gwq.out
            have ozB := OwnC.snoc (p := q) hown1 hF9.out X9.out hK1
            clear hown1 hG1 hK1 ho9 hF9 X9 gwq hsz9 t0 t1 t2 t3 t4 t5
            go_wp2_with fail
            go_roundg (gk - 1)
            case rel => exact ⟨m + 1, by omega, by go_num, by rw [st9.out], by rw [st9.out]; exact ozB, gzB⟩
            case measure => omega
          ·
            have st9 := Lib.hid (hstep.out.trans (c3'.out hc))
            clear c1' c2' c3' hstep
            have t0 := gA.cell e0
            have t1 := gA.cell e1
            have t2 := gA.cell e2
            have t3 := gA.cell e3
            have t4 := gA.cell e4
            have t5 := gA.cell e5
            have X9 := Lib.hid (SpotC.kept S2.out gA.keeps)
            obtain ⟨xs9, hown9, hF9⟩ := id oA
            have hsz9 := gA.size
            have ho9 := Lib.hid hown9
            replace hF9 := Lib.hid hF9
            have gwq := Lib.hid gA
            clear hown9 oA gA
            go_wp2_with (first | fail | (at_builtin; (refine wpList_appS1 _ rfl (.tmp 46) (.tmp 51) 48 rfl wo.heap.size 28 _ 6 112 Tryz.underlying48 info_spot rfl (by omega) zero_spot _ _ _ rfl ho9.out _ rfl (one6 _ _ _ _ _ _ _ _ _ _ _ _ _ _) (noint6 _ _ _ _ _ _ _ _ _ _ _ _ _ _) rfl (by omega) (by omega) hsz9 ?_); intro vB wzB hown1 hG1 hK1))
            have gzB := hG1 wo (Nat.le_refl _) gwq.out
            have ozB := OwnC.snoc (p := q) hown1 hF9.out X9.out hK1
            clear hown1 hG1 hK1 ho9 hF9 X9 gwq hsz9 t0 t1 t2 t3 t4 t5
            go_wp2_with fail
            go_roundg (gk - 1)
            case rel => exact ⟨m + 1, by omega, by go_num, by rw [st9.out], by rw [st9.out]; exact ozB, gzB⟩
            case measure => omega
        · obtain rfl : m = M := by omega
          have hall : out.take m = out := by rw [← hM]; exact List.take_length
          rw [hall] at hN ⊢
          have hia := insAll_fold p out
          have hfl := insStep_fold_len p out ([], false) 1 (by simp)
          obtain ⟨⟨a, bo⟩, hst⟩ : ∃ s, out.foldl (insStep p) ([], false) = s := ⟨_, rfl⟩
          rw [hst] at hN hfl ⊢
          replace hN : OwnC 28 wr wo.heap.size _ a := hN
          have hal : a.length ≤ m + 1 := by simp only [] at hfl; omega
          have hia2 := Lib.hid (hia a bo hst)
          clear hia hst hfl hall
          cases bo
          ·
            have t0 := hGr.cell f0
            have t1 := hGr.cell f1
            have t2 := hGr.cell f2
            have t3 := hGr.cell f3
            have t4 := hGr.cell f4
            have t5 := hGr.cell f5
            have SS := Lib.hid (SpotR.kept S1.out hGr.keeps)
            have og := Lib.hid hN
            have gg := Lib.hid hGr
            clear hN hGr
            go_wp2_with fail
            refine (rclean_any _ p.1 p.2 k _ SS.out hs).mono ?_
            rintro e wy ⟨V, rfl, hV, gy⟩
            obtain ⟨b7, A7, n7, c7, C7, m7, d7, b8, A8, n8, c8, C8, m8, d8, rfl, -, -, X7⟩ := hV.laid
            obtain ⟨xs, hown, hF⟩ := OwnC.grew og.out gy
            have gwy := gg.out.trans gy
            have hsz := gwy.size
            have ho := Lib.hid hown
            replace hF := Lib.hid hF
            replace gwy := Lib.hid gwy
            clear hV gy t0 t1 t2 t3 t4 t5 SS og gg hown
            go_wp2_with (first | fail | (at_builtin; (refine wpList_appS1 _ rfl (.tmp 55) (.tmp 61) 48 rfl wo.heap.size 28 _ 6 112 Tryz.underlying48 info_spot rfl (by omega) zero_spot _ _ _ rfl ho.out _ rfl (one6 _ _ _ _ _ _ _ _ _ _ _ _ _ _) (noint6 _ _ _ _ _ _ _ _ _ _ _ _ _ _) rfl (by omega) (by omega) hsz ?_); intro vB wzB hown1 hG1 hK1))
            have gzB := hG1 wo (Nat.le_refl _) gwy.out
            have ozB := OwnC.snoc (p := p) hown1 hF.out X7.out hK1
            clear hown1 hG1 hK1 ho hF X7 gwy hsz
            go_wp2_with fail
            go_roundg (G - 1)
            case rel => exact ⟨j + 1, by omega, by go_num, by rw [hnext.out, hia2.out]; exact OwnC.low ozB hGo.out.size, hGo.out.trans gzB⟩
            case measure => omega
          ·
            have oo := Lib.hid hN
            have gg := Lib.hid hGr
            clear hN hGr
            go_wp2_with fail
            go_roundg (G - 1)
            case rel => exact ⟨j + 1, by omega, by go_num, by rw [hnext.out, hia2.out]; exact OwnC.low oo.out hGo.out.size, hGo.out.trans gg.out⟩
            case measure => omega
    · obtain rfl : j = L := by omega
      have hall : l.take j = l := by rw [← hL]; exact List.take_length
      rw [hall] at hO
      have hrow := Lib.hid hO.row
      have hG' := Lib.hid hG
      clear hO hG
      go_wp2_with fail
      go_ret
      exact ⟨_, rfl, hrow.out, hG'.out⟩
end Go.Proofs.YtpglnfccmhkocaaGreat
namespace Go.Proofs.YtpglnfccmhkocaaGreat
open Go.RowKit

set_option maxRecDepth 100000 in
set_option maxHeartbeats 4000000 in
theorem rowsame_yes (v v' : Value) (l : List (Rat × Rat)) (w : World) (ha : RowC w v l) (hb : RowC w v' l) :
    Calls Tryz.prog 25 #[v, v'] w fun e w' => e = .returned (.bool true) ∧ Grew w w' := by
  obtain ⟨A, c, rfl, x1, x2, x3⟩ := ha
  obtain ⟨A', c', rfl, k1, k2, k3⟩ := hb
  obtain ⟨L, hL⟩ : ∃ L, l.length = L := ⟨_, rfl⟩
  rw [hL] at x1 x3 k1 k3 ⊢
  have hm : L ≤ 9223372036854775807 := by omega
  replace x3 := Lib.hid x3
  replace k3 := Lib.hid k3
  go_enter Tryz.func25, Tryz.ntmps25
  go_wp2_with fail
  go_loopg [5] L (fun gk i wr => ∃ j : Nat, gk + j = L ∧ i = .int .i64 j ∧ Grew w wr)
  case atStart => exact ⟨0, rfl, rfl, Grew.refl _⟩
  case round =>
    obtain ⟨j, hj, rfl, hG⟩ := hrel
    by_cases hlt : j < L
    · obtain ⟨b, o, rfl, he⟩ := x3.out (by omega)
      obtain ⟨b9, o9, rfl, ke⟩ := k3.out (by omega)
      obtain ⟨p, hp⟩ : ∃ p, l[j]? = some p := ⟨l[j]'(by omega), List.getElem?_eq_getElem _⟩
      obtain ⟨b1, A1, n1, c1, C1, m1, d1, b2, A2, n2, c2, C2, m2, d2, ⟨e0, e1, e2, e3, e4, e5⟩, S1⟩ := he j p hp
      obtain ⟨b3, A3, n3, c3, C3, m3, d3, b4, A4, n4, c4, C4, m4, d4, ⟨f0, f1, f2, f3, f4, f5⟩, S2⟩ := ke j p hp
      have g0 : wr.cell? ⟨b, o + j * 6, none⟩ = some (.bool b1) := hG.cell e0
      have g1 : wr.cell? ⟨b, o + j * 6 + 1, none⟩ = some (.slice A1 n1 c1) := hG.cell e1
      have g2 : wr.cell? ⟨b, o + j * 6 + 2, none⟩ = some (.slice C1 m1 d1) := hG.cell e2
      have g3 : wr.cell? ⟨b, o + j * 6 + 3, none⟩ = some (.bool b2) := hG.cell e3
      have g4 : wr.cell? ⟨b, o + j * 6 + 4, none⟩ = some (.slice A2 n2 c2) := hG.cell e4
      have g5 : wr.cell? ⟨b, o + j * 6 + 5, none⟩ = some (.slice C2 m2 d2) := hG.cell e5
      have h0 : wr.cell? ⟨b9, o9 + j * 6, none⟩ = some (.bool b3) := hG.cell f0
      have h1 : wr.cell? ⟨b9, o9 + j * 6 + 1, none⟩ = some (.slice A3 n3 c3) := hG.cell f1
      have h2 : wr.cell? ⟨b9, o9 + j * 6 + 2, none⟩ = some (.slice C3 m3 d3) := hG.cell f2
      have h3 : wr.cell? ⟨b9, o9 + j * 6 + 3, none⟩ = some (.bool b4) := hG.cell f3
      have h4 : wr.cell? ⟨b9, o9 + j * 6 + 4, none⟩ = some (.slice A4 n4 c4) := hG.cell f4
      have h5 : wr.cell? ⟨b9, o9 + j * 6 + 5, none⟩ = some (.slice C4 m4 d4) := hG.cell f5
      replace S1 := Lib.hid (SpotC.kept S1 hG.keeps)
      replace S2 := Lib.hid (SpotC.kept S2 hG.keeps)
      have hjl : (j : Int) < (L : Int) := by omega
      clear e0 e1 e2 e3 e4 e5 f0 f1 f2 f3 f4 f5 he ke
      go_wp2_with fail
      go_region_held3 (fun w' => w'.cell? ⟨b, o + j * 6, none⟩ = some (.bool b1) ∧ w'.cell? ⟨b, o + j * 6 + 1, none⟩ = some (.slice A1 n1 c1) ∧ w'.cell? ⟨b, o + j * 6 + 2, none⟩ = some (.slice C1 m1 d1) ∧ w'.cell? ⟨b, o + j * 6 + 3, none⟩ = some (.bool b2) ∧ w'.cell? ⟨b, o + j * 6 + 4, none⟩ = some (.slice A2 n2 c2) ∧ w'.cell? ⟨b, o + j * 6 + 5, none⟩ = some (.slice C2 m2 d2) ∧ w'.cell? ⟨b9, o9 + j * 6, none⟩ = some (.bool b3) ∧ w'.cell? ⟨b9, o9 + j * 6 + 1, none⟩ = some (.slice A3 n3 c3) ∧ w'.cell? ⟨b9, o9 + j * 6 + 2, none⟩ = some (.slice C3 m3 d3) ∧ w'.cell? ⟨b9, o9 + j * 6 + 3, none⟩ = some (.bool b4) ∧ w'.cell? ⟨b9, o9 + j * 6 + 4, none⟩ = some (.slice A4 n4 c4) ∧ w'.cell? ⟨b9, o9 + j * 6 + 5, none⟩ = some (.slice C4 m4 d4))
        (first | exact ⟨g0, g1, g2, g3, g4, g5, h0, h1, h2, h3, h4, h5⟩ | exact ⟨gc.cell g0, gc.cell g1, gc.cell g2, gc.cell g3, gc.cell g4, gc.cell g5, gc.cell h0, gc.cell h1, gc.cell h2, gc.cell h3, gc.cell h4, gc.cell h5⟩)
        (first | (go_at_call 16; refine (r5same_yes _ _ p.1 p.2 _ (SpotC.kept S1.out ((Grew.refl wr).drew).keeps) (SpotC.kept S2.out ((Grew.refl wr).drew).keeps)).mono ?_; rintro e wx ⟨rfl, gc⟩))
      have gA := (hG.drew).trans gc
      clear g0 g1 g2 g3 g4 g5 h0 h1 h2 h3 h4 h5 gc
      go_wp2_with fail
      go_roundg (gk - 1)
      case rel => exact ⟨j + 1, by omega, by go_num, gA⟩
      case measure => omega
    · obtain rfl : j = L := by omega
      go_wp2_with fail
      go_ret
      exact ⟨rfl, hG⟩

set_option maxRecDepth 100000 in
set_option maxHeartbeats 4000000 in
theorem r4make_any (b1 b2 : Bool) (A1 A2 : Option Addr) (N M n1 c1 n2 c2 k : Nat) (w : World) (ha : Num 4294967296 .u32 w (.slice A1 n1 c1) N n1) (hb : Num 4294967296 .u32 w (.slice A2 n2 c2) M n2) (hM : M ≠ 0)
    (h1 : n1 ≤ k) (h2 : n2 ≤ k) (hs : k < 1073741824) :
    Calls Tryz.prog 108 #[.agg #[.bool b1, .slice A1 n1 c1], .agg #[.bool b2, .slice A2 n2 c2]] w fun e w' => ∃ V, e = .returned (.tuple #[V, .int .i64 0]) ∧ FracC w' V (mkRat (sgn (b1 != b2) N) M) ∧ Grew w w' := by
  have Fa := Lib.hid ha
  have Fb := Lib.hid hb
  have Wb := Lib.hid (show WhlR w (.agg #[.bool b2, .slice A2 n2 c2]) (sgn b2 M) k from ⟨_, _, _, _, rfl, hb, rfl, h2⟩)
  have s1 := Lib.hid (show n1 < 137438953472 by omega)
  have s2 := Lib.hid (show k < 137438953472 by omega)
  have h1' := Lib.hid (show len 4294967296 (sgn (b1 != b2) N).natAbs ≤ k by rw [sgn_abs]; exact Nat.le_trans (ha.len_le (by omega)) h1)
  have hsg : ∃ t : Int, sg (sgn b2 M) = t ∧ t ≠ 0 := ⟨_, rfl, by cases b2 <;> simp [sgn, sg] <;> split <;> omega⟩
  obtain ⟨t, ht, ht0⟩ := hsg
  have ht1 : (t == 0) = false := by simpa using ht0
  replace ht := Lib.hid ht
  clear ha hb h1
  go_enter Tryz.func108, Tryz.ntmps108
  go_wp2_with fail
  refine gen_calls ?_
  intro W0 hW0
  have G0 : Grew w W0 := by rw [hW0]; exact (((Grew.refl w).alloc _).alloc _).alloc _
  have P : Box2 W0 (w.heap.size) 0 (.bool b1) (.slice A1 n1 c1) := by rw [hW0]; exact ⟨by simp [go_sem], by simp [go_sem]⟩
  replace P := Lib.hid P
  have Q : Box2 W0 (w.heap.size + 1) 0 (.bool b2) (.slice A2 n2 c2) := by rw [hW0]; exact ⟨by simp [go_sem], by simp [go_sem]⟩
  replace Q := Lib.hid Q
  have R : Res3 W0 (w.heap.size + 1 + 1) 0 (.bool false) (.slice none 0 0) (.slice none 0 0) := by rw [hW0]; exact ⟨by simp [go_sem], by simp [go_sem], by simp [go_sem], by simp [go_sem], by simp [go_sem], by simp [go_sem], by simp⟩
  replace R := Lib.hid R
  have z0 : w.heap.size < W0.heap.size := by rw [hW0]; simp <;> omega
  replace z0 := Lib.hid z0
  have z1 : w.heap.size + 1 < W0.heap.size := by rw [hW0]; simp <;> omega
  replace z1 := Lib.hid z1
  have z2 : w.heap.size + 1 + 1 < W0.heap.size := by rw [hW0]; simp <;> omega
  replace z2 := Lib.hid z2
  clear hW0
  replace Fa := Lib.hid (Fa.out.kept G0.keeps)
  replace Fb := Lib.hid (Fb.out.kept G0.keeps)
  replace Wb := Lib.hid (Wb.out.kept G0.keeps)
  replace G0 := Lib.hid G0
  refine (r2sign_any _ (sgn b2 M) k _ Wb.out s2.out).mono ?_
  rintro e w1 ⟨rfl, g1⟩
  replace R := Lib.hid (R.out.grew g1)
  replace P := Lib.hid (P.out.grew g1)
  replace Q := Lib.hid (Q.out.grew g1)
  replace z0 := Lib.hid (lt_grew z0.out g1)
  replace z1 := Lib.hid (lt_grew z1.out g1)
  replace z2 := Lib.hid (lt_grew z2.out g1)
  replace Fa := Lib.hid (Fa.out.kept g1.keeps)
  replace Fb := Lib.hid (Fb.out.kept g1.keeps)
  replace Wb := Lib.hid (Wb.out.kept g1.keeps)
  replace G0 := Lib.hid (G0.out.trans g1)
  clear g1
  rw [ht.out]
  go_wp2_with fail
  have gd : Grew w1 w1.drew := (Grew.refl w1).drew
  replace R := Lib.hid (R.out.grew gd)
  replace P := Lib.hid (P.out.grew gd)
  replace Q := Lib.hid (Q.out.grew gd)
  replace z0 := Lib.hid (lt_grew z0.out gd)
  replace z1 := Lib.hid (lt_grew z1.out gd)
  replace z2 := Lib.hid (lt_grew z2.out gd)
  replace Fa := Lib.hid (Fa.out.kept gd.keeps)
  replace Fb := Lib.hid (Fb.out.kept gd.keeps)
  replace Wb := Lib.hid (Wb.out.kept gd.keeps)
  replace gd := Lib.hid gd
  have ZP := P
  have ZQ := Q
  go_region_held3 (fun w' => w'.cell? ⟨w.heap.size, 0, none⟩ = some (.bool b1) ∧ w'.cell? ⟨w.heap.size, 1, none⟩ = some (.slice A1 n1 c1) ∧ w'.cell? ⟨w.heap.size + 1, 0, none⟩ = some (.bool b2) ∧ w'.cell? ⟨w.heap.size + 1, 1, none⟩ = some (.slice A2 n2 c2))
    (first | (with_reducible exact ⟨ZP.out.p0, ZP.out.p1, ZQ.out.p0, ZQ.out.p1⟩) | (with_reducible exact ⟨g2.cell ZP.out.p0, g2.cell ZP.out.p1, g2.cell ZQ.out.p0, g2.cell ZQ.out.p1⟩) | (with_reducible exact ⟨(g2.trans g3).cell ZP.out.p0, (g2.trans g3).cell ZP.out.p1, (g2.trans g3).cell ZQ.out.p0, (g2.trans g3).cell ZQ.out.p1⟩) | (with_reducible exact ⟨other3 (o := 0) (by omega) ((g2.trans g3).cell ZP.out.p0), other3 (o := 0) (by omega) ((g2.trans g3).cell ZP.out.p1), other3 (o := 0) (by omega) ((g2.trans g3).cell ZQ.out.p0), other3 (o := 0) (by omega) ((g2.trans g3).cell ZQ.out.p1)⟩))
    (first | (have chk := g2; clear chk; go_at_call 98; refine (rfreduce_any _ _ k _ (FracR.mk X2.out Fb.out rfl h1'.out h2) (by omega)).mono ?_; rintro e w3 ⟨V6, rfl, hV6, g3⟩; obtain ⟨b7, A7, n7, c7, C7, m7, d7, rfl, X6⟩ := hV6.laid; clear hV6; replace R := Lib.hid (R.out.grew g3); replace P := Lib.hid (P.out.grew g3); replace Q := Lib.hid (Q.out.grew g3); replace z0 := Lib.hid (lt_grew z0.out g3); replace z1 := Lib.hid (lt_grew z1.out g3); replace z2 := Lib.hid (lt_grew z2.out g3); replace Fa := Lib.hid (Fa.out.kept g3.keeps); replace Fb := Lib.hid (Fb.out.kept g3.keeps); replace Wb := Lib.hid (Wb.out.kept g3.keeps); replace X2 := Lib.hid (X2.out.kept g3.keeps); obtain ⟨R0, R1, R2, Rf0, Rf1, Rf2, Rs⟩ := R.out) | (go_at_call 89; refine (rmake_any _ _ N _ _ Fa.out s1.out).mono ?_; rintro e w2 ⟨V2, rfl, hV2, g2⟩; obtain ⟨b4, A4, n4, c4, rfl, X2, -⟩ := hV2.laid; clear hV2; replace R := Lib.hid (R.out.grew g2); replace P := Lib.hid (P.out.grew g2); replace Q := Lib.hid (Q.out.grew g2); replace z0 := Lib.hid (lt_grew z0.out g2); replace z1 := Lib.hid (lt_grew z1.out g2); replace z2 := Lib.hid (lt_grew z2.out g2); replace Fa := Lib.hid (Fa.out.kept g2.keeps); replace Fb := Lib.hid (Fb.out.kept g2.keeps); replace Wb := Lib.hid (Wb.out.kept g2.keeps)))
  replace G0 := Lib.hid (((G0.out.trans gd.out).trans g2).trans g3)
  clear gd g2 g3 ZP ZQ
  refine gen_then ?_
  intro W9 hW9
  obtain ⟨q0, q1, q2, qK, -, -, qs, qG⟩ := store3 (o := 0) R0 R1 R2 hW9
  have GE := qG w (.inr (by omega)) G0.out
  have QK := Lib.hid qK
  clear qK qG hW9 R0 R1 R2
  go_wp2_with fail
  exact bodyPost_ret (v := .tuple #[.agg #[.bool b7, .slice A7 n7 c7, .slice C7 m7 d7], .int .i64 0]) (by simp [results, Tryz.results108, go_sem, q0, q1, q2]) rfl ⟨_, rfl, X6.out.kept QK.out, GE⟩

theorem r4makez_any (Va Vb : Value) (z y : Int) (k : Nat) (w : World) (ha : Whl w Va z) (hb : Whl w Vb y) (hy : y ≠ 0) (h1 : len 4294967296 z.natAbs ≤ k) (h2 : len 4294967296 y.natAbs ≤ k) (hs : k < 1073741824) :
    Calls Tryz.prog 108 #[Va, Vb] w fun e w' => ∃ V, e = .returned (.tuple #[V, .int .i64 0]) ∧ FracC w' V ((z : Rat) / (y : Rat)) ∧ Grew w w' := by
  obtain ⟨b1, A1, n1, c1, rfl, -, Y1⟩ := ha.laid
  obtain ⟨b2, A2, n2, c2, rfl, -, Y2⟩ := hb.laid
  obtain ⟨e1, l1, X1⟩ := Y1.out
  obtain ⟨e2, l2, X2⟩ := Y2.out
  rw [← quot_mkRat z y hy]
  subst e1; subst e2
  exact r4make_any _ _ A1 A2 z.natAbs y.natAbs n1 c1 n2 c2 k w X1 X2 (by omega) (by omega) (by omega) hs
end Go.Proofs.YtpglnfccmhkocaaGreat
