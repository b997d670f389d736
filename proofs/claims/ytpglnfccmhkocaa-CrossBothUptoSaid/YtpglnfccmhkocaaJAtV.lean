/- spot.Turns at all points; spot.Side. Condition: what comes in reads; fewer than 2^26 words. Locals of six cells. Conditions: none. affine.Fits, r10.Fits, cross.may, r17.May, cross.from, times, share. Condition: ints of no more than 64 bits. Locals of two ints. Conditions: none. -/
import Derived.Test.YtpglnfccmhkocaaJAt2
import Derived.Test.YtpglnfccmhkocaaJR2a
import Derived.Test.YtpglnfccmhkocaaJFrac3
namespace Go.Proofs.Ytpglnfccmhkocaa
open Go.RowKit

theorem FracV.parts {w : World} {b : Bool} {A C : Option Addr} {n c m d k : Nat} {q : Rat} (h : FracV w (.agg #[.bool b, .slice A n c, .slice C m d]) q k) :
    ∃ N D, Hid (mkRat (sgn b N) D = q) ∧ Hid (Num 4294967296 .u32 w (.slice A n c) N n) ∧ Hid (Num 4294967296 .u32 w (.slice C m d) D m) ∧ len 4294967296 N ≤ k ∧ len 4294967296 D ≤ k := by
  obtain ⟨b', N, D, n', m', va, vd, e, Na, Da, E, h1, h2⟩ := h
  simp at e
  obtain ⟨e1, e2, e3⟩ := e
  subst e1; subst e2; subst e3
  have hl := Na.slice
  obtain ⟨A1, c1, e3, -⟩ := hl
  injection e3 with i1 i2 i3
  have hl2 := Da.slice
  obtain ⟨A2, c2, e4, -⟩ := hl2
  injection e4 with j1 j2 j3
  rw [← i2] at Na
  rw [← j2] at Da
  exact ⟨N, D, E, Na, Da, h1, h2⟩
theorem bits_g (va : Value) (N n : Nat) (w : World) (ha : Num 4294967296 .u32 w va N n) (hs1 : len 4294967296 N < 1099511627776) :
    Calls Try.prog 49 #[va] w fun e w' => e = .returned (.int .i64 (nbits N : Nat)) ∧ Grew w w' :=
  (bits_any va N n w ha hs1).mono fun _ _ ⟨h1, h2⟩ => ⟨h1, h2 ▸ Grew.refl w⟩


def In64 (x y : Int) : Prop := -9223372036854775808 ≤ x ∧ x ≤ 9223372036854775807 ∧ -9223372036854775808 ≤ y ∧ y ≤ 9223372036854775807
theorem QB_i64 {x : Int} (h0 : -9223372036854775808 ≤ x) (h1 : x ≤ 9223372036854775807) : QB (x : Rat) 2 := QB_int x 2 (len_word (by omega)) (by omega)

set_option maxRecDepth 100000 in
set_option maxHeartbeats 8000000 in
theorem turns_any (ax ay bx b_y cx cy : Int) (w : World) (ha : In64 ax ay) (hb : In64 bx b_y) (hc : In64 cx cy) :
    Calls Try.prog 41 #[.agg #[.int .i64 ax, .int .i64 ay], .agg #[.int .i64 bx, .int .i64 b_y], .agg #[.int .i64 cx, .int .i64 cy]] w fun e w' => e = .returned (.int .i64 (turnZ ax ay bx b_y cx cy)) ∧ Grew w w' := by
  have ra := Lib.hid ha
  have rb := Lib.hid hb
  have rc := Lib.hid hc
  have qa := Lib.hid (QB_i64 ha.1 ha.2.1)
  have qa2 := Lib.hid (QB_i64 ha.2.2.1 ha.2.2.2)
  have qb := Lib.hid (QB_i64 hb.1 hb.2.1)
  have qb2 := Lib.hid (QB_i64 hb.2.2.1 hb.2.2.2)
  have qc := Lib.hid (QB_i64 hc.1 hc.2.1)
  have qc2 := Lib.hid (QB_i64 hc.2.2.1 hc.2.2.2)
  clear ha hb hc
  by_cases ha : nearB ax ay = true
  · by_cases hb : nearB bx b_y = true
    · by_cases hc : nearB cx cy = true
      · exact turns_near ax ay bx b_y cx cy w ha hb hc
      · have ea := Lib.hid ha
        have eb := Lib.hid hb
        have ec := Lib.hid (Bool.eq_false_iff.2 hc)
        clear ha hb hc
        go_enter Try.func41, Try.ntmps41
        go_wp2_with fail
        refine gen_calls ?_
        intro W0 hW0
        have G0 : Grew w W0 := by rw [hW0]; exact (((Grew.refl w).alloc _).alloc _).alloc _
        have P : Box2 W0 (w.heap.size) 0 (.int .i64 ax) (.int .i64 ay) := by rw [hW0]; exact ⟨by simp [go_sem], by simp [go_sem]⟩
        replace P := Lib.hid P
        have Q : Box2 W0 (w.heap.size + 1) 0 (.int .i64 bx) (.int .i64 b_y) := by rw [hW0]; exact ⟨by simp [go_sem], by simp [go_sem]⟩
        replace Q := Lib.hid Q
        have S : Box2 W0 (w.heap.size + 1 + 1) 0 (.int .i64 cx) (.int .i64 cy) := by rw [hW0]; exact ⟨by simp [go_sem], by simp [go_sem]⟩
        replace S := Lib.hid S
        have z0 : w.heap.size < W0.heap.size := by rw [hW0]; simp <;> omega
        replace z0 := Lib.hid z0
        have z1 : w.heap.size + 1 < W0.heap.size := by rw [hW0]; simp <;> omega
        replace z1 := Lib.hid z1
        have z2 : w.heap.size + 1 + 1 < W0.heap.size := by rw [hW0]; simp <;> omega
        replace z2 := Lib.hid z2
        clear hW0
        replace G0 := Lib.hid G0
        refine (near_any ax ay _).mono ?_
        rintro e w1 ⟨rfl, g1⟩
        replace P := Lib.hid (P.out.grew g1)
        replace Q := Lib.hid (Q.out.grew g1)
        replace S := Lib.hid (S.out.grew g1)
        replace z0 := Lib.hid (lt_grew z0.out g1)
        replace z1 := Lib.hid (lt_grew z1.out g1)
        replace z2 := Lib.hid (lt_grew z2.out g1)
        replace G0 := Lib.hid (G0.out.trans g1)
        clear g1
        rw [ea.out]
        obtain ⟨P0, P1⟩ := P.out
        obtain ⟨Q0, Q1⟩ := Q.out
        obtain ⟨S0, S1⟩ := S.out
        go_wp2_with fail
        clear P0 P1 Q0 Q1 S0 S1
        refine (near_any bx b_y _).mono ?_
        rintro e w2 ⟨rfl, g2⟩
        replace P := Lib.hid (P.out.grew g2)
        replace Q := Lib.hid (Q.out.grew g2)
        replace S := Lib.hid (S.out.grew g2)
        replace z0 := Lib.hid (lt_grew z0.out g2)
        replace z1 := Lib.hid (lt_grew z1.out g2)
        replace z2 := Lib.hid (lt_grew z2.out g2)
        replace G0 := Lib.hid (G0.out.trans g2)
        clear g2
        rw [eb.out]
        obtain ⟨P0, P1⟩ := P.out
        obtain ⟨Q0, Q1⟩ := Q.out
        obtain ⟨S0, S1⟩ := S.out
        go_wp2_with fail
        clear P0 P1 Q0 Q1 S0 S1
        refine (near_any cx cy _).mono ?_
        rintro e w3 ⟨rfl, g3⟩
        replace P := Lib.hid (P.out.grew g3)
        replace Q := Lib.hid (Q.out.grew g3)
        replace S := Lib.hid (S.out.grew g3)
        replace z0 := Lib.hid (lt_grew z0.out g3)
        replace z1 := Lib.hid (lt_grew z1.out g3)
        replace z2 := Lib.hid (lt_grew z2.out g3)
        replace G0 := Lib.hid (G0.out.trans g3)
        clear g3
        rw [ec.out]
        go_wp2_with fail
        have gd : Grew w3 w3.drew := (Grew.refl w3).drew
        replace P := Lib.hid (P.out.grew gd)
        replace Q := Lib.hid (Q.out.grew gd)
        replace S := Lib.hid (S.out.grew gd)
        replace z0 := Lib.hid (lt_grew z0.out gd)
        replace z1 := Lib.hid (lt_grew z1.out gd)
        replace z2 := Lib.hid (lt_grew z2.out gd)
        replace gd := Lib.hid gd
        have ZP := P
        have ZQ := Q
        have ZS := S
        go_region_held3 (fun w' => w'.cell? ⟨w.heap.size, 0, none⟩ = some (.int .i64 ax) ∧ w'.cell? ⟨w.heap.size, 1, none⟩ = some (.int .i64 ay) ∧ w'.cell? ⟨w.heap.size + 1, 0, none⟩ = some (.int .i64 bx) ∧ w'.cell? ⟨w.heap.size + 1, 1, none⟩ = some (.int .i64 b_y) ∧ w'.cell? ⟨w.heap.size + 1 + 1, 0, none⟩ = some (.int .i64 cx) ∧ w'.cell? ⟨w.heap.size + 1 + 1, 1, none⟩ = some (.int .i64 cy))
          (first | (with_reducible exact ⟨ZP.out.p0, ZP.out.p1, ZQ.out.p0, ZQ.out.p1, ZS.out.p0, ZS.out.p1⟩) | (with_reducible exact ⟨g4.cell ZP.out.p0, g4.cell ZP.out.p1, g4.cell ZQ.out.p0, g4.cell ZQ.out.p1, g4.cell ZS.out.p0, g4.cell ZS.out.p1⟩) | (with_reducible exact ⟨(g4.trans g5).cell ZP.out.p0, (g4.trans g5).cell ZP.out.p1, (g4.trans g5).cell ZQ.out.p0, (g4.trans g5).cell ZQ.out.p1, (g4.trans g5).cell ZS.out.p0, (g4.trans g5).cell ZS.out.p1⟩) | (with_reducible exact ⟨((g4.trans g5).trans g6).cell ZP.out.p0, ((g4.trans g5).trans g6).cell ZP.out.p1, ((g4.trans g5).trans g6).cell ZQ.out.p0, ((g4.trans g5).trans g6).cell ZQ.out.p1, ((g4.trans g5).trans g6).cell ZS.out.p0, ((g4.trans g5).trans g6).cell ZS.out.p1⟩) | (with_reducible exact ⟨(((g4.trans g5).trans g6).trans g7).cell ZP.out.p0, (((g4.trans g5).trans g6).trans g7).cell ZP.out.p1, (((g4.trans g5).trans g6).trans g7).cell ZQ.out.p0, (((g4.trans g5).trans g6).trans g7).cell ZQ.out.p1, (((g4.trans g5).trans g6).trans g7).cell ZS.out.p0, (((g4.trans g5).trans g6).trans g7).cell ZS.out.p1⟩))
          (first | (have chk := g6; clear chk; go_at_call 10; refine (turn_any _ _ _ (ax : Rat) (ay : Rat) (bx : Rat) (b_y : Rat) (cx : Rat) (cy : Rat) 2 _ X1.out X2.out X3.out (by omega) (by omega)).mono ?_; rintro e w7 ⟨rfl, g7⟩; replace P := Lib.hid (P.out.grew g7); replace Q := Lib.hid (Q.out.grew g7); replace S := Lib.hid (S.out.grew g7); replace z0 := Lib.hid (lt_grew z0.out g7); replace z1 := Lib.hid (lt_grew z1.out g7); replace z2 := Lib.hid (lt_grew z2.out g7); replace X1 := Lib.hid (X1.out.kept g7.keeps); replace X2 := Lib.hid (X2.out.kept g7.keeps); replace X3 := Lib.hid (X3.out.kept g7.keeps)) | (have chk := g5; clear chk; go_at_call 43; refine (at_any cx cy _ rc.out.1 rc.out.2.1 rc.out.2.2.1 rc.out.2.2.2).mono ?_; rintro e w6 ⟨V3, rfl, hV3, g6⟩; have Y3 := Lib.hid (hV3.v qc.out qc2.out); obtain ⟨b11, A11, n11, c11, C11, m11, d11, b12, A12, n12, c12, C12, m12, d12, rfl, -⟩ := hV3.laid; have X3 := Y3; clear hV3 Y3; replace P := Lib.hid (P.out.grew g6); replace Q := Lib.hid (Q.out.grew g6); replace S := Lib.hid (S.out.grew g6); replace z0 := Lib.hid (lt_grew z0.out g6); replace z1 := Lib.hid (lt_grew z1.out g6); replace z2 := Lib.hid (lt_grew z2.out g6); replace X1 := Lib.hid (X1.out.kept g6.keeps); replace X2 := Lib.hid (X2.out.kept g6.keeps)) | (have chk := g4; clear chk; go_at_call 43; refine (at_any bx b_y _ rb.out.1 rb.out.2.1 rb.out.2.2.1 rb.out.2.2.2).mono ?_; rintro e w5 ⟨V2, rfl, hV2, g5⟩; have Y2 := Lib.hid (hV2.v qb.out qb2.out); obtain ⟨b9, A9, n9, c9, C9, m9, d9, b10, A10, n10, c10, C10, m10, d10, rfl, -⟩ := hV2.laid; have X2 := Y2; clear hV2 Y2; replace P := Lib.hid (P.out.grew g5); replace Q := Lib.hid (Q.out.grew g5); replace S := Lib.hid (S.out.grew g5); replace z0 := Lib.hid (lt_grew z0.out g5); replace z1 := Lib.hid (lt_grew z1.out g5); replace z2 := Lib.hid (lt_grew z2.out g5); replace X1 := Lib.hid (X1.out.kept g5.keeps)) | (go_at_call 43; refine (at_any ax ay _ ra.out.1 ra.out.2.1 ra.out.2.2.1 ra.out.2.2.2).mono ?_; rintro e w4 ⟨V1, rfl, hV1, g4⟩; have Y1 := Lib.hid (hV1.v qa.out qa2.out); obtain ⟨b7, A7, n7, c7, C7, m7, d7, b8, A8, n8, c8, C8, m8, d8, rfl, -⟩ := hV1.laid; have X1 := Y1; clear hV1 Y1; replace P := Lib.hid (P.out.grew g4); replace Q := Lib.hid (Q.out.grew g4); replace S := Lib.hid (S.out.grew g4); replace z0 := Lib.hid (lt_grew z0.out g4); replace z1 := Lib.hid (lt_grew z1.out g4); replace z2 := Lib.hid (lt_grew z2.out g4)))
        replace G0 := Lib.hid (((((G0.out.trans gd.out).trans g4).trans g5).trans g6).trans g7)
        clear gd g4 g5 g6 g7 ZP ZQ ZS
        go_wp2_with fail
        go_ret
        exact ⟨rfl, G0.out⟩
    · have ea := Lib.hid ha
      have eb := Lib.hid (Bool.eq_false_iff.2 hb)
      clear ha hb
      go_enter Try.func41, Try.ntmps41
      go_wp2_with fail
      refine gen_calls ?_
      intro W0 hW0
      have G0 : Grew w W0 := by rw [hW0]; exact (((Grew.refl w).alloc _).alloc _).alloc _
      have P : Box2 W0 (w.heap.size) 0 (.int .i64 ax) (.int .i64 ay) := by rw [hW0]; exact ⟨by simp [go_sem], by simp [go_sem]⟩
      replace P := Lib.hid P
      have Q : Box2 W0 (w.heap.size + 1) 0 (.int .i64 bx) (.int .i64 b_y) := by rw [hW0]; exact ⟨by simp [go_sem], by simp [go_sem]⟩
      replace Q := Lib.hid Q
      have S : Box2 W0 (w.heap.size + 1 + 1) 0 (.int .i64 cx) (.int .i64 cy) := by rw [hW0]; exact ⟨by simp [go_sem], by simp [go_sem]⟩
      replace S := Lib.hid S
      have z0 : w.heap.size < W0.heap.size := by rw [hW0]; simp <;> omega
      replace z0 := Lib.hid z0
      have z1 : w.heap.size + 1 < W0.heap.size := by rw [hW0]; simp <;> omega
      replace z1 := Lib.hid z1
      have z2 : w.heap.size + 1 + 1 < W0.heap.size := by rw [hW0]; simp <;> omega
      replace z2 := Lib.hid z2
      clear hW0
      replace G0 := Lib.hid G0
      refine (near_any ax ay _).mono ?_
      rintro e w1 ⟨rfl, g1⟩
      replace P := Lib.hid (P.out.grew g1)
      replace Q := Lib.hid (Q.out.grew g1)
      replace S := Lib.hid (S.out.grew g1)
      replace z0 := Lib.hid (lt_grew z0.out g1)
      replace z1 := Lib.hid (lt_grew z1.out g1)
      replace z2 := Lib.hid (lt_grew z2.out g1)
      replace G0 := Lib.hid (G0.out.trans g1)
      clear g1
      rw [ea.out]
      obtain ⟨P0, P1⟩ := P.out
      obtain ⟨Q0, Q1⟩ := Q.out
      obtain ⟨S0, S1⟩ := S.out
      go_wp2_with fail
      clear P0 P1 Q0 Q1 S0 S1
      refine (near_any bx b_y _).mono ?_
      rintro e w2 ⟨rfl, g2⟩
      replace P := Lib.hid (P.out.grew g2)
      replace Q := Lib.hid (Q.out.grew g2)
      replace S := Lib.hid (S.out.grew g2)
      replace z0 := Lib.hid (lt_grew z0.out g2)
      replace z1 := Lib.hid (lt_grew z1.out g2)
      replace z2 := Lib.hid (lt_grew z2.out g2)
      replace G0 := Lib.hid (G0.out.trans g2)
      clear g2
      rw [eb.out]
      go_wp2_with fail
      have gd : Grew w2 w2.drew := (Grew.refl w2).drew
      replace P := Lib.hid (P.out.grew gd)
      replace Q := Lib.hid (Q.out.grew gd)
      replace S := Lib.hid (S.out.grew gd)
      replace z0 := Lib.hid (lt_grew z0.out gd)
      replace z1 := Lib.hid (lt_grew z1.out gd)
      replace z2 := Lib.hid (lt_grew z2.out gd)
      replace gd := Lib.hid gd
      have ZP := P
      have ZQ := Q
      have ZS := S
      go_region_held3 (fun w' => w'.cell? ⟨w.heap.size, 0, none⟩ = some (.int .i64 ax) ∧ w'.cell? ⟨w.heap.size, 1, none⟩ = some (.int .i64 ay) ∧ w'.cell? ⟨w.heap.size + 1, 0, none⟩ = some (.int .i64 bx) ∧ w'.cell? ⟨w.heap.size + 1, 1, none⟩ = some (.int .i64 b_y) ∧ w'.cell? ⟨w.heap.size + 1 + 1, 0, none⟩ = some (.int .i64 cx) ∧ w'.cell? ⟨w.heap.size + 1 + 1, 1, none⟩ = some (.int .i64 cy))
        (first | (with_reducible exact ⟨ZP.out.p0, ZP.out.p1, ZQ.out.p0, ZQ.out.p1, ZS.out.p0, ZS.out.p1⟩) | (with_reducible exact ⟨g3.cell ZP.out.p0, g3.cell ZP.out.p1, g3.cell ZQ.out.p0, g3.cell ZQ.out.p1, g3.cell ZS.out.p0, g3.cell ZS.out.p1⟩) | (with_reducible exact ⟨(g3.trans g4).cell ZP.out.p0, (g3.trans g4).cell ZP.out.p1, (g3.trans g4).cell ZQ.out.p0, (g3.trans g4).cell ZQ.out.p1, (g3.trans g4).cell ZS.out.p0, (g3.trans g4).cell ZS.out.p1⟩) | (with_reducible exact ⟨((g3.trans g4).trans g5).cell ZP.out.p0, ((g3.trans g4).trans g5).cell ZP.out.p1, ((g3.trans g4).trans g5).cell ZQ.out.p0, ((g3.trans g4).trans g5).cell ZQ.out.p1, ((g3.trans g4).trans g5).cell ZS.out.p0, ((g3.trans g4).trans g5).cell ZS.out.p1⟩) | (with_reducible exact ⟨(((g3.trans g4).trans g5).trans g6).cell ZP.out.p0, (((g3.trans g4).trans g5).trans g6).cell ZP.out.p1, (((g3.trans g4).trans g5).trans g6).cell ZQ.out.p0, (((g3.trans g4).trans g5).trans g6).cell ZQ.out.p1, (((g3.trans g4).trans g5).trans g6).cell ZS.out.p0, (((g3.trans g4).trans g5).trans g6).cell ZS.out.p1⟩))
        (first | (have chk := g5; clear chk; go_at_call 10; refine (turn_any _ _ _ (ax : Rat) (ay : Rat) (bx : Rat) (b_y : Rat) (cx : Rat) (cy : Rat) 2 _ X1.out X2.out X3.out (by omega) (by omega)).mono ?_; rintro e w6 ⟨rfl, g6⟩; replace P := Lib.hid (P.out.grew g6); replace Q := Lib.hid (Q.out.grew g6); replace S := Lib.hid (S.out.grew g6); replace z0 := Lib.hid (lt_grew z0.out g6); replace z1 := Lib.hid (lt_grew z1.out g6); replace z2 := Lib.hid (lt_grew z2.out g6); replace X1 := Lib.hid (X1.out.kept g6.keeps); replace X2 := Lib.hid (X2.out.kept g6.keeps); replace X3 := Lib.hid (X3.out.kept g6.keeps)) | (have chk := g4; clear chk; go_at_call 43; refine (at_any cx cy _ rc.out.1 rc.out.2.1 rc.out.2.2.1 rc.out.2.2.2).mono ?_; rintro e w5 ⟨V3, rfl, hV3, g5⟩; have Y3 := Lib.hid (hV3.v qc.out qc2.out); obtain ⟨b11, A11, n11, c11, C11, m11, d11, b12, A12, n12, c12, C12, m12, d12, rfl, -⟩ := hV3.laid; have X3 := Y3; clear hV3 Y3; replace P := Lib.hid (P.out.grew g5); replace Q := Lib.hid (Q.out.grew g5); replace S := Lib.hid (S.out.grew g5); replace z0 := Lib.hid (lt_grew z0.out g5); replace z1 := Lib.hid (lt_grew z1.out g5); replace z2 := Lib.hid (lt_grew z2.out g5); replace X1 := Lib.hid (X1.out.kept g5.keeps); replace X2 := Lib.hid (X2.out.kept g5.keeps)) | (have chk := g3; clear chk; go_at_call 43; refine (at_any bx b_y _ rb.out.1 rb.out.2.1 rb.out.2.2.1 rb.out.2.2.2).mono ?_; rintro e w4 ⟨V2, rfl, hV2, g4⟩; have Y2 := Lib.hid (hV2.v qb.out qb2.out); obtain ⟨b9, A9, n9, c9, C9, m9, d9, b10, A10, n10, c10, C10, m10, d10, rfl, -⟩ := hV2.laid; have X2 := Y2; clear hV2 Y2; replace P := Lib.hid (P.out.grew g4); replace Q := Lib.hid (Q.out.grew g4); replace S := Lib.hid (S.out.grew g4); replace z0 := Lib.hid (lt_grew z0.out g4); replace z1 := Lib.hid (lt_grew z1.out g4); replace z2 := Lib.hid (lt_grew z2.out g4); replace X1 := Lib.hid (X1.out.kept g4.keeps)) | (go_at_call 43; refine (at_any ax ay _ ra.out.1 ra.out.2.1 ra.out.2.2.1 ra.out.2.2.2).mono ?_; rintro e w3 ⟨V1, rfl, hV1, g3⟩; have Y1 := Lib.hid (hV1.v qa.out qa2.out); obtain ⟨b7, A7, n7, c7, C7, m7, d7, b8, A8, n8, c8, C8, m8, d8, rfl, -⟩ := hV1.laid; have X1 := Y1; clear hV1 Y1; replace P := Lib.hid (P.out.grew g3); replace Q := Lib.hid (Q.out.grew g3); replace S := Lib.hid (S.out.grew g3); replace z0 := Lib.hid (lt_grew z0.out g3); replace z1 := Lib.hid (lt_grew z1.out g3); replace z2 := Lib.hid (lt_grew z2.out g3)))
      replace G0 := Lib.hid (((((G0.out.trans gd.out).trans g3).trans g4).trans g5).trans g6)
      clear gd g3 g4 g5 g6 ZP ZQ ZS
      go_wp2_with fail
      go_ret
      exact ⟨rfl, G0.out⟩
  · have ea := Lib.hid (Bool.eq_false_iff.2 ha)
    clear ha
    go_enter Try.func41, Try.ntmps41
    go_wp2_with fail
    refine gen_calls ?_
    intro W0 hW0
    have G0 : Grew w W0 := by rw [hW0]; exact (((Grew.refl w).alloc _).alloc _).alloc _
    have P : Box2 W0 (w.heap.size) 0 (.int .i64 ax) (.int .i64 ay) := by rw [hW0]; exact ⟨by simp [go_sem], by simp [go_sem]⟩
    replace P := Lib.hid P
    have Q : Box2 W0 (w.heap.size + 1) 0 (.int .i64 bx) (.int .i64 b_y) := by rw [hW0]; exact ⟨by simp [go_sem], by simp [go_sem]⟩
    replace Q := Lib.hid Q
    have S : Box2 W0 (w.heap.size + 1 + 1) 0 (.int .i64 cx) (.int .i64 cy) := by rw [hW0]; exact ⟨by simp [go_sem], by simp [go_sem]⟩
    replace S := Lib.hid S
    have z0 : w.heap.size < W0.heap.size := by rw [hW0]; simp <;> omega
    replace z0 := Lib.hid z0
    have z1 : w.heap.size + 1 < W0.heap.size := by rw [hW0]; simp <;> omega
    replace z1 := Lib.hid z1
    have z2 : w.heap.size + 1 + 1 < W0.heap.size := by rw [hW0]; simp <;> omega
    replace z2 := Lib.hid z2
    clear hW0
    replace G0 := Lib.hid G0
    refine (near_any ax ay _).mono ?_
    rintro e w1 ⟨rfl, g1⟩
    replace P := Lib.hid (P.out.grew g1)
    replace Q := Lib.hid (Q.out.grew g1)
    replace S := Lib.hid (S.out.grew g1)
    replace z0 := Lib.hid (lt_grew z0.out g1)
    replace z1 := Lib.hid (lt_grew z1.out g1)
    replace z2 := Lib.hid (lt_grew z2.out g1)
    replace G0 := Lib.hid (G0.out.trans g1)
    clear g1
    rw [ea.out]
    go_wp2_with fail
    have gd : Grew w1 w1.drew := (Grew.refl w1).drew
    replace P := Lib.hid (P.out.grew gd)
    replace Q := Lib.hid (Q.out.grew gd)
    replace S := Lib.hid (S.out.grew gd)
    replace z0 := Lib.hid (lt_grew z0.out gd)
    replace z1 := Lib.hid (lt_grew z1.out gd)
    replace z2 := Lib.hid (lt_grew z2.out gd)
    replace gd := Lib.hid gd
    have ZP := P
    have ZQ := Q
    have ZS := S
    go_region_held3 (fun w' => w'.cell? ⟨w.heap.size, 0, none⟩ = some (.int .i64 ax) ∧ w'.cell? ⟨w.heap.size, 1, none⟩ = some (.int .i64 ay) ∧ w'.cell? ⟨w.heap.size + 1, 0, none⟩ = some (.int .i64 bx) ∧ w'.cell? ⟨w.heap.size + 1, 1, none⟩ = some (.int .i64 b_y) ∧ w'.cell? ⟨w.heap.size + 1 + 1, 0, none⟩ = some (.int .i64 cx) ∧ w'.cell? ⟨w.heap.size + 1 + 1, 1, none⟩ = some (.int .i64 cy))
      (first | (with_reducible exact ⟨ZP.out.p0, ZP.out.p1, ZQ.out.p0, ZQ.out.p1, ZS.out.p0, ZS.out.p1⟩) | (with_reducible exact ⟨g2.cell ZP.out.p0, g2.cell ZP.out.p1, g2.cell ZQ.out.p0, g2.cell ZQ.out.p1, g2.cell ZS.out.p0, g2.cell ZS.out.p1⟩) | (with_reducible exact ⟨(g2.trans g3).cell ZP.out.p0, (g2.trans g3).cell ZP.out.p1, (g2.trans g3).cell ZQ.out.p0, (g2.trans g3).cell ZQ.out.p1, (g2.trans g3).cell ZS.out.p0, (g2.trans g3).cell ZS.out.p1⟩) | (with_reducible exact ⟨((g2.trans g3).trans g4).cell ZP.out.p0, ((g2.trans g3).trans g4).cell ZP.out.p1, ((g2.trans g3).trans g4).cell ZQ.out.p0, ((g2.trans g3).trans g4).cell ZQ.out.p1, ((g2.trans g3).trans g4).cell ZS.out.p0, ((g2.trans g3).trans g4).cell ZS.out.p1⟩) | (with_reducible exact ⟨(((g2.trans g3).trans g4).trans g5).cell ZP.out.p0, (((g2.trans g3).trans g4).trans g5).cell ZP.out.p1, (((g2.trans g3).trans g4).trans g5).cell ZQ.out.p0, (((g2.trans g3).trans g4).trans g5).cell ZQ.out.p1, (((g2.trans g3).trans g4).trans g5).cell ZS.out.p0, (((g2.trans g3).trans g4).trans g5).cell ZS.out.p1⟩))
      (first | (have chk := g4; clear chk; go_at_call 10; refine (turn_any _ _ _ (ax : Rat) (ay : Rat) (bx : Rat) (b_y : Rat) (cx : Rat) (cy : Rat) 2 _ X1.out X2.out X3.out (by omega) (by omega)).mono ?_; rintro e w5 ⟨rfl, g5⟩; replace P := Lib.hid (P.out.grew g5); replace Q := Lib.hid (Q.out.grew g5); replace S := Lib.hid (S.out.grew g5); replace z0 := Lib.hid (lt_grew z0.out g5); replace z1 := Lib.hid (lt_grew z1.out g5); replace z2 := Lib.hid (lt_grew z2.out g5); replace X1 := Lib.hid (X1.out.kept g5.keeps); replace X2 := Lib.hid (X2.out.kept g5.keeps); replace X3 := Lib.hid (X3.out.kept g5.keeps)) | (have chk := g3; clear chk; go_at_call 43; refine (at_any cx cy _ rc.out.1 rc.out.2.1 rc.out.2.2.1 rc.out.2.2.2).mono ?_; rintro e w4 ⟨V3, rfl, hV3, g4⟩; have Y3 := Lib.hid (hV3.v qc.out qc2.out); obtain ⟨b11, A11, n11, c11, C11, m11, d11, b12, A12, n12, c12, C12, m12, d12, rfl, -⟩ := hV3.laid; have X3 := Y3; clear hV3 Y3; replace P := Lib.hid (P.out.grew g4); replace Q := Lib.hid (Q.out.grew g4); replace S := Lib.hid (S.out.grew g4); replace z0 := Lib.hid (lt_grew z0.out g4); replace z1 := Lib.hid (lt_grew z1.out g4); replace z2 := Lib.hid (lt_grew z2.out g4); replace X1 := Lib.hid (X1.out.kept g4.keeps); replace X2 := Lib.hid (X2.out.kept g4.keeps)) | (have chk := g2; clear chk; go_at_call 43; refine (at_any bx b_y _ rb.out.1 rb.out.2.1 rb.out.2.2.1 rb.out.2.2.2).mono ?_; rintro e w3 ⟨V2, rfl, hV2, g3⟩; have Y2 := Lib.hid (hV2.v qb.out qb2.out); obtain ⟨b9, A9, n9, c9, C9, m9, d9, b10, A10, n10, c10, C10, m10, d10, rfl, -⟩ := hV2.laid; have X2 := Y2; clear hV2 Y2; replace P := Lib.hid (P.out.grew g3); replace Q := Lib.hid (Q.out.grew g3); replace S := Lib.hid (S.out.grew g3); replace z0 := Lib.hid (lt_grew z0.out g3); replace z1 := Lib.hid (lt_grew z1.out g3); replace z2 := Lib.hid (lt_grew z2.out g3); replace X1 := Lib.hid (X1.out.kept g3.keeps)) | (go_at_call 43; refine (at_any ax ay _ ra.out.1 ra.out.2.1 ra.out.2.2.1 ra.out.2.2.2).mono ?_; rintro e w2 ⟨V1, rfl, hV1, g2⟩; have Y1 := Lib.hid (hV1.v qa.out qa2.out); obtain ⟨b7, A7, n7, c7, C7, m7, d7, b8, A8, n8, c8, C8, m8, d8, rfl, -⟩ := hV1.laid; have X1 := Y1; clear hV1 Y1; replace P := Lib.hid (P.out.grew g2); replace Q := Lib.hid (Q.out.grew g2); replace S := Lib.hid (S.out.grew g2); replace z0 := Lib.hid (lt_grew z0.out g2); replace z1 := Lib.hid (lt_grew z1.out g2); replace z2 := Lib.hid (lt_grew z2.out g2)))
    replace G0 := Lib.hid (((((G0.out.trans gd.out).trans g2).trans g3).trans g4).trans g5)
    clear gd g2 g3 g4 g5 ZP ZQ ZS
    go_wp2_with fail
    go_ret
    exact ⟨rfl, G0.out⟩
end Go.Proofs.Ytpglnfccmhkocaa
namespace Go.Proofs.Ytpglnfccmhkocaa
open Go.RowKit

/-- A new block of six cells that may be stored. -/
def Res6 (w : World) (r : Nat) : Prop := Res3 w r 0 (.bool false) (.slice none 0 0) (.slice none 0 0) ∧ Res3 w r 3 (.bool false) (.slice none 0 0) (.slice none 0 0)
theorem Res6.grew {w w' : World} {r : Nat} (h : Res6 w r) (g : Grew w w') : Res6 w' r := ⟨h.1.grew g, h.2.grew g⟩
theorem Res6.lt {w : World} {r : Nat} (h : Res6 w r) : r < w.heap.size := h.1.lt
/-- Six cells stored anew. -/
abbrev set6 (w : World) (r : Nat) (u0 u1 u2 u3 u4 u5 : Value) : World :=
  (((((w.setCell ⟨r, 0, none⟩ u0).setCell ⟨r, 1, none⟩ u1).setCell ⟨r, 2, none⟩ u2).setCell ⟨r, 3, none⟩ u3).setCell ⟨r, 4, none⟩ u4).setCell ⟨r, 5, none⟩ u5
theorem set6_all {w : World} {r : Nat} {u0 u1 u2 u3 u4 u5 : Value} (h : Res6 w r) :
    Box3 (set6 w r u0 u1 u2 u3 u4 u5) r 0 u0 u1 u2 ∧ Box3 (set6 w r u0 u1 u2 u3 u4 u5) r 3 u3 u4 u5 ∧ Keeps w (set6 w r u0 u1 u2 u3 u4 u5) ∧ (∀ b p, b ≠ r → (set6 w r u0 u1 u2 u3 u4 u5).cell? ⟨b, p, none⟩ = w.cell? ⟨b, p, none⟩) ∧
      (set6 w r u0 u1 u2 u3 u4 u5).heap.size = w.heap.size := by
  obtain ⟨⟨h0, h1, h2, -, -, -, -⟩, ⟨h3, h4, h5, -, -, -, -⟩⟩ := h
  obtain ⟨q0, q1, q2, qK, qf, qo, qs, -⟩ := store3 (o := 0) (u0 := u0) (u1 := u1) (u2 := u2) h0 h1 h2 rfl
  obtain ⟨q3, q4, q5, qK', qf', qo', qs', -⟩ := store3 (o := 3) (u0 := u3) (u1 := u4) (u2 := u5) ((qo _ (by omega)).trans h3) ((qo _ (by omega)).trans h4) ((qo _ (by omega)).trans h5) rfl
  exact ⟨⟨(qo' _ (by omega)).trans q0, (qo' _ (by omega)).trans q1, (qo' _ (by omega)).trans q2⟩, ⟨q3, q4, q5⟩, qK.trans qK', fun b p hb => (qf' b p hb).trans (qf b p hb), qs'.trans qs⟩
theorem Res6.store_far {w : World} {g h : Nat} {u0 u1 u2 u3 u4 u5 : Value} (a : Res6 w g) (r : Res6 w h) (hne : g ≠ h) : Res6 (set6 w h u0 u1 u2 u3 u4 u5) g := by
  obtain ⟨-, -, -, qf, qs⟩ := set6_all (u0 := u0) (u1 := u1) (u2 := u2) (u3 := u3) (u4 := u4) (u5 := u5) r
  obtain ⟨⟨a0, a1, a2, f0, f1, f2, s⟩, ⟨a3, a4, a5, f3, f4, f5, s'⟩⟩ := a
  exact ⟨⟨(qf _ _ hne).trans a0, (qf _ _ hne).trans a1, (qf _ _ hne).trans a2, by simp [f0], by simp [f1], by simp [f2], by rw [qs]; exact s⟩,
    ⟨(qf _ _ hne).trans a3, (qf _ _ hne).trans a4, (qf _ _ hne).trans a5, by simpa using f3, by simpa using f4, by simpa using f5, by rw [qs]; exact s⟩⟩
theorem Keeps.store6 {w X : World} {g : Nat} {u0 u1 u2 u3 u4 u5 : Value} (r : Res6 X g) (hk : Keeps w X) : Keeps w (set6 X g u0 u1 u2 u3 u4 u5) := hk.trans (set6_all r).2.2.1

/-- A block that holds six cells of which P says something, in this world. -/
def At6 (w : World) (g : Nat) (P : World → Value → Prop) : Prop := ∃ b A n c C m d b' A' n' c' C' m' d', Box3 w g 0 (.bool b) (.slice A n c) (.slice C m d) ∧ Box3 w g 3 (.bool b') (.slice A' n' c') (.slice C' m' d') ∧
  P w (.agg #[.bool b, .slice A n c, .slice C m d, .bool b', .slice A' n' c', .slice C' m' d']) ∧ g < w.heap.size
theorem At6.of_alloc {w X : World} {P : World → Value → Prop} (hP : Rd P) {b b' : Bool} {A C A' C' : Option Addr} {n c m d n' c' m' d' g : Nat} {t : TypeId} (hg : X.heap.size = g) (hk : Keeps w X)
    (h : P w (.agg #[.bool b, .slice A n c, .slice C m d, .bool b', .slice A' n' c', .slice C' m' d'])) :
    At6 (X.alloc (.cells #[.bool b, .slice A n c, .slice C m d, .bool b', .slice A' n' c', .slice C' m' d'] t)) g P := by
  subst hg
  exact ⟨b, A, n, c, C, m, d, b', A', n', c', C', m', d', ⟨by simp [go_sem], by simp [go_sem], by simp [go_sem]⟩, ⟨by simp [go_sem], by simp [go_sem], by simp [go_sem]⟩, hP _ _ _ h (hk.trans ((Grew.refl X).alloc _).keeps), by simp⟩
theorem At6.of_store {w X : World} {P : World → Value → Prop} (hP : Rd P) {b b' : Bool} {A C A' C' : Option Addr} {n c m d n' c' m' d' g : Nat} (r : Res6 X g) (hk : Keeps w X)
    (h : P w (.agg #[.bool b, .slice A n c, .slice C m d, .bool b', .slice A' n' c', .slice C' m' d'])) :
    At6 (set6 X g (.bool b) (.slice A n c) (.slice C m d) (.bool b') (.slice A' n' c') (.slice C' m' d')) g P := by
  obtain ⟨q1, q2, qK, -, qs⟩ := set6_all (u0 := .bool b) (u1 := .slice A n c) (u2 := .slice C m d) (u3 := .bool b') (u4 := .slice A' n' c') (u5 := .slice C' m' d') r
  exact ⟨b, A, n, c, C, m, d, b', A', n', c', C', m', d', q1, q2, hP _ _ _ h (hk.trans qK), by rw [qs]; exact r.lt⟩
theorem At6.store_far {w : World} {P : World → Value → Prop} (hP : Rd P) {g h : Nat} {u0 u1 u2 u3 u4 u5 : Value} (a : At6 w g P) (r : Res6 w h) (hne : g ≠ h) : At6 (set6 w h u0 u1 u2 u3 u4 u5) g P := by
  obtain ⟨-, -, qK, qf, qs⟩ := set6_all (u0 := u0) (u1 := u1) (u2 := u2) (u3 := u3) (u4 := u4) (u5 := u5) r
  obtain ⟨b, A, n, c, C, m, d, b', A', n', c', C', m', d', hB, hB', hp, hl⟩ := a
  exact ⟨b, A, n, c, C, m, d, b', A', n', c', C', m', d', hB.kept (fun p => qf g p hne), hB'.kept (fun p => qf g p hne), hP _ _ _ hp qK, by rw [qs]; exact hl⟩
theorem At6.grew {w w' : World} {P : World → Value → Prop} (hP : Rd P) {g : Nat} (a : At6 w g P) (k : Grew w w') : At6 w' g P := by
  obtain ⟨b, A, n, c, C, m, d, b', A', n', c', C', m', d', hB, hB', hp, hl⟩ := a
  exact ⟨b, A, n, c, C, m, d, b', A', n', c', C', m', d', hB.grew k, hB'.grew k, hP _ _ _ hp k.keeps, Nat.lt_of_lt_of_le hl k.size⟩
theorem Rd.spotC (x y : Rat) : Rd (fun w V => SpotC w V x y) := fun _ _ _ h k => SpotC.kept h k
theorem Rd.spotR (x y : Rat) (k : Nat) : Rd (fun w V => SpotR w V x y k) := fun _ _ _ h g => SpotR.kept h g
/-- A spot that is answered, and reads with so many words. -/
def SpotD (w : World) (V : Value) (x y : Rat) (k : Nat) : Prop := SpotC w V x y ∧ SpotR w V x y k
theorem Rd.spotD (x y : Rat) (k : Nat) : Rd (fun w V => SpotD w V x y k) := fun _ _ _ h g => ⟨SpotC.kept h.1 g, SpotR.kept h.2 g⟩
theorem SpotD.kept {w w' : World} {V : Value} {x y : Rat} {k : Nat} (h : SpotD w V x y k) (g : Keeps w w') : SpotD w' V x y k := ⟨h.1.kept g, h.2.kept g⟩
theorem SpotC.d {w : World} {V : Value} {x y : Rat} {k : Nat} (h : SpotC w V x y) (b1 : QB x k) (b2 : QB y k) : SpotD w V x y k := ⟨h, h.r b1 b2⟩

theorem res6_at (w : World) (t : TypeId) : Res6 (w.alloc (.cells #[.bool false, .slice none 0 0, .slice none 0 0, .bool false, .slice none 0 0, .slice none 0 0] t)) w.heap.size :=
  ⟨⟨by simp [go_sem], by simp [go_sem], by simp [go_sem], by simp [go_sem], by simp [go_sem], by simp [go_sem], by simp⟩, ⟨by simp [go_sem], by simp [go_sem], by simp [go_sem], by simp [go_sem], by simp [go_sem], by simp [go_sem], by simp⟩⟩
theorem res6_new {w w' : World} {t : TypeId} (g : Grew (w.alloc (.cells #[.bool false, .slice none 0 0, .slice none 0 0, .bool false, .slice none 0 0, .slice none 0 0] t)) w') : Res6 w' w.heap.size := (res6_at w t).grew g
theorem res6_newD {w w' : World} {t : TypeId} (g : Grew (w.alloc (.cells #[.bool false, .slice none 0 0, .slice none 0 0, .bool false, .slice none 0 0, .slice none 0 0] t)).drew w') : Res6 w' w.heap.size :=
  Res6.grew ((res6_at w t).grew ((Grew.refl _).drew)) g
theorem res6_two (w : World) (t s : TypeId) : Res6 ((w.alloc (.cells #[.bool false, .slice none 0 0, .slice none 0 0, .bool false, .slice none 0 0, .slice none 0 0] t)).alloc (.cells #[.bool false, .slice none 0 0, .slice none 0 0, .bool false, .slice none 0 0, .slice none 0 0] s)) w.heap.size ∧
    Res6 ((w.alloc (.cells #[.bool false, .slice none 0 0, .slice none 0 0, .bool false, .slice none 0 0, .slice none 0 0] t)).alloc (.cells #[.bool false, .slice none 0 0, .slice none 0 0, .bool false, .slice none 0 0, .slice none 0 0] s)) (w.heap.size + 1) := by
  refine ⟨(res6_at w t).grew ((Grew.refl _).alloc _), ?_⟩
  have h := res6_at (w.alloc (.cells #[.bool false, .slice none 0 0, .slice none 0 0, .bool false, .slice none 0 0, .slice none 0 0] t)) s
  rwa [show (w.alloc (.cells #[.bool false, .slice none 0 0, .slice none 0 0, .bool false, .slice none 0 0, .slice none 0 0] t)).heap.size = w.heap.size + 1 by simp] at h
theorem res6_new2 {w w' : World} {t s : TypeId} (g : Grew ((w.alloc (.cells #[.bool false, .slice none 0 0, .slice none 0 0, .bool false, .slice none 0 0, .slice none 0 0] t)).alloc (.cells #[.bool false, .slice none 0 0, .slice none 0 0, .bool false, .slice none 0 0, .slice none 0 0] s)) w') :
    Res6 w' w.heap.size ∧ Res6 w' (w.heap.size + 1) := ⟨(res6_two w t s).1.grew g, (res6_two w t s).2.grew g⟩
theorem res6_new2D {w w' : World} {t s : TypeId} (g : Grew ((w.alloc (.cells #[.bool false, .slice none 0 0, .slice none 0 0, .bool false, .slice none 0 0, .slice none 0 0] t)).alloc (.cells #[.bool false, .slice none 0 0, .slice none 0 0, .bool false, .slice none 0 0, .slice none 0 0] s)).drew w') :
    Res6 w' w.heap.size ∧ Res6 w' (w.heap.size + 1) := ⟨((res6_two w t s).1.grew ((Grew.refl _).drew)).grew g, ((res6_two w t s).2.grew ((Grew.refl _).drew)).grew g⟩
end Go.Proofs.Ytpglnfccmhkocaa
namespace Go.Proofs.Ytpglnfccmhkocaa
open Go.RowKit

def inB (x : Int) : Bool := decide (-8388607 ≤ x ∧ x ≤ 8388607)
/-- Within the grid. -/
def fitB (x y : Int) : Bool := inB x && inB y
theorem fitB_iff (x y : Int) : fitB x y = true ↔ -8388607 ≤ x ∧ x ≤ 8388607 ∧ -8388607 ≤ y ∧ y ≤ 8388607 := by
  unfold fitB inB; simp only [Bool.and_eq_true, decide_eq_true_eq]; omega

set_option maxRecDepth 100000 in
set_option maxHeartbeats 2000000 in
theorem within8_any (x : Int) (w : World) : Calls Try.prog 112 #[.int .i64 x, .int .i64 8388607] w fun e w' => e = .returned (.bool (inB x)) ∧ Grew w w' := by
  by_cases h1 : -8388607 ≤ x
  · by_cases h2 : x ≤ 8388607
    · have e := Lib.hid (show inB x = true from decide_eq_true ⟨h1, h2⟩)
      go_enter Try.func112, Try.ntmps112
      go_wp2_with fail
      go_ret
      exact ⟨by rw [e.out]; rfl, Grew.refl w⟩
    · have e := Lib.hid (show inB x = false from decide_eq_false (fun h => h2 h.2))
      go_enter Try.func112, Try.ntmps112
      go_wp2_with fail
      go_ret
      exact ⟨by rw [e.out]; rfl, Grew.refl w⟩
  · have e := Lib.hid (show inB x = false from decide_eq_false (fun h => h1 h.1))
    go_enter Try.func112, Try.ntmps112
    go_wp2_with fail
    go_ret
    exact ⟨by rw [e.out]; rfl, Grew.refl w⟩

set_option maxRecDepth 100000 in
set_option maxHeartbeats 2000000 in
theorem fits_any (x y : Int) (w : World) : Calls Try.prog 80 #[.agg #[.int .i64 x, .int .i64 y]] w fun e w' => e = .returned (.bool (fitB x y)) ∧ Grew w w' := by
  have e0 : fitB x y = (inB x && inB y) := rfl
  obtain ⟨a, ha⟩ : ∃ a, inB x = a := ⟨_, rfl⟩
  obtain ⟨b, hb⟩ : ∃ b, inB y = b := ⟨_, rfl⟩
  rw [ha, hb] at e0
  replace ha := Lib.hid ha
  replace hb := Lib.hid hb
  replace e0 := Lib.hid e0
  go_enter Try.func80, Try.ntmps80
  go_wp2_with fail
  refine gen_calls ?_
  intro W0 hW0
  have G0 : Grew w W0 := by rw [hW0]; exact (Grew.refl w).alloc _
  have P : Box2 W0 (w.heap.size) 0 (.int .i64 x) (.int .i64 y) := by rw [hW0]; exact ⟨by simp [go_sem], by simp [go_sem]⟩
  replace P := Lib.hid P
  have z0 : w.heap.size < W0.heap.size := by rw [hW0]; simp <;> omega
  replace z0 := Lib.hid z0
  clear hW0
  replace G0 := Lib.hid G0
  refine (within8_any x _).mono ?_
  rintro e w1 ⟨rfl, g1⟩
  replace P := Lib.hid (P.out.grew g1)
  replace z0 := Lib.hid (lt_grew z0.out g1)
  replace G0 := Lib.hid (G0.out.trans g1)
  clear g1
  rw [ha.out]

  cases a
  ·
    go_wp2_with fail
    go_ret
    exact ⟨by rw [e0.out]; rfl, G0.out⟩
  ·

    obtain ⟨P0, P1⟩ := P.out
    go_wp2_with fail
    clear P0 P1
    refine (within8_any y _).mono ?_
    rintro e w2 ⟨rfl, g2⟩
    replace P := Lib.hid (P.out.grew g2)
    replace z0 := Lib.hid (lt_grew z0.out g2)
    replace G0 := Lib.hid (G0.out.trans g2)
    clear g2
    rw [hb.out]
    go_wp2_with fail
    go_ret
    exact ⟨by rw [e0.out]; rfl, G0.out⟩

/-- A way of the grid as a value. -/
abbrev segV (ax ay bx b_y : Int) : Value := .agg #[.int .i64 ax, .int .i64 ay, .int .i64 bx, .int .i64 b_y]
abbrev ptV (x y : Int) : Value := .agg #[.int .i64 x, .int .i64 y]

set_option maxRecDepth 100000 in
set_option maxHeartbeats 2000000 in
theorem cmay_any (ax ay bx b_y : Int) (w : World) : Calls Try.prog 44 #[segV ax ay bx b_y] w fun e w' => e = .returned (.bool (fitB ax ay && fitB bx b_y)) ∧ Grew w w' := by
  obtain ⟨a, ha⟩ : ∃ a, fitB ax ay = a := ⟨_, rfl⟩
  obtain ⟨b, hb⟩ : ∃ b, fitB bx b_y = b := ⟨_, rfl⟩
  rw [ha, hb]
  replace ha := Lib.hid ha
  replace hb := Lib.hid hb
  go_enter Try.func44, Try.ntmps44
  go_wp2_with fail
  refine gen_calls ?_
  intro W0 hW0
  have G0 : Grew w W0 := by rw [hW0]; exact (Grew.refl w).alloc _
  have P : Box2 W0 (w.heap.size) 0 (.int .i64 ax) (.int .i64 ay) := by rw [hW0]; exact ⟨by simp [go_sem], by simp [go_sem]⟩
  replace P := Lib.hid P
  have Q : Box2 W0 (w.heap.size) 2 (.int .i64 bx) (.int .i64 b_y) := by rw [hW0]; exact ⟨by simp [go_sem], by simp [go_sem]⟩
  replace Q := Lib.hid Q
  have z0 : w.heap.size < W0.heap.size := by rw [hW0]; simp <;> omega
  replace z0 := Lib.hid z0
  clear hW0
  replace G0 := Lib.hid G0
  refine (fits_any ax ay _).mono ?_
  rintro e w1 ⟨rfl, g1⟩
  replace P := Lib.hid (P.out.grew g1)
  replace Q := Lib.hid (Q.out.grew g1)
  replace z0 := Lib.hid (lt_grew z0.out g1)
  replace G0 := Lib.hid (G0.out.trans g1)
  clear g1
  rw [ha.out]

  cases a
  ·
    go_wp2_with fail
    go_ret
    exact ⟨rfl, G0.out⟩
  ·

    obtain ⟨P0, P1⟩ := P.out
    obtain ⟨Q0, Q1⟩ := Q.out
    go_wp2_with fail
    clear P0 P1 Q0 Q1
    refine (fits_any bx b_y _).mono ?_
    rintro e w2 ⟨rfl, g2⟩
    replace P := Lib.hid (P.out.grew g2)
    replace Q := Lib.hid (Q.out.grew g2)
    replace z0 := Lib.hid (lt_grew z0.out g2)
    replace G0 := Lib.hid (G0.out.trans g2)
    clear g2
    rw [hb.out]
    go_wp2_with fail
    go_ret
    exact ⟨by cases b <;> rfl, G0.out⟩

set_option maxRecDepth 100000 in
set_option maxHeartbeats 2000000 in
theorem from_any (ax ay bx b_y : Int) (w : World) (h1 : -9223372036854775808 ≤ bx - ax ∧ bx - ax ≤ 9223372036854775807) (h2 : -9223372036854775808 ≤ b_y - ay ∧ b_y - ay ≤ 9223372036854775807) :
    Calls Try.prog 81 #[ptV ax ay, ptV bx b_y] w fun e w' => e = .returned (ptV (bx - ax) (b_y - ay)) ∧ Grew w w' := by
  obtain ⟨h1, h1'⟩ := h1
  obtain ⟨h2, h2'⟩ := h2
  go_enter Try.func81, Try.ntmps81
  go_wp2_with fail
  exact bodyPost_ret (v := .agg #[.int .i64 (bx - ax), .int .i64 (b_y - ay)]) (by simp [results, Try.results81, go_sem]) rfl ⟨rfl, by first | exact (((Grew.refl w).alloc _).alloc _).alloc _ | exact (((((Grew.refl w).alloc _).alloc _).alloc _).setCell (by simp <;> omega) _).setCell (by simp <;> omega) _⟩

set_option maxRecDepth 100000 in
set_option maxHeartbeats 2000000 in
theorem times_any (ux uy vx vy : Int) (w : World) (h1 : -9223372036854775808 ≤ ux * vy ∧ ux * vy ≤ 9223372036854775807) (h2 : -9223372036854775808 ≤ uy * vx ∧ uy * vx ≤ 9223372036854775807)
    (h3 : -9223372036854775808 ≤ ux * vy - uy * vx ∧ ux * vy - uy * vx ≤ 9223372036854775807) :
    Calls Try.prog 82 #[ptV ux uy, ptV vx vy] w fun e w' => e = .returned (.int .i64 (ux * vy - uy * vx)) ∧ Grew w w' := by
  obtain ⟨h1, h1'⟩ := h1
  obtain ⟨h2, h2'⟩ := h2
  obtain ⟨h3, h3'⟩ := h3
  go_enter Try.func82, Try.ntmps82
  go_wp2_with fail
  go_ret
  exact ⟨rfl, ((Grew.refl w).alloc _).alloc _⟩

/-- Is n by d from 0 to 1? -/
def shareB (n d : Int) : Bool := if d < 0 then decide (0 ≤ -n) && decide (-n ≤ -d) else decide (0 ≤ n) && decide (n ≤ d)
set_option maxRecDepth 100000 in
set_option maxHeartbeats 2000000 in
theorem share_any (n d : Int) (w : World) (hn : -9223372036854775807 ≤ n ∧ n ≤ 9223372036854775807) (hd : -9223372036854775807 ≤ d ∧ d ≤ 9223372036854775807) :
    Calls Try.prog 83 #[.int .i64 n, .int .i64 d] w fun e w' => e = .returned (.bool (shareB n d)) ∧ Grew w w' := by
  obtain ⟨n0, n1⟩ := hn
  obtain ⟨d0, d1⟩ := hd
  by_cases h : d < 0
  · by_cases h1 : 0 ≤ -n
    · by_cases h2 : -n ≤ -d
      · have e := Lib.hid (show shareB n d = true by unfold shareB; rw [if_pos h, decide_eq_true h1, decide_eq_true h2]; rfl)
        go_enter Try.func83, Try.ntmps83
        go_wp2_with fail
        go_ret
        exact ⟨by rw [e.out]; rfl, Grew.refl w⟩
      · have e := Lib.hid (show shareB n d = false by unfold shareB; rw [if_pos h, decide_eq_false h2, Bool.and_false])
        go_enter Try.func83, Try.ntmps83
        go_wp2_with fail
        go_ret
        exact ⟨by rw [e.out]; rfl, Grew.refl w⟩
    · have e := Lib.hid (show shareB n d = false by unfold shareB; rw [if_pos h, decide_eq_false h1]; rfl)
      go_enter Try.func83, Try.ntmps83
      go_wp2_with fail
      go_ret
      exact ⟨by rw [e.out]; rfl, Grew.refl w⟩
  · by_cases h1 : 0 ≤ n
    · by_cases h2 : n ≤ d
      · have e := Lib.hid (show shareB n d = true by unfold shareB; rw [if_neg h, decide_eq_true h1, decide_eq_true h2]; rfl)
        go_enter Try.func83, Try.ntmps83
        go_wp2_with fail
        go_ret
        exact ⟨by rw [e.out]; rfl, Grew.refl w⟩
      · have e := Lib.hid (show shareB n d = false by unfold shareB; rw [if_neg h, decide_eq_false h2, Bool.and_false])
        go_enter Try.func83, Try.ntmps83
        go_wp2_with fail
        go_ret
        exact ⟨by rw [e.out]; rfl, Grew.refl w⟩
    · have e := Lib.hid (show shareB n d = false by unfold shareB; rw [if_neg h, decide_eq_false h1]; rfl)
      go_enter Try.func83, Try.ntmps83
      go_wp2_with fail
      go_ret
      exact ⟨by rw [e.out]; rfl, Grew.refl w⟩
end Go.Proofs.Ytpglnfccmhkocaa
namespace Go.Proofs.Ytpglnfccmhkocaa
open Go.RowKit

/-- A block that holds two ints. -/
def AtV (w : World) (g : Nat) (p : Int × Int) : Prop := Box2 w g 0 (.int .i64 p.1) (.int .i64 p.2) ∧ g < w.heap.size
/-- A new block of two ints that may be stored. -/
def ResV (w : World) (g : Nat) : Prop := w.cell? ⟨g, 0, none⟩ = some (.int .i64 0) ∧ w.cell? ⟨g, 1, none⟩ = some (.int .i64 0) ∧ w.frozen? ⟨g, 0, none⟩ = false ∧ w.frozen? ⟨g, 1, none⟩ = false ∧ g < w.heap.size
theorem ResV.grew {w w' : World} {r : Nat} (h : ResV w r) (g : Grew w w') : ResV w' r := by
  obtain ⟨h0, h1, f0, f1, s⟩ := h
  exact ⟨g.cell h0, g.cell h1, (g.below.frozen (p := ⟨r, 0, none⟩) s).trans f0, (g.below.frozen (p := ⟨r, 1, none⟩) s).trans f1, Nat.lt_of_lt_of_le s g.size⟩
theorem ResV.lt {w : World} {r : Nat} (h : ResV w r) : r < w.heap.size := h.2.2.2.2
theorem AtV.of_alloc {X : World} {x y : Int} {g : Nat} {t : TypeId} (hg : X.heap.size = g) : AtV (X.alloc (.cells #[.int .i64 x, .int .i64 y] t)) g (x, y) := by
  subst hg
  exact ⟨⟨by simp [go_sem], by simp [go_sem]⟩, by simp⟩
theorem setV_cells {X : World} {g : Nat} {u0 u1 : Value} (r : ResV X g) :
    ((X.setCell ⟨g, 0, none⟩ u0).setCell ⟨g, 1, none⟩ u1).cell? ⟨g, 0, none⟩ = some u0 ∧ ((X.setCell ⟨g, 0, none⟩ u0).setCell ⟨g, 1, none⟩ u1).cell? ⟨g, 1, none⟩ = some u1 ∧
    (∀ b p, b ≠ g → ((X.setCell ⟨g, 0, none⟩ u0).setCell ⟨g, 1, none⟩ u1).cell? ⟨b, p, none⟩ = X.cell? ⟨b, p, none⟩) ∧ ((X.setCell ⟨g, 0, none⟩ u0).setCell ⟨g, 1, none⟩ u1).heap.size = X.heap.size := by
  obtain ⟨r0, r1, -, -, rs⟩ := r
  have e1 : (X.setCell ⟨g, 0, none⟩ u0).cell? ⟨g, 1, none⟩ = some (.int .i64 0) := by rw [World.cell?_setCell_other _ _ _ _ (by simp)]; exact r1
  refine ⟨?_, cell_set e1 u1, fun b p hb => ?_, by simp [World.setCell]⟩
  · rw [World.cell?_setCell_other _ _ _ _ (by simp)]; exact cell_set r0 u0
  · rw [World.cell?_setCell_other _ _ _ _ (by simp <;> omega), World.cell?_setCell_other _ _ _ _ (by simp <;> omega)]
theorem AtV.of_store {X : World} {x y : Int} {g : Nat} (r : ResV X g) : AtV ((X.setCell ⟨g, 0, none⟩ (.int .i64 x)).setCell ⟨g, 1, none⟩ (.int .i64 y)) g (x, y) := by
  obtain ⟨q0, q1, -, qs⟩ := setV_cells (u0 := .int .i64 x) (u1 := .int .i64 y) r
  exact ⟨⟨q0, q1⟩, by rw [qs]; exact r.lt⟩
theorem AtV.store_far {w : World} {g h : Nat} {p : Int × Int} {u0 u1 : Value} (a : AtV w g p) (r : ResV w h) (hne : g ≠ h) : AtV ((w.setCell ⟨h, 0, none⟩ u0).setCell ⟨h, 1, none⟩ u1) g p := by
  obtain ⟨-, -, qf, qs⟩ := setV_cells (u0 := u0) (u1 := u1) r
  obtain ⟨⟨h0, h1⟩, hl⟩ := a
  exact ⟨⟨(qf _ _ hne).trans h0, (qf _ _ hne).trans h1⟩, by rw [qs]; exact hl⟩
theorem AtV.grew {w w' : World} {g : Nat} {p : Int × Int} (a : AtV w g p) (k : Grew w w') : AtV w' g p := ⟨a.1.grew k, Nat.lt_of_lt_of_le a.2 k.size⟩
theorem ResV.store_far {w : World} {g h : Nat} {u0 u1 : Value} (a : ResV w g) (r : ResV w h) (hne : g ≠ h) : ResV ((w.setCell ⟨h, 0, none⟩ u0).setCell ⟨h, 1, none⟩ u1) g := by
  obtain ⟨-, -, qf, qs⟩ := setV_cells (u0 := u0) (u1 := u1) r
  obtain ⟨a0, a1, f0, f1, s⟩ := a
  exact ⟨(qf _ _ hne).trans a0, (qf _ _ hne).trans a1, by simp [f0], by simp [f1], by rw [qs]; exact s⟩
theorem resV_at (w : World) (t : TypeId) : ResV (w.alloc (.cells #[.int .i64 0, .int .i64 0] t)) w.heap.size := ⟨by simp [go_sem], by simp [go_sem], by simp [go_sem], by simp [go_sem], by simp⟩
theorem resV_new {w w' : World} {t : TypeId} (g : Grew (w.alloc (.cells #[.int .i64 0, .int .i64 0] t)) w') : ResV w' w.heap.size := (resV_at w t).grew g
theorem resV_newD {w w' : World} {t : TypeId} (g : Grew (w.alloc (.cells #[.int .i64 0, .int .i64 0] t)).drew w') : ResV w' w.heap.size := ((resV_at w t).grew ((Grew.refl _).drew)).grew g
theorem resV_two (w : World) (t s : TypeId) : ResV ((w.alloc (.cells #[.int .i64 0, .int .i64 0] t)).alloc (.cells #[.int .i64 0, .int .i64 0] s)) w.heap.size ∧ ResV ((w.alloc (.cells #[.int .i64 0, .int .i64 0] t)).alloc (.cells #[.int .i64 0, .int .i64 0] s)) (w.heap.size + 1) := by
  refine ⟨(resV_at w t).grew ((Grew.refl _).alloc _), ?_⟩
  have h := resV_at (w.alloc (.cells #[.int .i64 0, .int .i64 0] t)) s
  rwa [show (w.alloc (.cells #[.int .i64 0, .int .i64 0] t)).heap.size = w.heap.size + 1 by simp] at h
theorem resV_new2 {w w' : World} {t s : TypeId} (g : Grew ((w.alloc (.cells #[.int .i64 0, .int .i64 0] t)).alloc (.cells #[.int .i64 0, .int .i64 0] s)) w') : ResV w' w.heap.size ∧ ResV w' (w.heap.size + 1) :=
  ⟨(resV_two w t s).1.grew g, (resV_two w t s).2.grew g⟩
theorem resV_new2D {w w' : World} {t s : TypeId} (g : Grew ((w.alloc (.cells #[.int .i64 0, .int .i64 0] t)).alloc (.cells #[.int .i64 0, .int .i64 0] s)).drew w') : ResV w' w.heap.size ∧ ResV w' (w.heap.size + 1) :=
  ⟨((resV_two w t s).1.grew ((Grew.refl _).drew)).grew g, ((resV_two w t s).2.grew ((Grew.refl _).drew)).grew g⟩
end Go.Proofs.Ytpglnfccmhkocaa
