/- r04.Div. Condition: what comes in reads; the second is not 0. Plain: the point that two ways have which are not along one another. Conditions: none. Plain: what the document answers where two ways meet; the same as the program's where they are not along one another. Conditions: none. Plain: the document's row is in order, each once, and holds what came in. Conditions: none. -/
import Derived.Test.YtpglnfccmhkocaaGreatJCross8
namespace Go.Proofs.YtpglnfccmhkocaaGreat
open Go.RowKit

set_option maxRecDepth 100000 in
set_option maxHeartbeats 4000000 in
theorem r4div_any (Va Vb : Value) (p q : Rat) (k l : Nat) (w : World) (ha : FracR w Va p k) (hb : FracR w Vb q l) (hk : 1 ≤ k ∧ 1 ≤ l) (hq0 : q ≠ 0) (hs : k < 268435456 ∧ l < 268435456) :
    Calls Tryz.prog 63 #[Va, Vb] w fun e w' => ∃ V, e = .returned (.tuple #[V, .int .i64 0]) ∧ FracC w' V (p / q) ∧ Grew w w' := by
  obtain ⟨b1, A1, n1, c1, C1, m1, d1, rfl, Fa⟩ := ha.laid
  obtain ⟨b2, A2, n2, c2, C2, m2, d2, rfl, Fb⟩ := hb.laid
  clear ha hb
  go_enter Tryz.func63, Tryz.ntmps63
  go_upto_region 1 with fail
  go_cut [6] (fun s6 wx => ∃ V1 b3 A3 n3 c3 C3 m3 d3 b4 A4 n4 c4 C4 m4 d4, s6 = V1 ∧ FracP wx (.agg #[.bool b3, .slice A3 n3 c3, .slice C3 m3 d3]) p k ∧ FracP wx (.agg #[.bool b4, .slice A4 n4 c4, .slice C4 m4 d4]) q l ∧ Grew w wx ∧ Box3 wx w.heap.size 0 (.bool b3) (.slice A3 n3 c3) (.slice C3 m3 d3) ∧ Box3 wx (w.heap.size + 1) 0 (.bool b4) (.slice A4 n4 c4) (.slice C4 m4 d4) ∧ Res3 wx (w.heap.size + 1 + 1) 0 (.bool false) (.slice none 0 0) (.slice none 0 0))
  refine gen_wp ?_
  intro W0 hW0
  have G0 : Grew w W0 := by rw [hW0]; exact (((Grew.refl w).alloc _).alloc _).alloc _
  have P : Box3 W0 (w.heap.size) 0 (.bool b1) (.slice A1 n1 c1) (.slice C1 m1 d1) := by rw [hW0]; exact ⟨by simp [go_sem], by simp [go_sem], by simp [go_sem]⟩
  replace P := Lib.hid P
  have Pr : Res3 W0 (w.heap.size) 0 (.bool b1) (.slice A1 n1 c1) (.slice C1 m1 d1) := by rw [hW0]; exact ⟨by simp [go_sem], by simp [go_sem], by simp [go_sem], by simp [go_sem], by simp [go_sem], by simp [go_sem], by simp <;> omega⟩
  replace Pr := Lib.hid Pr
  have Q : Box3 W0 (w.heap.size + 1) 0 (.bool b2) (.slice A2 n2 c2) (.slice C2 m2 d2) := by rw [hW0]; exact ⟨by simp [go_sem], by simp [go_sem], by simp [go_sem]⟩
  replace Q := Lib.hid Q
  have Qr : Res3 W0 (w.heap.size + 1) 0 (.bool b2) (.slice A2 n2 c2) (.slice C2 m2 d2) := by rw [hW0]; exact ⟨by simp [go_sem], by simp [go_sem], by simp [go_sem], by simp [go_sem], by simp [go_sem], by simp [go_sem], by simp <;> omega⟩
  replace Qr := Lib.hid Qr
  have R : Res3 W0 (w.heap.size + 1 + 1) 0 (.bool false) (.slice none 0 0) (.slice none 0 0) := by rw [hW0]; exact ⟨by simp [go_sem], by simp [go_sem], by simp [go_sem], by simp [go_sem], by simp [go_sem], by simp [go_sem], by simp⟩
  replace R := Lib.hid R
  have z0 : w.heap.size < W0.heap.size := by rw [hW0]; simp <;> omega
  replace z0 := Lib.hid z0
  have z1 : w.heap.size + 1 < W0.heap.size := by rw [hW0]; simp <;> omega
  replace z1 := Lib.hid z1
  have z2 : w.heap.size + 1 + 1 < W0.heap.size := by rw [hW0]; simp <;> omega
  replace z2 := Lib.hid z2
  clear hW0
  replace Fa := Lib.hid (Fa.out.kept G0.keeps)
  replace Fb := Lib.hid (Fb.out.kept G0.keeps)
  replace G0 := Lib.hid G0
  · skip
    have hk1 := Lib.hid hk
    have hs1 := Lib.hid (show k < 274877906944 ∧ l < 274877906944 by omega)
    have gd : Grew W0 W0.drew := (Grew.refl W0).drew
    replace R := Lib.hid (R.out.grew gd)
    replace Pr := Lib.hid (Pr.out.grew gd)
    replace Qr := Lib.hid (Qr.out.grew gd)
    replace P := Lib.hid (P.out.grew gd)
    replace Q := Lib.hid (Q.out.grew gd)
    replace z0 := Lib.hid (lt_grew z0.out gd)
    replace z1 := Lib.hid (lt_grew z1.out gd)
    replace z2 := Lib.hid (lt_grew z2.out gd)
    replace Fa := Lib.hid (Fa.out.kept gd.keeps)
    replace Fb := Lib.hid (Fb.out.kept gd.keeps)
    obtain ⟨P0, P1, P2⟩ := P.out
    obtain ⟨Q0, Q1, Q2⟩ := Q.out
    go_region_law (first | ((try go_simp); go_at_call 77; with_reducible refine (rworth_any _ p k _ Fa.out hk1.out.1 hs1.out.1).mono ?_; rintro e w1 ⟨V1, he1, hV1, g1⟩; obtain ⟨b3, A3, n3, c3, C3, m3, d3, hE1, X1⟩ := hV1.laid; rw [he1, hE1]; clear hV1 he1 hE1; replace R := Lib.hid (R.out.grew g1); replace Pr := Lib.hid (Pr.out.grew g1); replace Qr := Lib.hid (Qr.out.grew g1); replace P := Lib.hid (P.out.grew g1); replace Q := Lib.hid (Q.out.grew g1); replace z0 := Lib.hid (lt_grew z0.out g1); replace z1 := Lib.hid (lt_grew z1.out g1); replace z2 := Lib.hid (lt_grew z2.out g1); replace Fa := Lib.hid (Fa.out.kept g1.keeps); replace Fb := Lib.hid (Fb.out.kept g1.keeps); have P0 := P.out.p0; have P1 := P.out.p1; have P2 := P.out.p2; have Q0 := Q.out.p0; have Q1 := Q.out.p1; have Q2 := Q.out.p2) | (go_loud ((try go_simp); go_at_call 77; with_reducible refine (rworth_any _ q l _ Fb.out hk1.out.2 hs1.out.2).mono ?_; rintro e w2 ⟨V2, he2, hV2, g2⟩; obtain ⟨b4, A4, n4, c4, C4, m4, d4, hE2, X2⟩ := hV2.laid; rw [he2, hE2]; clear hV2 he2 hE2; replace R := Lib.hid (R.out.grew g2); replace Pr := Lib.hid (Pr.out.grew g2); replace Qr := Lib.hid (Qr.out.grew g2); replace P := Lib.hid (P.out.grew g2); replace Q := Lib.hid (Q.out.grew g2); replace z0 := Lib.hid (lt_grew z0.out g2); replace z1 := Lib.hid (lt_grew z1.out g2); replace z2 := Lib.hid (lt_grew z2.out g2); replace Fa := Lib.hid (Fa.out.kept g2.keeps); replace Fb := Lib.hid (Fb.out.kept g2.keeps); replace X1 := Lib.hid (X1.out.kept g2.keeps); have P0 := P.out.p0; have P1 := P.out.p1; have P2 := P.out.p2; have Q0 := Q.out.p0; have Q1 := Q.out.p1; have Q2 := Q.out.p2; have Prf0 := Pr.out.f0; have Prf1 := Pr.out.f1; have Prf2 := Pr.out.f2; have Qrf0 := Qr.out.f0; have Qrf1 := Qr.out.f1; have Qrf2 := Qr.out.f2)))
    all_goals
      have GC := Lib.hid (((G0.out.trans gd).trans g1).trans g2)
      clear G0 gd g1 g2
      refine gen_then ?_
      intro W9 hW9
      obtain ⟨BP, BQ, K9, F9, GG, sz⟩ := store33 Pr.out Qr.out (by omega) hW9
      have hR9 : Res3 W9 (w.heap.size + 1 + 1) 0 (.bool false) (.slice none 0 0) (.slice none 0 0) := by
        obtain ⟨r0, r1, r2, f0, f1, f2, s⟩ := R.out
        exact ⟨(F9 _ _ (by omega) (by omega)).trans r0, (F9 _ _ (by omega) (by omega)).trans r1, (F9 _ _ (by omega) (by omega)).trans r2, by rw [hW9]; simpa using f0, by rw [hW9]; simpa using f1, by rw [hW9]; simpa using f2, by rw [sz]; exact s⟩
      have G9 := GG w (by omega) (by omega) GC.out
      clear hW9 F9 GG sz
      go_wp2_with fail
      go_meet
      exact ⟨_, b3, A3, n3, c3, C3, m3, d3, b4, A4, n4, c4, C4, m4, d4, rfl, X1.out.kept K9, X2.out.kept K9, G9, BP, BQ, hR9⟩
  · obtain ⟨V1, b3, A3, n3, c3, C3, m3, d3, b4, A4, n4, c4, C4, m4, d4, rfl, X1, X2, G9, BP, BQ, hR9⟩ := hcut
    obtain ⟨N, D, E1, hD, Na, Da, hm⟩ := X1.parts
    obtain ⟨M, E, E2, hE, Nb, Eb, hm2⟩ := X2.parts
    have P := Lib.hid BP
    have Q := Lib.hid BQ
    have R := Lib.hid hR9
    have G0 := Lib.hid G9
    have lD := Nat.le_trans (Da.out.len_le (by omega)) hm
    have lE := Nat.le_trans (Eb.out.len_le (by omega)) hm2
    have hz1 := Lib.hid (show len 4294967296 (sgn b3 N * (E : Int)).natAbs ≤ k + l by
      rw [Int.natAbs_mul]; exact len_mul (B := 4294967296) (by omega) _ _ k l Na.out.len lE)
    have hz2 := Lib.hid (show len 4294967296 (sgn b4 M * (D : Int)).natAbs ≤ k + l by
      rw [Int.natAbs_mul, Nat.add_comm k l]; exact len_mul (B := 4294967296) (by omega) _ _ l k Nb.out.len lD)
    have hM0 : sgn b4 M ≠ 0 := fun e => hq0 (by rw [← E2.out, e, Rat.zero_mkRat])
    have hy0 : sgn b4 M * (D : Int) ≠ 0 := Int.mul_ne_zero hM0 (by omega)
    have E3 : ((sgn b3 N * (E : Int) : Int) : Rat) / ((sgn b4 M * (D : Int) : Int) : Rat) = p / q := by
      have e1 := mkRat_times (sgn b3 N) D hD
      have e2 := mkRat_times (sgn b4 M) E hE
      rw [E1.out] at e1
      rw [E2.out] at e2
      have d0 : ((D : Int) : Rat) ≠ 0 := fun e => hD (by have e9 : ((D : Int) : Rat) = ((0 : Int) : Rat) := e; have := Rat.intCast_inj.1 e9; omega)
      have d1 : ((E : Int) : Rat) ≠ 0 := fun e => hE (by have e9 : ((E : Int) : Rat) = ((0 : Int) : Rat) := e; have := Rat.intCast_inj.1 e9; omega)
      rw [Rat.intCast_mul, Rat.intCast_mul, ← e1, ← e2]
      generalize ((D : Int) : Rat) = x at *
      generalize ((E : Int) : Rat) = y at *
      clear e1 e2
      grind
    replace E3 := Lib.hid E3
    have hs8 := Lib.hid (show k + l < 1073741824 by omega)
    have hs2 := Lib.hid (show k < 34359738368 ∧ l < 34359738368 by omega)
    have hs5 := Lib.hid (show l < 34359738368 ∧ k < 34359738368 by omega)
    have hs6 := Lib.hid (show k + l < 68719476736 ∧ k + l < 68719476736 by omega)
    have hs3 := Lib.hid (show m3 < 137438953472 ∧ m4 < 137438953472 by omega)
    have hs4 := Lib.hid (show k + l + 1 < 4294967296 by omega)
    clear lD lE
    have y9 := Lib.hid (show w.heap.size + 1 + 1 < wc.heap.size from hR9.2.2.2.2.2.2)
    clear X1 X2 BP BQ hR9 G9
    skip
    go_upto_region 2 with fail
    have gd : Grew wc wc.drew := (Grew.refl wc).drew
    replace R := Lib.hid (R.out.grew gd)
    replace P := Lib.hid (P.out.grew gd)
    replace Q := Lib.hid (Q.out.grew gd)
    replace Na := Lib.hid (Na.out.kept gd.keeps)
    replace Nb := Lib.hid (Nb.out.kept gd.keeps)
    replace Da := Lib.hid (Da.out.kept gd.keeps)
    replace Eb := Lib.hid (Eb.out.kept gd.keeps)
    replace gd := Lib.hid gd
    have ZP := P
    have ZQ := Q
    go_region_held3 (fun w' => w'.cell? ⟨w.heap.size, 0, none⟩ = some (.bool b3) ∧ w'.cell? ⟨w.heap.size, 1, none⟩ = some (.slice A3 n3 c3) ∧ w'.cell? ⟨w.heap.size, 2, none⟩ = some (.slice C3 m3 d3) ∧ w'.cell? ⟨w.heap.size + 1, 0, none⟩ = some (.bool b4) ∧ w'.cell? ⟨w.heap.size + 1, 1, none⟩ = some (.slice A4 n4 c4) ∧ w'.cell? ⟨w.heap.size + 1, 2, none⟩ = some (.slice C4 m4 d4))
      (first | (with_reducible exact ⟨ZP.out.p0, ZP.out.p1, ZP.out.p2, ZQ.out.p0, ZQ.out.p1, ZQ.out.p2⟩) | (with_reducible exact ⟨g3.cell ZP.out.p0, g3.cell ZP.out.p1, g3.cell ZP.out.p2, g3.cell ZQ.out.p0, g3.cell ZQ.out.p1, g3.cell ZQ.out.p2⟩) | (with_reducible exact ⟨(g3.trans g4).cell ZP.out.p0, (g3.trans g4).cell ZP.out.p1, (g3.trans g4).cell ZP.out.p2, (g3.trans g4).cell ZQ.out.p0, (g3.trans g4).cell ZQ.out.p1, (g3.trans g4).cell ZQ.out.p2⟩) | (with_reducible exact ⟨((g3.trans g4).trans g5).cell ZP.out.p0, ((g3.trans g4).trans g5).cell ZP.out.p1, ((g3.trans g4).trans g5).cell ZP.out.p2, ((g3.trans g4).trans g5).cell ZQ.out.p0, ((g3.trans g4).trans g5).cell ZQ.out.p1, ((g3.trans g4).trans g5).cell ZQ.out.p2⟩) | (with_reducible exact ⟨(((g3.trans g4).trans g5).trans g6).cell ZP.out.p0, (((g3.trans g4).trans g5).trans g6).cell ZP.out.p1, (((g3.trans g4).trans g5).trans g6).cell ZP.out.p2, (((g3.trans g4).trans g5).trans g6).cell ZQ.out.p0, (((g3.trans g4).trans g5).trans g6).cell ZQ.out.p1, (((g3.trans g4).trans g5).trans g6).cell ZQ.out.p2⟩) | (with_reducible exact ⟨((((g3.trans g4).trans g5).trans g6).trans g7).cell ZP.out.p0, ((((g3.trans g4).trans g5).trans g6).trans g7).cell ZP.out.p1, ((((g3.trans g4).trans g5).trans g6).trans g7).cell ZP.out.p2, ((((g3.trans g4).trans g5).trans g6).trans g7).cell ZQ.out.p0, ((((g3.trans g4).trans g5).trans g6).trans g7).cell ZQ.out.p1, ((((g3.trans g4).trans g5).trans g6).trans g7).cell ZQ.out.p2⟩) | (with_reducible exact ⟨other3 (o := 0) (by omega) (((((g3.trans g4).trans g5).trans g6).trans g7).cell ZP.out.p0), other3 (o := 0) (by omega) (((((g3.trans g4).trans g5).trans g6).trans g7).cell ZP.out.p1), other3 (o := 0) (by omega) (((((g3.trans g4).trans g5).trans g6).trans g7).cell ZP.out.p2), other3 (o := 0) (by omega) (((((g3.trans g4).trans g5).trans g6).trans g7).cell ZQ.out.p0), other3 (o := 0) (by omega) (((((g3.trans g4).trans g5).trans g6).trans g7).cell ZQ.out.p1), other3 (o := 0) (by omega) (((((g3.trans g4).trans g5).trans g6).trans g7).cell ZQ.out.p2)⟩))
      (first | (have chk := g6; clear chk; go_at_call 108; refine (r4makez_any _ _ (sgn b3 N * (E : Int)) (sgn b4 M * (D : Int)) (k + l) _ X3.out X4.out hy0 hz1.out hz2.out hs8.out).mono ?_; rintro e w7 ⟨V5, rfl, hV5, g7⟩; rw [E3.out] at hV5; obtain ⟨b7, A7, n7, c7, C7, m7, d7, rfl, X5⟩ := hV5.laid; clear hV5; replace R := Lib.hid (R.out.grew g7); replace P := Lib.hid (P.out.grew g7); replace Q := Lib.hid (Q.out.grew g7); replace Na := Lib.hid (Na.out.kept g7.keeps); replace Nb := Lib.hid (Nb.out.kept g7.keeps); replace Da := Lib.hid (Da.out.kept g7.keeps); replace Eb := Lib.hid (Eb.out.kept g7.keeps); replace X3 := Lib.hid (X3.out.kept g7.keeps); replace X4 := Lib.hid (X4.out.kept g7.keeps); obtain ⟨R0, R1, R2, Rf0, Rf1, Rf2, Rs⟩ := R.out) | (have chk := g5; clear chk; go_at_call 93; refine (r2mul_any _ _ _ _ l k _ Nb.out (WhlR.up Da.out hm) hs5.out).mono ?_; rintro e w6 ⟨V4, rfl, hV4, g6⟩; obtain ⟨b8, A8, n8, c8, rfl, X4, -⟩ := hV4.laid; clear hV4; replace R := Lib.hid (R.out.grew g6); replace P := Lib.hid (P.out.grew g6); replace Q := Lib.hid (Q.out.grew g6); replace Na := Lib.hid (Na.out.kept g6.keeps); replace Nb := Lib.hid (Nb.out.kept g6.keeps); replace Da := Lib.hid (Da.out.kept g6.keeps); replace Eb := Lib.hid (Eb.out.kept g6.keeps); replace X3 := Lib.hid (X3.out.kept g6.keeps)) | (have chk := g4; clear chk; go_at_call 94; refine (rup_any b3 A3 C3 n3 c3 m3 d3 D _ Da.out).mono ?_; rintro e w5 ⟨rfl, g5⟩; replace R := Lib.hid (R.out.grew g5); replace P := Lib.hid (P.out.grew g5); replace Q := Lib.hid (Q.out.grew g5); replace Na := Lib.hid (Na.out.kept g5.keeps); replace Nb := Lib.hid (Nb.out.kept g5.keeps); replace Da := Lib.hid (Da.out.kept g5.keeps); replace Eb := Lib.hid (Eb.out.kept g5.keeps); replace X3 := Lib.hid (X3.out.kept g5.keeps)) | (have chk := g3; clear chk; go_at_call 93; refine (r2mul_any _ _ _ _ k l _ Na.out (WhlR.up Eb.out hm2) hs2.out).mono ?_; rintro e w4 ⟨V3, rfl, hV3, g4⟩; obtain ⟨b5, A5, n5, c5, rfl, X3, -⟩ := hV3.laid; clear hV3; replace R := Lib.hid (R.out.grew g4); replace P := Lib.hid (P.out.grew g4); replace Q := Lib.hid (Q.out.grew g4); replace Na := Lib.hid (Na.out.kept g4.keeps); replace Nb := Lib.hid (Nb.out.kept g4.keeps); replace Da := Lib.hid (Da.out.kept g4.keeps); replace Eb := Lib.hid (Eb.out.kept g4.keeps)) | (go_at_call 94; refine (rup_any b4 A4 C4 n4 c4 m4 d4 E _ Eb.out).mono ?_; rintro e w3 ⟨rfl, g3⟩; replace R := Lib.hid (R.out.grew g3); replace P := Lib.hid (P.out.grew g3); replace Q := Lib.hid (Q.out.grew g3); replace Na := Lib.hid (Na.out.kept g3.keeps); replace Nb := Lib.hid (Nb.out.kept g3.keeps); replace Da := Lib.hid (Da.out.kept g3.keeps); replace Eb := Lib.hid (Eb.out.kept g3.keeps)))
    replace G0 := Lib.hid ((((((G0.out.trans gd.out).trans g3).trans g4).trans g5).trans g6).trans g7)
    clear gd g3 g4 g5 g6 g7 ZP ZQ
    refine gen_then ?_
    intro W9 hW9
    obtain ⟨q0, q1, q2, qK, -, -, qs, qG⟩ := store3 (o := 0) R0 R1 R2 hW9
    have GE := qG w (.inr (by omega)) G0.out
    have QK := Lib.hid qK
    clear qK qG hW9 R0 R1 R2
    go_wp2_with fail
    exact bodyPost_ret (v := .tuple #[.agg #[.bool b7, .slice A7 n7 c7, .slice C7 m7 d7], .int .i64 0]) (by simp [results, Tryz.results63, go_sem, q0, q1, q2]) rfl ⟨_, rfl, X5.out.kept QK.out, GE⟩
end Go.Proofs.YtpglnfccmhkocaaGreat
namespace Go.Proofs.YtpglnfccmhkocaaGreat
open Go.RowKit

theorem scale_nonneg {f c : Rat} (h : 0 < c) : 0 ≤ f * c ↔ 0 ≤ f := by
  constructor
  · intro g
    refine Rat.not_lt.1 fun e => ?_
    have := Rat.mul_pos (show 0 < -f by grind) h
    grind
  · intro g
    exact Rat.mul_nonneg g (Rat.le_of_lt h)
theorem withinQ_iff {a b c : Rat} : withinQ a b c = true ↔ (a ≤ c ∧ c ≤ b) ∨ (b ≤ c ∧ c ≤ a) := by
  unfold withinQ midQ
  by_cases h : b < a
  · rw [if_pos h]
    simp only [Bool.and_eq_true, Bool.not_eq_true', decide_eq_false_iff_not]
    grind
  · rw [if_neg h]
    simp only [Bool.and_eq_true, Bool.not_eq_true', decide_eq_false_iff_not]
    grind
theorem within_param (a b f : Rat) : withinQ a b (a + f * (b - a)) = true ↔ a = b ∨ (0 ≤ f ∧ f ≤ 1) := by
  rw [withinQ_iff]
  by_cases h : a = b
  · subst h
    constructor
    · intro _; exact .inl rfl
    · intro _
      have : a + f * (a - a) = a := by grind
      rw [this]; exact .inl ⟨Rat.le_refl, Rat.le_refl⟩
  · rcases (show a < b ∨ b < a by grind) with g | g
    · have p : 0 < b - a := by grind
      have e1 := scale_nonneg (f := f) p
      have e2 := scale_nonneg (f := 1 - f) p
      have e3 : (1 - f) * (b - a) = (b - a) - f * (b - a) := by grind
      rw [e3] at e2
      generalize f * (b - a) = t at *
      grind
    · have p : 0 < a - b := by grind
      have e1 := scale_nonneg (f := f) p
      have e2 := scale_nonneg (f := 1 - f) p
      have e3 : (1 - f) * (a - b) = (a - b) + f * (b - a) := by grind
      have e4 : f * (a - b) = -(f * (b - a)) := by grind
      rw [e3] at e2
      rw [e4] at e1
      generalize f * (b - a) = t at *
      grind
theorem turn_param (ax ay bx b_y f : Rat) : turnQ ax ay bx b_y (ax + f * (bx - ax)) (ay + f * (b_y - ay)) = 0 := by
  rw [turnQ_eq, ← sgQ_zero]; congr 1; grind
/-- A point of a line is on the way just if its share is from 0 to 1. -/
theorem on_param (ax ay bx b_y f : Rat) (hv : ax ≠ bx ∨ ay ≠ b_y) : onQ ax ay bx b_y (ax + f * (bx - ax)) (ay + f * (b_y - ay)) = decide (0 ≤ f ∧ f ≤ 1) := by
  have h1 := within_param ax bx f
  have h2 := within_param ay b_y f
  unfold onQ
  rw [turn_param]
  by_cases h : 0 ≤ f ∧ f ≤ 1
  · rw [h1.2 (.inr h), h2.2 (.inr h), decide_eq_true h]; rfl
  · rw [decide_eq_false h]
    rcases hv with hv | hv
    · have : withinQ ax bx (ax + f * (bx - ax)) = false := Bool.eq_false_iff.2 fun e => by
        rcases h1.1 e with g | g
        · exact hv g
        · exact h g
      rw [this]; rfl
    · have : withinQ ay b_y (ay + f * (b_y - ay)) = false := Bool.eq_false_iff.2 fun e => by
        rcases h2.1 e with g | g
        · exact hv g
        · exact h g
      rw [this]; cases withinQ ax bx (ax + f * (bx - ax)) <;> rfl

theorem quot_mul {n d : Int} (hd : d ≠ 0) : ((n : Rat) / (d : Rat)) * (d : Rat) = (n : Rat) := by
  have h1 : (d : Rat) ≠ 0 := fun e => hd (by have e2 : (d : Rat) = ((0 : Int) : Rat) := e; exact Rat.intCast_inj.1 e2)
  grind
theorem share_q (n d : Int) (hd : d ≠ 0) : shareB n d = decide (0 ≤ (n : Rat) / (d : Rat) ∧ (n : Rat) / (d : Rat) ≤ 1) := by
  have h := quot_mul (n := n) hd
  generalize (n : Rat) / (d : Rat) = f at *
  unfold shareB
  by_cases g : d < 0
  · rw [if_pos g]
    have p : (0 : Rat) < -(d : Rat) := by
      have : (((0 : Int)) : Rat) < ((-d : Int) : Rat) := Rat.intCast_lt_intCast.2 (by omega)
      rw [Rat.intCast_neg] at this; exact this
    have e1 := scale_nonneg (f := f) p
    have e2 := scale_nonneg (f := 1 - f) p
    have e3 : f * -(d : Rat) = ((-n : Int) : Rat) := by rw [Rat.intCast_neg]; grind
    have e4 : (1 - f) * -(d : Rat) = ((n - d : Int) : Rat) := by rw [Rat.intCast_sub]; grind
    rw [e3] at e1
    rw [e4] at e2
    have z : ((0 : Int) : Rat) = 0 := rfl
    rw [← z, Rat.intCast_le_intCast] at e1 e2
    rw [z] at e1 e2
    rw [← Bool.decide_and]
    refine decide_eq_decide.2 ⟨fun k => ⟨e1.1 k.1, ?_⟩, fun k => ⟨e1.2 k.1, ?_⟩⟩
    · have := e2.1 (by omega); grind
    · have := e2.2 (by grind); omega
  · rw [if_neg g]
    have p : (0 : Rat) < (d : Rat) := by
      have : (((0 : Int)) : Rat) < ((d : Int) : Rat) := Rat.intCast_lt_intCast.2 (by omega)
      exact this
    have e1 := scale_nonneg (f := f) p
    have e2 := scale_nonneg (f := 1 - f) p
    have e4 : (1 - f) * (d : Rat) = ((d - n : Int) : Rat) := by rw [Rat.intCast_sub]; grind
    rw [h] at e1
    rw [e4] at e2
    have z : ((0 : Int) : Rat) = 0 := rfl
    rw [← z, Rat.intCast_le_intCast] at e1 e2
    rw [z] at e1 e2
    rw [← Bool.decide_and]
    refine decide_eq_decide.2 ⟨fun k => ⟨e1.1 k.1, ?_⟩, fun k => ⟨e1.2 k.1, ?_⟩⟩
    · have := e2.1 (by omega); grind
    · have := e2.2 (by grind); omega
end Go.Proofs.YtpglnfccmhkocaaGreat
namespace Go.Proofs.YtpglnfccmhkocaaGreat
open Go.RowKit

/-- Boxes that have no point in common. -/
def apartB (ax ay bx b_y cx cy dx dy : Int) : Bool :=
  decide (max ax bx < min cx dx) || decide (max cx dx < min ax bx) || decide (max ay b_y < min cy dy) || decide (max cy dy < min ay b_y)
/-- The first and the last of more than two. -/
def ends2 (l : List (Rat × Rat)) : List (Rat × Rat) := if 2 < l.length then [l.getD 0 (0, 0), l.getD (l.length - 1) (0, 0)] else l
/-- The ends that lie on the other way. -/
def endsQ (ax ay bx b_y cx cy dx dy : Rat) : List (Rat × Rat) :=
  (if onQ cx cy dx dy ax ay = true then [(ax, ay)] else []) ++ (if onQ cx cy dx dy bx b_y = true then [(bx, b_y)] else []) ++
    (if onQ ax ay bx b_y cx cy = true then [(cx, cy)] else []) ++ (if onQ ax ay bx b_y dx dy = true then [(dx, dy)] else [])
/-- The point where the lines meet, if it is on both ways. -/
def lineQ (ax ay bx b_y cx cy dx dy f : Rat) : List (Rat × Rat) :=
  if onQ ax ay bx b_y (ax + f * (bx - ax)) (ay + f * (b_y - ay)) = true ∧ onQ cx cy dx dy (ax + f * (bx - ax)) (ay + f * (b_y - ay)) = true then [(ax + f * (bx - ax), ay + f * (b_y - ay))] else []
/-- Where two ways meet, as the document says it. -/
def rmeetQ (ax ay bx b_y cx cy dx dy : Int) : List (Rat × Rat) :=
  if (fitB ax ay && fitB bx b_y) = true ∧ (fitB cx cy && fitB dx dy) = true then
    (if apartB ax ay bx b_y cx cy dx dy = true then []
     else if cmpQ (areaQ (cx : Rat) (cy : Rat) (dx : Rat) (dy : Rat) (ax : Rat) (ay : Rat)) (areaQ (cx : Rat) (cy : Rat) (dx : Rat) (dy : Rat) (bx : Rat) (b_y : Rat)) ≠ 0 then
      lineQ (ax : Rat) (ay : Rat) (bx : Rat) (b_y : Rat) (cx : Rat) (cy : Rat) (dx : Rat) (dy : Rat)
        (areaQ (cx : Rat) (cy : Rat) (dx : Rat) (dy : Rat) (ax : Rat) (ay : Rat) / (areaQ (cx : Rat) (cy : Rat) (dx : Rat) (dy : Rat) (ax : Rat) (ay : Rat) - areaQ (cx : Rat) (cy : Rat) (dx : Rat) (dy : Rat) (bx : Rat) (b_y : Rat)))
     else ends2 (rowQ (endsQ (ax : Rat) (ay : Rat) (bx : Rat) (b_y : Rat) (cx : Rat) (cy : Rat) (dx : Rat) (dy : Rat))))
  else []

theorem cramer {ax ay bx b_y cx cy dx dy f g D : Rat} (hD : D = (bx - ax) * (dy - cy) - (b_y - ay) * (dx - cx)) (h0 : D ≠ 0) (hf : f * D = (cx - ax) * (dy - cy) - (cy - ay) * (dx - cx)) (hg : g * D = (cx - ax) * (b_y - ay) - (cy - ay) * (bx - ax)) :
    ax + f * (bx - ax) = cx + g * (dx - cx) ∧ ay + f * (b_y - ay) = cy + g * (dy - cy) := by
  have e1 : (ax + f * (bx - ax) - (cx + g * (dx - cx))) * D = 0 := by grind
  have e2 : (ay + f * (b_y - ay) - (cy + g * (dy - cy))) * D = 0 := by grind
  have c : ∀ x : Rat, x * D = 0 → x = 0 := fun x h => by
    rcases Rat.mul_eq_zero.1 h with h | h
    · exact h
    · exact absurd h h0
  have r1 := c _ e1
  have r2 := c _ e2
  constructor <;> grind

theorem cmpQ_zero {a b : Rat} : cmpQ a b = 0 ↔ a = b := by
  unfold cmpQ
  constructor
  · intro h
    split at h
    · omega
    · split at h
      · omega
      · grind
  · intro h
    subst h
    rw [if_neg (by grind), if_neg (by grind)]

theorem not_apart {ax ay bx b_y cx cy dx dy : Int} {X Y : Rat} (h1 : onQ (ax : Rat) (ay : Rat) (bx : Rat) (b_y : Rat) X Y = true) (h2 : onQ (cx : Rat) (cy : Rat) (dx : Rat) (dy : Rat) X Y = true) : apartB ax ay bx b_y cx cy dx dy = false := by
  unfold onQ at h1 h2
  simp only [Bool.and_eq_true] at h1 h2
  have a1 := withinQ_iff.1 h1.1.1
  have a2 := withinQ_iff.1 h1.1.2
  have a3 := withinQ_iff.1 h2.1.1
  have a4 := withinQ_iff.1 h2.1.2
  have key : ∀ (p q r s : Int) (Z : Rat), (((p : Rat) ≤ Z ∧ Z ≤ (q : Rat)) ∨ ((q : Rat) ≤ Z ∧ Z ≤ (p : Rat))) → (((r : Rat) ≤ Z ∧ Z ≤ (s : Rat)) ∨ ((s : Rat) ≤ Z ∧ Z ≤ (r : Rat))) → ¬ max p q < min r s := by
    intro p q r s Z u v h
    have l1 : p < r ∧ p < s ∧ q < r ∧ q < s := by omega
    have m1 := Rat.intCast_lt_intCast.2 l1.1
    have m2 := Rat.intCast_lt_intCast.2 l1.2.1
    have m3 := Rat.intCast_lt_intCast.2 l1.2.2.1
    have m4 := Rat.intCast_lt_intCast.2 l1.2.2.2
    grind
  unfold apartB
  rw [decide_eq_false (key _ _ _ _ X a1 a3), decide_eq_false (key _ _ _ _ X a3 a1), decide_eq_false (key _ _ _ _ Y a2 a4), decide_eq_false (key _ _ _ _ Y a4 a2)]
  rfl

theorem meet_cross (ax ay bx b_y cx cy dx dy : Int) (hs : (fitB ax ay && fitB bx b_y) = true ∧ (fitB cx cy && fitB dx dy) = true) (hD : crossZ (bx - ax) (b_y - ay) (dx - cx) (dy - cy) ≠ 0) :
    meetQ ax ay bx b_y cx cy dx dy = rmeetQ ax ay bx b_y cx cy dx dy := by
  obtain ⟨D, eD⟩ : ∃ D, crossZ (bx - ax) (b_y - ay) (dx - cx) (dy - cy) = D := ⟨_, rfl⟩
  obtain ⟨n, en⟩ : ∃ n, crossZ (cx - ax) (cy - ay) (dx - cx) (dy - cy) = n := ⟨_, rfl⟩
  obtain ⟨m, em⟩ : ∃ m, crossZ (cx - ax) (cy - ay) (bx - ax) (b_y - ay) = m := ⟨_, rfl⟩
  rw [eD] at hD
  have hL : lieZ ax ay bx b_y cx cy dx dy = if shareB n D = true ∧ shareB m D = true then (1, n, D) else (0, 0, 0) := by
    unfold lieZ
    simp only [eD, en, em]
    rw [if_neg hD]
  have rD : (D : Rat) = ((bx : Rat) - ax) * ((dy : Rat) - cy) - ((b_y : Rat) - ay) * ((dx : Rat) - cx) := by
    rw [← eD]; unfold crossZ; simp only [Rat.intCast_sub, Rat.intCast_mul]
  have rn : (n : Rat) = ((cx : Rat) - ax) * ((dy : Rat) - cy) - ((cy : Rat) - ay) * ((dx : Rat) - cx) := by
    rw [← en]; unfold crossZ; simp only [Rat.intCast_sub, Rat.intCast_mul]
  have rm : (m : Rat) = ((cx : Rat) - ax) * ((b_y : Rat) - ay) - ((cy : Rat) - ay) * ((bx : Rat) - ax) := by
    rw [← em]; unfold crossZ; simp only [Rat.intCast_sub, Rat.intCast_mul]
  have D0 : (D : Rat) ≠ 0 := fun e => hD (by have e2 : (D : Rat) = ((0 : Int) : Rat) := e; exact Rat.intCast_inj.1 e2)
  have p1 : areaQ (cx : Rat) (cy : Rat) (dx : Rat) (dy : Rat) (ax : Rat) (ay : Rat) = (n : Rat) := by rw [areaQ_eq, rn]; grind
  have p2 : areaQ (cx : Rat) (cy : Rat) (dx : Rat) (dy : Rat) (ax : Rat) (ay : Rat) - areaQ (cx : Rat) (cy : Rat) (dx : Rat) (dy : Rat) (bx : Rat) (b_y : Rat) = (D : Rat) := by rw [areaQ_eq, areaQ_eq, rD]; grind
  have p3 : cmpQ (areaQ (cx : Rat) (cy : Rat) (dx : Rat) (dy : Rat) (ax : Rat) (ay : Rat)) (areaQ (cx : Rat) (cy : Rat) (dx : Rat) (dy : Rat) (bx : Rat) (b_y : Rat)) ≠ 0 := fun e => D0 (by rw [← p2, cmpQ_zero.1 e]; grind)
  have f1 := quot_mul (n := n) hD
  have g1 := quot_mul (n := m) hD
  obtain ⟨c1, c2⟩ := cramer rD D0 (f1.trans rn) (g1.trans rm)
  have v0 : (ax : Rat) ≠ bx ∨ (ay : Rat) ≠ b_y := by
    refine Decidable.byContradiction fun h => D0 ?_
    rw [rD]; grind
  have w0 : (cx : Rat) ≠ dx ∨ (cy : Rat) ≠ dy := by
    refine Decidable.byContradiction fun h => D0 ?_
    rw [rD]; grind
  have o1 := on_param (ax : Rat) ay bx b_y ((n : Rat) / (D : Rat)) v0
  have o2 := on_param (cx : Rat) cy dx dy ((m : Rat) / (D : Rat)) w0
  rw [← share_q n D hD] at o1
  rw [← share_q m D hD, ← c1, ← c2] at o2
  have x1 : (ax : Rat) + (((bx - ax) * n : Int) : Rat) / (D : Rat) = (ax : Rat) + (n : Rat) / (D : Rat) * ((bx : Rat) - ax) := by rw [Rat.intCast_mul, Rat.intCast_sub]; grind
  have x2 : (ay : Rat) + (((b_y - ay) * n : Int) : Rat) / (D : Rat) = (ay : Rat) + (n : Rat) / (D : Rat) * ((b_y : Rat) - ay) := by rw [Rat.intCast_mul, Rat.intCast_sub]; grind
  unfold meetQ rmeetQ
  have p2' := p2
  rw [p1] at p2'
  rw [if_pos hs, if_pos hs, hL, if_pos p3, p1, p2']
  unfold lineQ
  rw [o1, o2]
  by_cases hsh : shareB n D = true ∧ shareB m D = true
  · have na := not_apart (o1.trans hsh.1) (o2.trans hsh.2)
    have e2 : ¬ apartB ax ay bx b_y cx cy dx dy = true := by rw [na]; simp
    simp only [if_pos hsh, if_neg e2]
    rw [x1, x2, if_pos trivial]
  · rw [if_neg hsh, if_neg hsh]
    simp
end Go.Proofs.YtpglnfccmhkocaaGreat
namespace Go.Proofs.YtpglnfccmhkocaaGreat
open Go.RowKit

/-- One more spot in a row, in its place, once. -/
def insRec (p : Rat × Rat) : List (Rat × Rat) → List (Rat × Rat)
  | [] => [p]
  | o :: os => if spotCmp p.1 p.2 o.1 o.2 < 0 then p :: o :: os else if spotCmp p.1 p.2 o.1 o.2 = 0 then o :: os else o :: insRec p os
theorem fold_in (p : Rat × Rat) : ∀ (os a : List (Rat × Rat)), os.foldl (insStep p) (a, true) = (a ++ os, true)
  | [], a => by simp
  | o :: os, a => by rw [List.foldl_cons, insStep_in, fold_in p os]; simp
theorem fold_out (p : Rat × Rat) : ∀ (os a : List (Rat × Rat)), ∃ u b, os.foldl (insStep p) (a, false) = (u, b) ∧ (if b = true then u else u ++ [p]) = a ++ insRec p os
  | [], a => ⟨a, false, rfl, by simp [insRec]⟩
  | o :: os, a => by
    have e : (o :: os).foldl (insStep p) (a, false) = os.foldl (insStep p) (insStep p (a, false) o) := rfl
    rw [e]
    rcases Int.lt_trichotomy (spotCmp p.1 p.2 o.1 o.2) 0 with h | h | h
    · rw [insStep_lt a h, fold_in]
      exact ⟨_, _, rfl, by simp [insRec, h]⟩
    · rw [insStep_eq a false h, fold_in]
      exact ⟨_, _, rfl, by simp [insRec, h]⟩
    · rw [insStep_gt a false h]
      obtain ⟨u, b, h3, h4⟩ := fold_out p os (a ++ [o])
      have h1 : ¬ spotCmp p.1 p.2 o.1 o.2 < 0 := by omega
      have h2 : ¬ spotCmp p.1 p.2 o.1 o.2 = 0 := by omega
      exact ⟨u, b, h3, by rw [h4]; simp [insRec, h1, h2]⟩
theorem insAll_rec (p : Rat × Rat) (os : List (Rat × Rat)) : insAll p os = insRec p os := by
  obtain ⟨u, b, h3, h4⟩ := fold_out p os []
  rw [insAll_fold p os u b h3, h4]; rfl

theorem spotCmp_zero {p q : Rat × Rat} : spotCmp p.1 p.2 q.1 q.2 = 0 ↔ p = q := by
  unfold spotCmp
  constructor
  · intro h
    split at h
    · next e => exact Prod.ext (cmpQ_zero.1 e) (cmpQ_zero.1 h)
    · next e => exact absurd h e
  · rintro rfl
    rw [if_pos (cmpQ_zero.2 rfl)]; exact cmpQ_zero.2 rfl
/-- Ahead of: by the first part, then by the second. -/
def spotLt (p q : Rat × Rat) : Prop := p.1 < q.1 ∨ (p.1 = q.1 ∧ p.2 < q.2)
theorem cmpQ_neg {a b : Rat} : cmpQ a b < 0 ↔ a < b := by
  unfold cmpQ
  constructor
  · intro h
    split at h
    · assumption
    · split at h <;> omega
  · intro h; rw [if_pos h]; omega
theorem spotCmp_neg {p q : Rat × Rat} : spotCmp p.1 p.2 q.1 q.2 < 0 ↔ spotLt p q := by
  unfold spotCmp spotLt
  by_cases h : p.1 = q.1
  · rw [if_pos (cmpQ_zero.2 h), cmpQ_neg]
    constructor
    · intro g; exact .inr ⟨h, g⟩
    · intro g; rcases g with g | g
      · exact absurd h (by grind)
      · exact g.2
  · rw [if_neg (fun e => h (cmpQ_zero.1 e)), cmpQ_neg]
    constructor
    · intro g; exact .inl g
    · intro g; rcases g with g | g
      · exact g
      · exact absurd g.1 h
theorem spotLt_trans {p q r : Rat × Rat} (h : spotLt p q) (k : spotLt q r) : spotLt p r := by
  unfold spotLt at *; grind
theorem spotLt_tri (p q : Rat × Rat) : spotLt p q ∨ p = q ∨ spotLt q p := by
  unfold spotLt
  by_cases h : p.1 = q.1
  · by_cases k : p.2 = q.2
    · exact .inr (.inl (Prod.ext h k))
    · grind
  · grind
theorem insRec_mem {p q : Rat × Rat} : ∀ {os : List (Rat × Rat)}, q ∈ insRec p os ↔ q = p ∨ q ∈ os
  | [] => by simp [insRec]
  | o :: os => by
    unfold insRec
    by_cases h : spotCmp p.1 p.2 o.1 o.2 < 0
    · rw [if_pos h]; simp
    · rw [if_neg h]
      by_cases k : spotCmp p.1 p.2 o.1 o.2 = 0
      · rw [if_pos k]
        have := spotCmp_zero.1 k
        subst this
        simp
      · rw [if_neg k, List.mem_cons, insRec_mem]
        simp only [List.mem_cons]
        constructor
        · rintro (h | h | h) <;> simp [h]
        · rintro (h | h | h) <;> simp [h]
theorem insRec_sorted {p : Rat × Rat} : ∀ {os : List (Rat × Rat)}, os.Pairwise spotLt → (insRec p os).Pairwise spotLt
  | [], _ => by simp [insRec]
  | o :: os, hs => by
    obtain ⟨h1, h2⟩ := List.pairwise_cons.1 hs
    unfold insRec
    by_cases h : spotCmp p.1 p.2 o.1 o.2 < 0
    · rw [if_pos h]
      have hl := spotCmp_neg.1 h
      refine List.pairwise_cons.2 ⟨fun q hq => ?_, hs⟩
      rcases List.mem_cons.1 hq with rfl | hq
      · exact hl
      · exact spotLt_trans hl (h1 q hq)
    · rw [if_neg h]
      by_cases k : spotCmp p.1 p.2 o.1 o.2 = 0
      · rw [if_pos k]; exact hs
      · rw [if_neg k]
        refine List.pairwise_cons.2 ⟨fun q hq => ?_, insRec_sorted h2⟩
        rcases insRec_mem.1 hq with rfl | hq
        · rcases spotLt_tri o q with g | g | g
          · exact g
          · exact absurd (spotCmp_zero.2 g.symm) k
          · exact absurd (spotCmp_neg.2 g) h
        · exact h1 q hq
theorem rowQ_fold (l : List (Rat × Rat)) : ∀ (s : List (Rat × Rat)), s.Pairwise spotLt → (l.foldl (fun out p => insAll p out) s).Pairwise spotLt ∧ ∀ q, q ∈ l.foldl (fun out p => insAll p out) s ↔ q ∈ l ∨ q ∈ s := by
  induction l with
  | nil => intro s hs; exact ⟨hs, fun q => by simp⟩
  | cons p l ih =>
    intro s hs
    have h1 := ih (insAll p s) (by rw [insAll_rec]; exact insRec_sorted hs)
    refine ⟨h1.1, fun q => ?_⟩
    rw [List.foldl_cons, h1.2 q, insAll_rec, insRec_mem, List.mem_cons]
    constructor
    · rintro (h | h | h) <;> simp [h]
    · rintro ((h | h) | h) <;> simp [h]
theorem rowQ_sorted (l : List (Rat × Rat)) : (rowQ l).Pairwise spotLt := (rowQ_fold l [] List.Pairwise.nil).1
theorem mem_rowQ {l : List (Rat × Rat)} {q : Rat × Rat} : q ∈ rowQ l ↔ q ∈ l := by
  have := (rowQ_fold l [] List.Pairwise.nil).2 q
  simpa [rowQ] using this
end Go.Proofs.YtpglnfccmhkocaaGreat
