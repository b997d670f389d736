/- (ratio).sub, (ratio).frac. Condition: what comes in reads; fewer than 2^39 words. frac.two of add, sub, mul; frac.Add, Sub, Mul; frac.Reduce, Int, Half. Condition: what comes in reads; fewer than 2^39 words. frac.Cmp. Condition: what comes in reads; fewer than 2^39 words. -/
import Derived.Test.YtpglnfccmhkocaaGreatJFrac4
namespace Go.Proofs.YtpglnfccmhkocaaGreat
open Go.RowKit

set_option maxRecDepth 100000 in
set_option maxHeartbeats 4000000 in
theorem rsub_any (Va Vb : Value) (p q : Rat) (k l : Nat) (w : World) (ha : RatQ w Va p k) (hb : RatQ w Vb q l) (hs : k + l < 549755813887) :
    Calls Tryz.prog 73 #[Va, Vb] w fun e w' => ∃ V, e = .returned V ∧ RatQ w' V (p - q) (k + l + 1) ∧ Grew w w' := by
  have Ra := ha
  obtain ⟨z, D, b1, A1, n1, c1, C1, m1, d1, rfl, Ea, hD, Wa, Na, k1, k2, Ma, -⟩ := ha.open
  obtain ⟨y, E, b2, A2, n2, c2, C2, m2, d2, rfl, Eb, hE, Wb, Nb, l1, l2, Mb, -⟩ := hb.open
  replace Ra := Lib.hid Ra
  have hs2 : l < 1099511627776 := by omega
  have hq : mkRat (-y) E = -q := by rw [← Rat.neg_mkRat, Eb.out]
  have hl : len 4294967296 (-y).natAbs ≤ l := by rw [Int.natAbs_neg]; exact l1
  replace hq := Lib.hid hq
  replace hl := Lib.hid hl
  replace hE := Lib.hid hE
  replace l2 := Lib.hid l2
  replace hs := Lib.hid hs
  replace hs2 := Lib.hid hs2
  clear ha hb hD k1 k2 l1 Wa Na Ma Ea
  go_enter Tryz.func73, Tryz.ntmps73
  go_wp2_with fail
  refine gen_wp ?_
  intro W0 hW0
  have G0 : Grew w W0 := by rw [hW0]; exact (((Grew.refl w).alloc _).alloc _).alloc _
  have P : Box3 W0 (w.heap.size) 0 (.bool b1) (.slice A1 n1 c1) (.slice C1 m1 d1) := by rw [hW0]; exact ⟨by simp [go_sem], by simp [go_sem], by simp [go_sem]⟩
  replace P := Lib.hid P
  have Q : Box3 W0 (w.heap.size + 1) 0 (.bool b2) (.slice A2 n2 c2) (.slice C2 m2 d2) := by rw [hW0]; exact ⟨by simp [go_sem], by simp [go_sem], by simp [go_sem]⟩
  replace Q := Lib.hid Q
  have R : Res3 W0 (w.heap.size + 1 + 1) 0 (.bool false) (.slice none 0 0) (.slice none 0 0) := by rw [hW0]; exact ⟨by simp [go_sem], by simp [go_sem], by simp [go_sem], by simp [go_sem], by simp [go_sem], by simp [go_sem], by simp⟩
  replace R := Lib.hid R
  have z0 : w.heap.size < W0.heap.size := by rw [hW0]; simp <;> omega
  replace z0 := Lib.hid z0
  have z1 : w.heap.size + 1 < W0.heap.size := by rw [hW0]; simp <;> omega
  replace z1 := Lib.hid z1
  have z2 : w.heap.size + 1 + 1 < W0.heap.size := by rw [hW0]; simp <;> omega
  replace z2 := Lib.hid z2
  clear hW0
  replace Ra := Lib.hid (Ra.out.kept G0.keeps)
  replace Wb := Lib.hid (Wb.out.kept G0.keeps)
  replace Nb := Lib.hid (Nb.out.kept G0.keeps)
  replace G0 := Lib.hid G0
  have gd : Grew W0 W0.drew := (Grew.refl W0).drew
  replace R := Lib.hid (R.out.grew gd)
  replace P := Lib.hid (P.out.grew gd)
  replace Q := Lib.hid (Q.out.grew gd)
  replace z0 := Lib.hid (lt_grew z0.out gd)
  replace z1 := Lib.hid (lt_grew z1.out gd)
  replace z2 := Lib.hid (lt_grew z2.out gd)
  replace Ra := Lib.hid (Ra.out.kept gd.keeps)
  replace Wb := Lib.hid (Wb.out.kept gd.keeps)
  replace Nb := Lib.hid (Nb.out.kept gd.keeps)
  replace gd := Lib.hid gd
  have ZP := P
  have ZQ := Q
  go_region_held3 (fun w' => w'.cell? ⟨w.heap.size, 0, none⟩ = some (.bool b1) ∧ w'.cell? ⟨w.heap.size, 1, none⟩ = some (.slice A1 n1 c1) ∧ w'.cell? ⟨w.heap.size, 2, none⟩ = some (.slice C1 m1 d1) ∧ w'.cell? ⟨w.heap.size + 1, 0, none⟩ = some (.bool b2) ∧ w'.cell? ⟨w.heap.size + 1, 1, none⟩ = some (.slice A2 n2 c2) ∧ w'.cell? ⟨w.heap.size + 1, 2, none⟩ = some (.slice C2 m2 d2))
    (first | (with_reducible exact ⟨ZP.out.p0, ZP.out.p1, ZP.out.p2, ZQ.out.p0, ZQ.out.p1, ZQ.out.p2⟩) | (with_reducible exact ⟨g1.cell ZP.out.p0, g1.cell ZP.out.p1, g1.cell ZP.out.p2, g1.cell ZQ.out.p0, g1.cell ZQ.out.p1, g1.cell ZQ.out.p2⟩) | (with_reducible exact ⟨(g1.trans g2).cell ZP.out.p0, (g1.trans g2).cell ZP.out.p1, (g1.trans g2).cell ZP.out.p2, (g1.trans g2).cell ZQ.out.p0, (g1.trans g2).cell ZQ.out.p1, (g1.trans g2).cell ZQ.out.p2⟩) | (with_reducible exact ⟨other3 (o := 0) (by omega) ((g1.trans g2).cell ZP.out.p0), other3 (o := 0) (by omega) ((g1.trans g2).cell ZP.out.p1), other3 (o := 0) (by omega) ((g1.trans g2).cell ZP.out.p2), other3 (o := 0) (by omega) ((g1.trans g2).cell ZQ.out.p0), other3 (o := 0) (by omega) ((g1.trans g2).cell ZQ.out.p1), other3 (o := 0) (by omega) ((g1.trans g2).cell ZQ.out.p2)⟩))
    (first | (go_at_call 112; refine (wneg_v _ y l _ Wb.out hs2.out).mono ?_; rintro e w1 ⟨V1, rfl, hV1, g1⟩; obtain ⟨b3, A3, n3, c3, rfl, hV1, -⟩ := hV1.laid; have X1 := Lib.hid (RatQ.mk hV1.out (Nb.out.kept g1.keeps) Mb.out hE.out hq.out hl.out l2.out); clear hV1; replace R := Lib.hid (R.out.grew g1); replace P := Lib.hid (P.out.grew g1); replace Q := Lib.hid (Q.out.grew g1); replace z0 := Lib.hid (lt_grew z0.out g1); replace z1 := Lib.hid (lt_grew z1.out g1); replace z2 := Lib.hid (lt_grew z2.out g1); replace Ra := Lib.hid (Ra.out.kept g1.keeps); replace Wb := Lib.hid (Wb.out.kept g1.keeps); replace Nb := Lib.hid (Nb.out.kept g1.keeps)) | (go_at_call 97; refine (radd_any _ _ p (-q) k l _ Ra.out X1.out hs.out).mono ?_; rintro e w2 ⟨V2, rfl, hV2, g2⟩; obtain ⟨b4, A4, n4, c4, C4, m4, d4, rfl, X2⟩ := hV2.laid; clear hV2; replace R := Lib.hid (R.out.grew g2); replace P := Lib.hid (P.out.grew g2); replace Q := Lib.hid (Q.out.grew g2); replace z0 := Lib.hid (lt_grew z0.out g2); replace z1 := Lib.hid (lt_grew z1.out g2); replace z2 := Lib.hid (lt_grew z2.out g2); replace Ra := Lib.hid (Ra.out.kept g2.keeps); replace Wb := Lib.hid (Wb.out.kept g2.keeps); replace Nb := Lib.hid (Nb.out.kept g2.keeps); replace X1 := Lib.hid (X1.out.kept g2.keeps); obtain ⟨R0, R1, R2, Rf0, Rf1, Rf2, Rs⟩ := R.out))
  replace G0 := Lib.hid (((G0.out.trans gd.out).trans g1).trans g2)
  clear gd g1 g2 ZP ZQ
  refine gen_then ?_
  intro W9 hW9
  obtain ⟨q0, q1, q2, qK, -, -, qs, qG⟩ := store3 (o := 0) R0 R1 R2 hW9
  have GE := qG w (.inr (by omega)) G0.out
  have QK := Lib.hid qK
  clear qK qG hW9 R0 R1 R2
  go_wp2_with fail
  exact bodyPost_ret (v := .agg #[.bool b4, .slice A4 n4 c4, .slice C4 m4 d4]) (by simp [results, Tryz.results73, go_sem, q0, q1, q2]) rfl ⟨_, rfl, by rw [Rat.sub_eq_add_neg]; exact X2.out.kept QK.out, GE⟩

set_option maxRecDepth 100000 in
set_option maxHeartbeats 4000000 in
theorem rfrac_any (Va : Value) (q : Rat) (k : Nat) (w : World) (ha : RatQ w Va q k) (hs : k < 549755813888) :
    Calls Tryz.prog 96 #[Va] w fun e w' => ∃ V, e = .returned V ∧ FracC w' V q ∧ Grew w w' := by
  obtain ⟨z, D, h, rfl, k1, k2⟩ := ha
  obtain ⟨b1, A1, n1, c1, C1, m1, d1, rfl, R1, EE⟩ := h.laid
  obtain ⟨hb, hn, hm, Nz, ND, hD⟩ := EE.out
  have hb2 := Lib.hid hb
  have Wz : Whl w (.agg #[.bool b1, .slice A1 n1 c1]) z := ⟨_, by rw [hb], by rw [← hn]; exact Nz⟩
  replace Wz := Lib.hid Wz
  replace Nz := Lib.hid Nz
  replace ND := Lib.hid ND
  replace hm := Lib.hid hm
  clear EE h hb
  by_cases hz : z = 0
  · as_aux_lemma =>
    subst hz
    rw [show len 4294967296 (0 : Int).natAbs = 0 from rfl] at hn
    subst hn
    clear hD k1 k2 hs
    go_enter Tryz.func96, Tryz.ntmps96
    go_wp2_with fail
    refine gen_calls ?_
    intro W0 hW0
    have G0 : Grew w W0 := by rw [hW0]; exact ((Grew.refl w).alloc _).alloc _
    have P : Box3 W0 (w.heap.size) 0 (.bool b1) (.slice A1 0 c1) (.slice C1 m1 d1) := by rw [hW0]; exact ⟨by simp [go_sem], by simp [go_sem], by simp [go_sem]⟩
    replace P := Lib.hid P
    have R : Res3 W0 (w.heap.size + 1) 0 (.bool false) (.slice none 0 0) (.slice none 0 0) := by rw [hW0]; exact ⟨by simp [go_sem], by simp [go_sem], by simp [go_sem], by simp [go_sem], by simp [go_sem], by simp [go_sem], by simp⟩
    replace R := Lib.hid R
    have z0 : w.heap.size < W0.heap.size := by rw [hW0]; simp <;> omega
    replace z0 := Lib.hid z0
    have z1 : w.heap.size + 1 < W0.heap.size := by rw [hW0]; simp <;> omega
    replace z1 := Lib.hid z1
    clear hW0
    replace Nz := Lib.hid (Nz.out.kept G0.keeps)
    replace G0 := Lib.hid G0
    refine (unit_any _).mono ?_
    rintro e w1 ⟨V1, rfl, hV1, g1⟩
    obtain ⟨A3, c3, rfl, X1⟩ := hV1.slice
    clear hV1
    replace R := Lib.hid (R.out.grew g1)
    replace P := Lib.hid (P.out.grew g1)
    replace z0 := Lib.hid (lt_grew z0.out g1)
    replace z1 := Lib.hid (lt_grew z1.out g1)
    replace Nz := Lib.hid (Nz.out.kept g1.keeps)
    replace G0 := Lib.hid (G0.out.trans g1)
    clear g1
    obtain ⟨R0, R1, R2, Rf0, Rf1, Rf2, Rs⟩ := R.out
    go_wp2_with fail
    refine gen_post ?_
    intro W9 hW9
    obtain ⟨q0, q1, q2, qK, -, -, qs, qG⟩ := store3 (o := 0) R0 R1 R2 hW9
    have GE := qG w (.inr (by omega)) G0.out
    have QK := Lib.hid qK
    clear qK qG hW9 R0 R1 R2
    exact bodyPost_ret (v := .agg #[.bool false, .slice none 0 0, .slice A3 (len 4294967296 1) c3]) (by simp [results, Tryz.results96, go_sem, q0, q1, q2]) rfl ⟨_, rfl, FracC.mk (Whl.of_num (neg := false) (by rw [len_zero]; exact Num.nil _ _ _)) (X1.out.kept QK.out) rfl (by simp [sgn]) (by simp), GE⟩
  · have hn0 : len 4294967296 z.natAbs ≠ 0 := fun e => hz (by have := (len_eq_zero (B := 4294967296) (by omega)).1 e; omega)
    have hnb : ((n1 : Int) == 0) = false := by simp; omega
    have Hn := Lib.hid hn
    clear hn hn0
    have hs1 : len 4294967296 z.natAbs < 549755813888 ∧ len 4294967296 D < 549755813888 := by omega
    replace hs1 := Lib.hid hs1
    go_enter Tryz.func96, Tryz.ntmps96
    go_wp2_with fail
    refine gen_calls ?_
    intro W0 hW0
    have G0 : Grew w W0 := by rw [hW0]; exact ((Grew.refl w).alloc _).alloc _
    have P : Box3 W0 (w.heap.size) 0 (.bool b1) (.slice A1 n1 c1) (.slice C1 m1 d1) := by rw [hW0]; exact ⟨by simp [go_sem], by simp [go_sem], by simp [go_sem]⟩
    replace P := Lib.hid P
    have R : Res3 W0 (w.heap.size + 1) 0 (.bool false) (.slice none 0 0) (.slice none 0 0) := by rw [hW0]; exact ⟨by simp [go_sem], by simp [go_sem], by simp [go_sem], by simp [go_sem], by simp [go_sem], by simp [go_sem], by simp⟩
    replace R := Lib.hid R
    have z0 : w.heap.size < W0.heap.size := by rw [hW0]; simp <;> omega
    replace z0 := Lib.hid z0
    have z1 : w.heap.size + 1 < W0.heap.size := by rw [hW0]; simp <;> omega
    replace z1 := Lib.hid z1
    clear hW0
    replace Nz := Lib.hid (Nz.out.kept G0.keeps)
    replace ND := Lib.hid (ND.out.kept G0.keeps)
    replace Wz := Lib.hid (Wz.out.kept G0.keeps)
    replace G0 := Lib.hid G0
    refine (isUnit_g _ D _ _ ND.out hm.out).mono ?_
    rintro e w1 ⟨rfl, g1⟩
    replace R := Lib.hid (R.out.grew g1)
    replace P := Lib.hid (P.out.grew g1)
    replace z0 := Lib.hid (lt_grew z0.out g1)
    replace z1 := Lib.hid (lt_grew z1.out g1)
    replace Nz := Lib.hid (Nz.out.kept g1.keeps)
    replace ND := Lib.hid (ND.out.kept g1.keeps)
    replace Wz := Lib.hid (Wz.out.kept g1.keeps)
    replace G0 := Lib.hid (G0.out.trans g1)
    clear g1

    by_cases hD1 : D = 1
    · as_aux_lemma =>
      subst hD1
      have e1 : decide (1 = 1) = true := rfl
      rw [e1]
      clear e1 hs k1 k2
      obtain ⟨P0, P1, P2⟩ := P.out
      go_wp2_with fail
      clear P0 P1 P2
      have gd : Grew w1 w1.drew := (Grew.refl w1).drew
      replace R := Lib.hid (R.out.grew gd)
      replace P := Lib.hid (P.out.grew gd)
      replace z0 := Lib.hid (lt_grew z0.out gd)
      replace z1 := Lib.hid (lt_grew z1.out gd)
      replace Nz := Lib.hid (Nz.out.kept gd.keeps)
      replace ND := Lib.hid (ND.out.kept gd.keeps)
      replace Wz := Lib.hid (Wz.out.kept gd.keeps)
      replace gd := Lib.hid gd
      have ZP := P
      go_region_held3 (fun w' => w'.cell? ⟨w.heap.size, 0, none⟩ = some (.bool b1) ∧ w'.cell? ⟨w.heap.size, 1, none⟩ = some (.slice A1 n1 c1) ∧ w'.cell? ⟨w.heap.size, 2, none⟩ = some (.slice C1 m1 d1))
        (first | (with_reducible exact ⟨ZP.out.p0, ZP.out.p1, ZP.out.p2⟩) | (with_reducible exact ⟨g2.cell ZP.out.p0, g2.cell ZP.out.p1, g2.cell ZP.out.p2⟩) | (with_reducible exact ⟨other3 (o := 0) (by omega) (g2.cell ZP.out.p0), other3 (o := 0) (by omega) (g2.cell ZP.out.p1), other3 (o := 0) (by omega) (g2.cell ZP.out.p2)⟩))
        (first | (go_at_call 88; refine (unit_any _).mono ?_; rintro e w2 ⟨V1, rfl, hV1, g2⟩; obtain ⟨A3, c3, rfl, X1⟩ := hV1.slice; clear hV1; replace R := Lib.hid (R.out.grew g2); replace P := Lib.hid (P.out.grew g2); replace z0 := Lib.hid (lt_grew z0.out g2); replace z1 := Lib.hid (lt_grew z1.out g2); replace Nz := Lib.hid (Nz.out.kept g2.keeps); replace ND := Lib.hid (ND.out.kept g2.keeps); replace Wz := Lib.hid (Wz.out.kept g2.keeps); obtain ⟨R0, R1, R2, Rf0, Rf1, Rf2, Rs⟩ := R.out))
      replace G0 := Lib.hid ((G0.out.trans gd.out).trans g2)
      clear gd g2 ZP
      refine gen_then ?_
      intro W9 hW9
      obtain ⟨q0, q1, q2, qK, -, -, qs, qG⟩ := store3 (o := 0) R0 R1 R2 hW9
      have GE := qG w (.inr (by omega)) G0.out
      have QK := Lib.hid qK
      clear qK qG hW9 R0 R1 R2
      go_wp2_with fail
      exact bodyPost_ret (v := .agg #[.bool b1, .slice A1 n1 c1, .slice A3 (len 4294967296 1) c3]) (by simp [results, Tryz.results96, go_sem, q0, q1, q2]) rfl ⟨_, rfl, FracC.mk (Wz.out.kept QK.out) (X1.out.kept QK.out) rfl (by rw [Rat.num_mkRat]; simp) (by rw [Rat.den_mkRat]; simp), GE⟩
    · as_aux_lemma =>

      have e1 : decide (D = 1) = false := by simpa using hD1
      rw [e1]
      have eN := Lib.hid (mkRat_num_sgn z D hD)
      have eD := Lib.hid (mkRat_den_gcd z D hD)
      have hx : len 4294967296 (z.natAbs / Nat.gcd z.natAbs D) < 1099511627776 := Nat.lt_of_le_of_lt (len_mono (by omega) (Nat.div_le_self _ _)) (by omega)
      replace hx := Lib.hid hx
      clear e1 hD1 hD hz hs k1 k2
      obtain ⟨P0, P1, P2⟩ := P.out
      go_wp2_with fail
      clear P0 P1 P2
      refine (reduce_any _ _ z.natAbs D _ _ _ Nz.out ND.out hs1.out.1 hs1.out.2).mono ?_
      rintro e w2 ⟨x, y, rfl, hx1, hy1, g2⟩
      obtain ⟨A3, c3, rfl, X1⟩ := hx1.slice
      obtain ⟨A4, c4, rfl, X2⟩ := hy1.slice
      clear hx1 hy1
      replace R := Lib.hid (R.out.grew g2)
      replace P := Lib.hid (P.out.grew g2)
      replace z0 := Lib.hid (lt_grew z0.out g2)
      replace z1 := Lib.hid (lt_grew z1.out g2)
      replace Nz := Lib.hid (Nz.out.kept g2.keeps)
      replace ND := Lib.hid (ND.out.kept g2.keeps)
      replace Wz := Lib.hid (Wz.out.kept g2.keeps)
      replace G0 := Lib.hid (G0.out.trans g2)
      clear g2
      obtain ⟨P0, P1, P2⟩ := P.out
      go_wp2_with fail
      clear P0 P1 P2
      refine (make_any _ _ (z.natAbs / Nat.gcd z.natAbs D) _ _ X1.out hx.out).mono ?_
      rintro e w3 ⟨V3, rfl, hV3, g3⟩
      obtain ⟨b5, A5, n5, c5, rfl, X3, -⟩ := hV3.laid
      clear hV3
      replace R := Lib.hid (R.out.grew g3)
      replace P := Lib.hid (P.out.grew g3)
      replace z0 := Lib.hid (lt_grew z0.out g3)
      replace z1 := Lib.hid (lt_grew z1.out g3)
      replace Nz := Lib.hid (Nz.out.kept g3.keeps)
      replace ND := Lib.hid (ND.out.kept g3.keeps)
      replace Wz := Lib.hid (Wz.out.kept g3.keeps)
      replace X1 := Lib.hid (X1.out.kept g3.keeps)
      replace X2 := Lib.hid (X2.out.kept g3.keeps)
      replace G0 := Lib.hid (G0.out.trans g3)
      clear g3
      obtain ⟨R0, R1, R2, Rf0, Rf1, Rf2, Rs⟩ := R.out
      go_wp2_with fail
      refine gen_post ?_
      intro W9 hW9
      obtain ⟨q0, q1, q2, qK, -, -, qs, qG⟩ := store3 (o := 0) R0 R1 R2 hW9
      have GE := qG w (.inr (by omega)) G0.out
      have QK := Lib.hid qK
      clear qK qG hW9 R0 R1 R2
      exact bodyPost_ret (v := .agg #[.bool b5, .slice A5 n5 c5, .slice A4 (len 4294967296 (D / Nat.gcd z.natAbs D)) c4]) (by simp [results, Tryz.results96, go_sem, q0, q1, q2]) rfl ⟨_, rfl, FracC.mk (X3.out.kept QK.out) (X2.out.kept QK.out) rfl (by rw [hb2.out]; exact eN.out) eD.out, GE⟩
end Go.Proofs.YtpglnfccmhkocaaGreat
namespace Go.Proofs.YtpglnfccmhkocaaGreat
open Go.RowKit

set_option maxRecDepth 100000 in
set_option maxHeartbeats 4000000 in
theorem two_add (Va Vb : Value) (p q : Rat) (k l : Nat) (w : World) (ha : FracV w Va p k) (hb : FracV w Vb q l) (hk : 1 ≤ k) (hl : 1 ≤ l) (hs : k + l < 549755813887) :
    Calls Tryz.prog 71 #[.func (.func 97) #[] #[], Va, Vb] w fun e w' => ∃ V, e = .returned V ∧ FracC w' V (p + q) ∧ Grew w w' := by
  obtain ⟨b1, A1, n1, c1, C1, m1, d1, rfl, Ra⟩ := ha.laid
  obtain ⟨b2, A2, n2, c2, C2, m2, d2, rfl, Rb⟩ := hb.laid
  have hs2 : k < 549755813888 ∧ l < 549755813888 ∧ (k + l + 1) < 549755813888 := by omega
  replace hs := Lib.hid hs
  replace hs2 := Lib.hid hs2
  clear ha hb
  go_enter Tryz.func71, Tryz.ntmps71
  go_wp2_with fail
  refine gen_wp ?_
  intro W0 hW0
  have G0 : Grew w W0 := by rw [hW0]; exact (((Grew.refl w).alloc _).alloc _).alloc _
  have P : Box3 W0 (w.heap.size) 0 (.bool b1) (.slice A1 n1 c1) (.slice C1 m1 d1) := by rw [hW0]; exact ⟨by simp [go_sem], by simp [go_sem], by simp [go_sem]⟩
  replace P := Lib.hid P
  have Q : Box3 W0 (w.heap.size + 1) 0 (.bool b2) (.slice A2 n2 c2) (.slice C2 m2 d2) := by rw [hW0]; exact ⟨by simp [go_sem], by simp [go_sem], by simp [go_sem]⟩
  replace Q := Lib.hid Q
  have R : Res3 W0 (w.heap.size + 1 + 1) 0 (.bool false) (.slice none 0 0) (.slice none 0 0) := by rw [hW0]; exact ⟨by simp [go_sem], by simp [go_sem], by simp [go_sem], by simp [go_sem], by simp [go_sem], by simp [go_sem], by simp⟩
  replace R := Lib.hid R
  have z0 : w.heap.size < W0.heap.size := by rw [hW0]; simp <;> omega
  replace z0 := Lib.hid z0
  have z1 : w.heap.size + 1 < W0.heap.size := by rw [hW0]; simp <;> omega
  replace z1 := Lib.hid z1
  have z2 : w.heap.size + 1 + 1 < W0.heap.size := by rw [hW0]; simp <;> omega
  replace z2 := Lib.hid z2
  clear hW0
  replace Ra := Lib.hid (Ra.out.kept G0.keeps)
  replace Rb := Lib.hid (Rb.out.kept G0.keeps)
  replace G0 := Lib.hid G0
  have gd : Grew W0 W0.drew := (Grew.refl W0).drew
  replace R := Lib.hid (R.out.grew gd)
  replace P := Lib.hid (P.out.grew gd)
  replace Q := Lib.hid (Q.out.grew gd)
  replace z0 := Lib.hid (lt_grew z0.out gd)
  replace z1 := Lib.hid (lt_grew z1.out gd)
  replace z2 := Lib.hid (lt_grew z2.out gd)
  replace Ra := Lib.hid (Ra.out.kept gd.keeps)
  replace Rb := Lib.hid (Rb.out.kept gd.keeps)
  replace gd := Lib.hid gd
  have ZP := P
  have ZQ := Q
  go_region_held3 (fun w' => w'.cell? ⟨w.heap.size, 0, none⟩ = some (.bool b1) ∧ w'.cell? ⟨w.heap.size, 1, none⟩ = some (.slice A1 n1 c1) ∧ w'.cell? ⟨w.heap.size, 2, none⟩ = some (.slice C1 m1 d1) ∧ w'.cell? ⟨w.heap.size + 1, 0, none⟩ = some (.bool b2) ∧ w'.cell? ⟨w.heap.size + 1, 1, none⟩ = some (.slice A2 n2 c2) ∧ w'.cell? ⟨w.heap.size + 1, 2, none⟩ = some (.slice C2 m2 d2))
    (first | (with_reducible exact ⟨ZP.out.p0, ZP.out.p1, ZP.out.p2, ZQ.out.p0, ZQ.out.p1, ZQ.out.p2⟩) | (with_reducible exact ⟨g1.cell ZP.out.p0, g1.cell ZP.out.p1, g1.cell ZP.out.p2, g1.cell ZQ.out.p0, g1.cell ZQ.out.p1, g1.cell ZQ.out.p2⟩) | (with_reducible exact ⟨(g1.trans g2).cell ZP.out.p0, (g1.trans g2).cell ZP.out.p1, (g1.trans g2).cell ZP.out.p2, (g1.trans g2).cell ZQ.out.p0, (g1.trans g2).cell ZQ.out.p1, (g1.trans g2).cell ZQ.out.p2⟩) | (with_reducible exact ⟨((g1.trans g2).trans g3).cell ZP.out.p0, ((g1.trans g2).trans g3).cell ZP.out.p1, ((g1.trans g2).trans g3).cell ZP.out.p2, ((g1.trans g2).trans g3).cell ZQ.out.p0, ((g1.trans g2).trans g3).cell ZQ.out.p1, ((g1.trans g2).trans g3).cell ZQ.out.p2⟩) | (with_reducible exact ⟨(((g1.trans g2).trans g3).trans g4).cell ZP.out.p0, (((g1.trans g2).trans g3).trans g4).cell ZP.out.p1, (((g1.trans g2).trans g3).trans g4).cell ZP.out.p2, (((g1.trans g2).trans g3).trans g4).cell ZQ.out.p0, (((g1.trans g2).trans g3).trans g4).cell ZQ.out.p1, (((g1.trans g2).trans g3).trans g4).cell ZQ.out.p2⟩) | (with_reducible exact ⟨other3 (o := 0) (by omega) ((((g1.trans g2).trans g3).trans g4).cell ZP.out.p0), other3 (o := 0) (by omega) ((((g1.trans g2).trans g3).trans g4).cell ZP.out.p1), other3 (o := 0) (by omega) ((((g1.trans g2).trans g3).trans g4).cell ZP.out.p2), other3 (o := 0) (by omega) ((((g1.trans g2).trans g3).trans g4).cell ZQ.out.p0), other3 (o := 0) (by omega) ((((g1.trans g2).trans g3).trans g4).cell ZQ.out.p1), other3 (o := 0) (by omega) ((((g1.trans g2).trans g3).trans g4).cell ZQ.out.p2)⟩))
    (first | (go_at_call_of 74 (Value.agg #[.bool b1, .slice A1 n1 c1, .slice C1 m1 d1]); refine (parts_v _ p k _ Ra.out hk hs2.out.1).mono ?_; rintro e w1 ⟨V1, rfl, hV1, g1⟩; obtain ⟨b3, A3, n3, c3, C3, m3, d3, rfl, X1⟩ := hV1.laid; clear hV1; replace R := Lib.hid (R.out.grew g1); replace P := Lib.hid (P.out.grew g1); replace Q := Lib.hid (Q.out.grew g1); replace z0 := Lib.hid (lt_grew z0.out g1); replace z1 := Lib.hid (lt_grew z1.out g1); replace z2 := Lib.hid (lt_grew z2.out g1); replace Ra := Lib.hid (Ra.out.kept g1.keeps); replace Rb := Lib.hid (Rb.out.kept g1.keeps)) | (go_at_call 74; refine (parts_v _ q l _ Rb.out hl hs2.out.2.1).mono ?_; rintro e w2 ⟨V2, rfl, hV2, g2⟩; obtain ⟨b4, A4, n4, c4, C4, m4, d4, rfl, X2⟩ := hV2.laid; clear hV2; replace R := Lib.hid (R.out.grew g2); replace P := Lib.hid (P.out.grew g2); replace Q := Lib.hid (Q.out.grew g2); replace z0 := Lib.hid (lt_grew z0.out g2); replace z1 := Lib.hid (lt_grew z1.out g2); replace z2 := Lib.hid (lt_grew z2.out g2); replace Ra := Lib.hid (Ra.out.kept g2.keeps); replace Rb := Lib.hid (Rb.out.kept g2.keeps); replace X1 := Lib.hid (X1.out.kept g2.keeps)) | (go_at_call 97; refine (radd_any _ _ p q k l _ X1.out X2.out hs.out).mono ?_; rintro e w3 ⟨V3, rfl, hV3, g3⟩; obtain ⟨b5, A5, n5, c5, C5, m5, d5, rfl, X3⟩ := hV3.laid; clear hV3; replace R := Lib.hid (R.out.grew g3); replace P := Lib.hid (P.out.grew g3); replace Q := Lib.hid (Q.out.grew g3); replace z0 := Lib.hid (lt_grew z0.out g3); replace z1 := Lib.hid (lt_grew z1.out g3); replace z2 := Lib.hid (lt_grew z2.out g3); replace Ra := Lib.hid (Ra.out.kept g3.keeps); replace Rb := Lib.hid (Rb.out.kept g3.keeps); replace X1 := Lib.hid (X1.out.kept g3.keeps); replace X2 := Lib.hid (X2.out.kept g3.keeps)) | (go_at_call 96; refine (rfrac_any _ _ _ _ X3.out hs2.out.2.2).mono ?_; rintro e w4 ⟨V4, rfl, hV4, g4⟩; obtain ⟨b6, A6, n6, c6, C6, m6, d6, rfl, X4⟩ := hV4.laid; clear hV4; replace R := Lib.hid (R.out.grew g4); replace P := Lib.hid (P.out.grew g4); replace Q := Lib.hid (Q.out.grew g4); replace z0 := Lib.hid (lt_grew z0.out g4); replace z1 := Lib.hid (lt_grew z1.out g4); replace z2 := Lib.hid (lt_grew z2.out g4); replace Ra := Lib.hid (Ra.out.kept g4.keeps); replace Rb := Lib.hid (Rb.out.kept g4.keeps); replace X1 := Lib.hid (X1.out.kept g4.keeps); replace X2 := Lib.hid (X2.out.kept g4.keeps); replace X3 := Lib.hid (X3.out.kept g4.keeps); obtain ⟨R0, R1, R2, Rf0, Rf1, Rf2, Rs⟩ := R.out))
  replace G0 := Lib.hid (((((G0.out.trans gd.out).trans g1).trans g2).trans g3).trans g4)
  clear gd g1 g2 g3 g4 ZP ZQ
  refine gen_then ?_
  intro W9 hW9
  obtain ⟨q0, q1, q2, qK, -, -, qs, qG⟩ := store3 (o := 0) R0 R1 R2 hW9
  have GE := qG w (.inr (by omega)) G0.out
  have QK := Lib.hid qK
  clear qK qG hW9 R0 R1 R2
  go_wp2_with fail
  exact bodyPost_ret (v := .agg #[.bool b6, .slice A6 n6 c6, .slice C6 m6 d6]) (by simp [results, Tryz.results71, go_sem, q0, q1, q2]) rfl ⟨_, rfl, X4.out.kept QK.out, GE⟩

set_option maxRecDepth 100000 in
set_option maxHeartbeats 4000000 in
theorem fadd_any (Va Vb : Value) (p q : Rat) (k l : Nat) (w : World) (ha : FracV w Va p k) (hb : FracV w Vb q l) (hk : 1 ≤ k) (hl : 1 ≤ l) (hs : k + l < 549755813887) :
    Calls Tryz.prog 54 #[Va, Vb] w fun e w' => ∃ V, e = .returned V ∧ FracC w' V (p + q) ∧ Grew w w' := by
  obtain ⟨b1, A1, n1, c1, C1, m1, d1, rfl, Ra⟩ := ha.laid
  obtain ⟨b2, A2, n2, c2, C2, m2, d2, rfl, Rb⟩ := hb.laid
  replace hs := Lib.hid hs
  clear ha hb
  go_enter Tryz.func54, Tryz.ntmps54
  go_wp2_with fail
  refine gen_calls ?_
  intro W0 hW0
  have G0 : Grew w W0 := by rw [hW0]; exact (((Grew.refl w).alloc _).alloc _).alloc _
  have P : Box3 W0 (w.heap.size) 0 (.bool b1) (.slice A1 n1 c1) (.slice C1 m1 d1) := by rw [hW0]; exact ⟨by simp [go_sem], by simp [go_sem], by simp [go_sem]⟩
  replace P := Lib.hid P
  have Q : Box3 W0 (w.heap.size + 1) 0 (.bool b2) (.slice A2 n2 c2) (.slice C2 m2 d2) := by rw [hW0]; exact ⟨by simp [go_sem], by simp [go_sem], by simp [go_sem]⟩
  replace Q := Lib.hid Q
  have R : Res3 W0 (w.heap.size + 1 + 1) 0 (.bool false) (.slice none 0 0) (.slice none 0 0) := by rw [hW0]; exact ⟨by simp [go_sem], by simp [go_sem], by simp [go_sem], by simp [go_sem], by simp [go_sem], by simp [go_sem], by simp⟩
  replace R := Lib.hid R
  have z0 : w.heap.size < W0.heap.size := by rw [hW0]; simp <;> omega
  replace z0 := Lib.hid z0
  have z1 : w.heap.size + 1 < W0.heap.size := by rw [hW0]; simp <;> omega
  replace z1 := Lib.hid z1
  have z2 : w.heap.size + 1 + 1 < W0.heap.size := by rw [hW0]; simp <;> omega
  replace z2 := Lib.hid z2
  clear hW0
  replace Ra := Lib.hid (Ra.out.kept G0.keeps)
  replace Rb := Lib.hid (Rb.out.kept G0.keeps)
  replace G0 := Lib.hid G0
  refine (two_add _ _ p q k l _ Ra.out Rb.out hk hl hs.out).mono ?_
  rintro e w1 ⟨V1, rfl, hV1, g1⟩
  obtain ⟨b3, A3, n3, c3, C3, m3, d3, rfl, X1⟩ := hV1.laid
  clear hV1
  replace R := Lib.hid (R.out.grew g1)
  replace P := Lib.hid (P.out.grew g1)
  replace Q := Lib.hid (Q.out.grew g1)
  replace z0 := Lib.hid (lt_grew z0.out g1)
  replace z1 := Lib.hid (lt_grew z1.out g1)
  replace z2 := Lib.hid (lt_grew z2.out g1)
  replace Ra := Lib.hid (Ra.out.kept g1.keeps)
  replace Rb := Lib.hid (Rb.out.kept g1.keeps)
  replace G0 := Lib.hid (G0.out.trans g1)
  clear g1
  obtain ⟨R0, R1, R2, Rf0, Rf1, Rf2, Rs⟩ := R.out
  go_wp2_with fail
  refine gen_post ?_
  intro W9 hW9
  obtain ⟨q0, q1, q2, qK, -, -, qs, qG⟩ := store3 (o := 0) R0 R1 R2 hW9
  have GE := qG w (.inr (by omega)) G0.out
  have QK := Lib.hid qK
  clear qK qG hW9 R0 R1 R2
  exact bodyPost_ret (v := .agg #[.bool b3, .slice A3 n3 c3, .slice C3 m3 d3]) (by simp [results, Tryz.results54, go_sem, q0, q1, q2]) rfl ⟨_, rfl, X1.out.kept QK.out, GE⟩

set_option maxRecDepth 100000 in
set_option maxHeartbeats 4000000 in
theorem two_sub (Va Vb : Value) (p q : Rat) (k l : Nat) (w : World) (ha : FracV w Va p k) (hb : FracV w Vb q l) (hk : 1 ≤ k) (hl : 1 ≤ l) (hs : k + l < 549755813887) :
    Calls Tryz.prog 71 #[.func (.func 73) #[] #[], Va, Vb] w fun e w' => ∃ V, e = .returned V ∧ FracC w' V (p - q) ∧ Grew w w' := by
  obtain ⟨b1, A1, n1, c1, C1, m1, d1, rfl, Ra⟩ := ha.laid
  obtain ⟨b2, A2, n2, c2, C2, m2, d2, rfl, Rb⟩ := hb.laid
  have hs2 : k < 549755813888 ∧ l < 549755813888 ∧ (k + l + 1) < 549755813888 := by omega
  replace hs := Lib.hid hs
  replace hs2 := Lib.hid hs2
  clear ha hb
  go_enter Tryz.func71, Tryz.ntmps71
  go_wp2_with fail
  refine gen_wp ?_
  intro W0 hW0
  have G0 : Grew w W0 := by rw [hW0]; exact (((Grew.refl w).alloc _).alloc _).alloc _
  have P : Box3 W0 (w.heap.size) 0 (.bool b1) (.slice A1 n1 c1) (.slice C1 m1 d1) := by rw [hW0]; exact ⟨by simp [go_sem], by simp [go_sem], by simp [go_sem]⟩
  replace P := Lib.hid P
  have Q : Box3 W0 (w.heap.size + 1) 0 (.bool b2) (.slice A2 n2 c2) (.slice C2 m2 d2) := by rw [hW0]; exact ⟨by simp [go_sem], by simp [go_sem], by simp [go_sem]⟩
  replace Q := Lib.hid Q
  have R : Res3 W0 (w.heap.size + 1 + 1) 0 (.bool false) (.slice none 0 0) (.slice none 0 0) := by rw [hW0]; exact ⟨by simp [go_sem], by simp [go_sem], by simp [go_sem], by simp [go_sem], by simp [go_sem], by simp [go_sem], by simp⟩
  replace R := Lib.hid R
  have z0 : w.heap.size < W0.heap.size := by rw [hW0]; simp <;> omega
  replace z0 := Lib.hid z0
  have z1 : w.heap.size + 1 < W0.heap.size := by rw [hW0]; simp <;> omega
  replace z1 := Lib.hid z1
  have z2 : w.heap.size + 1 + 1 < W0.heap.size := by rw [hW0]; simp <;> omega
  replace z2 := Lib.hid z2
  clear hW0
  replace Ra := Lib.hid (Ra.out.kept G0.keeps)
  replace Rb := Lib.hid (Rb.out.kept G0.keeps)
  replace G0 := Lib.hid G0
  have gd : Grew W0 W0.drew := (Grew.refl W0).drew
  replace R := Lib.hid (R.out.grew gd)
  replace P := Lib.hid (P.out.grew gd)
  replace Q := Lib.hid (Q.out.grew gd)
  replace z0 := Lib.hid (lt_grew z0.out gd)
  replace z1 := Lib.hid (lt_grew z1.out gd)
  replace z2 := Lib.hid (lt_grew z2.out gd)
  replace Ra := Lib.hid (Ra.out.kept gd.keeps)
  replace Rb := Lib.hid (Rb.out.kept gd.keeps)
  replace gd := Lib.hid gd
  have ZP := P
  have ZQ := Q
  go_region_held3 (fun w' => w'.cell? ⟨w.heap.size, 0, none⟩ = some (.bool b1) ∧ w'.cell? ⟨w.heap.size, 1, none⟩ = some (.slice A1 n1 c1) ∧ w'.cell? ⟨w.heap.size, 2, none⟩ = some (.slice C1 m1 d1) ∧ w'.cell? ⟨w.heap.size + 1, 0, none⟩ = some (.bool b2) ∧ w'.cell? ⟨w.heap.size + 1, 1, none⟩ = some (.slice A2 n2 c2) ∧ w'.cell? ⟨w.heap.size + 1, 2, none⟩ = some (.slice C2 m2 d2))
    (first | (with_reducible exact ⟨ZP.out.p0, ZP.out.p1, ZP.out.p2, ZQ.out.p0, ZQ.out.p1, ZQ.out.p2⟩) | (with_reducible exact ⟨g1.cell ZP.out.p0, g1.cell ZP.out.p1, g1.cell ZP.out.p2, g1.cell ZQ.out.p0, g1.cell ZQ.out.p1, g1.cell ZQ.out.p2⟩) | (with_reducible exact ⟨(g1.trans g2).cell ZP.out.p0, (g1.trans g2).cell ZP.out.p1, (g1.trans g2).cell ZP.out.p2, (g1.trans g2).cell ZQ.out.p0, (g1.trans g2).cell ZQ.out.p1, (g1.trans g2).cell ZQ.out.p2⟩) | (with_reducible exact ⟨((g1.trans g2).trans g3).cell ZP.out.p0, ((g1.trans g2).trans g3).cell ZP.out.p1, ((g1.trans g2).trans g3).cell ZP.out.p2, ((g1.trans g2).trans g3).cell ZQ.out.p0, ((g1.trans g2).trans g3).cell ZQ.out.p1, ((g1.trans g2).trans g3).cell ZQ.out.p2⟩) | (with_reducible exact ⟨(((g1.trans g2).trans g3).trans g4).cell ZP.out.p0, (((g1.trans g2).trans g3).trans g4).cell ZP.out.p1, (((g1.trans g2).trans g3).trans g4).cell ZP.out.p2, (((g1.trans g2).trans g3).trans g4).cell ZQ.out.p0, (((g1.trans g2).trans g3).trans g4).cell ZQ.out.p1, (((g1.trans g2).trans g3).trans g4).cell ZQ.out.p2⟩) | (with_reducible exact ⟨other3 (o := 0) (by omega) ((((g1.trans g2).trans g3).trans g4).cell ZP.out.p0), other3 (o := 0) (by omega) ((((g1.trans g2).trans g3).trans g4).cell ZP.out.p1), other3 (o := 0) (by omega) ((((g1.trans g2).trans g3).trans g4).cell ZP.out.p2), other3 (o := 0) (by omega) ((((g1.trans g2).trans g3).trans g4).cell ZQ.out.p0), other3 (o := 0) (by omega) ((((g1.trans g2).trans g3).trans g4).cell ZQ.out.p1), other3 (o := 0) (by omega) ((((g1.trans g2).trans g3).trans g4).cell ZQ.out.p2)⟩))
    (first | (go_at_call_of 74 (Value.agg #[.bool b1, .slice A1 n1 c1, .slice C1 m1 d1]); refine (parts_v _ p k _ Ra.out hk hs2.out.1).mono ?_; rintro e w1 ⟨V1, rfl, hV1, g1⟩; obtain ⟨b3, A3, n3, c3, C3, m3, d3, rfl, X1⟩ := hV1.laid; clear hV1; replace R := Lib.hid (R.out.grew g1); replace P := Lib.hid (P.out.grew g1); replace Q := Lib.hid (Q.out.grew g1); replace z0 := Lib.hid (lt_grew z0.out g1); replace z1 := Lib.hid (lt_grew z1.out g1); replace z2 := Lib.hid (lt_grew z2.out g1); replace Ra := Lib.hid (Ra.out.kept g1.keeps); replace Rb := Lib.hid (Rb.out.kept g1.keeps)) | (go_at_call 74; refine (parts_v _ q l _ Rb.out hl hs2.out.2.1).mono ?_; rintro e w2 ⟨V2, rfl, hV2, g2⟩; obtain ⟨b4, A4, n4, c4, C4, m4, d4, rfl, X2⟩ := hV2.laid; clear hV2; replace R := Lib.hid (R.out.grew g2); replace P := Lib.hid (P.out.grew g2); replace Q := Lib.hid (Q.out.grew g2); replace z0 := Lib.hid (lt_grew z0.out g2); replace z1 := Lib.hid (lt_grew z1.out g2); replace z2 := Lib.hid (lt_grew z2.out g2); replace Ra := Lib.hid (Ra.out.kept g2.keeps); replace Rb := Lib.hid (Rb.out.kept g2.keeps); replace X1 := Lib.hid (X1.out.kept g2.keeps)) | (go_at_call 73; refine (rsub_any _ _ p q k l _ X1.out X2.out hs.out).mono ?_; rintro e w3 ⟨V3, rfl, hV3, g3⟩; obtain ⟨b5, A5, n5, c5, C5, m5, d5, rfl, X3⟩ := hV3.laid; clear hV3; replace R := Lib.hid (R.out.grew g3); replace P := Lib.hid (P.out.grew g3); replace Q := Lib.hid (Q.out.grew g3); replace z0 := Lib.hid (lt_grew z0.out g3); replace z1 := Lib.hid (lt_grew z1.out g3); replace z2 := Lib.hid (lt_grew z2.out g3); replace Ra := Lib.hid (Ra.out.kept g3.keeps); replace Rb := Lib.hid (Rb.out.kept g3.keeps); replace X1 := Lib.hid (X1.out.kept g3.keeps); replace X2 := Lib.hid (X2.out.kept g3.keeps)) | (go_at_call 96; refine (rfrac_any _ _ _ _ X3.out hs2.out.2.2).mono ?_; rintro e w4 ⟨V4, rfl, hV4, g4⟩; obtain ⟨b6, A6, n6, c6, C6, m6, d6, rfl, X4⟩ := hV4.laid; clear hV4; replace R := Lib.hid (R.out.grew g4); replace P := Lib.hid (P.out.grew g4); replace Q := Lib.hid (Q.out.grew g4); replace z0 := Lib.hid (lt_grew z0.out g4); replace z1 := Lib.hid (lt_grew z1.out g4); replace z2 := Lib.hid (lt_grew z2.out g4); replace Ra := Lib.hid (Ra.out.kept g4.keeps); replace Rb := Lib.hid (Rb.out.kept g4.keeps); replace X1 := Lib.hid (X1.out.kept g4.keeps); replace X2 := Lib.hid (X2.out.kept g4.keeps); replace X3 := Lib.hid (X3.out.kept g4.keeps); obtain ⟨R0, R1, R2, Rf0, Rf1, Rf2, Rs⟩ := R.out))
  replace G0 := Lib.hid (((((G0.out.trans gd.out).trans g1).trans g2).trans g3).trans g4)
  clear gd g1 g2 g3 g4 ZP ZQ
  refine gen_then ?_
  intro W9 hW9
  obtain ⟨q0, q1, q2, qK, -, -, qs, qG⟩ := store3 (o := 0) R0 R1 R2 hW9
  have GE := qG w (.inr (by omega)) G0.out
  have QK := Lib.hid qK
  clear qK qG hW9 R0 R1 R2
  go_wp2_with fail
  exact bodyPost_ret (v := .agg #[.bool b6, .slice A6 n6 c6, .slice C6 m6 d6]) (by simp [results, Tryz.results71, go_sem, q0, q1, q2]) rfl ⟨_, rfl, X4.out.kept QK.out, GE⟩

set_option maxRecDepth 100000 in
set_option maxHeartbeats 4000000 in
theorem fsub_any (Va Vb : Value) (p q : Rat) (k l : Nat) (w : World) (ha : FracV w Va p k) (hb : FracV w Vb q l) (hk : 1 ≤ k) (hl : 1 ≤ l) (hs : k + l < 549755813887) :
    Calls Tryz.prog 34 #[Va, Vb] w fun e w' => ∃ V, e = .returned V ∧ FracC w' V (p - q) ∧ Grew w w' := by
  obtain ⟨b1, A1, n1, c1, C1, m1, d1, rfl, Ra⟩ := ha.laid
  obtain ⟨b2, A2, n2, c2, C2, m2, d2, rfl, Rb⟩ := hb.laid
  replace hs := Lib.hid hs
  clear ha hb
  go_enter Tryz.func34, Tryz.ntmps34
  go_wp2_with fail
  refine gen_calls ?_
  intro W0 hW0
  have G0 : Grew w W0 := by rw [hW0]; exact (((Grew.refl w).alloc _).alloc _).alloc _
  have P : Box3 W0 (w.heap.size) 0 (.bool b1) (.slice A1 n1 c1) (.slice C1 m1 d1) := by rw [hW0]; exact ⟨by simp [go_sem], by simp [go_sem], by simp [go_sem]⟩
  replace P := Lib.hid P
  have Q : Box3 W0 (w.heap.size + 1) 0 (.bool b2) (.slice A2 n2 c2) (.slice C2 m2 d2) := by rw [hW0]; exact ⟨by simp [go_sem], by simp [go_sem], by simp [go_sem]⟩
  replace Q := Lib.hid Q
  have R : Res3 W0 (w.heap.size + 1 + 1) 0 (.bool false) (.slice none 0 0) (.slice none 0 0) := by rw [hW0]; exact ⟨by simp [go_sem], by simp [go_sem], by simp [go_sem], by simp [go_sem], by simp [go_sem], by simp [go_sem], by simp⟩
  replace R := Lib.hid R
  have z0 : w.heap.size < W0.heap.size := by rw [hW0]; simp <;> omega
  replace z0 := Lib.hid z0
  have z1 : w.heap.size + 1 < W0.heap.size := by rw [hW0]; simp <;> omega
  replace z1 := Lib.hid z1
  have z2 : w.heap.size + 1 + 1 < W0.heap.size := by rw [hW0]; simp <;> omega
  replace z2 := Lib.hid z2
  clear hW0
  replace Ra := Lib.hid (Ra.out.kept G0.keeps)
  replace Rb := Lib.hid (Rb.out.kept G0.keeps)
  replace G0 := Lib.hid G0
  refine (two_sub _ _ p q k l _ Ra.out Rb.out hk hl hs.out).mono ?_
  rintro e w1 ⟨V1, rfl, hV1, g1⟩
  obtain ⟨b3, A3, n3, c3, C3, m3, d3, rfl, X1⟩ := hV1.laid
  clear hV1
  replace R := Lib.hid (R.out.grew g1)
  replace P := Lib.hid (P.out.grew g1)
  replace Q := Lib.hid (Q.out.grew g1)
  replace z0 := Lib.hid (lt_grew z0.out g1)
  replace z1 := Lib.hid (lt_grew z1.out g1)
  replace z2 := Lib.hid (lt_grew z2.out g1)
  replace Ra := Lib.hid (Ra.out.kept g1.keeps)
  replace Rb := Lib.hid (Rb.out.kept g1.keeps)
  replace G0 := Lib.hid (G0.out.trans g1)
  clear g1
  obtain ⟨R0, R1, R2, Rf0, Rf1, Rf2, Rs⟩ := R.out
  go_wp2_with fail
  refine gen_post ?_
  intro W9 hW9
  obtain ⟨q0, q1, q2, qK, -, -, qs, qG⟩ := store3 (o := 0) R0 R1 R2 hW9
  have GE := qG w (.inr (by omega)) G0.out
  have QK := Lib.hid qK
  clear qK qG hW9 R0 R1 R2
  exact bodyPost_ret (v := .agg #[.bool b3, .slice A3 n3 c3, .slice C3 m3 d3]) (by simp [results, Tryz.results34, go_sem, q0, q1, q2]) rfl ⟨_, rfl, X1.out.kept QK.out, GE⟩

set_option maxRecDepth 100000 in
set_option maxHeartbeats 4000000 in
theorem two_mul (Va Vb : Value) (p q : Rat) (k l : Nat) (w : World) (ha : FracV w Va p k) (hb : FracV w Vb q l) (hk : 1 ≤ k) (hl : 1 ≤ l) (hs : k + l < 549755813888) :
    Calls Tryz.prog 71 #[.func (.func 72) #[] #[], Va, Vb] w fun e w' => ∃ V, e = .returned V ∧ FracC w' V (p * q) ∧ Grew w w' := by
  obtain ⟨b1, A1, n1, c1, C1, m1, d1, rfl, Ra⟩ := ha.laid
  obtain ⟨b2, A2, n2, c2, C2, m2, d2, rfl, Rb⟩ := hb.laid
  have hs2 : k < 549755813888 ∧ l < 549755813888 ∧ (k + l) < 549755813888 := by omega
  replace hs := Lib.hid hs
  replace hs2 := Lib.hid hs2
  clear ha hb
  go_enter Tryz.func71, Tryz.ntmps71
  go_wp2_with fail
  refine gen_wp ?_
  intro W0 hW0
  have G0 : Grew w W0 := by rw [hW0]; exact (((Grew.refl w).alloc _).alloc _).alloc _
  have P : Box3 W0 (w.heap.size) 0 (.bool b1) (.slice A1 n1 c1) (.slice C1 m1 d1) := by rw [hW0]; exact ⟨by simp [go_sem], by simp [go_sem], by simp [go_sem]⟩
  replace P := Lib.hid P
  have Q : Box3 W0 (w.heap.size + 1) 0 (.bool b2) (.slice A2 n2 c2) (.slice C2 m2 d2) := by rw [hW0]; exact ⟨by simp [go_sem], by simp [go_sem], by simp [go_sem]⟩
  replace Q := Lib.hid Q
  have R : Res3 W0 (w.heap.size + 1 + 1) 0 (.bool false) (.slice none 0 0) (.slice none 0 0) := by rw [hW0]; exact ⟨by simp [go_sem], by simp [go_sem], by simp [go_sem], by simp [go_sem], by simp [go_sem], by simp [go_sem], by simp⟩
  replace R := Lib.hid R
  have z0 : w.heap.size < W0.heap.size := by rw [hW0]; simp <;> omega
  replace z0 := Lib.hid z0
  have z1 : w.heap.size + 1 < W0.heap.size := by rw [hW0]; simp <;> omega
  replace z1 := Lib.hid z1
  have z2 : w.heap.size + 1 + 1 < W0.heap.size := by rw [hW0]; simp <;> omega
  replace z2 := Lib.hid z2
  clear hW0
  replace Ra := Lib.hid (Ra.out.kept G0.keeps)
  replace Rb := Lib.hid (Rb.out.kept G0.keeps)
  replace G0 := Lib.hid G0
  have gd : Grew W0 W0.drew := (Grew.refl W0).drew
  replace R := Lib.hid (R.out.grew gd)
  replace P := Lib.hid (P.out.grew gd)
  replace Q := Lib.hid (Q.out.grew gd)
  replace z0 := Lib.hid (lt_grew z0.out gd)
  replace z1 := Lib.hid (lt_grew z1.out gd)
  replace z2 := Lib.hid (lt_grew z2.out gd)
  replace Ra := Lib.hid (Ra.out.kept gd.keeps)
  replace Rb := Lib.hid (Rb.out.kept gd.keeps)
  replace gd := Lib.hid gd
  have ZP := P
  have ZQ := Q
  go_region_held3 (fun w' => w'.cell? ⟨w.heap.size, 0, none⟩ = some (.bool b1) ∧ w'.cell? ⟨w.heap.size, 1, none⟩ = some (.slice A1 n1 c1) ∧ w'.cell? ⟨w.heap.size, 2, none⟩ = some (.slice C1 m1 d1) ∧ w'.cell? ⟨w.heap.size + 1, 0, none⟩ = some (.bool b2) ∧ w'.cell? ⟨w.heap.size + 1, 1, none⟩ = some (.slice A2 n2 c2) ∧ w'.cell? ⟨w.heap.size + 1, 2, none⟩ = some (.slice C2 m2 d2))
    (first | (with_reducible exact ⟨ZP.out.p0, ZP.out.p1, ZP.out.p2, ZQ.out.p0, ZQ.out.p1, ZQ.out.p2⟩) | (with_reducible exact ⟨g1.cell ZP.out.p0, g1.cell ZP.out.p1, g1.cell ZP.out.p2, g1.cell ZQ.out.p0, g1.cell ZQ.out.p1, g1.cell ZQ.out.p2⟩) | (with_reducible exact ⟨(g1.trans g2).cell ZP.out.p0, (g1.trans g2).cell ZP.out.p1, (g1.trans g2).cell ZP.out.p2, (g1.trans g2).cell ZQ.out.p0, (g1.trans g2).cell ZQ.out.p1, (g1.trans g2).cell ZQ.out.p2⟩) | (with_reducible exact ⟨((g1.trans g2).trans g3).cell ZP.out.p0, ((g1.trans g2).trans g3).cell ZP.out.p1, ((g1.trans g2).trans g3).cell ZP.out.p2, ((g1.trans g2).trans g3).cell ZQ.out.p0, ((g1.trans g2).trans g3).cell ZQ.out.p1, ((g1.trans g2).trans g3).cell ZQ.out.p2⟩) | (with_reducible exact ⟨(((g1.trans g2).trans g3).trans g4).cell ZP.out.p0, (((g1.trans g2).trans g3).trans g4).cell ZP.out.p1, (((g1.trans g2).trans g3).trans g4).cell ZP.out.p2, (((g1.trans g2).trans g3).trans g4).cell ZQ.out.p0, (((g1.trans g2).trans g3).trans g4).cell ZQ.out.p1, (((g1.trans g2).trans g3).trans g4).cell ZQ.out.p2⟩) | (with_reducible exact ⟨other3 (o := 0) (by omega) ((((g1.trans g2).trans g3).trans g4).cell ZP.out.p0), other3 (o := 0) (by omega) ((((g1.trans g2).trans g3).trans g4).cell ZP.out.p1), other3 (o := 0) (by omega) ((((g1.trans g2).trans g3).trans g4).cell ZP.out.p2), other3 (o := 0) (by omega) ((((g1.trans g2).trans g3).trans g4).cell ZQ.out.p0), other3 (o := 0) (by omega) ((((g1.trans g2).trans g3).trans g4).cell ZQ.out.p1), other3 (o := 0) (by omega) ((((g1.trans g2).trans g3).trans g4).cell ZQ.out.p2)⟩))
    (first | (go_at_call_of 74 (Value.agg #[.bool b1, .slice A1 n1 c1, .slice C1 m1 d1]); refine (parts_v _ p k _ Ra.out hk hs2.out.1).mono ?_; rintro e w1 ⟨V1, rfl, hV1, g1⟩; obtain ⟨b3, A3, n3, c3, C3, m3, d3, rfl, X1⟩ := hV1.laid; clear hV1; replace R := Lib.hid (R.out.grew g1); replace P := Lib.hid (P.out.grew g1); replace Q := Lib.hid (Q.out.grew g1); replace z0 := Lib.hid (lt_grew z0.out g1); replace z1 := Lib.hid (lt_grew z1.out g1); replace z2 := Lib.hid (lt_grew z2.out g1); replace Ra := Lib.hid (Ra.out.kept g1.keeps); replace Rb := Lib.hid (Rb.out.kept g1.keeps)) | (go_at_call 74; refine (parts_v _ q l _ Rb.out hl hs2.out.2.1).mono ?_; rintro e w2 ⟨V2, rfl, hV2, g2⟩; obtain ⟨b4, A4, n4, c4, C4, m4, d4, rfl, X2⟩ := hV2.laid; clear hV2; replace R := Lib.hid (R.out.grew g2); replace P := Lib.hid (P.out.grew g2); replace Q := Lib.hid (Q.out.grew g2); replace z0 := Lib.hid (lt_grew z0.out g2); replace z1 := Lib.hid (lt_grew z1.out g2); replace z2 := Lib.hid (lt_grew z2.out g2); replace Ra := Lib.hid (Ra.out.kept g2.keeps); replace Rb := Lib.hid (Rb.out.kept g2.keeps); replace X1 := Lib.hid (X1.out.kept g2.keeps)) | (go_at_call 72; refine (rmul_any _ _ p q k l _ X1.out X2.out (Nat.lt_of_lt_of_le hs.out (by omega))).mono ?_; rintro e w3 ⟨V3, rfl, hV3, g3⟩; obtain ⟨b5, A5, n5, c5, C5, m5, d5, rfl, X3⟩ := hV3.laid; clear hV3; replace R := Lib.hid (R.out.grew g3); replace P := Lib.hid (P.out.grew g3); replace Q := Lib.hid (Q.out.grew g3); replace z0 := Lib.hid (lt_grew z0.out g3); replace z1 := Lib.hid (lt_grew z1.out g3); replace z2 := Lib.hid (lt_grew z2.out g3); replace Ra := Lib.hid (Ra.out.kept g3.keeps); replace Rb := Lib.hid (Rb.out.kept g3.keeps); replace X1 := Lib.hid (X1.out.kept g3.keeps); replace X2 := Lib.hid (X2.out.kept g3.keeps)) | (go_at_call 96; refine (rfrac_any _ _ _ _ X3.out hs2.out.2.2).mono ?_; rintro e w4 ⟨V4, rfl, hV4, g4⟩; obtain ⟨b6, A6, n6, c6, C6, m6, d6, rfl, X4⟩ := hV4.laid; clear hV4; replace R := Lib.hid (R.out.grew g4); replace P := Lib.hid (P.out.grew g4); replace Q := Lib.hid (Q.out.grew g4); replace z0 := Lib.hid (lt_grew z0.out g4); replace z1 := Lib.hid (lt_grew z1.out g4); replace z2 := Lib.hid (lt_grew z2.out g4); replace Ra := Lib.hid (Ra.out.kept g4.keeps); replace Rb := Lib.hid (Rb.out.kept g4.keeps); replace X1 := Lib.hid (X1.out.kept g4.keeps); replace X2 := Lib.hid (X2.out.kept g4.keeps); replace X3 := Lib.hid (X3.out.kept g4.keeps); obtain ⟨R0, R1, R2, Rf0, Rf1, Rf2, Rs⟩ := R.out))
  replace G0 := Lib.hid (((((G0.out.trans gd.out).trans g1).trans g2).trans g3).trans g4)
  clear gd g1 g2 g3 g4 ZP ZQ
  refine gen_then ?_
  intro W9 hW9
  obtain ⟨q0, q1, q2, qK, -, -, qs, qG⟩ := store3 (o := 0) R0 R1 R2 hW9
  have GE := qG w (.inr (by omega)) G0.out
  have QK := Lib.hid qK
  clear qK qG hW9 R0 R1 R2
  go_wp2_with fail
  exact bodyPost_ret (v := .agg #[.bool b6, .slice A6 n6 c6, .slice C6 m6 d6]) (by simp [results, Tryz.results71, go_sem, q0, q1, q2]) rfl ⟨_, rfl, X4.out.kept QK.out, GE⟩

set_option maxRecDepth 100000 in
set_option maxHeartbeats 4000000 in
theorem fmul_any (Va Vb : Value) (p q : Rat) (k l : Nat) (w : World) (ha : FracV w Va p k) (hb : FracV w Vb q l) (hk : 1 ≤ k) (hl : 1 ≤ l) (hs : k + l < 549755813888) :
    Calls Tryz.prog 33 #[Va, Vb] w fun e w' => ∃ V, e = .returned V ∧ FracC w' V (p * q) ∧ Grew w w' := by
  obtain ⟨b1, A1, n1, c1, C1, m1, d1, rfl, Ra⟩ := ha.laid
  obtain ⟨b2, A2, n2, c2, C2, m2, d2, rfl, Rb⟩ := hb.laid
  replace hs := Lib.hid hs
  clear ha hb
  go_enter Tryz.func33, Tryz.ntmps33
  go_wp2_with fail
  refine gen_calls ?_
  intro W0 hW0
  have G0 : Grew w W0 := by rw [hW0]; exact (((Grew.refl w).alloc _).alloc _).alloc _
  have P : Box3 W0 (w.heap.size) 0 (.bool b1) (.slice A1 n1 c1) (.slice C1 m1 d1) := by rw [hW0]; exact ⟨by simp [go_sem], by simp [go_sem], by simp [go_sem]⟩
  replace P := Lib.hid P
  have Q : Box3 W0 (w.heap.size + 1) 0 (.bool b2) (.slice A2 n2 c2) (.slice C2 m2 d2) := by rw [hW0]; exact ⟨by simp [go_sem], by simp [go_sem], by simp [go_sem]⟩
  replace Q := Lib.hid Q
  have R : Res3 W0 (w.heap.size + 1 + 1) 0 (.bool false) (.slice none 0 0) (.slice none 0 0) := by rw [hW0]; exact ⟨by simp [go_sem], by simp [go_sem], by simp [go_sem], by simp [go_sem], by simp [go_sem], by simp [go_sem], by simp⟩
  replace R := Lib.hid R
  have z0 : w.heap.size < W0.heap.size := by rw [hW0]; simp <;> omega
  replace z0 := Lib.hid z0
  have z1 : w.heap.size + 1 < W0.heap.size := by rw [hW0]; simp <;> omega
  replace z1 := Lib.hid z1
  have z2 : w.heap.size + 1 + 1 < W0.heap.size := by rw [hW0]; simp <;> omega
  replace z2 := Lib.hid z2
  clear hW0
  replace Ra := Lib.hid (Ra.out.kept G0.keeps)
  replace Rb := Lib.hid (Rb.out.kept G0.keeps)
  replace G0 := Lib.hid G0
  refine (two_mul _ _ p q k l _ Ra.out Rb.out hk hl hs.out).mono ?_
  rintro e w1 ⟨V1, rfl, hV1, g1⟩
  obtain ⟨b3, A3, n3, c3, C3, m3, d3, rfl, X1⟩ := hV1.laid
  clear hV1
  replace R := Lib.hid (R.out.grew g1)
  replace P := Lib.hid (P.out.grew g1)
  replace Q := Lib.hid (Q.out.grew g1)
  replace z0 := Lib.hid (lt_grew z0.out g1)
  replace z1 := Lib.hid (lt_grew z1.out g1)
  replace z2 := Lib.hid (lt_grew z2.out g1)
  replace Ra := Lib.hid (Ra.out.kept g1.keeps)
  replace Rb := Lib.hid (Rb.out.kept g1.keeps)
  replace G0 := Lib.hid (G0.out.trans g1)
  clear g1
  obtain ⟨R0, R1, R2, Rf0, Rf1, Rf2, Rs⟩ := R.out
  go_wp2_with fail
  refine gen_post ?_
  intro W9 hW9
  obtain ⟨q0, q1, q2, qK, -, -, qs, qG⟩ := store3 (o := 0) R0 R1 R2 hW9
  have GE := qG w (.inr (by omega)) G0.out
  have QK := Lib.hid qK
  clear qK qG hW9 R0 R1 R2
  exact bodyPost_ret (v := .agg #[.bool b3, .slice A3 n3 c3, .slice C3 m3 d3]) (by simp [results, Tryz.results33, go_sem, q0, q1, q2]) rfl ⟨_, rfl, X1.out.kept QK.out, GE⟩

set_option maxRecDepth 100000 in
set_option maxHeartbeats 4000000 in
theorem freduce_any (Va : Value) (p : Rat) (k : Nat) (w : World) (ha : FracV w Va p k) (hk : 1 ≤ k) (hs : k < 549755813888) :
    Calls Tryz.prog 109 #[Va] w fun e w' => ∃ V, e = .returned V ∧ FracC w' V p ∧ Grew w w' := by
  obtain ⟨b1, A1, n1, c1, C1, m1, d1, rfl, Ra⟩ := ha.laid
  clear ha
  go_enter Tryz.func109, Tryz.ntmps109
  go_wp2_with fail
  refine gen_calls ?_
  intro W0 hW0
  have G0 : Grew w W0 := by rw [hW0]; exact ((Grew.refl w).alloc _).alloc _
  have P : Box3 W0 (w.heap.size) 0 (.bool b1) (.slice A1 n1 c1) (.slice C1 m1 d1) := by rw [hW0]; exact ⟨by simp [go_sem], by simp [go_sem], by simp [go_sem]⟩
  replace P := Lib.hid P
  have R : Res3 W0 (w.heap.size + 1) 0 (.bool false) (.slice none 0 0) (.slice none 0 0) := by rw [hW0]; exact ⟨by simp [go_sem], by simp [go_sem], by simp [go_sem], by simp [go_sem], by simp [go_sem], by simp [go_sem], by simp⟩
  replace R := Lib.hid R
  have z0 : w.heap.size < W0.heap.size := by rw [hW0]; simp <;> omega
  replace z0 := Lib.hid z0
  have z1 : w.heap.size + 1 < W0.heap.size := by rw [hW0]; simp <;> omega
  replace z1 := Lib.hid z1
  clear hW0
  replace Ra := Lib.hid (Ra.out.kept G0.keeps)
  replace G0 := Lib.hid G0
  refine (parts_v _ p k _ Ra.out hk hs).mono ?_
  rintro e w1 ⟨V1, rfl, hV1, g1⟩
  obtain ⟨b3, A3, n3, c3, C3, m3, d3, rfl, X1⟩ := hV1.laid
  clear hV1
  replace R := Lib.hid (R.out.grew g1)
  replace P := Lib.hid (P.out.grew g1)
  replace z0 := Lib.hid (lt_grew z0.out g1)
  replace z1 := Lib.hid (lt_grew z1.out g1)
  replace Ra := Lib.hid (Ra.out.kept g1.keeps)
  replace G0 := Lib.hid (G0.out.trans g1)
  clear g1
  go_wp2_with fail
  refine (rfrac_any _ _ _ _ X1.out hs).mono ?_
  rintro e w2 ⟨V2, rfl, hV2, g2⟩
  obtain ⟨b4, A4, n4, c4, C4, m4, d4, rfl, X2⟩ := hV2.laid
  clear hV2
  replace R := Lib.hid (R.out.grew g2)
  replace P := Lib.hid (P.out.grew g2)
  replace z0 := Lib.hid (lt_grew z0.out g2)
  replace z1 := Lib.hid (lt_grew z1.out g2)
  replace Ra := Lib.hid (Ra.out.kept g2.keeps)
  replace X1 := Lib.hid (X1.out.kept g2.keeps)
  replace G0 := Lib.hid (G0.out.trans g2)
  clear g2
  obtain ⟨R0, R1, R2, Rf0, Rf1, Rf2, Rs⟩ := R.out
  go_wp2_with fail
  refine gen_post ?_
  intro W9 hW9
  obtain ⟨q0, q1, q2, qK, -, -, qs, qG⟩ := store3 (o := 0) R0 R1 R2 hW9
  have GE := qG w (.inr (by omega)) G0.out
  have QK := Lib.hid qK
  clear qK qG hW9 R0 R1 R2
  exact bodyPost_ret (v := .agg #[.bool b4, .slice A4 n4 c4, .slice C4 m4 d4]) (by simp [results, Tryz.results109, go_sem, q0, q1, q2]) rfl ⟨_, rfl, X2.out.kept QK.out, GE⟩

set_option maxRecDepth 100000 in
set_option maxHeartbeats 4000000 in
theorem fint_any (x : Int) (w : World) (h0 : -9223372036854775808 ≤ x) (h1 : x ≤ 9223372036854775807) :
    Calls Tryz.prog 50 #[.int .i64 x] w fun e w' => ∃ V, e = .returned V ∧ FracC w' V (x : Rat) ∧ Grew w w' := by
  go_enter Tryz.func50, Tryz.ntmps50
  go_wp2_with fail
  refine gen_calls ?_
  intro W0 hW0
  have G0 : Grew w W0 := by rw [hW0]; exact (Grew.refl w).alloc _
  have R : Res3 W0 (w.heap.size) 0 (.bool false) (.slice none 0 0) (.slice none 0 0) := by rw [hW0]; exact ⟨by simp [go_sem], by simp [go_sem], by simp [go_sem], by simp [go_sem], by simp [go_sem], by simp [go_sem], by simp⟩
  replace R := Lib.hid R
  have z0 : w.heap.size < W0.heap.size := by rw [hW0]; simp <;> omega
  replace z0 := Lib.hid z0
  clear hW0
  replace G0 := Lib.hid G0
  refine (wof_any x _ h0 h1).mono ?_
  rintro e w1 ⟨V1, rfl, hV1, g1⟩
  obtain ⟨b3, A3, n3, c3, rfl, X1, -⟩ := hV1.laid
  clear hV1
  replace R := Lib.hid (R.out.grew g1)
  replace z0 := Lib.hid (lt_grew z0.out g1)
  replace G0 := Lib.hid (G0.out.trans g1)
  clear g1
  go_wp2_with fail
  refine (unit_any _).mono ?_
  rintro e w2 ⟨V2, rfl, hV2, g2⟩
  obtain ⟨A4, c4, rfl, X2⟩ := hV2.slice
  clear hV2
  replace R := Lib.hid (R.out.grew g2)
  replace z0 := Lib.hid (lt_grew z0.out g2)
  replace X1 := Lib.hid (X1.out.kept g2.keeps)
  replace G0 := Lib.hid (G0.out.trans g2)
  clear g2
  obtain ⟨R0, R1, R2, Rf0, Rf1, Rf2, Rs⟩ := R.out
  go_wp2_with fail
  refine gen_post ?_
  intro W9 hW9
  obtain ⟨q0, q1, q2, qK, -, -, qs, qG⟩ := store3 (o := 0) R0 R1 R2 hW9
  have GE := qG w (.inr (by omega)) G0.out
  have QK := Lib.hid qK
  clear qK qG hW9 R0 R1 R2
  exact bodyPost_ret (v := .agg #[.bool b3, .slice A3 n3 c3, .slice A4 (len 4294967296 1) c4]) (by simp [results, Tryz.results50, go_sem, q0, q1, q2]) rfl ⟨_, rfl, FracC.mk (X1.out.kept QK.out) (X2.out.kept QK.out) rfl rfl rfl, GE⟩

theorem shift_one (va : Value) (N n : Nat) (w : World) (ha : Num 4294967296 .u32 w va N n) (hsz : len 4294967296 N < 1099511627776) :
    Calls Tryz.prog 95 #[va, .int .i64 1] w fun e w' => ∃ v, e = .returned v ∧ Num 4294967296 .u32 w' v (N * 2) (len 4294967296 (N * 2)) ∧ Grew w w' := by
  have h := shift_up va N n 1 w ha (by omega) hsz
  simpa using h

set_option maxRecDepth 100000 in
set_option maxHeartbeats 4000000 in
theorem fhalf_any (Va : Value) (p : Rat) (k : Nat) (w : World) (ha : FracV w Va p k) (hk : 1 ≤ k) (hs : k < 549755813887) :
    Calls Tryz.prog 53 #[Va] w fun e w' => ∃ V, e = .returned V ∧ FracC w' V (p * mkRat 1 2) ∧ Grew w w' := by
  obtain ⟨b1, A1, n1, c1, C1, m1, d1, rfl, Ra⟩ := ha.laid
  have hs2 : k + 1 < 549755813888 := by omega
  clear ha
  replace hs2 := Lib.hid hs2
  go_enter Tryz.func53, Tryz.ntmps53
  go_wp2_with fail
  refine gen_calls ?_
  intro W0 hW0
  have G0 : Grew w W0 := by rw [hW0]; exact ((Grew.refl w).alloc _).alloc _
  have P : Box3 W0 (w.heap.size) 0 (.bool b1) (.slice A1 n1 c1) (.slice C1 m1 d1) := by rw [hW0]; exact ⟨by simp [go_sem], by simp [go_sem], by simp [go_sem]⟩
  replace P := Lib.hid P
  have R : Res3 W0 (w.heap.size + 1) 0 (.bool false) (.slice none 0 0) (.slice none 0 0) := by rw [hW0]; exact ⟨by simp [go_sem], by simp [go_sem], by simp [go_sem], by simp [go_sem], by simp [go_sem], by simp [go_sem], by simp⟩
  replace R := Lib.hid R
  have z0 : w.heap.size < W0.heap.size := by rw [hW0]; simp <;> omega
  replace z0 := Lib.hid z0
  have z1 : w.heap.size + 1 < W0.heap.size := by rw [hW0]; simp <;> omega
  replace z1 := Lib.hid z1
  clear hW0
  replace Ra := Lib.hid (Ra.out.kept G0.keeps)
  replace G0 := Lib.hid G0
  refine (parts_v _ p k _ Ra.out hk (by omega)).mono ?_
  rintro e w1 ⟨V1, rfl, hV1, g1⟩
  obtain ⟨z, D, b3, A3, n3, c3, C3, m3, d3, rfl, Ea, hD, -, Na, k1, k2, Ma, Wz⟩ := hV1.open
  clear hV1
  replace R := Lib.hid (R.out.grew g1)
  replace P := Lib.hid (P.out.grew g1)
  replace z0 := Lib.hid (lt_grew z0.out g1)
  replace z1 := Lib.hid (lt_grew z1.out g1)
  replace Ra := Lib.hid (Ra.out.kept g1.keeps)
  replace G0 := Lib.hid (G0.out.trans g1)
  clear g1
  have hD2 : D * 2 ≠ 0 := by omega
  have hk3 : len 4294967296 z.natAbs ≤ k + 1 := by omega
  have hl2 : len 4294967296 (D * 2) ≤ k + 1 := len_mul (B := 4294967296) (by omega) D 2 k 1 k2 (by rw [show len 4294967296 2 = 1 from rfl]; exact Nat.le_refl _)
  have hk4 : len 4294967296 D < 1099511627776 := by omega
  replace hD2 := Lib.hid hD2
  replace hk3 := Lib.hid hk3
  replace hl2 := Lib.hid hl2
  replace hk4 := Lib.hid hk4
  clear hD k1 k2 hs hk
  have oz0 := z0.out
  have oz1 := z1.out
  go_wp2_with fail
  clear oz0 oz1
  refine gen_wp ?_
  intro W1 hW1
  have gl : Grew w1 W1 := by rw [hW1]; exact (Grew.refl _).alloc _
  have y1 := Lib.hid (R.out).2.2.2.2.2.2
  replace R := Lib.hid (R.out.grew gl)
  replace P := Lib.hid (P.out.grew gl)
  replace z0 := Lib.hid (lt_grew z0.out gl)
  replace z1 := Lib.hid (lt_grew z1.out gl)
  replace Ra := Lib.hid (Ra.out.kept gl.keeps)
  replace Na := Lib.hid (Na.out.kept gl.keeps)
  replace Wz := Lib.hid (Wz.out.kept gl.keeps)
  have L : Box3 W1 (w1.heap.size) 0 (.bool b3) (.slice A3 n3 c3) (.slice C3 m3 d3) := by rw [hW1]; exact ⟨by simp [go_sem], by simp [go_sem], by simp [go_sem]⟩
  replace L := Lib.hid L
  have z2 : w1.heap.size < W1.heap.size := by rw [hW1]; simp <;> omega
  replace z2 := Lib.hid z2
  clear hW1
  replace G0 := Lib.hid (G0.out.trans gl)
  clear gl
  have gd : Grew W1 W1.drew := (Grew.refl W1).drew
  replace R := Lib.hid (R.out.grew gd)
  replace P := Lib.hid (P.out.grew gd)
  replace L := Lib.hid (L.out.grew gd)
  replace z0 := Lib.hid (lt_grew z0.out gd)
  replace z1 := Lib.hid (lt_grew z1.out gd)
  replace z2 := Lib.hid (lt_grew z2.out gd)
  replace Ra := Lib.hid (Ra.out.kept gd.keeps)
  replace Na := Lib.hid (Na.out.kept gd.keeps)
  replace Wz := Lib.hid (Wz.out.kept gd.keeps)
  replace gd := Lib.hid gd
  have ZL := L
  go_region_held3 (fun w' => w'.cell? ⟨w1.heap.size, 0, none⟩ = some (.bool b3) ∧ w'.cell? ⟨w1.heap.size, 1, none⟩ = some (.slice A3 n3 c3) ∧ w'.cell? ⟨w1.heap.size, 2, none⟩ = some (.slice C3 m3 d3))
    (first | (with_reducible exact ⟨ZL.out.p0, ZL.out.p1, ZL.out.p2⟩) | (with_reducible exact ⟨g2.cell ZL.out.p0, g2.cell ZL.out.p1, g2.cell ZL.out.p2⟩) | (with_reducible exact ⟨(g2.trans g3).cell ZL.out.p0, (g2.trans g3).cell ZL.out.p1, (g2.trans g3).cell ZL.out.p2⟩) | (with_reducible exact ⟨other3 (o := 0) (by have := y1.out; omega) ((g2.trans g3).cell ZL.out.p0), other3 (o := 0) (by have := y1.out; omega) ((g2.trans g3).cell ZL.out.p1), other3 (o := 0) (by have := y1.out; omega) ((g2.trans g3).cell ZL.out.p2)⟩))
    (first | (go_at_call 95; refine (shift_one _ D _ _ Na.out hk4.out).mono ?_; rintro e w2 ⟨V2, rfl, hV2, g2⟩; obtain ⟨A4, c4, rfl, hX2⟩ := hV2.slice; have X2 := Lib.hid (RatQ.mk (q := p * mkRat 1 2) (Wz.out.kept g2.keeps) hX2.out rfl hD2.out (by rw [mkRat_half, Ea.out]) hk3.out hl2.out); clear hV2 hX2; replace R := Lib.hid (R.out.grew g2); replace P := Lib.hid (P.out.grew g2); replace L := Lib.hid (L.out.grew g2); replace z0 := Lib.hid (lt_grew z0.out g2); replace z1 := Lib.hid (lt_grew z1.out g2); replace z2 := Lib.hid (lt_grew z2.out g2); replace Ra := Lib.hid (Ra.out.kept g2.keeps); replace Na := Lib.hid (Na.out.kept g2.keeps); replace Wz := Lib.hid (Wz.out.kept g2.keeps)) | (go_at_call 96; refine (rfrac_any _ _ _ _ X2.out hs2.out).mono ?_; rintro e w3 ⟨V3, rfl, hV3, g3⟩; obtain ⟨b5, A5, n5, c5, C5, m5, d5, rfl, X3⟩ := hV3.laid; clear hV3; replace R := Lib.hid (R.out.grew g3); replace P := Lib.hid (P.out.grew g3); replace L := Lib.hid (L.out.grew g3); replace z0 := Lib.hid (lt_grew z0.out g3); replace z1 := Lib.hid (lt_grew z1.out g3); replace z2 := Lib.hid (lt_grew z2.out g3); replace Ra := Lib.hid (Ra.out.kept g3.keeps); replace Na := Lib.hid (Na.out.kept g3.keeps); replace Wz := Lib.hid (Wz.out.kept g3.keeps); replace X2 := Lib.hid (X2.out.kept g3.keeps); obtain ⟨R0, R1, R2, Rf0, Rf1, Rf2, Rs⟩ := R.out))
  replace G0 := Lib.hid (((G0.out.trans gd.out).trans g2).trans g3)
  clear gd g2 g3 ZL
  refine gen_then ?_
  intro W9 hW9
  obtain ⟨q0, q1, q2, qK, -, -, qs, qG⟩ := store3 (o := 0) R0 R1 R2 hW9
  have GE := qG w (.inr (by omega)) G0.out
  have QK := Lib.hid qK
  clear qK qG hW9 R0 R1 R2
  go_wp2_with fail
  exact bodyPost_ret (v := .agg #[.bool b5, .slice A5 n5 c5, .slice C5 m5 d5]) (by simp [results, Tryz.results53, go_sem, q0, q1, q2]) rfl ⟨_, rfl, X3.out.kept QK.out, GE⟩
end Go.Proofs.YtpglnfccmhkocaaGreat
namespace Go.Proofs.YtpglnfccmhkocaaGreat
open Go.RowKit

set_option maxRecDepth 100000 in
set_option maxHeartbeats 8000000 in
theorem fcmp_any (Va Vb : Value) (p q : Rat) (k l : Nat) (w : World) (ha : FracV w Va p k) (hb : FracV w Vb q l) (hk : 1 ≤ k) (hl : 1 ≤ l) (hs : k + l < 549755813888) :
    Calls Tryz.prog 35 #[Va, Vb] w fun e w' => e = .returned (.int .i64 (cmpQ p q)) ∧ Grew w w' := by
  obtain ⟨b1, A1, n1, c1, C1, m1, d1, rfl, Ra⟩ := ha.laid
  obtain ⟨b2, A2, n2, c2, C2, m2, d2, rfl, Rb⟩ := hb.laid
  have hs2 : k < 549755813888 ∧ l < 549755813888 := by omega
  replace hs2 := Lib.hid hs2
  clear ha hb
  go_enter Tryz.func35, Tryz.ntmps35
  go_wp2_with fail
  refine gen_wp ?_
  intro W0 hW0
  have G0 : Grew w W0 := by rw [hW0]; exact ((Grew.refl w).alloc _).alloc _
  have P : Box3 W0 (w.heap.size) 0 (.bool b1) (.slice A1 n1 c1) (.slice C1 m1 d1) := by rw [hW0]; exact ⟨by simp [go_sem], by simp [go_sem], by simp [go_sem]⟩
  replace P := Lib.hid P
  have Q : Box3 W0 (w.heap.size + 1) 0 (.bool b2) (.slice A2 n2 c2) (.slice C2 m2 d2) := by rw [hW0]; exact ⟨by simp [go_sem], by simp [go_sem], by simp [go_sem]⟩
  replace Q := Lib.hid Q
  have z0 : w.heap.size < W0.heap.size := by rw [hW0]; simp <;> omega
  replace z0 := Lib.hid z0
  have z1 : w.heap.size + 1 < W0.heap.size := by rw [hW0]; simp <;> omega
  replace z1 := Lib.hid z1
  clear hW0
  replace Ra := Lib.hid (Ra.out.kept G0.keeps)
  replace Rb := Lib.hid (Rb.out.kept G0.keeps)
  replace G0 := Lib.hid G0
  go_upto_region 1 with fail
  go_cut [5, 6] (fun s5 s6 wx => ∃ e5 e6 : Nat, s5 = .pointer (some ⟨e5, 0, none⟩) ∧ At3 wx e5 (fun w V => RatQ w V p k) ∧ W0.heap.size ≤ e5 ∧ s6 = .pointer (some ⟨e6, 0, none⟩) ∧ At3 wx e6 (fun w V => RatQ w V q l) ∧ W0.heap.size ≤ e6 ∧ Grew W0 wx)
  · have KS : ∀ X, Grew W0 X → (fun w' => w'.cell? ⟨w.heap.size, 0, none⟩ = some (.bool b1) ∧ w'.cell? ⟨w.heap.size, 1, none⟩ = some (.slice A1 n1 c1) ∧ w'.cell? ⟨w.heap.size, 2, none⟩ = some (.slice C1 m1 d1) ∧ w'.cell? ⟨w.heap.size + 1, 0, none⟩ = some (.bool b2) ∧ w'.cell? ⟨w.heap.size + 1, 1, none⟩ = some (.slice A2 n2 c2) ∧ w'.cell? ⟨w.heap.size + 1, 2, none⟩ = some (.slice C2 m2 d2)) X := fun X g => ⟨g.cell P.out.p0, g.cell P.out.p1, g.cell P.out.p2, g.cell Q.out.p0, g.cell Q.out.p1, g.cell Q.out.p2⟩
    replace KS := Lib.hid KS
    go_region_held3 (fun w' => w'.cell? ⟨w.heap.size, 0, none⟩ = some (.bool b1) ∧ w'.cell? ⟨w.heap.size, 1, none⟩ = some (.slice A1 n1 c1) ∧ w'.cell? ⟨w.heap.size, 2, none⟩ = some (.slice C1 m1 d1) ∧ w'.cell? ⟨w.heap.size + 1, 0, none⟩ = some (.bool b2) ∧ w'.cell? ⟨w.heap.size + 1, 1, none⟩ = some (.slice A2 n2 c2) ∧ w'.cell? ⟨w.heap.size + 1, 2, none⟩ = some (.slice C2 m2 d2))
      (first | (refine KS.out _ ?_; (repeat (first | with_reducible exact Grew.refl _ | with_reducible refine Grew.setCell ?_ (by simp <;> omega) _ | with_reducible refine Grew.alloc ?_ _ | with_reducible refine Grew.drew ?_ | with_reducible apply Grew.trans ?_ g2 | with_reducible apply Grew.trans ?_ g1 )); done))
      (first | (go_at_call_of 74 (Value.agg #[.bool b1, .slice A1 n1 c1, .slice C1 m1 d1]); refine (parts_v _ p k _ (Ra.out.kept (Grew.keeps (by (repeat (first | with_reducible exact Grew.refl _ | with_reducible refine Grew.setCell ?_ (by simp <;> omega) _ | with_reducible refine Grew.alloc ?_ _ | with_reducible refine Grew.drew ?_ ))))) hk hs2.out.1).mono ?_; rintro e w1 ⟨V1, rfl, hV1, g1⟩; have zn1 : W0.heap.size ≤ w1.heap.size := (by have t := g1.size; (try simp at t); omega); obtain ⟨b3, A3, n3, c3, C3, m3, d3, rfl, X1⟩ := hV1.laid; clear hV1; (first | (with_reducible have tt := res_new2 g1; have h0_0 := tt.1; have h0_1 := tt.2; clear tt) | (with_reducible have tt := res_new2D g1; have h0_0 := tt.1; have h0_1 := tt.2; clear tt) | (with_reducible have h0_0 := res_new g1) | (with_reducible have h0_0 := res_newD g1) | skip); (try (have uu := Res3.lt h0_0; have ne0_1a : ¬ (w1.heap.size = W0.heap.size) := (by omega); have ne0_1b : ¬ (W0.heap.size = w1.heap.size) := (by omega); clear uu))) | (go_at_call 74; refine (parts_v _ q l _ (Rb.out.kept (Grew.keeps (by (repeat (first | with_reducible exact Grew.refl _ | with_reducible refine Grew.setCell ?_ (by simp <;> omega) _ | with_reducible refine Grew.alloc ?_ _ | with_reducible refine Grew.drew ?_ | with_reducible apply Grew.trans ?_ g1 ))))) hl hs2.out.2).mono ?_; rintro e w2 ⟨V2, rfl, hV2, g2⟩; have zn2 : w1.heap.size ≤ w2.heap.size := (by have t := g2.size; (try simp at t); omega); obtain ⟨b4, A4, n4, c4, C4, m4, d4, rfl, X2⟩ := hV2.laid; clear hV2; (try replace h0_0 : Res3 w2 (W0.heap.size) 0 (.bool false) (.slice none 0 0) (.slice none 0 0) := h0_0.grew (by (repeat (first | with_reducible exact Grew.refl _ | with_reducible refine Grew.setCell ?_ (by simp <;> omega) _ | with_reducible refine Grew.alloc ?_ _ | with_reducible refine Grew.drew ?_ | with_reducible apply Grew.trans ?_ g2 )))); (try replace h0_1 : Res3 w2 (W0.heap.size + 1) 0 (.bool false) (.slice none 0 0) (.slice none 0 0) := h0_1.grew (by (repeat (first | with_reducible exact Grew.refl _ | with_reducible refine Grew.setCell ?_ (by simp <;> omega) _ | with_reducible refine Grew.alloc ?_ _ | with_reducible refine Grew.drew ?_ | with_reducible apply Grew.trans ?_ g2 )))); (first | (with_reducible have tt := res_new2 g2; have h1_0 := tt.1; have h1_1 := tt.2; clear tt) | (with_reducible have tt := res_new2D g2; have h1_0 := tt.1; have h1_1 := tt.2; clear tt) | (with_reducible have h1_0 := res_new g2) | (with_reducible have h1_0 := res_newD g2) | skip); (try (have uu := Res3.lt h0_0; have ne0_2a : ¬ (w2.heap.size = W0.heap.size) := (by omega); have ne0_2b : ¬ (W0.heap.size = w2.heap.size) := (by omega); clear uu)); (try (have uu := Res3.lt h1_0; have ne1_2a : ¬ (w2.heap.size = w1.heap.size) := (by omega); have ne1_2b : ¬ (w1.heap.size = w2.heap.size) := (by omega); clear uu)); (try (have tt := h0_0; obtain ⟨h0_00, h0_01, h0_02, h0_0f0, h0_0f1, h0_0f2, h0_0s⟩ := tt)); (try (have tt := h0_1; obtain ⟨h0_10, h0_11, h0_12, h0_1f0, h0_1f1, h0_1f2, h0_1s⟩ := tt)); (try (have tt := h1_0; obtain ⟨h1_00, h1_01, h1_02, h1_0f0, h1_0f1, h1_0f2, h1_0s⟩ := tt)); (try (have tt := h1_1; obtain ⟨h1_10, h1_11, h1_12, h1_1f0, h1_1f1, h1_1f2, h1_1s⟩ := tt))))
    all_goals
      go_wp2_with fail
      go_meet
      have XX1 := Lib.hid (X1.out.kept (Grew.keeps (w := w1) (w' := w2) (by (repeat (first | with_reducible exact Grew.refl _ | with_reducible refine Grew.setCell ?_ (by simp <;> omega) _ | with_reducible refine Grew.alloc ?_ _ | with_reducible refine Grew.drew ?_ | with_reducible apply Grew.trans ?_ g2 )))))
      have XX2 := Lib.hid (X2.out.kept (Grew.keeps (w := w2) (w' := w2) (by (repeat (first | with_reducible exact Grew.refl _ | with_reducible refine Grew.setCell ?_ (by simp <;> omega) _ | with_reducible refine Grew.alloc ?_ _ | with_reducible refine Grew.drew ?_ )))))
      refine ⟨_, _, rfl, ?_, ?_, rfl, ?_, ?_, ?_⟩
      · repeat (first | with_reducible exact h0_0  | with_reducible exact h0_1  | with_reducible exact h1_0  | with_reducible exact h1_1 | with_reducible exact Keeps.refl _ | with_reducible refine At3.of_store (w := w2) (Rd.ratQ _ _) ?_ ?_ XX1.out | with_reducible refine At3.of_alloc (w := w2) (Rd.ratQ _ _) (by simp) ?_ XX1.out | with_reducible refine At3.store_far (Rd.ratQ _ _) ?_ ?_ (by omega) | with_reducible refine At3.grew (Rd.ratQ _ _) ?_ ((Grew.refl _).alloc _) | with_reducible refine Keeps.store ?_ ?_ | with_reducible refine Keeps.alloc ?_ | with_reducible refine Res3.store_far ?_ ?_ (by omega))
      · omega
      · repeat (first | with_reducible exact h0_0  | with_reducible exact h0_1  | with_reducible exact h1_0  | with_reducible exact h1_1 | with_reducible exact Keeps.refl _ | with_reducible refine At3.of_store (w := w2) (Rd.ratQ _ _) ?_ ?_ XX2.out | with_reducible refine At3.of_alloc (w := w2) (Rd.ratQ _ _) (by simp) ?_ XX2.out | with_reducible refine At3.store_far (Rd.ratQ _ _) ?_ ?_ (by omega) | with_reducible refine At3.grew (Rd.ratQ _ _) ?_ ((Grew.refl _).alloc _) | with_reducible refine Keeps.store ?_ ?_ | with_reducible refine Keeps.alloc ?_ | with_reducible refine Res3.store_far ?_ ?_ (by omega))
      · omega
      · (repeat (first | with_reducible exact Grew.refl _ | with_reducible refine Grew.setCell ?_ (by simp <;> omega) _ | with_reducible refine Grew.alloc ?_ _ | with_reducible refine Grew.drew ?_ | with_reducible apply Grew.trans ?_ g2 | with_reducible apply Grew.trans ?_ g1 ))
  obtain ⟨e5, e6, rfl, L, E5, rfl, M, E6, GA⟩ := hcut
  replace P := Lib.hid (P.out.grew GA)
  replace Q := Lib.hid (Q.out.grew GA)
  replace z0 := Lib.hid (lt_grew z0.out GA)
  replace z1 := Lib.hid (lt_grew z1.out GA)
  replace Ra := Lib.hid (Ra.out.kept GA.keeps)
  replace Rb := Lib.hid (Rb.out.kept GA.keeps)
  replace G0 := Lib.hid (G0.out.trans GA)
  obtain ⟨b105, A105, n105, c105, C105, m105, d105, L, XL, Z5⟩ := L
  replace L := Lib.hid L
  replace XL := Lib.hid XL
  replace Z5 := Lib.hid Z5
  clear E5
  obtain ⟨b106, A106, n106, c106, C106, m106, d106, M, XM, Z6⟩ := M
  replace M := Lib.hid M
  replace XM := Lib.hid XM
  replace Z6 := Lib.hid Z6
  clear E6
  clear GA
  obtain ⟨z, D, Ez, hD, Wz, Nz, k1, k2, -, -⟩ := XL.out.parts
  obtain ⟨y, E, Ey, hE, Wy, Ny, l1, l2, -, -⟩ := XM.out.parts
  -- Wz Nz Wy Ny
  have hs3 : k < 1099511627776 ∧ l < 1099511627776 ∧ k + l < 1099511627776 ∧ l + k < 1099511627776 ∧ (k + l < 549755813888 ∧ l + k < 549755813888) := by omega
  replace hs3 := Lib.hid hs3
  have r1 := Lib.hid (fun h : sg z ≠ sg y => (show cmpQ p q = if sg z < sg y then -1 else 1 by rw [← Ez.out, ← Ey.out]; exact cmpQ_sg_ne hD hE h))
  have r2 : cmpQ p q = cmpZ (z * E) (y * D) := by rw [← Ez.out, ← Ey.out]; exact cmpQ_mkRat z y D E hD hE
  have hm1 := Lib.hid (len_mulz z E k l k1 (by simpa using l2))
  have hm2 := Lib.hid (len_mulz y D l k l1 (by simpa using k2))
  replace r2 := Lib.hid r2
  replace k2 := Lib.hid k2
  replace l2 := Lib.hid l2
  clear hD hE k1 l1 Ez Ey hk hl hs
  go_wp2_with fail
  have gd : Grew wc wc.drew := (Grew.refl wc).drew
  replace P := Lib.hid (P.out.grew gd)
  replace Q := Lib.hid (Q.out.grew gd)
  replace L := Lib.hid (L.out.grew gd)
  replace M := Lib.hid (M.out.grew gd)
  replace z0 := Lib.hid (lt_grew z0.out gd)
  replace z1 := Lib.hid (lt_grew z1.out gd)
  replace Z5 := Lib.hid (lt_grew Z5.out gd)
  replace Z6 := Lib.hid (lt_grew Z6.out gd)
  replace Ra := Lib.hid (Ra.out.kept gd.keeps)
  replace Rb := Lib.hid (Rb.out.kept gd.keeps)
  replace XL := Lib.hid (XL.out.kept gd.keeps)
  replace XM := Lib.hid (XM.out.kept gd.keeps)
  replace Wz := Lib.hid (Wz.out.kept gd.keeps)
  replace Nz := Lib.hid (Nz.out.kept gd.keeps)
  replace Wy := Lib.hid (Wy.out.kept gd.keeps)
  replace Ny := Lib.hid (Ny.out.kept gd.keeps)
  replace gd := Lib.hid gd
  have ZL := L
  have ZM := M
  go_region_held3 (fun w' => w'.cell? ⟨e5, 0, none⟩ = some (.bool b105) ∧ w'.cell? ⟨e5, 1, none⟩ = some (.slice A105 n105 c105) ∧ w'.cell? ⟨e5, 2, none⟩ = some (.slice C105 m105 d105) ∧ w'.cell? ⟨e6, 0, none⟩ = some (.bool b106) ∧ w'.cell? ⟨e6, 1, none⟩ = some (.slice A106 n106 c106) ∧ w'.cell? ⟨e6, 2, none⟩ = some (.slice C106 m106 d106))
    (first | (with_reducible exact ⟨ZL.out.p0, ZL.out.p1, ZL.out.p2, ZM.out.p0, ZM.out.p1, ZM.out.p2⟩) | (with_reducible exact ⟨g3.cell ZL.out.p0, g3.cell ZL.out.p1, g3.cell ZL.out.p2, g3.cell ZM.out.p0, g3.cell ZM.out.p1, g3.cell ZM.out.p2⟩) | (with_reducible exact ⟨(g3.trans g4).cell ZL.out.p0, (g3.trans g4).cell ZL.out.p1, (g3.trans g4).cell ZL.out.p2, (g3.trans g4).cell ZM.out.p0, (g3.trans g4).cell ZM.out.p1, (g3.trans g4).cell ZM.out.p2⟩))
    (first | (go_at_call_of 75 (Value.agg #[.bool b105, .slice A105 n105 c105]); refine (sign_v _ z k _ Wz.out hs3.out.1).mono ?_; rintro e w3 ⟨rfl, g3⟩; replace P := Lib.hid (P.out.grew g3); replace Q := Lib.hid (Q.out.grew g3); replace L := Lib.hid (L.out.grew g3); replace M := Lib.hid (M.out.grew g3); replace z0 := Lib.hid (lt_grew z0.out g3); replace z1 := Lib.hid (lt_grew z1.out g3); replace Z5 := Lib.hid (lt_grew Z5.out g3); replace Z6 := Lib.hid (lt_grew Z6.out g3); replace Ra := Lib.hid (Ra.out.kept g3.keeps); replace Rb := Lib.hid (Rb.out.kept g3.keeps); replace XL := Lib.hid (XL.out.kept g3.keeps); replace XM := Lib.hid (XM.out.kept g3.keeps); replace Wz := Lib.hid (Wz.out.kept g3.keeps); replace Nz := Lib.hid (Nz.out.kept g3.keeps); replace Wy := Lib.hid (Wy.out.kept g3.keeps); replace Ny := Lib.hid (Ny.out.kept g3.keeps)) | (go_at_call 75; refine (sign_v _ y l _ Wy.out hs3.out.2.1).mono ?_; rintro e w4 ⟨rfl, g4⟩; replace P := Lib.hid (P.out.grew g4); replace Q := Lib.hid (Q.out.grew g4); replace L := Lib.hid (L.out.grew g4); replace M := Lib.hid (M.out.grew g4); replace z0 := Lib.hid (lt_grew z0.out g4); replace z1 := Lib.hid (lt_grew z1.out g4); replace Z5 := Lib.hid (lt_grew Z5.out g4); replace Z6 := Lib.hid (lt_grew Z6.out g4); replace Ra := Lib.hid (Ra.out.kept g4.keeps); replace Rb := Lib.hid (Rb.out.kept g4.keeps); replace XL := Lib.hid (XL.out.kept g4.keeps); replace XM := Lib.hid (XM.out.kept g4.keeps); replace Wz := Lib.hid (Wz.out.kept g4.keeps); replace Nz := Lib.hid (Nz.out.kept g4.keeps); replace Wy := Lib.hid (Wy.out.kept g4.keeps); replace Ny := Lib.hid (Ny.out.kept g4.keeps)))
  replace G0 := Lib.hid (((G0.out.trans gd.out).trans g3).trans g4)
  clear gd g3 g4 ZL ZM
  generalize sg z = s1 at *
  generalize sg y = s2 at *
  rcases Int.lt_trichotomy s1 s2 with h | h | h
  · as_aux_lemma =>
    have e1 : (s1 == s2) = false := by simp; omega
    have e2 : (s1 != s2) = true := by simp; omega
    have e3 := Lib.hid ((r1.out (by omega)).trans (if_pos h))
    go_wp2_with fail
    go_ret
    exact ⟨by rw [e3.out]; rfl, G0.out⟩
  · as_aux_lemma =>
    subst h
    have e1 : (s1 == s1) = true := by simp
    have e2 : (s1 != s1) = false := by simp
    clear r1
    go_wp2_with fail
    have gd : Grew w4 w4.drew := (Grew.refl w4).drew
    replace P := Lib.hid (P.out.grew gd)
    replace Q := Lib.hid (Q.out.grew gd)
    replace L := Lib.hid (L.out.grew gd)
    replace M := Lib.hid (M.out.grew gd)
    replace z0 := Lib.hid (lt_grew z0.out gd)
    replace z1 := Lib.hid (lt_grew z1.out gd)
    replace Z5 := Lib.hid (lt_grew Z5.out gd)
    replace Z6 := Lib.hid (lt_grew Z6.out gd)
    replace Ra := Lib.hid (Ra.out.kept gd.keeps)
    replace Rb := Lib.hid (Rb.out.kept gd.keeps)
    replace XL := Lib.hid (XL.out.kept gd.keeps)
    replace XM := Lib.hid (XM.out.kept gd.keeps)
    replace Wz := Lib.hid (Wz.out.kept gd.keeps)
    replace Nz := Lib.hid (Nz.out.kept gd.keeps)
    replace Wy := Lib.hid (Wy.out.kept gd.keeps)
    replace Ny := Lib.hid (Ny.out.kept gd.keeps)
    replace gd := Lib.hid gd
    have ZL := L
    have ZM := M
    go_region_held3 (fun w' => w'.cell? ⟨e5, 0, none⟩ = some (.bool b105) ∧ w'.cell? ⟨e5, 1, none⟩ = some (.slice A105 n105 c105) ∧ w'.cell? ⟨e5, 2, none⟩ = some (.slice C105 m105 d105) ∧ w'.cell? ⟨e6, 0, none⟩ = some (.bool b106) ∧ w'.cell? ⟨e6, 1, none⟩ = some (.slice A106 n106 c106) ∧ w'.cell? ⟨e6, 2, none⟩ = some (.slice C106 m106 d106))
      (first | (with_reducible exact ⟨ZL.out.p0, ZL.out.p1, ZL.out.p2, ZM.out.p0, ZM.out.p1, ZM.out.p2⟩) | (with_reducible exact ⟨g5.cell ZL.out.p0, g5.cell ZL.out.p1, g5.cell ZL.out.p2, g5.cell ZM.out.p0, g5.cell ZM.out.p1, g5.cell ZM.out.p2⟩) | (with_reducible exact ⟨(g5.trans g6).cell ZL.out.p0, (g5.trans g6).cell ZL.out.p1, (g5.trans g6).cell ZL.out.p2, (g5.trans g6).cell ZM.out.p0, (g5.trans g6).cell ZM.out.p1, (g5.trans g6).cell ZM.out.p2⟩) | (with_reducible exact ⟨((g5.trans g6).trans g7).cell ZL.out.p0, ((g5.trans g6).trans g7).cell ZL.out.p1, ((g5.trans g6).trans g7).cell ZL.out.p2, ((g5.trans g6).trans g7).cell ZM.out.p0, ((g5.trans g6).trans g7).cell ZM.out.p1, ((g5.trans g6).trans g7).cell ZM.out.p2⟩))
      (first | (go_at_call_of 45 (Value.agg #[.bool b105, .slice A105 n105 c105]); refine (wmul_v _ _ z E k l _ Wz.out (Ny.out.whl l2.out) hs3.out.2.2.1).mono ?_; rintro e w5 ⟨V5, rfl, hV5, g5⟩; obtain ⟨b7, A7, n7, c7, rfl, hV5, -⟩ := hV5.laid; have X5 := Lib.hid (hV5.out.v hm1.out); clear hV5; replace P := Lib.hid (P.out.grew g5); replace Q := Lib.hid (Q.out.grew g5); replace L := Lib.hid (L.out.grew g5); replace M := Lib.hid (M.out.grew g5); replace z0 := Lib.hid (lt_grew z0.out g5); replace z1 := Lib.hid (lt_grew z1.out g5); replace Z5 := Lib.hid (lt_grew Z5.out g5); replace Z6 := Lib.hid (lt_grew Z6.out g5); replace Ra := Lib.hid (Ra.out.kept g5.keeps); replace Rb := Lib.hid (Rb.out.kept g5.keeps); replace XL := Lib.hid (XL.out.kept g5.keeps); replace XM := Lib.hid (XM.out.kept g5.keeps); replace Wz := Lib.hid (Wz.out.kept g5.keeps); replace Nz := Lib.hid (Nz.out.kept g5.keeps); replace Wy := Lib.hid (Wy.out.kept g5.keeps); replace Ny := Lib.hid (Ny.out.kept g5.keeps)) | (go_at_call 45; refine (wmul_v _ _ y D l k _ Wy.out (Nz.out.whl k2.out) hs3.out.2.2.2.1).mono ?_; rintro e w6 ⟨V6, rfl, hV6, g6⟩; obtain ⟨b8, A8, n8, c8, rfl, hV6, -⟩ := hV6.laid; have X6 := Lib.hid (hV6.out.v hm2.out); clear hV6; replace P := Lib.hid (P.out.grew g6); replace Q := Lib.hid (Q.out.grew g6); replace L := Lib.hid (L.out.grew g6); replace M := Lib.hid (M.out.grew g6); replace z0 := Lib.hid (lt_grew z0.out g6); replace z1 := Lib.hid (lt_grew z1.out g6); replace Z5 := Lib.hid (lt_grew Z5.out g6); replace Z6 := Lib.hid (lt_grew Z6.out g6); replace Ra := Lib.hid (Ra.out.kept g6.keeps); replace Rb := Lib.hid (Rb.out.kept g6.keeps); replace XL := Lib.hid (XL.out.kept g6.keeps); replace XM := Lib.hid (XM.out.kept g6.keeps); replace Wz := Lib.hid (Wz.out.kept g6.keeps); replace Nz := Lib.hid (Nz.out.kept g6.keeps); replace Wy := Lib.hid (Wy.out.kept g6.keeps); replace Ny := Lib.hid (Ny.out.kept g6.keeps); replace X5 := Lib.hid (X5.out.kept g6.keeps)) | (go_at_call 48; refine (wcmp_v _ _ (z * E) (y * D) (k + l) (l + k) _ X5.out X6.out hs3.out.2.2.2.2).mono ?_; rintro e w7 ⟨rfl, g7⟩; replace P := Lib.hid (P.out.grew g7); replace Q := Lib.hid (Q.out.grew g7); replace L := Lib.hid (L.out.grew g7); replace M := Lib.hid (M.out.grew g7); replace z0 := Lib.hid (lt_grew z0.out g7); replace z1 := Lib.hid (lt_grew z1.out g7); replace Z5 := Lib.hid (lt_grew Z5.out g7); replace Z6 := Lib.hid (lt_grew Z6.out g7); replace Ra := Lib.hid (Ra.out.kept g7.keeps); replace Rb := Lib.hid (Rb.out.kept g7.keeps); replace XL := Lib.hid (XL.out.kept g7.keeps); replace XM := Lib.hid (XM.out.kept g7.keeps); replace Wz := Lib.hid (Wz.out.kept g7.keeps); replace Nz := Lib.hid (Nz.out.kept g7.keeps); replace Wy := Lib.hid (Wy.out.kept g7.keeps); replace Ny := Lib.hid (Ny.out.kept g7.keeps); replace X5 := Lib.hid (X5.out.kept g7.keeps); replace X6 := Lib.hid (X6.out.kept g7.keeps)))
    replace G0 := Lib.hid ((((G0.out.trans gd.out).trans g5).trans g6).trans g7)
    clear gd g5 g6 g7 ZL ZM
    go_wp2_with fail
    go_ret
    exact ⟨by rw [r2.out]; rfl, G0.out⟩
  · as_aux_lemma =>
    have e1 : (s1 == s2) = false := by simp; omega
    have e2 : (s1 != s2) = true := by simp; omega
    have h' : ¬ s1 < s2 := by omega
    have e3 := Lib.hid ((r1.out (by omega)).trans (if_neg h'))
    go_wp2_with fail
    go_ret
    exact ⟨by rw [e3.out]; rfl, G0.out⟩
end Go.Proofs.YtpglnfccmhkocaaGreat
