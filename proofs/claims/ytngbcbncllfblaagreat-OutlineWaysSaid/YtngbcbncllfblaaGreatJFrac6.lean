/- (ratio).mul. Condition: what comes in reads; fewer than 2^39 words. (ratio).add. Condition: what comes in reads; fewer than 2^39 words. (ratio).sub, (ratio).frac. Condition: what comes in reads; fewer than 2^39 words. frac.two of add, sub, mul; frac.Add, Sub, Mul; frac.Reduce, Int, Half. Condition: what comes in reads; fewer than 2^39 words. -/
import Derived.Test.YtngbcbncllfblaaGreatJWv
namespace Go.Proofs.YtngbcbncllfblaaGreat
open Go.RowKit

end Go.Proofs.YtngbcbncllfblaaGreat
namespace Go.Proofs.YtngbcbncllfblaaGreat
open Go.RowKit

end Go.Proofs.YtngbcbncllfblaaGreat
namespace Go.Proofs.YtngbcbncllfblaaGreat
open Go.RowKit

set_option maxRecDepth 100000 in
set_option maxHeartbeats 4000000 in
theorem rfrac_any (Va : Value) (q : Rat) (k : Nat) (w : World) (ha : RatQ w Va q k) (hs : k < 549755813888) :
    Calls Tryz.prog 188 #[Va] w fun e w' => ∃ V, e = .returned V ∧ FracC w' V q ∧ Grew w w' := by
  obtain ⟨z, D, h, rfl, k1, k2⟩ := ha
  obtain ⟨b1, A1, n1, c1, C1, m1, d1, rfl, R1, EE⟩ := h.laid
  obtain ⟨hb, hn, hm, Nz, ND, hD⟩ := EE.out
  have hb2 := Lib.hid hb
  have Wz : Whl w (.agg #[.bool b1, .slice A1 n1 c1]) z := ⟨_, by rw [hb], by rw [← hn]; exact Nz⟩
  replace Wz := Lib.hid Wz
  replace Nz := Lib.hid Nz
  replace ND := Lib.hid ND
  replace hm := Lib.hid hm
  clear EE h hb
  by_cases hz : z = 0
  · as_aux_lemma =>
    subst hz
    rw [show len 4294967296 (0 : Int).natAbs = 0 from rfl] at hn
    subst hn
    clear hD k1 k2 hs
    go_enter Tryz.func188, Tryz.ntmps188
    go_wp2_with fail
    refine gen_calls ?_
    intro W0 hW0
    have G0 : Grew w W0 := by rw [hW0]; exact ((Grew.refl w).alloc _).alloc _
    have P : Box3 W0 (w.heap.size) 0 (.bool b1) (.slice A1 0 c1) (.slice C1 m1 d1) := by rw [hW0]; exact ⟨by simp [go_sem], by simp [go_sem], by simp [go_sem]⟩
    replace P := Lib.hid P
    have R : Res3 W0 (w.heap.size + 1) 0 (.bool false) (.slice none 0 0) (.slice none 0 0) := by rw [hW0]; exact ⟨by simp [go_sem], by simp [go_sem], by simp [go_sem], by simp [go_sem], by simp [go_sem], by simp [go_sem], by simp⟩
    replace R := Lib.hid R
    have z0 : w.heap.size < W0.heap.size := by rw [hW0]; simp <;> omega
    replace z0 := Lib.hid z0
    have z1 : w.heap.size + 1 < W0.heap.size := by rw [hW0]; simp <;> omega
    replace z1 := Lib.hid z1
    clear hW0
    replace Nz := Lib.hid (Nz.out.kept G0.keeps)
    replace G0 := Lib.hid G0
    refine (unit_any _).mono ?_
    rintro e w1 ⟨V1, rfl, hV1, g1⟩
    obtain ⟨A3, c3, rfl, X1⟩ := hV1.slice
    clear hV1
    replace R := Lib.hid (R.out.grew g1)
    replace P := Lib.hid (P.out.grew g1)
    replace z0 := Lib.hid (lt_grew z0.out g1)
    replace z1 := Lib.hid (lt_grew z1.out g1)
    replace Nz := Lib.hid (Nz.out.kept g1.keeps)
    replace G0 := Lib.hid (G0.out.trans g1)
    clear g1
    obtain ⟨R0, R1, R2, Rf0, Rf1, Rf2, Rs⟩ := R.out
    go_wp2_with fail
    refine gen_post ?_
    intro W9 hW9
    obtain ⟨q0, q1, q2, qK, -, -, qs, qG⟩ := store3 (o := 0) R0 R1 R2 hW9
    have GE := qG w (.inr (by omega)) G0.out
    have QK := Lib.hid qK
    clear qK qG hW9 R0 R1 R2
    exact bodyPost_ret (v := .agg #[.bool false, .slice none 0 0, .slice A3 (len 4294967296 1) c3]) (by simp [results, Tryz.results188, go_sem, q0, q1, q2]) rfl ⟨_, rfl, FracC.mk (Whl.of_num (neg := false) (by rw [len_zero]; exact Num.nil _ _ _)) (X1.out.kept QK.out) rfl (by simp [sgn]) (by simp), GE⟩
  · have hn0 : len 4294967296 z.natAbs ≠ 0 := fun e => hz (by have := (len_eq_zero (B := 4294967296) (by omega)).1 e; omega)
    have hnb : ((n1 : Int) == 0) = false := by simp; omega
    have Hn := Lib.hid hn
    clear hn hn0
    have hs1 : len 4294967296 z.natAbs < 549755813888 ∧ len 4294967296 D < 549755813888 := by omega
    replace hs1 := Lib.hid hs1
    go_enter Tryz.func188, Tryz.ntmps188
    go_wp2_with fail
    refine gen_calls ?_
    intro W0 hW0
    have G0 : Grew w W0 := by rw [hW0]; exact ((Grew.refl w).alloc _).alloc _
    have P : Box3 W0 (w.heap.size) 0 (.bool b1) (.slice A1 n1 c1) (.slice C1 m1 d1) := by rw [hW0]; exact ⟨by simp [go_sem], by simp [go_sem], by simp [go_sem]⟩
    replace P := Lib.hid P
    have R : Res3 W0 (w.heap.size + 1) 0 (.bool false) (.slice none 0 0) (.slice none 0 0) := by rw [hW0]; exact ⟨by simp [go_sem], by simp [go_sem], by simp [go_sem], by simp [go_sem], by simp [go_sem], by simp [go_sem], by simp⟩
    replace R := Lib.hid R
    have z0 : w.heap.size < W0.heap.size := by rw [hW0]; simp <;> omega
    replace z0 := Lib.hid z0
    have z1 : w.heap.size + 1 < W0.heap.size := by rw [hW0]; simp <;> omega
    replace z1 := Lib.hid z1
    clear hW0
    replace Nz := Lib.hid (Nz.out.kept G0.keeps)
    replace ND := Lib.hid (ND.out.kept G0.keeps)
    replace Wz := Lib.hid (Wz.out.kept G0.keeps)
    replace G0 := Lib.hid G0
    refine (isUnit_g _ D _ _ ND.out hm.out).mono ?_
    rintro e w1 ⟨rfl, g1⟩
    replace R := Lib.hid (R.out.grew g1)
    replace P := Lib.hid (P.out.grew g1)
    replace z0 := Lib.hid (lt_grew z0.out g1)
    replace z1 := Lib.hid (lt_grew z1.out g1)
    replace Nz := Lib.hid (Nz.out.kept g1.keeps)
    replace ND := Lib.hid (ND.out.kept g1.keeps)
    replace Wz := Lib.hid (Wz.out.kept g1.keeps)
    replace G0 := Lib.hid (G0.out.trans g1)
    clear g1

    by_cases hD1 : D = 1
    · as_aux_lemma =>
      subst hD1
      have e1 : decide (1 = 1) = true := rfl
      rw [e1]
      clear e1 hs k1 k2
      obtain ⟨P0, P1, P2⟩ := P.out
      go_wp2_with fail
      clear P0 P1 P2
      have gd : Grew w1 w1.drew := (Grew.refl w1).drew
      replace R := Lib.hid (R.out.grew gd)
      replace P := Lib.hid (P.out.grew gd)
      replace z0 := Lib.hid (lt_grew z0.out gd)
      replace z1 := Lib.hid (lt_grew z1.out gd)
      replace Nz := Lib.hid (Nz.out.kept gd.keeps)
      replace ND := Lib.hid (ND.out.kept gd.keeps)
      replace Wz := Lib.hid (Wz.out.kept gd.keeps)
      replace gd := Lib.hid gd
      have ZP := P
      go_region_held3 (fun w' => w'.cell? ⟨w.heap.size, 0, none⟩ = some (.bool b1) ∧ w'.cell? ⟨w.heap.size, 1, none⟩ = some (.slice A1 n1 c1) ∧ w'.cell? ⟨w.heap.size, 2, none⟩ = some (.slice C1 m1 d1))
        (first | (with_reducible exact ⟨ZP.out.p0, ZP.out.p1, ZP.out.p2⟩) | (with_reducible exact ⟨g2.cell ZP.out.p0, g2.cell ZP.out.p1, g2.cell ZP.out.p2⟩) | (with_reducible exact ⟨other3 (o := 0) (by omega) (g2.cell ZP.out.p0), other3 (o := 0) (by omega) (g2.cell ZP.out.p1), other3 (o := 0) (by omega) (g2.cell ZP.out.p2)⟩))
        (first | (go_at_call 110; refine (unit_any _).mono ?_; rintro e w2 ⟨V1, rfl, hV1, g2⟩; obtain ⟨A3, c3, rfl, X1⟩ := hV1.slice; clear hV1; replace R := Lib.hid (R.out.grew g2); replace P := Lib.hid (P.out.grew g2); replace z0 := Lib.hid (lt_grew z0.out g2); replace z1 := Lib.hid (lt_grew z1.out g2); replace Nz := Lib.hid (Nz.out.kept g2.keeps); replace ND := Lib.hid (ND.out.kept g2.keeps); replace Wz := Lib.hid (Wz.out.kept g2.keeps); obtain ⟨R0, R1, R2, Rf0, Rf1, Rf2, Rs⟩ := R.out))
      replace G0 := Lib.hid ((G0.out.trans gd.out).trans g2)
      clear gd g2 ZP
      refine gen_then ?_
      intro W9 hW9
      obtain ⟨q0, q1, q2, qK, -, -, qs, qG⟩ := store3 (o := 0) R0 R1 R2 hW9
      have GE := qG w (.inr (by omega)) G0.out
      have QK := Lib.hid qK
      clear qK qG hW9 R0 R1 R2
      go_wp2_with fail
      exact bodyPost_ret (v := .agg #[.bool b1, .slice A1 n1 c1, .slice A3 (len 4294967296 1) c3]) (by simp [results, Tryz.results188, go_sem, q0, q1, q2]) rfl ⟨_, rfl, FracC.mk (Wz.out.kept QK.out) (X1.out.kept QK.out) rfl (by rw [Rat.num_mkRat]; simp) (by rw [Rat.den_mkRat]; simp), GE⟩
    · as_aux_lemma =>

      have e1 : decide (D = 1) = false := by simpa using hD1
      rw [e1]
      have eN := Lib.hid (mkRat_num_sgn z D hD)
      have eD := Lib.hid (mkRat_den_gcd z D hD)
      have hx : len 4294967296 (z.natAbs / Nat.gcd z.natAbs D) < 1099511627776 := Nat.lt_of_le_of_lt (len_mono (by omega) (Nat.div_le_self _ _)) (by omega)
      replace hx := Lib.hid hx
      clear e1 hD1 hD hz hs k1 k2
      obtain ⟨P0, P1, P2⟩ := P.out
      go_wp2_with fail
      clear P0 P1 P2
      refine (reduce_any _ _ z.natAbs D _ _ _ Nz.out ND.out hs1.out.1 hs1.out.2).mono ?_
      rintro e w2 ⟨x, y, rfl, hx1, hy1, g2⟩
      obtain ⟨A3, c3, rfl, X1⟩ := hx1.slice
      obtain ⟨A4, c4, rfl, X2⟩ := hy1.slice
      clear hx1 hy1
      replace R := Lib.hid (R.out.grew g2)
      replace P := Lib.hid (P.out.grew g2)
      replace z0 := Lib.hid (lt_grew z0.out g2)
      replace z1 := Lib.hid (lt_grew z1.out g2)
      replace Nz := Lib.hid (Nz.out.kept g2.keeps)
      replace ND := Lib.hid (ND.out.kept g2.keeps)
      replace Wz := Lib.hid (Wz.out.kept g2.keeps)
      replace G0 := Lib.hid (G0.out.trans g2)
      clear g2
      obtain ⟨P0, P1, P2⟩ := P.out
      go_wp2_with fail
      clear P0 P1 P2
      refine (make_any _ _ (z.natAbs / Nat.gcd z.natAbs D) _ _ X1.out hx.out).mono ?_
      rintro e w3 ⟨V3, rfl, hV3, g3⟩
      obtain ⟨b5, A5, n5, c5, rfl, X3, -⟩ := hV3.laid
      clear hV3
      replace R := Lib.hid (R.out.grew g3)
      replace P := Lib.hid (P.out.grew g3)
      replace z0 := Lib.hid (lt_grew z0.out g3)
      replace z1 := Lib.hid (lt_grew z1.out g3)
      replace Nz := Lib.hid (Nz.out.kept g3.keeps)
      replace ND := Lib.hid (ND.out.kept g3.keeps)
      replace Wz := Lib.hid (Wz.out.kept g3.keeps)
      replace X1 := Lib.hid (X1.out.kept g3.keeps)
      replace X2 := Lib.hid (X2.out.kept g3.keeps)
      replace G0 := Lib.hid (G0.out.trans g3)
      clear g3
      obtain ⟨R0, R1, R2, Rf0, Rf1, Rf2, Rs⟩ := R.out
      go_wp2_with fail
      refine gen_post ?_
      intro W9 hW9
      obtain ⟨q0, q1, q2, qK, -, -, qs, qG⟩ := store3 (o := 0) R0 R1 R2 hW9
      have GE := qG w (.inr (by omega)) G0.out
      have QK := Lib.hid qK
      clear qK qG hW9 R0 R1 R2
      exact bodyPost_ret (v := .agg #[.bool b5, .slice A5 n5 c5, .slice A4 (len 4294967296 (D / Nat.gcd z.natAbs D)) c4]) (by simp [results, Tryz.results188, go_sem, q0, q1, q2]) rfl ⟨_, rfl, FracC.mk (X3.out.kept QK.out) (X2.out.kept QK.out) rfl (by rw [hb2.out]; exact eN.out) eD.out, GE⟩
end Go.Proofs.YtngbcbncllfblaaGreat
namespace Go.Proofs.YtngbcbncllfblaaGreat
open Go.RowKit

set_option maxRecDepth 100000 in
set_option maxHeartbeats 4000000 in
theorem freduce_any (Va : Value) (p : Rat) (k : Nat) (w : World) (ha : FracV w Va p k) (hk : 1 ≤ k) (hs : k < 549755813888) :
    Calls Tryz.prog 133 #[Va] w fun e w' => ∃ V, e = .returned V ∧ FracC w' V p ∧ Grew w w' := by
  obtain ⟨b1, A1, n1, c1, C1, m1, d1, rfl, Ra⟩ := ha.laid
  clear ha
  go_enter Tryz.func133, Tryz.ntmps133
  go_wp2_with fail
  refine gen_calls ?_
  intro W0 hW0
  have G0 : Grew w W0 := by rw [hW0]; exact ((Grew.refl w).alloc _).alloc _
  have P : Box3 W0 (w.heap.size) 0 (.bool b1) (.slice A1 n1 c1) (.slice C1 m1 d1) := by rw [hW0]; exact ⟨by simp [go_sem], by simp [go_sem], by simp [go_sem]⟩
  replace P := Lib.hid P
  have R : Res3 W0 (w.heap.size + 1) 0 (.bool false) (.slice none 0 0) (.slice none 0 0) := by rw [hW0]; exact ⟨by simp [go_sem], by simp [go_sem], by simp [go_sem], by simp [go_sem], by simp [go_sem], by simp [go_sem], by simp⟩
  replace R := Lib.hid R
  have z0 : w.heap.size < W0.heap.size := by rw [hW0]; simp <;> omega
  replace z0 := Lib.hid z0
  have z1 : w.heap.size + 1 < W0.heap.size := by rw [hW0]; simp <;> omega
  replace z1 := Lib.hid z1
  clear hW0
  replace Ra := Lib.hid (Ra.out.kept G0.keeps)
  replace G0 := Lib.hid G0
  refine (parts_v _ p k _ Ra.out hk hs).mono ?_
  rintro e w1 ⟨V1, rfl, hV1, g1⟩
  obtain ⟨b3, A3, n3, c3, C3, m3, d3, rfl, X1⟩ := hV1.laid
  clear hV1
  replace R := Lib.hid (R.out.grew g1)
  replace P := Lib.hid (P.out.grew g1)
  replace z0 := Lib.hid (lt_grew z0.out g1)
  replace z1 := Lib.hid (lt_grew z1.out g1)
  replace Ra := Lib.hid (Ra.out.kept g1.keeps)
  replace G0 := Lib.hid (G0.out.trans g1)
  clear g1
  go_wp2_with fail
  refine (rfrac_any _ _ _ _ X1.out hs).mono ?_
  rintro e w2 ⟨V2, rfl, hV2, g2⟩
  obtain ⟨b4, A4, n4, c4, C4, m4, d4, rfl, X2⟩ := hV2.laid
  clear hV2
  replace R := Lib.hid (R.out.grew g2)
  replace P := Lib.hid (P.out.grew g2)
  replace z0 := Lib.hid (lt_grew z0.out g2)
  replace z1 := Lib.hid (lt_grew z1.out g2)
  replace Ra := Lib.hid (Ra.out.kept g2.keeps)
  replace X1 := Lib.hid (X1.out.kept g2.keeps)
  replace G0 := Lib.hid (G0.out.trans g2)
  clear g2
  obtain ⟨R0, R1, R2, Rf0, Rf1, Rf2, Rs⟩ := R.out
  go_wp2_with fail
  refine gen_post ?_
  intro W9 hW9
  obtain ⟨q0, q1, q2, qK, -, -, qs, qG⟩ := store3 (o := 0) R0 R1 R2 hW9
  have GE := qG w (.inr (by omega)) G0.out
  have QK := Lib.hid qK
  clear qK qG hW9 R0 R1 R2
  exact bodyPost_ret (v := .agg #[.bool b4, .slice A4 n4 c4, .slice C4 m4 d4]) (by simp [results, Tryz.results133, go_sem, q0, q1, q2]) rfl ⟨_, rfl, X2.out.kept QK.out, GE⟩

set_option maxRecDepth 100000 in
set_option maxHeartbeats 4000000 in
theorem fint_any (x : Int) (w : World) (h0 : -9223372036854775808 ≤ x) (h1 : x ≤ 9223372036854775807) :
    Calls Tryz.prog 59 #[.int .i64 x] w fun e w' => ∃ V, e = .returned V ∧ FracC w' V (x : Rat) ∧ Grew w w' := by
  go_enter Tryz.func59, Tryz.ntmps59
  go_wp2_with fail
  refine gen_calls ?_
  intro W0 hW0
  have G0 : Grew w W0 := by rw [hW0]; exact (Grew.refl w).alloc _
  have R : Res3 W0 (w.heap.size) 0 (.bool false) (.slice none 0 0) (.slice none 0 0) := by rw [hW0]; exact ⟨by simp [go_sem], by simp [go_sem], by simp [go_sem], by simp [go_sem], by simp [go_sem], by simp [go_sem], by simp⟩
  replace R := Lib.hid R
  have z0 : w.heap.size < W0.heap.size := by rw [hW0]; simp <;> omega
  replace z0 := Lib.hid z0
  clear hW0
  replace G0 := Lib.hid G0
  refine (wof_any x _ h0 h1).mono ?_
  rintro e w1 ⟨V1, rfl, hV1, g1⟩
  obtain ⟨b3, A3, n3, c3, rfl, X1, -⟩ := hV1.laid
  clear hV1
  replace R := Lib.hid (R.out.grew g1)
  replace z0 := Lib.hid (lt_grew z0.out g1)
  replace G0 := Lib.hid (G0.out.trans g1)
  clear g1
  go_wp2_with fail
  refine (unit_any _).mono ?_
  rintro e w2 ⟨V2, rfl, hV2, g2⟩
  obtain ⟨A4, c4, rfl, X2⟩ := hV2.slice
  clear hV2
  replace R := Lib.hid (R.out.grew g2)
  replace z0 := Lib.hid (lt_grew z0.out g2)
  replace X1 := Lib.hid (X1.out.kept g2.keeps)
  replace G0 := Lib.hid (G0.out.trans g2)
  clear g2
  obtain ⟨R0, R1, R2, Rf0, Rf1, Rf2, Rs⟩ := R.out
  go_wp2_with fail
  refine gen_post ?_
  intro W9 hW9
  obtain ⟨q0, q1, q2, qK, -, -, qs, qG⟩ := store3 (o := 0) R0 R1 R2 hW9
  have GE := qG w (.inr (by omega)) G0.out
  have QK := Lib.hid qK
  clear qK qG hW9 R0 R1 R2
  exact bodyPost_ret (v := .agg #[.bool b3, .slice A3 n3 c3, .slice A4 (len 4294967296 1) c4]) (by simp [results, Tryz.results59, go_sem, q0, q1, q2]) rfl ⟨_, rfl, FracC.mk (X1.out.kept QK.out) (X2.out.kept QK.out) rfl rfl rfl, GE⟩

end Go.Proofs.YtngbcbncllfblaaGreat
