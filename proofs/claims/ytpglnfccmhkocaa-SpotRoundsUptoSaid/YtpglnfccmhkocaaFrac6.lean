/- frac.two of add, sub, mul; frac.Add, Sub, Mul; frac.Reduce, Int, Half. Condition: what comes in reads; fewer than 2^39 words. -/
import Derived.Test.YtpglnfccmhkocaaFrac5
namespace Go.Proofs.Ytpglnfccmhkocaa
open Go.RowKit

set_option maxRecDepth 100000 in
set_option maxHeartbeats 4000000 in
theorem two_add (Va Vb : Value) (p q : Rat) (k l : Nat) (w : World) (ha : FracV w Va p k) (hb : FracV w Vb q l) (hk : 1 ≤ k) (hl : 1 ≤ l) (hs : k + l < 549755813887) :
    Calls Try.prog 56 #[.func (.func 55) #[] #[], Va, Vb] w fun e w' => ∃ V, e = .returned V ∧ FracC w' V (p + q) ∧ Grew w w' := by
  obtain ⟨b1, A1, n1, c1, C1, m1, d1, rfl, Ra⟩ := ha.laid
  obtain ⟨b2, A2, n2, c2, C2, m2, d2, rfl, Rb⟩ := hb.laid
  have hs2 : k < 549755813888 ∧ l < 549755813888 ∧ (k + l + 1) < 549755813888 := by omega
  replace hs := Lib.hid hs
  replace hs2 := Lib.hid hs2
  clear ha hb
  go_enter Try.func56, Try.ntmps56
  go_wp2_with fail
  refine gen_wp ?_
  intro W0 hW0
  have G0 : Grew w W0 := by rw [hW0]; exact (((Grew.refl w).alloc _).alloc _).alloc _
  have P : Box3 W0 (w.heap.size) 0 (.bool b1) (.slice A1 n1 c1) (.slice C1 m1 d1) := by rw [hW0]; exact ⟨by simp [go_sem], by simp [go_sem], by simp [go_sem]⟩
  replace P := Lib.hid P
  have Q : Box3 W0 (w.heap.size + 1) 0 (.bool b2) (.slice A2 n2 c2) (.slice C2 m2 d2) := by rw [hW0]; exact ⟨by simp [go_sem], by simp [go_sem], by simp [go_sem]⟩
  replace Q := Lib.hid Q
  have R : Res3 W0 (w.heap.size + 1 + 1) 0 (.bool false) (.slice none 0 0) (.slice none 0 0) := by rw [hW0]; exact ⟨by simp [go_sem], by simp [go_sem], by simp [go_sem], by simp [go_sem], by simp [go_sem], by simp [go_sem], by simp⟩
  replace R := Lib.hid R
  have z0 : w.heap.size < W0.heap.size := by rw [hW0]; simp <;> omega
  replace z0 := Lib.hid z0
  have z1 : w.heap.size + 1 < W0.heap.size := by rw [hW0]; simp <;> omega
  replace z1 := Lib.hid z1
  have z2 : w.heap.size + 1 + 1 < W0.heap.size := by rw [hW0]; simp <;> omega
  replace z2 := Lib.hid z2
  clear hW0
  replace Ra := Lib.hid (Ra.out.kept G0.keeps)
  replace Rb := Lib.hid (Rb.out.kept G0.keeps)
  replace G0 := Lib.hid G0
  have gd : Grew W0 W0.drew := (Grew.refl W0).drew
  replace R := Lib.hid (R.out.grew gd)
  replace P := Lib.hid (P.out.grew gd)
  replace Q := Lib.hid (Q.out.grew gd)
  replace z0 := Lib.hid (lt_grew z0.out gd)
  replace z1 := Lib.hid (lt_grew z1.out gd)
  replace z2 := Lib.hid (lt_grew z2.out gd)
  replace Ra := Lib.hid (Ra.out.kept gd.keeps)
  replace Rb := Lib.hid (Rb.out.kept gd.keeps)
  replace gd := Lib.hid gd
  have ZP := P
  have ZQ := Q
  go_region_held3 (fun w' => w'.cell? ⟨w.heap.size, 0, none⟩ = some (.bool b1) ∧ w'.cell? ⟨w.heap.size, 1, none⟩ = some (.slice A1 n1 c1) ∧ w'.cell? ⟨w.heap.size, 2, none⟩ = some (.slice C1 m1 d1) ∧ w'.cell? ⟨w.heap.size + 1, 0, none⟩ = some (.bool b2) ∧ w'.cell? ⟨w.heap.size + 1, 1, none⟩ = some (.slice A2 n2 c2) ∧ w'.cell? ⟨w.heap.size + 1, 2, none⟩ = some (.slice C2 m2 d2))
    (first | (with_reducible exact ⟨ZP.out.p0, ZP.out.p1, ZP.out.p2, ZQ.out.p0, ZQ.out.p1, ZQ.out.p2⟩) | (with_reducible exact ⟨g1.cell ZP.out.p0, g1.cell ZP.out.p1, g1.cell ZP.out.p2, g1.cell ZQ.out.p0, g1.cell ZQ.out.p1, g1.cell ZQ.out.p2⟩) | (with_reducible exact ⟨(g1.trans g2).cell ZP.out.p0, (g1.trans g2).cell ZP.out.p1, (g1.trans g2).cell ZP.out.p2, (g1.trans g2).cell ZQ.out.p0, (g1.trans g2).cell ZQ.out.p1, (g1.trans g2).cell ZQ.out.p2⟩) | (with_reducible exact ⟨((g1.trans g2).trans g3).cell ZP.out.p0, ((g1.trans g2).trans g3).cell ZP.out.p1, ((g1.trans g2).trans g3).cell ZP.out.p2, ((g1.trans g2).trans g3).cell ZQ.out.p0, ((g1.trans g2).trans g3).cell ZQ.out.p1, ((g1.trans g2).trans g3).cell ZQ.out.p2⟩) | (with_reducible exact ⟨(((g1.trans g2).trans g3).trans g4).cell ZP.out.p0, (((g1.trans g2).trans g3).trans g4).cell ZP.out.p1, (((g1.trans g2).trans g3).trans g4).cell ZP.out.p2, (((g1.trans g2).trans g3).trans g4).cell ZQ.out.p0, (((g1.trans g2).trans g3).trans g4).cell ZQ.out.p1, (((g1.trans g2).trans g3).trans g4).cell ZQ.out.p2⟩) | (with_reducible exact ⟨other3 (o := 0) (by omega) ((((g1.trans g2).trans g3).trans g4).cell ZP.out.p0), other3 (o := 0) (by omega) ((((g1.trans g2).trans g3).trans g4).cell ZP.out.p1), other3 (o := 0) (by omega) ((((g1.trans g2).trans g3).trans g4).cell ZP.out.p2), other3 (o := 0) (by omega) ((((g1.trans g2).trans g3).trans g4).cell ZQ.out.p0), other3 (o := 0) (by omega) ((((g1.trans g2).trans g3).trans g4).cell ZQ.out.p1), other3 (o := 0) (by omega) ((((g1.trans g2).trans g3).trans g4).cell ZQ.out.p2)⟩))
    (first | (go_at_call_of 32 (Value.agg #[.bool b1, .slice A1 n1 c1, .slice C1 m1 d1]); refine (parts_v _ p k _ Ra.out hk hs2.out.1).mono ?_; rintro e w1 ⟨V1, rfl, hV1, g1⟩; obtain ⟨b3, A3, n3, c3, C3, m3, d3, rfl, X1⟩ := hV1.laid; clear hV1; replace R := Lib.hid (R.out.grew g1); replace P := Lib.hid (P.out.grew g1); replace Q := Lib.hid (Q.out.grew g1); replace z0 := Lib.hid (lt_grew z0.out g1); replace z1 := Lib.hid (lt_grew z1.out g1); replace z2 := Lib.hid (lt_grew z2.out g1); replace Ra := Lib.hid (Ra.out.kept g1.keeps); replace Rb := Lib.hid (Rb.out.kept g1.keeps)) | (go_at_call 32; refine (parts_v _ q l _ Rb.out hl hs2.out.2.1).mono ?_; rintro e w2 ⟨V2, rfl, hV2, g2⟩; obtain ⟨b4, A4, n4, c4, C4, m4, d4, rfl, X2⟩ := hV2.laid; clear hV2; replace R := Lib.hid (R.out.grew g2); replace P := Lib.hid (P.out.grew g2); replace Q := Lib.hid (Q.out.grew g2); replace z0 := Lib.hid (lt_grew z0.out g2); replace z1 := Lib.hid (lt_grew z1.out g2); replace z2 := Lib.hid (lt_grew z2.out g2); replace Ra := Lib.hid (Ra.out.kept g2.keeps); replace Rb := Lib.hid (Rb.out.kept g2.keeps); replace X1 := Lib.hid (X1.out.kept g2.keeps)) | (go_at_call 55; refine (radd_any _ _ p q k l _ X1.out X2.out hs.out).mono ?_; rintro e w3 ⟨V3, rfl, hV3, g3⟩; obtain ⟨b5, A5, n5, c5, C5, m5, d5, rfl, X3⟩ := hV3.laid; clear hV3; replace R := Lib.hid (R.out.grew g3); replace P := Lib.hid (P.out.grew g3); replace Q := Lib.hid (Q.out.grew g3); replace z0 := Lib.hid (lt_grew z0.out g3); replace z1 := Lib.hid (lt_grew z1.out g3); replace z2 := Lib.hid (lt_grew z2.out g3); replace Ra := Lib.hid (Ra.out.kept g3.keeps); replace Rb := Lib.hid (Rb.out.kept g3.keeps); replace X1 := Lib.hid (X1.out.kept g3.keeps); replace X2 := Lib.hid (X2.out.kept g3.keeps)) | (go_at_call 77; refine (rfrac_any _ _ _ _ X3.out hs2.out.2.2).mono ?_; rintro e w4 ⟨V4, rfl, hV4, g4⟩; obtain ⟨b6, A6, n6, c6, C6, m6, d6, rfl, X4⟩ := hV4.laid; clear hV4; replace R := Lib.hid (R.out.grew g4); replace P := Lib.hid (P.out.grew g4); replace Q := Lib.hid (Q.out.grew g4); replace z0 := Lib.hid (lt_grew z0.out g4); replace z1 := Lib.hid (lt_grew z1.out g4); replace z2 := Lib.hid (lt_grew z2.out g4); replace Ra := Lib.hid (Ra.out.kept g4.keeps); replace Rb := Lib.hid (Rb.out.kept g4.keeps); replace X1 := Lib.hid (X1.out.kept g4.keeps); replace X2 := Lib.hid (X2.out.kept g4.keeps); replace X3 := Lib.hid (X3.out.kept g4.keeps); obtain ⟨R0, R1, R2, Rf0, Rf1, Rf2, Rs⟩ := R.out))
  replace G0 := Lib.hid (((((G0.out.trans gd.out).trans g1).trans g2).trans g3).trans g4)
  clear gd g1 g2 g3 g4 ZP ZQ
  refine gen_then ?_
  intro W9 hW9
  obtain ⟨q0, q1, q2, qK, -, -, qs, qG⟩ := store3 (o := 0) R0 R1 R2 hW9
  have GE := qG w (.inr (by omega)) G0.out
  have QK := Lib.hid qK
  clear qK qG hW9 R0 R1 R2
  go_wp2_with fail
  exact bodyPost_ret (v := .agg #[.bool b6, .slice A6 n6 c6, .slice C6 m6 d6]) (by simp [results, Try.results56, go_sem, q0, q1, q2]) rfl ⟨_, rfl, X4.out.kept QK.out, GE⟩

set_option maxRecDepth 100000 in
set_option maxHeartbeats 4000000 in
theorem fadd_any (Va Vb : Value) (p q : Rat) (k l : Nat) (w : World) (ha : FracV w Va p k) (hb : FracV w Vb q l) (hk : 1 ≤ k) (hl : 1 ≤ l) (hs : k + l < 549755813887) :
    Calls Try.prog 39 #[Va, Vb] w fun e w' => ∃ V, e = .returned V ∧ FracC w' V (p + q) ∧ Grew w w' := by
  obtain ⟨b1, A1, n1, c1, C1, m1, d1, rfl, Ra⟩ := ha.laid
  obtain ⟨b2, A2, n2, c2, C2, m2, d2, rfl, Rb⟩ := hb.laid
  replace hs := Lib.hid hs
  clear ha hb
  go_enter Try.func39, Try.ntmps39
  go_wp2_with fail
  refine gen_calls ?_
  intro W0 hW0
  have G0 : Grew w W0 := by rw [hW0]; exact (((Grew.refl w).alloc _).alloc _).alloc _
  have P : Box3 W0 (w.heap.size) 0 (.bool b1) (.slice A1 n1 c1) (.slice C1 m1 d1) := by rw [hW0]; exact ⟨by simp [go_sem], by simp [go_sem], by simp [go_sem]⟩
  replace P := Lib.hid P
  have Q : Box3 W0 (w.heap.size + 1) 0 (.bool b2) (.slice A2 n2 c2) (.slice C2 m2 d2) := by rw [hW0]; exact ⟨by simp [go_sem], by simp [go_sem], by simp [go_sem]⟩
  replace Q := Lib.hid Q
  have R : Res3 W0 (w.heap.size + 1 + 1) 0 (.bool false) (.slice none 0 0) (.slice none 0 0) := by rw [hW0]; exact ⟨by simp [go_sem], by simp [go_sem], by simp [go_sem], by simp [go_sem], by simp [go_sem], by simp [go_sem], by simp⟩
  replace R := Lib.hid R
  have z0 : w.heap.size < W0.heap.size := by rw [hW0]; simp <;> omega
  replace z0 := Lib.hid z0
  have z1 : w.heap.size + 1 < W0.heap.size := by rw [hW0]; simp <;> omega
  replace z1 := Lib.hid z1
  have z2 : w.heap.size + 1 + 1 < W0.heap.size := by rw [hW0]; simp <;> omega
  replace z2 := Lib.hid z2
  clear hW0
  replace Ra := Lib.hid (Ra.out.kept G0.keeps)
  replace Rb := Lib.hid (Rb.out.kept G0.keeps)
  replace G0 := Lib.hid G0
  refine (two_add _ _ p q k l _ Ra.out Rb.out hk hl hs.out).mono ?_
  rintro e w1 ⟨V1, rfl, hV1, g1⟩
  obtain ⟨b3, A3, n3, c3, C3, m3, d3, rfl, X1⟩ := hV1.laid
  clear hV1
  replace R := Lib.hid (R.out.grew g1)
  replace P := Lib.hid (P.out.grew g1)
  replace Q := Lib.hid (Q.out.grew g1)
  replace z0 := Lib.hid (lt_grew z0.out g1)
  replace z1 := Lib.hid (lt_grew z1.out g1)
  replace z2 := Lib.hid (lt_grew z2.out g1)
  replace Ra := Lib.hid (Ra.out.kept g1.keeps)
  replace Rb := Lib.hid (Rb.out.kept g1.keeps)
  replace G0 := Lib.hid (G0.out.trans g1)
  clear g1
  obtain ⟨R0, R1, R2, Rf0, Rf1, Rf2, Rs⟩ := R.out
  go_wp2_with fail
  refine gen_post ?_
  intro W9 hW9
  obtain ⟨q0, q1, q2, qK, -, -, qs, qG⟩ := store3 (o := 0) R0 R1 R2 hW9
  have GE := qG w (.inr (by omega)) G0.out
  have QK := Lib.hid qK
  clear qK qG hW9 R0 R1 R2
  exact bodyPost_ret (v := .agg #[.bool b3, .slice A3 n3 c3, .slice C3 m3 d3]) (by simp [results, Try.results39, go_sem, q0, q1, q2]) rfl ⟨_, rfl, X1.out.kept QK.out, GE⟩

set_option maxRecDepth 100000 in
set_option maxHeartbeats 4000000 in
theorem two_sub (Va Vb : Value) (p q : Rat) (k l : Nat) (w : World) (ha : FracV w Va p k) (hb : FracV w Vb q l) (hk : 1 ≤ k) (hl : 1 ≤ l) (hs : k + l < 549755813887) :
    Calls Try.prog 56 #[.func (.func 75) #[] #[], Va, Vb] w fun e w' => ∃ V, e = .returned V ∧ FracC w' V (p - q) ∧ Grew w w' := by
  obtain ⟨b1, A1, n1, c1, C1, m1, d1, rfl, Ra⟩ := ha.laid
  obtain ⟨b2, A2, n2, c2, C2, m2, d2, rfl, Rb⟩ := hb.laid
  have hs2 : k < 549755813888 ∧ l < 549755813888 ∧ (k + l + 1) < 549755813888 := by omega
  replace hs := Lib.hid hs
  replace hs2 := Lib.hid hs2
  clear ha hb
  go_enter Try.func56, Try.ntmps56
  go_wp2_with fail
  refine gen_wp ?_
  intro W0 hW0
  have G0 : Grew w W0 := by rw [hW0]; exact (((Grew.refl w).alloc _).alloc _).alloc _
  have P : Box3 W0 (w.heap.size) 0 (.bool b1) (.slice A1 n1 c1) (.slice C1 m1 d1) := by rw [hW0]; exact ⟨by simp [go_sem], by simp [go_sem], by simp [go_sem]⟩
  replace P := Lib.hid P
  have Q : Box3 W0 (w.heap.size + 1) 0 (.bool b2) (.slice A2 n2 c2) (.slice C2 m2 d2) := by rw [hW0]; exact ⟨by simp [go_sem], by simp [go_sem], by simp [go_sem]⟩
  replace Q := Lib.hid Q
  have R : Res3 W0 (w.heap.size + 1 + 1) 0 (.bool false) (.slice none 0 0) (.slice none 0 0) := by rw [hW0]; exact ⟨by simp [go_sem], by simp [go_sem], by simp [go_sem], by simp [go_sem], by simp [go_sem], by simp [go_sem], by simp⟩
  replace R := Lib.hid R
  have z0 : w.heap.size < W0.heap.size := by rw [hW0]; simp <;> omega
  replace z0 := Lib.hid z0
  have z1 : w.heap.size + 1 < W0.heap.size := by rw [hW0]; simp <;> omega
  replace z1 := Lib.hid z1
  have z2 : w.heap.size + 1 + 1 < W0.heap.size := by rw [hW0]; simp <;> omega
  replace z2 := Lib.hid z2
  clear hW0
  replace Ra := Lib.hid (Ra.out.kept G0.keeps)
  replace Rb := Lib.hid (Rb.out.kept G0.keeps)
  replace G0 := Lib.hid G0
  have gd : Grew W0 W0.drew := (Grew.refl W0).drew
  replace R := Lib.hid (R.out.grew gd)
  replace P := Lib.hid (P.out.grew gd)
  replace Q := Lib.hid (Q.out.grew gd)
  replace z0 := Lib.hid (lt_grew z0.out gd)
  replace z1 := Lib.hid (lt_grew z1.out gd)
  replace z2 := Lib.hid (lt_grew z2.out gd)
  replace Ra := Lib.hid (Ra.out.kept gd.keeps)
  replace Rb := Lib.hid (Rb.out.kept gd.keeps)
  replace gd := Lib.hid gd
  have ZP := P
  have ZQ := Q
  go_region_held3 (fun w' => w'.cell? ⟨w.heap.size, 0, none⟩ = some (.bool b1) ∧ w'.cell? ⟨w.heap.size, 1, none⟩ = some (.slice A1 n1 c1) ∧ w'.cell? ⟨w.heap.size, 2, none⟩ = some (.slice C1 m1 d1) ∧ w'.cell? ⟨w.heap.size + 1, 0, none⟩ = some (.bool b2) ∧ w'.cell? ⟨w.heap.size + 1, 1, none⟩ = some (.slice A2 n2 c2) ∧ w'.cell? ⟨w.heap.size + 1, 2, none⟩ = some (.slice C2 m2 d2))
    (first | (with_reducible exact ⟨ZP.out.p0, ZP.out.p1, ZP.out.p2, ZQ.out.p0, ZQ.out.p1, ZQ.out.p2⟩) | (with_reducible exact ⟨g1.cell ZP.out.p0, g1.cell ZP.out.p1, g1.cell ZP.out.p2, g1.cell ZQ.out.p0, g1.cell ZQ.out.p1, g1.cell ZQ.out.p2⟩) | (with_reducible exact ⟨(g1.trans g2).cell ZP.out.p0, (g1.trans g2).cell ZP.out.p1, (g1.trans g2).cell ZP.out.p2, (g1.trans g2).cell ZQ.out.p0, (g1.trans g2).cell ZQ.out.p1, (g1.trans g2).cell ZQ.out.p2⟩) | (with_reducible exact ⟨((g1.trans g2).trans g3).cell ZP.out.p0, ((g1.trans g2).trans g3).cell ZP.out.p1, ((g1.trans g2).trans g3).cell ZP.out.p2, ((g1.trans g2).trans g3).cell ZQ.out.p0, ((g1.trans g2).trans g3).cell ZQ.out.p1, ((g1.trans g2).trans g3).cell ZQ.out.p2⟩) | (with_reducible exact ⟨(((g1.trans g2).trans g3).trans g4).cell ZP.out.p0, (((g1.trans g2).trans g3).trans g4).cell ZP.out.p1, (((g1.trans g2).trans g3).trans g4).cell ZP.out.p2, (((g1.trans g2).trans g3).trans g4).cell ZQ.out.p0, (((g1.trans g2).trans g3).trans g4).cell ZQ.out.p1, (((g1.trans g2).trans g3).trans g4).cell ZQ.out.p2⟩) | (with_reducible exact ⟨other3 (o := 0) (by omega) ((((g1.trans g2).trans g3).trans g4).cell ZP.out.p0), other3 (o := 0) (by omega) ((((g1.trans g2).trans g3).trans g4).cell ZP.out.p1), other3 (o := 0) (by omega) ((((g1.trans g2).trans g3).trans g4).cell ZP.out.p2), other3 (o := 0) (by omega) ((((g1.trans g2).trans g3).trans g4).cell ZQ.out.p0), other3 (o := 0) (by omega) ((((g1.trans g2).trans g3).trans g4).cell ZQ.out.p1), other3 (o := 0) (by omega) ((((g1.trans g2).trans g3).trans g4).cell ZQ.out.p2)⟩))
    (first | (go_at_call_of 32 (Value.agg #[.bool b1, .slice A1 n1 c1, .slice C1 m1 d1]); refine (parts_v _ p k _ Ra.out hk hs2.out.1).mono ?_; rintro e w1 ⟨V1, rfl, hV1, g1⟩; obtain ⟨b3, A3, n3, c3, C3, m3, d3, rfl, X1⟩ := hV1.laid; clear hV1; replace R := Lib.hid (R.out.grew g1); replace P := Lib.hid (P.out.grew g1); replace Q := Lib.hid (Q.out.grew g1); replace z0 := Lib.hid (lt_grew z0.out g1); replace z1 := Lib.hid (lt_grew z1.out g1); replace z2 := Lib.hid (lt_grew z2.out g1); replace Ra := Lib.hid (Ra.out.kept g1.keeps); replace Rb := Lib.hid (Rb.out.kept g1.keeps)) | (go_at_call 32; refine (parts_v _ q l _ Rb.out hl hs2.out.2.1).mono ?_; rintro e w2 ⟨V2, rfl, hV2, g2⟩; obtain ⟨b4, A4, n4, c4, C4, m4, d4, rfl, X2⟩ := hV2.laid; clear hV2; replace R := Lib.hid (R.out.grew g2); replace P := Lib.hid (P.out.grew g2); replace Q := Lib.hid (Q.out.grew g2); replace z0 := Lib.hid (lt_grew z0.out g2); replace z1 := Lib.hid (lt_grew z1.out g2); replace z2 := Lib.hid (lt_grew z2.out g2); replace Ra := Lib.hid (Ra.out.kept g2.keeps); replace Rb := Lib.hid (Rb.out.kept g2.keeps); replace X1 := Lib.hid (X1.out.kept g2.keeps)) | (go_at_call 75; refine (rsub_any _ _ p q k l _ X1.out X2.out hs.out).mono ?_; rintro e w3 ⟨V3, rfl, hV3, g3⟩; obtain ⟨b5, A5, n5, c5, C5, m5, d5, rfl, X3⟩ := hV3.laid; clear hV3; replace R := Lib.hid (R.out.grew g3); replace P := Lib.hid (P.out.grew g3); replace Q := Lib.hid (Q.out.grew g3); replace z0 := Lib.hid (lt_grew z0.out g3); replace z1 := Lib.hid (lt_grew z1.out g3); replace z2 := Lib.hid (lt_grew z2.out g3); replace Ra := Lib.hid (Ra.out.kept g3.keeps); replace Rb := Lib.hid (Rb.out.kept g3.keeps); replace X1 := Lib.hid (X1.out.kept g3.keeps); replace X2 := Lib.hid (X2.out.kept g3.keeps)) | (go_at_call 77; refine (rfrac_any _ _ _ _ X3.out hs2.out.2.2).mono ?_; rintro e w4 ⟨V4, rfl, hV4, g4⟩; obtain ⟨b6, A6, n6, c6, C6, m6, d6, rfl, X4⟩ := hV4.laid; clear hV4; replace R := Lib.hid (R.out.grew g4); replace P := Lib.hid (P.out.grew g4); replace Q := Lib.hid (Q.out.grew g4); replace z0 := Lib.hid (lt_grew z0.out g4); replace z1 := Lib.hid (lt_grew z1.out g4); replace z2 := Lib.hid (lt_grew z2.out g4); replace Ra := Lib.hid (Ra.out.kept g4.keeps); replace Rb := Lib.hid (Rb.out.kept g4.keeps); replace X1 := Lib.hid (X1.out.kept g4.keeps); replace X2 := Lib.hid (X2.out.kept g4.keeps); replace X3 := Lib.hid (X3.out.kept g4.keeps); obtain ⟨R0, R1, R2, Rf0, Rf1, Rf2, Rs⟩ := R.out))
  replace G0 := Lib.hid (((((G0.out.trans gd.out).trans g1).trans g2).trans g3).trans g4)
  clear gd g1 g2 g3 g4 ZP ZQ
  refine gen_then ?_
  intro W9 hW9
  obtain ⟨q0, q1, q2, qK, -, -, qs, qG⟩ := store3 (o := 0) R0 R1 R2 hW9
  have GE := qG w (.inr (by omega)) G0.out
  have QK := Lib.hid qK
  clear qK qG hW9 R0 R1 R2
  go_wp2_with fail
  exact bodyPost_ret (v := .agg #[.bool b6, .slice A6 n6 c6, .slice C6 m6 d6]) (by simp [results, Try.results56, go_sem, q0, q1, q2]) rfl ⟨_, rfl, X4.out.kept QK.out, GE⟩

set_option maxRecDepth 100000 in
set_option maxHeartbeats 4000000 in
theorem fsub_any (Va Vb : Value) (p q : Rat) (k l : Nat) (w : World) (ha : FracV w Va p k) (hb : FracV w Vb q l) (hk : 1 ≤ k) (hl : 1 ≤ l) (hs : k + l < 549755813887) :
    Calls Try.prog 37 #[Va, Vb] w fun e w' => ∃ V, e = .returned V ∧ FracC w' V (p - q) ∧ Grew w w' := by
  obtain ⟨b1, A1, n1, c1, C1, m1, d1, rfl, Ra⟩ := ha.laid
  obtain ⟨b2, A2, n2, c2, C2, m2, d2, rfl, Rb⟩ := hb.laid
  replace hs := Lib.hid hs
  clear ha hb
  go_enter Try.func37, Try.ntmps37
  go_wp2_with fail
  refine gen_calls ?_
  intro W0 hW0
  have G0 : Grew w W0 := by rw [hW0]; exact (((Grew.refl w).alloc _).alloc _).alloc _
  have P : Box3 W0 (w.heap.size) 0 (.bool b1) (.slice A1 n1 c1) (.slice C1 m1 d1) := by rw [hW0]; exact ⟨by simp [go_sem], by simp [go_sem], by simp [go_sem]⟩
  replace P := Lib.hid P
  have Q : Box3 W0 (w.heap.size + 1) 0 (.bool b2) (.slice A2 n2 c2) (.slice C2 m2 d2) := by rw [hW0]; exact ⟨by simp [go_sem], by simp [go_sem], by simp [go_sem]⟩
  replace Q := Lib.hid Q
  have R : Res3 W0 (w.heap.size + 1 + 1) 0 (.bool false) (.slice none 0 0) (.slice none 0 0) := by rw [hW0]; exact ⟨by simp [go_sem], by simp [go_sem], by simp [go_sem], by simp [go_sem], by simp [go_sem], by simp [go_sem], by simp⟩
  replace R := Lib.hid R
  have z0 : w.heap.size < W0.heap.size := by rw [hW0]; simp <;> omega
  replace z0 := Lib.hid z0
  have z1 : w.heap.size + 1 < W0.heap.size := by rw [hW0]; simp <;> omega
  replace z1 := Lib.hid z1
  have z2 : w.heap.size + 1 + 1 < W0.heap.size := by rw [hW0]; simp <;> omega
  replace z2 := Lib.hid z2
  clear hW0
  replace Ra := Lib.hid (Ra.out.kept G0.keeps)
  replace Rb := Lib.hid (Rb.out.kept G0.keeps)
  replace G0 := Lib.hid G0
  refine (two_sub _ _ p q k l _ Ra.out Rb.out hk hl hs.out).mono ?_
  rintro e w1 ⟨V1, rfl, hV1, g1⟩
  obtain ⟨b3, A3, n3, c3, C3, m3, d3, rfl, X1⟩ := hV1.laid
  clear hV1
  replace R := Lib.hid (R.out.grew g1)
  replace P := Lib.hid (P.out.grew g1)
  replace Q := Lib.hid (Q.out.grew g1)
  replace z0 := Lib.hid (lt_grew z0.out g1)
  replace z1 := Lib.hid (lt_grew z1.out g1)
  replace z2 := Lib.hid (lt_grew z2.out g1)
  replace Ra := Lib.hid (Ra.out.kept g1.keeps)
  replace Rb := Lib.hid (Rb.out.kept g1.keeps)
  replace G0 := Lib.hid (G0.out.trans g1)
  clear g1
  obtain ⟨R0, R1, R2, Rf0, Rf1, Rf2, Rs⟩ := R.out
  go_wp2_with fail
  refine gen_post ?_
  intro W9 hW9
  obtain ⟨q0, q1, q2, qK, -, -, qs, qG⟩ := store3 (o := 0) R0 R1 R2 hW9
  have GE := qG w (.inr (by omega)) G0.out
  have QK := Lib.hid qK
  clear qK qG hW9 R0 R1 R2
  exact bodyPost_ret (v := .agg #[.bool b3, .slice A3 n3 c3, .slice C3 m3 d3]) (by simp [results, Try.results37, go_sem, q0, q1, q2]) rfl ⟨_, rfl, X1.out.kept QK.out, GE⟩

set_option maxRecDepth 100000 in
set_option maxHeartbeats 4000000 in
theorem two_mul (Va Vb : Value) (p q : Rat) (k l : Nat) (w : World) (ha : FracV w Va p k) (hb : FracV w Vb q l) (hk : 1 ≤ k) (hl : 1 ≤ l) (hs : k + l < 549755813888) :
    Calls Try.prog 56 #[.func (.func 57) #[] #[], Va, Vb] w fun e w' => ∃ V, e = .returned V ∧ FracC w' V (p * q) ∧ Grew w w' := by
  obtain ⟨b1, A1, n1, c1, C1, m1, d1, rfl, Ra⟩ := ha.laid
  obtain ⟨b2, A2, n2, c2, C2, m2, d2, rfl, Rb⟩ := hb.laid
  have hs2 : k < 549755813888 ∧ l < 549755813888 ∧ (k + l) < 549755813888 := by omega
  replace hs := Lib.hid hs
  replace hs2 := Lib.hid hs2
  clear ha hb
  go_enter Try.func56, Try.ntmps56
  go_wp2_with fail
  refine gen_wp ?_
  intro W0 hW0
  have G0 : Grew w W0 := by rw [hW0]; exact (((Grew.refl w).alloc _).alloc _).alloc _
  have P : Box3 W0 (w.heap.size) 0 (.bool b1) (.slice A1 n1 c1) (.slice C1 m1 d1) := by rw [hW0]; exact ⟨by simp [go_sem], by simp [go_sem], by simp [go_sem]⟩
  replace P := Lib.hid P
  have Q : Box3 W0 (w.heap.size + 1) 0 (.bool b2) (.slice A2 n2 c2) (.slice C2 m2 d2) := by rw [hW0]; exact ⟨by simp [go_sem], by simp [go_sem], by simp [go_sem]⟩
  replace Q := Lib.hid Q
  have R : Res3 W0 (w.heap.size + 1 + 1) 0 (.bool false) (.slice none 0 0) (.slice none 0 0) := by rw [hW0]; exact ⟨by simp [go_sem], by simp [go_sem], by simp [go_sem], by simp [go_sem], by simp [go_sem], by simp [go_sem], by simp⟩
  replace R := Lib.hid R
  have z0 : w.heap.size < W0.heap.size := by rw [hW0]; simp <;> omega
  replace z0 := Lib.hid z0
  have z1 : w.heap.size + 1 < W0.heap.size := by rw [hW0]; simp <;> omega
  replace z1 := Lib.hid z1
  have z2 : w.heap.size + 1 + 1 < W0.heap.size := by rw [hW0]; simp <;> omega
  replace z2 := Lib.hid z2
  clear hW0
  replace Ra := Lib.hid (Ra.out.kept G0.keeps)
  replace Rb := Lib.hid (Rb.out.kept G0.keeps)
  replace G0 := Lib.hid G0
  have gd : Grew W0 W0.drew := (Grew.refl W0).drew
  replace R := Lib.hid (R.out.grew gd)
  replace P := Lib.hid (P.out.grew gd)
  replace Q := Lib.hid (Q.out.grew gd)
  replace z0 := Lib.hid (lt_grew z0.out gd)
  replace z1 := Lib.hid (lt_grew z1.out gd)
  replace z2 := Lib.hid (lt_grew z2.out gd)
  replace Ra := Lib.hid (Ra.out.kept gd.keeps)
  replace Rb := Lib.hid (Rb.out.kept gd.keeps)
  replace gd := Lib.hid gd
  have ZP := P
  have ZQ := Q
  go_region_held3 (fun w' => w'.cell? ⟨w.heap.size, 0, none⟩ = some (.bool b1) ∧ w'.cell? ⟨w.heap.size, 1, none⟩ = some (.slice A1 n1 c1) ∧ w'.cell? ⟨w.heap.size, 2, none⟩ = some (.slice C1 m1 d1) ∧ w'.cell? ⟨w.heap.size + 1, 0, none⟩ = some (.bool b2) ∧ w'.cell? ⟨w.heap.size + 1, 1, none⟩ = some (.slice A2 n2 c2) ∧ w'.cell? ⟨w.heap.size + 1, 2, none⟩ = some (.slice C2 m2 d2))
    (first | (with_reducible exact ⟨ZP.out.p0, ZP.out.p1, ZP.out.p2, ZQ.out.p0, ZQ.out.p1, ZQ.out.p2⟩) | (with_reducible exact ⟨g1.cell ZP.out.p0, g1.cell ZP.out.p1, g1.cell ZP.out.p2, g1.cell ZQ.out.p0, g1.cell ZQ.out.p1, g1.cell ZQ.out.p2⟩) | (with_reducible exact ⟨(g1.trans g2).cell ZP.out.p0, (g1.trans g2).cell ZP.out.p1, (g1.trans g2).cell ZP.out.p2, (g1.trans g2).cell ZQ.out.p0, (g1.trans g2).cell ZQ.out.p1, (g1.trans g2).cell ZQ.out.p2⟩) | (with_reducible exact ⟨((g1.trans g2).trans g3).cell ZP.out.p0, ((g1.trans g2).trans g3).cell ZP.out.p1, ((g1.trans g2).trans g3).cell ZP.out.p2, ((g1.trans g2).trans g3).cell ZQ.out.p0, ((g1.trans g2).trans g3).cell ZQ.out.p1, ((g1.trans g2).trans g3).cell ZQ.out.p2⟩) | (with_reducible exact ⟨(((g1.trans g2).trans g3).trans g4).cell ZP.out.p0, (((g1.trans g2).trans g3).trans g4).cell ZP.out.p1, (((g1.trans g2).trans g3).trans g4).cell ZP.out.p2, (((g1.trans g2).trans g3).trans g4).cell ZQ.out.p0, (((g1.trans g2).trans g3).trans g4).cell ZQ.out.p1, (((g1.trans g2).trans g3).trans g4).cell ZQ.out.p2⟩) | (with_reducible exact ⟨other3 (o := 0) (by omega) ((((g1.trans g2).trans g3).trans g4).cell ZP.out.p0), other3 (o := 0) (by omega) ((((g1.trans g2).trans g3).trans g4).cell ZP.out.p1), other3 (o := 0) (by omega) ((((g1.trans g2).trans g3).trans g4).cell ZP.out.p2), other3 (o := 0) (by omega) ((((g1.trans g2).trans g3).trans g4).cell ZQ.out.p0), other3 (o := 0) (by omega) ((((g1.trans g2).trans g3).trans g4).cell ZQ.out.p1), other3 (o := 0) (by omega) ((((g1.trans g2).trans g3).trans g4).cell ZQ.out.p2)⟩))
    (first | (go_at_call_of 32 (Value.agg #[.bool b1, .slice A1 n1 c1, .slice C1 m1 d1]); refine (parts_v _ p k _ Ra.out hk hs2.out.1).mono ?_; rintro e w1 ⟨V1, rfl, hV1, g1⟩; obtain ⟨b3, A3, n3, c3, C3, m3, d3, rfl, X1⟩ := hV1.laid; clear hV1; replace R := Lib.hid (R.out.grew g1); replace P := Lib.hid (P.out.grew g1); replace Q := Lib.hid (Q.out.grew g1); replace z0 := Lib.hid (lt_grew z0.out g1); replace z1 := Lib.hid (lt_grew z1.out g1); replace z2 := Lib.hid (lt_grew z2.out g1); replace Ra := Lib.hid (Ra.out.kept g1.keeps); replace Rb := Lib.hid (Rb.out.kept g1.keeps)) | (go_at_call 32; refine (parts_v _ q l _ Rb.out hl hs2.out.2.1).mono ?_; rintro e w2 ⟨V2, rfl, hV2, g2⟩; obtain ⟨b4, A4, n4, c4, C4, m4, d4, rfl, X2⟩ := hV2.laid; clear hV2; replace R := Lib.hid (R.out.grew g2); replace P := Lib.hid (P.out.grew g2); replace Q := Lib.hid (Q.out.grew g2); replace z0 := Lib.hid (lt_grew z0.out g2); replace z1 := Lib.hid (lt_grew z1.out g2); replace z2 := Lib.hid (lt_grew z2.out g2); replace Ra := Lib.hid (Ra.out.kept g2.keeps); replace Rb := Lib.hid (Rb.out.kept g2.keeps); replace X1 := Lib.hid (X1.out.kept g2.keeps)) | (go_at_call 57; refine (rmul_any _ _ p q k l _ X1.out X2.out (Nat.lt_of_lt_of_le hs.out (by omega))).mono ?_; rintro e w3 ⟨V3, rfl, hV3, g3⟩; obtain ⟨b5, A5, n5, c5, C5, m5, d5, rfl, X3⟩ := hV3.laid; clear hV3; replace R := Lib.hid (R.out.grew g3); replace P := Lib.hid (P.out.grew g3); replace Q := Lib.hid (Q.out.grew g3); replace z0 := Lib.hid (lt_grew z0.out g3); replace z1 := Lib.hid (lt_grew z1.out g3); replace z2 := Lib.hid (lt_grew z2.out g3); replace Ra := Lib.hid (Ra.out.kept g3.keeps); replace Rb := Lib.hid (Rb.out.kept g3.keeps); replace X1 := Lib.hid (X1.out.kept g3.keeps); replace X2 := Lib.hid (X2.out.kept g3.keeps)) | (go_at_call 77; refine (rfrac_any _ _ _ _ X3.out hs2.out.2.2).mono ?_; rintro e w4 ⟨V4, rfl, hV4, g4⟩; obtain ⟨b6, A6, n6, c6, C6, m6, d6, rfl, X4⟩ := hV4.laid; clear hV4; replace R := Lib.hid (R.out.grew g4); replace P := Lib.hid (P.out.grew g4); replace Q := Lib.hid (Q.out.grew g4); replace z0 := Lib.hid (lt_grew z0.out g4); replace z1 := Lib.hid (lt_grew z1.out g4); replace z2 := Lib.hid (lt_grew z2.out g4); replace Ra := Lib.hid (Ra.out.kept g4.keeps); replace Rb := Lib.hid (Rb.out.kept g4.keeps); replace X1 := Lib.hid (X1.out.kept g4.keeps); replace X2 := Lib.hid (X2.out.kept g4.keeps); replace X3 := Lib.hid (X3.out.kept g4.keeps); obtain ⟨R0, R1, R2, Rf0, Rf1, Rf2, Rs⟩ := R.out))
  replace G0 := Lib.hid (((((G0.out.trans gd.out).trans g1).trans g2).trans g3).trans g4)
  clear gd g1 g2 g3 g4 ZP ZQ
  refine gen_then ?_
  intro W9 hW9
  obtain ⟨q0, q1, q2, qK, -, -, qs, qG⟩ := store3 (o := 0) R0 R1 R2 hW9
  have GE := qG w (.inr (by omega)) G0.out
  have QK := Lib.hid qK
  clear qK qG hW9 R0 R1 R2
  go_wp2_with fail
  exact bodyPost_ret (v := .agg #[.bool b6, .slice A6 n6 c6, .slice C6 m6 d6]) (by simp [results, Try.results56, go_sem, q0, q1, q2]) rfl ⟨_, rfl, X4.out.kept QK.out, GE⟩

set_option maxRecDepth 100000 in
set_option maxHeartbeats 4000000 in
theorem fmul_any (Va Vb : Value) (p q : Rat) (k l : Nat) (w : World) (ha : FracV w Va p k) (hb : FracV w Vb q l) (hk : 1 ≤ k) (hl : 1 ≤ l) (hs : k + l < 549755813888) :
    Calls Try.prog 21 #[Va, Vb] w fun e w' => ∃ V, e = .returned V ∧ FracC w' V (p * q) ∧ Grew w w' := by
  obtain ⟨b1, A1, n1, c1, C1, m1, d1, rfl, Ra⟩ := ha.laid
  obtain ⟨b2, A2, n2, c2, C2, m2, d2, rfl, Rb⟩ := hb.laid
  replace hs := Lib.hid hs
  clear ha hb
  go_enter Try.func21, Try.ntmps21
  go_wp2_with fail
  refine gen_calls ?_
  intro W0 hW0
  have G0 : Grew w W0 := by rw [hW0]; exact (((Grew.refl w).alloc _).alloc _).alloc _
  have P : Box3 W0 (w.heap.size) 0 (.bool b1) (.slice A1 n1 c1) (.slice C1 m1 d1) := by rw [hW0]; exact ⟨by simp [go_sem], by simp [go_sem], by simp [go_sem]⟩
  replace P := Lib.hid P
  have Q : Box3 W0 (w.heap.size + 1) 0 (.bool b2) (.slice A2 n2 c2) (.slice C2 m2 d2) := by rw [hW0]; exact ⟨by simp [go_sem], by simp [go_sem], by simp [go_sem]⟩
  replace Q := Lib.hid Q
  have R : Res3 W0 (w.heap.size + 1 + 1) 0 (.bool false) (.slice none 0 0) (.slice none 0 0) := by rw [hW0]; exact ⟨by simp [go_sem], by simp [go_sem], by simp [go_sem], by simp [go_sem], by simp [go_sem], by simp [go_sem], by simp⟩
  replace R := Lib.hid R
  have z0 : w.heap.size < W0.heap.size := by rw [hW0]; simp <;> omega
  replace z0 := Lib.hid z0
  have z1 : w.heap.size + 1 < W0.heap.size := by rw [hW0]; simp <;> omega
  replace z1 := Lib.hid z1
  have z2 : w.heap.size + 1 + 1 < W0.heap.size := by rw [hW0]; simp <;> omega
  replace z2 := Lib.hid z2
  clear hW0
  replace Ra := Lib.hid (Ra.out.kept G0.keeps)
  replace Rb := Lib.hid (Rb.out.kept G0.keeps)
  replace G0 := Lib.hid G0
  refine (two_mul _ _ p q k l _ Ra.out Rb.out hk hl hs.out).mono ?_
  rintro e w1 ⟨V1, rfl, hV1, g1⟩
  obtain ⟨b3, A3, n3, c3, C3, m3, d3, rfl, X1⟩ := hV1.laid
  clear hV1
  replace R := Lib.hid (R.out.grew g1)
  replace P := Lib.hid (P.out.grew g1)
  replace Q := Lib.hid (Q.out.grew g1)
  replace z0 := Lib.hid (lt_grew z0.out g1)
  replace z1 := Lib.hid (lt_grew z1.out g1)
  replace z2 := Lib.hid (lt_grew z2.out g1)
  replace Ra := Lib.hid (Ra.out.kept g1.keeps)
  replace Rb := Lib.hid (Rb.out.kept g1.keeps)
  replace G0 := Lib.hid (G0.out.trans g1)
  clear g1
  obtain ⟨R0, R1, R2, Rf0, Rf1, Rf2, Rs⟩ := R.out
  go_wp2_with fail
  refine gen_post ?_
  intro W9 hW9
  obtain ⟨q0, q1, q2, qK, -, -, qs, qG⟩ := store3 (o := 0) R0 R1 R2 hW9
  have GE := qG w (.inr (by omega)) G0.out
  have QK := Lib.hid qK
  clear qK qG hW9 R0 R1 R2
  exact bodyPost_ret (v := .agg #[.bool b3, .slice A3 n3 c3, .slice C3 m3 d3]) (by simp [results, Try.results21, go_sem, q0, q1, q2]) rfl ⟨_, rfl, X1.out.kept QK.out, GE⟩

set_option maxRecDepth 100000 in
set_option maxHeartbeats 4000000 in
theorem freduce_any (Va : Value) (p : Rat) (k : Nat) (w : World) (ha : FracV w Va p k) (hk : 1 ≤ k) (hs : k < 549755813888) :
    Calls Try.prog 109 #[Va] w fun e w' => ∃ V, e = .returned V ∧ FracC w' V p ∧ Grew w w' := by
  obtain ⟨b1, A1, n1, c1, C1, m1, d1, rfl, Ra⟩ := ha.laid
  clear ha
  go_enter Try.func109, Try.ntmps109
  go_wp2_with fail
  refine gen_calls ?_
  intro W0 hW0
  have G0 : Grew w W0 := by rw [hW0]; exact ((Grew.refl w).alloc _).alloc _
  have P : Box3 W0 (w.heap.size) 0 (.bool b1) (.slice A1 n1 c1) (.slice C1 m1 d1) := by rw [hW0]; exact ⟨by simp [go_sem], by simp [go_sem], by simp [go_sem]⟩
  replace P := Lib.hid P
  have R : Res3 W0 (w.heap.size + 1) 0 (.bool false) (.slice none 0 0) (.slice none 0 0) := by rw [hW0]; exact ⟨by simp [go_sem], by simp [go_sem], by simp [go_sem], by simp [go_sem], by simp [go_sem], by simp [go_sem], by simp⟩
  replace R := Lib.hid R
  have z0 : w.heap.size < W0.heap.size := by rw [hW0]; simp <;> omega
  replace z0 := Lib.hid z0
  have z1 : w.heap.size + 1 < W0.heap.size := by rw [hW0]; simp <;> omega
  replace z1 := Lib.hid z1
  clear hW0
  replace Ra := Lib.hid (Ra.out.kept G0.keeps)
  replace G0 := Lib.hid G0
  refine (parts_v _ p k _ Ra.out hk hs).mono ?_
  rintro e w1 ⟨V1, rfl, hV1, g1⟩
  obtain ⟨b3, A3, n3, c3, C3, m3, d3, rfl, X1⟩ := hV1.laid
  clear hV1
  replace R := Lib.hid (R.out.grew g1)
  replace P := Lib.hid (P.out.grew g1)
  replace z0 := Lib.hid (lt_grew z0.out g1)
  replace z1 := Lib.hid (lt_grew z1.out g1)
  replace Ra := Lib.hid (Ra.out.kept g1.keeps)
  replace G0 := Lib.hid (G0.out.trans g1)
  clear g1
  go_wp2_with fail
  refine (rfrac_any _ _ _ _ X1.out hs).mono ?_
  rintro e w2 ⟨V2, rfl, hV2, g2⟩
  obtain ⟨b4, A4, n4, c4, C4, m4, d4, rfl, X2⟩ := hV2.laid
  clear hV2
  replace R := Lib.hid (R.out.grew g2)
  replace P := Lib.hid (P.out.grew g2)
  replace z0 := Lib.hid (lt_grew z0.out g2)
  replace z1 := Lib.hid (lt_grew z1.out g2)
  replace Ra := Lib.hid (Ra.out.kept g2.keeps)
  replace X1 := Lib.hid (X1.out.kept g2.keeps)
  replace G0 := Lib.hid (G0.out.trans g2)
  clear g2
  obtain ⟨R0, R1, R2, Rf0, Rf1, Rf2, Rs⟩ := R.out
  go_wp2_with fail
  refine gen_post ?_
  intro W9 hW9
  obtain ⟨q0, q1, q2, qK, -, -, qs, qG⟩ := store3 (o := 0) R0 R1 R2 hW9
  have GE := qG w (.inr (by omega)) G0.out
  have QK := Lib.hid qK
  clear qK qG hW9 R0 R1 R2
  exact bodyPost_ret (v := .agg #[.bool b4, .slice A4 n4 c4, .slice C4 m4 d4]) (by simp [results, Try.results109, go_sem, q0, q1, q2]) rfl ⟨_, rfl, X2.out.kept QK.out, GE⟩

set_option maxRecDepth 100000 in
set_option maxHeartbeats 4000000 in
theorem fint_any (x : Int) (w : World) (h0 : -9223372036854775808 ≤ x) (h1 : x ≤ 9223372036854775807) :
    Calls Try.prog 22 #[.int .i64 x] w fun e w' => ∃ V, e = .returned V ∧ FracC w' V (x : Rat) ∧ Grew w w' := by
  go_enter Try.func22, Try.ntmps22
  go_wp2_with fail
  refine gen_calls ?_
  intro W0 hW0
  have G0 : Grew w W0 := by rw [hW0]; exact (Grew.refl w).alloc _
  have R : Res3 W0 (w.heap.size) 0 (.bool false) (.slice none 0 0) (.slice none 0 0) := by rw [hW0]; exact ⟨by simp [go_sem], by simp [go_sem], by simp [go_sem], by simp [go_sem], by simp [go_sem], by simp [go_sem], by simp⟩
  replace R := Lib.hid R
  have z0 : w.heap.size < W0.heap.size := by rw [hW0]; simp <;> omega
  replace z0 := Lib.hid z0
  clear hW0
  replace G0 := Lib.hid G0
  refine (wof_any x _ h0 h1).mono ?_
  rintro e w1 ⟨V1, rfl, hV1, g1⟩
  obtain ⟨b3, A3, n3, c3, rfl, X1, -⟩ := hV1.laid
  clear hV1
  replace R := Lib.hid (R.out.grew g1)
  replace z0 := Lib.hid (lt_grew z0.out g1)
  replace G0 := Lib.hid (G0.out.trans g1)
  clear g1
  go_wp2_with fail
  refine (unit_any _).mono ?_
  rintro e w2 ⟨V2, rfl, hV2, g2⟩
  obtain ⟨A4, c4, rfl, X2⟩ := hV2.slice
  clear hV2
  replace R := Lib.hid (R.out.grew g2)
  replace z0 := Lib.hid (lt_grew z0.out g2)
  replace X1 := Lib.hid (X1.out.kept g2.keeps)
  replace G0 := Lib.hid (G0.out.trans g2)
  clear g2
  obtain ⟨R0, R1, R2, Rf0, Rf1, Rf2, Rs⟩ := R.out
  go_wp2_with fail
  refine gen_post ?_
  intro W9 hW9
  obtain ⟨q0, q1, q2, qK, -, -, qs, qG⟩ := store3 (o := 0) R0 R1 R2 hW9
  have GE := qG w (.inr (by omega)) G0.out
  have QK := Lib.hid qK
  clear qK qG hW9 R0 R1 R2
  exact bodyPost_ret (v := .agg #[.bool b3, .slice A3 n3 c3, .slice A4 (len 4294967296 1) c4]) (by simp [results, Try.results22, go_sem, q0, q1, q2]) rfl ⟨_, rfl, FracC.mk (X1.out.kept QK.out) (X2.out.kept QK.out) rfl rfl rfl, GE⟩

theorem shift_one (va : Value) (N n : Nat) (w : World) (ha : Num 4294967296 .u32 w va N n) (hsz : len 4294967296 N < 1099511627776) :
    Calls Try.prog 76 #[va, .int .i64 1] w fun e w' => ∃ v, e = .returned v ∧ Num 4294967296 .u32 w' v (N * 2) (len 4294967296 (N * 2)) ∧ Grew w w' := by
  have h := shift_up va N n 1 w ha (by omega) hsz
  simpa using h

set_option maxRecDepth 100000 in
set_option maxHeartbeats 4000000 in
theorem fhalf_any (Va : Value) (p : Rat) (k : Nat) (w : World) (ha : FracV w Va p k) (hk : 1 ≤ k) (hs : k < 549755813887) :
    Calls Try.prog 38 #[Va] w fun e w' => ∃ V, e = .returned V ∧ FracC w' V (p * mkRat 1 2) ∧ Grew w w' := by
  obtain ⟨b1, A1, n1, c1, C1, m1, d1, rfl, Ra⟩ := ha.laid
  have hs2 : k + 1 < 549755813888 := by omega
  clear ha
  replace hs2 := Lib.hid hs2
  go_enter Try.func38, Try.ntmps38
  go_wp2_with fail
  refine gen_calls ?_
  intro W0 hW0
  have G0 : Grew w W0 := by rw [hW0]; exact ((Grew.refl w).alloc _).alloc _
  have P : Box3 W0 (w.heap.size) 0 (.bool b1) (.slice A1 n1 c1) (.slice C1 m1 d1) := by rw [hW0]; exact ⟨by simp [go_sem], by simp [go_sem], by simp [go_sem]⟩
  replace P := Lib.hid P
  have R : Res3 W0 (w.heap.size + 1) 0 (.bool false) (.slice none 0 0) (.slice none 0 0) := by rw [hW0]; exact ⟨by simp [go_sem], by simp [go_sem], by simp [go_sem], by simp [go_sem], by simp [go_sem], by simp [go_sem], by simp⟩
  replace R := Lib.hid R
  have z0 : w.heap.size < W0.heap.size := by rw [hW0]; simp <;> omega
  replace z0 := Lib.hid z0
  have z1 : w.heap.size + 1 < W0.heap.size := by rw [hW0]; simp <;> omega
  replace z1 := Lib.hid z1
  clear hW0
  replace Ra := Lib.hid (Ra.out.kept G0.keeps)
  replace G0 := Lib.hid G0
  refine (parts_v _ p k _ Ra.out hk (by omega)).mono ?_
  rintro e w1 ⟨V1, rfl, hV1, g1⟩
  obtain ⟨z, D, b3, A3, n3, c3, C3, m3, d3, rfl, Ea, hD, -, Na, k1, k2, Ma, Wz⟩ := hV1.open
  clear hV1
  replace R := Lib.hid (R.out.grew g1)
  replace P := Lib.hid (P.out.grew g1)
  replace z0 := Lib.hid (lt_grew z0.out g1)
  replace z1 := Lib.hid (lt_grew z1.out g1)
  replace Ra := Lib.hid (Ra.out.kept g1.keeps)
  replace G0 := Lib.hid (G0.out.trans g1)
  clear g1
  have hD2 : D * 2 ≠ 0 := by omega
  have hk3 : len 4294967296 z.natAbs ≤ k + 1 := by omega
  have hl2 : len 4294967296 (D * 2) ≤ k + 1 := len_mul (B := 4294967296) (by omega) D 2 k 1 k2 (by rw [show len 4294967296 2 = 1 from rfl]; exact Nat.le_refl _)
  have hk4 : len 4294967296 D < 1099511627776 := by omega
  replace hD2 := Lib.hid hD2
  replace hk3 := Lib.hid hk3
  replace hl2 := Lib.hid hl2
  replace hk4 := Lib.hid hk4
  clear hD k1 k2 hs hk
  have oz0 := z0.out
  have oz1 := z1.out
  go_wp2_with fail
  clear oz0 oz1
  refine gen_wp ?_
  intro W1 hW1
  have gl : Grew w1 W1 := by rw [hW1]; exact (Grew.refl _).alloc _
  have y1 := Lib.hid (R.out).2.2.2.2.2.2
  replace R := Lib.hid (R.out.grew gl)
  replace P := Lib.hid (P.out.grew gl)
  replace z0 := Lib.hid (lt_grew z0.out gl)
  replace z1 := Lib.hid (lt_grew z1.out gl)
  replace Ra := Lib.hid (Ra.out.kept gl.keeps)
  replace Na := Lib.hid (Na.out.kept gl.keeps)
  replace Wz := Lib.hid (Wz.out.kept gl.keeps)
  have L : Box3 W1 (w1.heap.size) 0 (.bool b3) (.slice A3 n3 c3) (.slice C3 m3 d3) := by rw [hW1]; exact ⟨by simp [go_sem], by simp [go_sem], by simp [go_sem]⟩
  replace L := Lib.hid L
  have z2 : w1.heap.size < W1.heap.size := by rw [hW1]; simp <;> omega
  replace z2 := Lib.hid z2
  clear hW1
  replace G0 := Lib.hid (G0.out.trans gl)
  clear gl
  have gd : Grew W1 W1.drew := (Grew.refl W1).drew
  replace R := Lib.hid (R.out.grew gd)
  replace P := Lib.hid (P.out.grew gd)
  replace L := Lib.hid (L.out.grew gd)
  replace z0 := Lib.hid (lt_grew z0.out gd)
  replace z1 := Lib.hid (lt_grew z1.out gd)
  replace z2 := Lib.hid (lt_grew z2.out gd)
  replace Ra := Lib.hid (Ra.out.kept gd.keeps)
  replace Na := Lib.hid (Na.out.kept gd.keeps)
  replace Wz := Lib.hid (Wz.out.kept gd.keeps)
  replace gd := Lib.hid gd
  have ZL := L
  go_region_held3 (fun w' => w'.cell? ⟨w1.heap.size, 0, none⟩ = some (.bool b3) ∧ w'.cell? ⟨w1.heap.size, 1, none⟩ = some (.slice A3 n3 c3) ∧ w'.cell? ⟨w1.heap.size, 2, none⟩ = some (.slice C3 m3 d3))
    (first | (with_reducible exact ⟨ZL.out.p0, ZL.out.p1, ZL.out.p2⟩) | (with_reducible exact ⟨g2.cell ZL.out.p0, g2.cell ZL.out.p1, g2.cell ZL.out.p2⟩) | (with_reducible exact ⟨(g2.trans g3).cell ZL.out.p0, (g2.trans g3).cell ZL.out.p1, (g2.trans g3).cell ZL.out.p2⟩) | (with_reducible exact ⟨other3 (o := 0) (by have := y1.out; omega) ((g2.trans g3).cell ZL.out.p0), other3 (o := 0) (by have := y1.out; omega) ((g2.trans g3).cell ZL.out.p1), other3 (o := 0) (by have := y1.out; omega) ((g2.trans g3).cell ZL.out.p2)⟩))
    (first | (go_at_call 76; refine (shift_one _ D _ _ Na.out hk4.out).mono ?_; rintro e w2 ⟨V2, rfl, hV2, g2⟩; obtain ⟨A4, c4, rfl, hX2⟩ := hV2.slice; have X2 := Lib.hid (RatQ.mk (q := p * mkRat 1 2) (Wz.out.kept g2.keeps) hX2.out rfl hD2.out (by rw [mkRat_half, Ea.out]) hk3.out hl2.out); clear hV2 hX2; replace R := Lib.hid (R.out.grew g2); replace P := Lib.hid (P.out.grew g2); replace L := Lib.hid (L.out.grew g2); replace z0 := Lib.hid (lt_grew z0.out g2); replace z1 := Lib.hid (lt_grew z1.out g2); replace z2 := Lib.hid (lt_grew z2.out g2); replace Ra := Lib.hid (Ra.out.kept g2.keeps); replace Na := Lib.hid (Na.out.kept g2.keeps); replace Wz := Lib.hid (Wz.out.kept g2.keeps)) | (go_at_call 77; refine (rfrac_any _ _ _ _ X2.out hs2.out).mono ?_; rintro e w3 ⟨V3, rfl, hV3, g3⟩; obtain ⟨b5, A5, n5, c5, C5, m5, d5, rfl, X3⟩ := hV3.laid; clear hV3; replace R := Lib.hid (R.out.grew g3); replace P := Lib.hid (P.out.grew g3); replace L := Lib.hid (L.out.grew g3); replace z0 := Lib.hid (lt_grew z0.out g3); replace z1 := Lib.hid (lt_grew z1.out g3); replace z2 := Lib.hid (lt_grew z2.out g3); replace Ra := Lib.hid (Ra.out.kept g3.keeps); replace Na := Lib.hid (Na.out.kept g3.keeps); replace Wz := Lib.hid (Wz.out.kept g3.keeps); replace X2 := Lib.hid (X2.out.kept g3.keeps); obtain ⟨R0, R1, R2, Rf0, Rf1, Rf2, Rs⟩ := R.out))
  replace G0 := Lib.hid (((G0.out.trans gd.out).trans g2).trans g3)
  clear gd g2 g3 ZL
  refine gen_then ?_
  intro W9 hW9
  obtain ⟨q0, q1, q2, qK, -, -, qs, qG⟩ := store3 (o := 0) R0 R1 R2 hW9
  have GE := qG w (.inr (by omega)) G0.out
  have QK := Lib.hid qK
  clear qK qG hW9 R0 R1 R2
  go_wp2_with fail
  exact bodyPost_ret (v := .agg #[.bool b5, .slice A5 n5 c5, .slice C5 m5 d5]) (by simp [results, Try.results38, go_sem, q0, q1, q2]) rfl ⟨_, rfl, X3.out.kept QK.out, GE⟩
end Go.Proofs.Ytpglnfccmhkocaa
