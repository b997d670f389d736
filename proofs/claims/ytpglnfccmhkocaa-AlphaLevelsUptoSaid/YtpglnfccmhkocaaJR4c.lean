/- frac.Cmp. Condition: what comes in reads; fewer than 2^39 words. r04.worth, up. Condition: what comes in reads. r04.up, Reduce. Condition: what comes in reads. r04.Int. Condition: an int. -/
import Derived.Test.YtpglnfccmhkocaaJFrac6
import Derived.Test.YtpglnfccmhkocaaJRatP
namespace Go.Proofs.Ytpglnfccmhkocaa
open Go.RowKit

set_option maxRecDepth 100000 in
set_option maxHeartbeats 8000000 in
theorem fcmp_any (Va Vb : Value) (p q : Rat) (k l : Nat) (w : World) (ha : FracV w Va p k) (hb : FracV w Vb q l) (hk : 1 ≤ k) (hl : 1 ≤ l) (hs : k + l < 549755813888) :
    Calls Try.prog 8 #[Va, Vb] w fun e w' => e = .returned (.int .i64 (cmpQ p q)) ∧ Grew w w' := by
  obtain ⟨b1, A1, n1, c1, C1, m1, d1, rfl, Ra⟩ := ha.laid
  obtain ⟨b2, A2, n2, c2, C2, m2, d2, rfl, Rb⟩ := hb.laid
  have hs2 : k < 549755813888 ∧ l < 549755813888 := by omega
  replace hs2 := Lib.hid hs2
  clear ha hb
  go_enter Try.func8, Try.ntmps8
  go_wp2_with fail
  refine gen_wp ?_
  intro W0 hW0
  have G0 : Grew w W0 := by rw [hW0]; exact ((Grew.refl w).alloc _).alloc _
  have P : Box3 W0 (w.heap.size) 0 (.bool b1) (.slice A1 n1 c1) (.slice C1 m1 d1) := by rw [hW0]; exact ⟨by simp [go_sem], by simp [go_sem], by simp [go_sem]⟩
  replace P := Lib.hid P
  have Q : Box3 W0 (w.heap.size + 1) 0 (.bool b2) (.slice A2 n2 c2) (.slice C2 m2 d2) := by rw [hW0]; exact ⟨by simp [go_sem], by simp [go_sem], by simp [go_sem]⟩
  replace Q := Lib.hid Q
  have z0 : w.heap.size < W0.heap.size := by rw [hW0]; simp <;> omega
  replace z0 := Lib.hid z0
  have z1 : w.heap.size + 1 < W0.heap.size := by rw [hW0]; simp <;> omega
  replace z1 := Lib.hid z1
  clear hW0
  replace Ra := Lib.hid (Ra.out.kept G0.keeps)
  replace Rb := Lib.hid (Rb.out.kept G0.keeps)
  replace G0 := Lib.hid G0
  go_upto_region 1 with fail
  go_cut [5, 6] (fun s5 s6 wx => ∃ e5 e6 : Nat, s5 = .pointer (some ⟨e5, 0, none⟩) ∧ At3 wx e5 (fun w V => RatQ w V p k) ∧ W0.heap.size ≤ e5 ∧ s6 = .pointer (some ⟨e6, 0, none⟩) ∧ At3 wx e6 (fun w V => RatQ w V q l) ∧ W0.heap.size ≤ e6 ∧ Grew W0 wx)
  · have KS : ∀ X, Grew W0 X → (fun w' => w'.cell? ⟨w.heap.size, 0, none⟩ = some (.bool b1) ∧ w'.cell? ⟨w.heap.size, 1, none⟩ = some (.slice A1 n1 c1) ∧ w'.cell? ⟨w.heap.size, 2, none⟩ = some (.slice C1 m1 d1) ∧ w'.cell? ⟨w.heap.size + 1, 0, none⟩ = some (.bool b2) ∧ w'.cell? ⟨w.heap.size + 1, 1, none⟩ = some (.slice A2 n2 c2) ∧ w'.cell? ⟨w.heap.size + 1, 2, none⟩ = some (.slice C2 m2 d2)) X := fun X g => ⟨g.cell P.out.p0, g.cell P.out.p1, g.cell P.out.p2, g.cell Q.out.p0, g.cell Q.out.p1, g.cell Q.out.p2⟩
    replace KS := Lib.hid KS
    go_region_held3 (fun w' => w'.cell? ⟨w.heap.size, 0, none⟩ = some (.bool b1) ∧ w'.cell? ⟨w.heap.size, 1, none⟩ = some (.slice A1 n1 c1) ∧ w'.cell? ⟨w.heap.size, 2, none⟩ = some (.slice C1 m1 d1) ∧ w'.cell? ⟨w.heap.size + 1, 0, none⟩ = some (.bool b2) ∧ w'.cell? ⟨w.heap.size + 1, 1, none⟩ = some (.slice A2 n2 c2) ∧ w'.cell? ⟨w.heap.size + 1, 2, none⟩ = some (.slice C2 m2 d2))
      (first | (refine KS.out _ ?_; (repeat (first | with_reducible exact Grew.refl _ | with_reducible refine Grew.setCell ?_ (by simp <;> omega) _ | with_reducible refine Grew.alloc ?_ _ | with_reducible refine Grew.drew ?_ | with_reducible apply Grew.trans ?_ g2 | with_reducible apply Grew.trans ?_ g1 )); done))
      (first | (go_at_call_of 32 (Value.agg #[.bool b1, .slice A1 n1 c1, .slice C1 m1 d1]); refine (parts_v _ p k _ (Ra.out.kept (Grew.keeps (by (repeat (first | with_reducible exact Grew.refl _ | with_reducible refine Grew.setCell ?_ (by simp <;> omega) _ | with_reducible refine Grew.alloc ?_ _ | with_reducible refine Grew.drew ?_ ))))) hk hs2.out.1).mono ?_; rintro e w1 ⟨V1, rfl, hV1, g1⟩; have zn1 : W0.heap.size ≤ w1.heap.size := (by have t := g1.size; (try simp at t); omega); obtain ⟨b3, A3, n3, c3, C3, m3, d3, rfl, X1⟩ := hV1.laid; clear hV1; (first | (with_reducible have tt := res_new2 g1; have h0_0 := tt.1; have h0_1 := tt.2; clear tt) | (with_reducible have tt := res_new2D g1; have h0_0 := tt.1; have h0_1 := tt.2; clear tt) | (with_reducible have h0_0 := res_new g1) | (with_reducible have h0_0 := res_newD g1) | skip); (try (have uu := Res3.lt h0_0; have ne0_1a : ¬ (w1.heap.size = W0.heap.size) := (by omega); have ne0_1b : ¬ (W0.heap.size = w1.heap.size) := (by omega); clear uu))) | (go_at_call 32; refine (parts_v _ q l _ (Rb.out.kept (Grew.keeps (by (repeat (first | with_reducible exact Grew.refl _ | with_reducible refine Grew.setCell ?_ (by simp <;> omega) _ | with_reducible refine Grew.alloc ?_ _ | with_reducible refine Grew.drew ?_ | with_reducible apply Grew.trans ?_ g1 ))))) hl hs2.out.2).mono ?_; rintro e w2 ⟨V2, rfl, hV2, g2⟩; have zn2 : w1.heap.size ≤ w2.heap.size := (by have t := g2.size; (try simp at t); omega); obtain ⟨b4, A4, n4, c4, C4, m4, d4, rfl, X2⟩ := hV2.laid; clear hV2; (try replace h0_0 : Res3 w2 (W0.heap.size) 0 (.bool false) (.slice none 0 0) (.slice none 0 0) := h0_0.grew (by (repeat (first | with_reducible exact Grew.refl _ | with_reducible refine Grew.setCell ?_ (by simp <;> omega) _ | with_reducible refine Grew.alloc ?_ _ | with_reducible refine Grew.drew ?_ | with_reducible apply Grew.trans ?_ g2 )))); (try replace h0_1 : Res3 w2 (W0.heap.size + 1) 0 (.bool false) (.slice none 0 0) (.slice none 0 0) := h0_1.grew (by (repeat (first | with_reducible exact Grew.refl _ | with_reducible refine Grew.setCell ?_ (by simp <;> omega) _ | with_reducible refine Grew.alloc ?_ _ | with_reducible refine Grew.drew ?_ | with_reducible apply Grew.trans ?_ g2 )))); (first | (with_reducible have tt := res_new2 g2; have h1_0 := tt.1; have h1_1 := tt.2; clear tt) | (with_reducible have tt := res_new2D g2; have h1_0 := tt.1; have h1_1 := tt.2; clear tt) | (with_reducible have h1_0 := res_new g2) | (with_reducible have h1_0 := res_newD g2) | skip); (try (have uu := Res3.lt h0_0; have ne0_2a : ¬ (w2.heap.size = W0.heap.size) := (by omega); have ne0_2b : ¬ (W0.heap.size = w2.heap.size) := (by omega); clear uu)); (try (have uu := Res3.lt h1_0; have ne1_2a : ¬ (w2.heap.size = w1.heap.size) := (by omega); have ne1_2b : ¬ (w1.heap.size = w2.heap.size) := (by omega); clear uu)); (try (have tt := h0_0; obtain ⟨h0_00, h0_01, h0_02, h0_0f0, h0_0f1, h0_0f2, h0_0s⟩ := tt)); (try (have tt := h0_1; obtain ⟨h0_10, h0_11, h0_12, h0_1f0, h0_1f1, h0_1f2, h0_1s⟩ := tt)); (try (have tt := h1_0; obtain ⟨h1_00, h1_01, h1_02, h1_0f0, h1_0f1, h1_0f2, h1_0s⟩ := tt)); (try (have tt := h1_1; obtain ⟨h1_10, h1_11, h1_12, h1_1f0, h1_1f1, h1_1f2, h1_1s⟩ := tt))))
    all_goals
      go_wp2_with fail
      go_meet
      have XX1 := Lib.hid (X1.out.kept (Grew.keeps (w := w1) (w' := w2) (by (repeat (first | with_reducible exact Grew.refl _ | with_reducible refine Grew.setCell ?_ (by simp <;> omega) _ | with_reducible refine Grew.alloc ?_ _ | with_reducible refine Grew.drew ?_ | with_reducible apply Grew.trans ?_ g2 )))))
      have XX2 := Lib.hid (X2.out.kept (Grew.keeps (w := w2) (w' := w2) (by (repeat (first | with_reducible exact Grew.refl _ | with_reducible refine Grew.setCell ?_ (by simp <;> omega) _ | with_reducible refine Grew.alloc ?_ _ | with_reducible refine Grew.drew ?_ )))))
      refine ⟨_, _, rfl, ?_, ?_, rfl, ?_, ?_, ?_⟩
      · repeat (first | with_reducible exact h0_0  | with_reducible exact h0_1  | with_reducible exact h1_0  | with_reducible exact h1_1 | with_reducible exact Keeps.refl _ | with_reducible refine At3.of_store (w := w2) (Rd.ratQ _ _) ?_ ?_ XX1.out | with_reducible refine At3.of_alloc (w := w2) (Rd.ratQ _ _) (by simp) ?_ XX1.out | with_reducible refine At3.store_far (Rd.ratQ _ _) ?_ ?_ (by omega) | with_reducible refine At3.grew (Rd.ratQ _ _) ?_ ((Grew.refl _).alloc _) | with_reducible refine Keeps.store ?_ ?_ | with_reducible refine Keeps.alloc ?_ | with_reducible refine Res3.store_far ?_ ?_ (by omega))
      · omega
      · repeat (first | with_reducible exact h0_0  | with_reducible exact h0_1  | with_reducible exact h1_0  | with_reducible exact h1_1 | with_reducible exact Keeps.refl _ | with_reducible refine At3.of_store (w := w2) (Rd.ratQ _ _) ?_ ?_ XX2.out | with_reducible refine At3.of_alloc (w := w2) (Rd.ratQ _ _) (by simp) ?_ XX2.out | with_reducible refine At3.store_far (Rd.ratQ _ _) ?_ ?_ (by omega) | with_reducible refine At3.grew (Rd.ratQ _ _) ?_ ((Grew.refl _).alloc _) | with_reducible refine Keeps.store ?_ ?_ | with_reducible refine Keeps.alloc ?_ | with_reducible refine Res3.store_far ?_ ?_ (by omega))
      · omega
      · (repeat (first | with_reducible exact Grew.refl _ | with_reducible refine Grew.setCell ?_ (by simp <;> omega) _ | with_reducible refine Grew.alloc ?_ _ | with_reducible refine Grew.drew ?_ | with_reducible apply Grew.trans ?_ g2 | with_reducible apply Grew.trans ?_ g1 ))
  obtain ⟨e5, e6, rfl, L, E5, rfl, M, E6, GA⟩ := hcut
  replace P := Lib.hid (P.out.grew GA)
  replace Q := Lib.hid (Q.out.grew GA)
  replace z0 := Lib.hid (lt_grew z0.out GA)
  replace z1 := Lib.hid (lt_grew z1.out GA)
  replace Ra := Lib.hid (Ra.out.kept GA.keeps)
  replace Rb := Lib.hid (Rb.out.kept GA.keeps)
  replace G0 := Lib.hid (G0.out.trans GA)
  obtain ⟨b105, A105, n105, c105, C105, m105, d105, L, XL, Z5⟩ := L
  replace L := Lib.hid L
  replace XL := Lib.hid XL
  replace Z5 := Lib.hid Z5
  clear E5
  obtain ⟨b106, A106, n106, c106, C106, m106, d106, M, XM, Z6⟩ := M
  replace M := Lib.hid M
  replace XM := Lib.hid XM
  replace Z6 := Lib.hid Z6
  clear E6
  clear GA
  obtain ⟨z, D, Ez, hD, Wz, Nz, k1, k2, -, -⟩ := XL.out.parts
  obtain ⟨y, E, Ey, hE, Wy, Ny, l1, l2, -, -⟩ := XM.out.parts
  -- Wz Nz Wy Ny
  have hs3 : k < 1099511627776 ∧ l < 1099511627776 ∧ k + l < 1099511627776 ∧ l + k < 1099511627776 ∧ (k + l < 549755813888 ∧ l + k < 549755813888) := by omega
  replace hs3 := Lib.hid hs3
  have r1 := Lib.hid (fun h : sg z ≠ sg y => (show cmpQ p q = if sg z < sg y then -1 else 1 by rw [← Ez.out, ← Ey.out]; exact cmpQ_sg_ne hD hE h))
  have r2 : cmpQ p q = cmpZ (z * E) (y * D) := by rw [← Ez.out, ← Ey.out]; exact cmpQ_mkRat z y D E hD hE
  have hm1 := Lib.hid (len_mulz z E k l k1 (by simpa using l2))
  have hm2 := Lib.hid (len_mulz y D l k l1 (by simpa using k2))
  replace r2 := Lib.hid r2
  replace k2 := Lib.hid k2
  replace l2 := Lib.hid l2
  clear hD hE k1 l1 Ez Ey hk hl hs
  go_wp2_with fail
  have gd : Grew wc wc.drew := (Grew.refl wc).drew
  replace P := Lib.hid (P.out.grew gd)
  replace Q := Lib.hid (Q.out.grew gd)
  replace L := Lib.hid (L.out.grew gd)
  replace M := Lib.hid (M.out.grew gd)
  replace z0 := Lib.hid (lt_grew z0.out gd)
  replace z1 := Lib.hid (lt_grew z1.out gd)
  replace Z5 := Lib.hid (lt_grew Z5.out gd)
  replace Z6 := Lib.hid (lt_grew Z6.out gd)
  replace Ra := Lib.hid (Ra.out.kept gd.keeps)
  replace Rb := Lib.hid (Rb.out.kept gd.keeps)
  replace XL := Lib.hid (XL.out.kept gd.keeps)
  replace XM := Lib.hid (XM.out.kept gd.keeps)
  replace Wz := Lib.hid (Wz.out.kept gd.keeps)
  replace Nz := Lib.hid (Nz.out.kept gd.keeps)
  replace Wy := Lib.hid (Wy.out.kept gd.keeps)
  replace Ny := Lib.hid (Ny.out.kept gd.keeps)
  replace gd := Lib.hid gd
  have ZL := L
  have ZM := M
  go_region_held3 (fun w' => w'.cell? ⟨e5, 0, none⟩ = some (.bool b105) ∧ w'.cell? ⟨e5, 1, none⟩ = some (.slice A105 n105 c105) ∧ w'.cell? ⟨e5, 2, none⟩ = some (.slice C105 m105 d105) ∧ w'.cell? ⟨e6, 0, none⟩ = some (.bool b106) ∧ w'.cell? ⟨e6, 1, none⟩ = some (.slice A106 n106 c106) ∧ w'.cell? ⟨e6, 2, none⟩ = some (.slice C106 m106 d106))
    (first | (with_reducible exact ⟨ZL.out.p0, ZL.out.p1, ZL.out.p2, ZM.out.p0, ZM.out.p1, ZM.out.p2⟩) | (with_reducible exact ⟨g3.cell ZL.out.p0, g3.cell ZL.out.p1, g3.cell ZL.out.p2, g3.cell ZM.out.p0, g3.cell ZM.out.p1, g3.cell ZM.out.p2⟩) | (with_reducible exact ⟨(g3.trans g4).cell ZL.out.p0, (g3.trans g4).cell ZL.out.p1, (g3.trans g4).cell ZL.out.p2, (g3.trans g4).cell ZM.out.p0, (g3.trans g4).cell ZM.out.p1, (g3.trans g4).cell ZM.out.p2⟩))
    (first | (go_at_call_of 33 (Value.agg #[.bool b105, .slice A105 n105 c105]); refine (sign_v _ z k _ Wz.out hs3.out.1).mono ?_; rintro e w3 ⟨rfl, g3⟩; replace P := Lib.hid (P.out.grew g3); replace Q := Lib.hid (Q.out.grew g3); replace L := Lib.hid (L.out.grew g3); replace M := Lib.hid (M.out.grew g3); replace z0 := Lib.hid (lt_grew z0.out g3); replace z1 := Lib.hid (lt_grew z1.out g3); replace Z5 := Lib.hid (lt_grew Z5.out g3); replace Z6 := Lib.hid (lt_grew Z6.out g3); replace Ra := Lib.hid (Ra.out.kept g3.keeps); replace Rb := Lib.hid (Rb.out.kept g3.keeps); replace XL := Lib.hid (XL.out.kept g3.keeps); replace XM := Lib.hid (XM.out.kept g3.keeps); replace Wz := Lib.hid (Wz.out.kept g3.keeps); replace Nz := Lib.hid (Nz.out.kept g3.keeps); replace Wy := Lib.hid (Wy.out.kept g3.keeps); replace Ny := Lib.hid (Ny.out.kept g3.keeps)) | (go_at_call 33; refine (sign_v _ y l _ Wy.out hs3.out.2.1).mono ?_; rintro e w4 ⟨rfl, g4⟩; replace P := Lib.hid (P.out.grew g4); replace Q := Lib.hid (Q.out.grew g4); replace L := Lib.hid (L.out.grew g4); replace M := Lib.hid (M.out.grew g4); replace z0 := Lib.hid (lt_grew z0.out g4); replace z1 := Lib.hid (lt_grew z1.out g4); replace Z5 := Lib.hid (lt_grew Z5.out g4); replace Z6 := Lib.hid (lt_grew Z6.out g4); replace Ra := Lib.hid (Ra.out.kept g4.keeps); replace Rb := Lib.hid (Rb.out.kept g4.keeps); replace XL := Lib.hid (XL.out.kept g4.keeps); replace XM := Lib.hid (XM.out.kept g4.keeps); replace Wz := Lib.hid (Wz.out.kept g4.keeps); replace Nz := Lib.hid (Nz.out.kept g4.keeps); replace Wy := Lib.hid (Wy.out.kept g4.keeps); replace Ny := Lib.hid (Ny.out.kept g4.keeps)))
  replace G0 := Lib.hid (((G0.out.trans gd.out).trans g3).trans g4)
  clear gd g3 g4 ZL ZM
  generalize sg z = s1 at *
  generalize sg y = s2 at *
  rcases Int.lt_trichotomy s1 s2 with h | h | h
  · as_aux_lemma =>
    have e1 : (s1 == s2) = false := by simp; omega
    have e2 : (s1 != s2) = true := by simp; omega
    have e3 := Lib.hid ((r1.out (by omega)).trans (if_pos h))
    go_wp2_with fail
    go_ret
    exact ⟨by rw [e3.out]; rfl, G0.out⟩
  · as_aux_lemma =>
    subst h
    have e1 : (s1 == s1) = true := by simp
    have e2 : (s1 != s1) = false := by simp
    clear r1
    go_wp2_with fail
    have gd : Grew w4 w4.drew := (Grew.refl w4).drew
    replace P := Lib.hid (P.out.grew gd)
    replace Q := Lib.hid (Q.out.grew gd)
    replace L := Lib.hid (L.out.grew gd)
    replace M := Lib.hid (M.out.grew gd)
    replace z0 := Lib.hid (lt_grew z0.out gd)
    replace z1 := Lib.hid (lt_grew z1.out gd)
    replace Z5 := Lib.hid (lt_grew Z5.out gd)
    replace Z6 := Lib.hid (lt_grew Z6.out gd)
    replace Ra := Lib.hid (Ra.out.kept gd.keeps)
    replace Rb := Lib.hid (Rb.out.kept gd.keeps)
    replace XL := Lib.hid (XL.out.kept gd.keeps)
    replace XM := Lib.hid (XM.out.kept gd.keeps)
    replace Wz := Lib.hid (Wz.out.kept gd.keeps)
    replace Nz := Lib.hid (Nz.out.kept gd.keeps)
    replace Wy := Lib.hid (Wy.out.kept gd.keeps)
    replace Ny := Lib.hid (Ny.out.kept gd.keeps)
    replace gd := Lib.hid gd
    have ZL := L
    have ZM := M
    go_region_held3 (fun w' => w'.cell? ⟨e5, 0, none⟩ = some (.bool b105) ∧ w'.cell? ⟨e5, 1, none⟩ = some (.slice A105 n105 c105) ∧ w'.cell? ⟨e5, 2, none⟩ = some (.slice C105 m105 d105) ∧ w'.cell? ⟨e6, 0, none⟩ = some (.bool b106) ∧ w'.cell? ⟨e6, 1, none⟩ = some (.slice A106 n106 c106) ∧ w'.cell? ⟨e6, 2, none⟩ = some (.slice C106 m106 d106))
      (first | (with_reducible exact ⟨ZL.out.p0, ZL.out.p1, ZL.out.p2, ZM.out.p0, ZM.out.p1, ZM.out.p2⟩) | (with_reducible exact ⟨g5.cell ZL.out.p0, g5.cell ZL.out.p1, g5.cell ZL.out.p2, g5.cell ZM.out.p0, g5.cell ZM.out.p1, g5.cell ZM.out.p2⟩) | (with_reducible exact ⟨(g5.trans g6).cell ZL.out.p0, (g5.trans g6).cell ZL.out.p1, (g5.trans g6).cell ZL.out.p2, (g5.trans g6).cell ZM.out.p0, (g5.trans g6).cell ZM.out.p1, (g5.trans g6).cell ZM.out.p2⟩) | (with_reducible exact ⟨((g5.trans g6).trans g7).cell ZL.out.p0, ((g5.trans g6).trans g7).cell ZL.out.p1, ((g5.trans g6).trans g7).cell ZL.out.p2, ((g5.trans g6).trans g7).cell ZM.out.p0, ((g5.trans g6).trans g7).cell ZM.out.p1, ((g5.trans g6).trans g7).cell ZM.out.p2⟩))
      (first | (go_at_call_of 35 (Value.agg #[.bool b105, .slice A105 n105 c105]); refine (wmul_v _ _ z E k l _ Wz.out (Ny.out.whl l2.out) hs3.out.2.2.1).mono ?_; rintro e w5 ⟨V5, rfl, hV5, g5⟩; obtain ⟨b7, A7, n7, c7, rfl, hV5, -⟩ := hV5.laid; have X5 := Lib.hid (hV5.out.v hm1.out); clear hV5; replace P := Lib.hid (P.out.grew g5); replace Q := Lib.hid (Q.out.grew g5); replace L := Lib.hid (L.out.grew g5); replace M := Lib.hid (M.out.grew g5); replace z0 := Lib.hid (lt_grew z0.out g5); replace z1 := Lib.hid (lt_grew z1.out g5); replace Z5 := Lib.hid (lt_grew Z5.out g5); replace Z6 := Lib.hid (lt_grew Z6.out g5); replace Ra := Lib.hid (Ra.out.kept g5.keeps); replace Rb := Lib.hid (Rb.out.kept g5.keeps); replace XL := Lib.hid (XL.out.kept g5.keeps); replace XM := Lib.hid (XM.out.kept g5.keeps); replace Wz := Lib.hid (Wz.out.kept g5.keeps); replace Nz := Lib.hid (Nz.out.kept g5.keeps); replace Wy := Lib.hid (Wy.out.kept g5.keeps); replace Ny := Lib.hid (Ny.out.kept g5.keeps)) | (go_at_call 35; refine (wmul_v _ _ y D l k _ Wy.out (Nz.out.whl k2.out) hs3.out.2.2.2.1).mono ?_; rintro e w6 ⟨V6, rfl, hV6, g6⟩; obtain ⟨b8, A8, n8, c8, rfl, hV6, -⟩ := hV6.laid; have X6 := Lib.hid (hV6.out.v hm2.out); clear hV6; replace P := Lib.hid (P.out.grew g6); replace Q := Lib.hid (Q.out.grew g6); replace L := Lib.hid (L.out.grew g6); replace M := Lib.hid (M.out.grew g6); replace z0 := Lib.hid (lt_grew z0.out g6); replace z1 := Lib.hid (lt_grew z1.out g6); replace Z5 := Lib.hid (lt_grew Z5.out g6); replace Z6 := Lib.hid (lt_grew Z6.out g6); replace Ra := Lib.hid (Ra.out.kept g6.keeps); replace Rb := Lib.hid (Rb.out.kept g6.keeps); replace XL := Lib.hid (XL.out.kept g6.keeps); replace XM := Lib.hid (XM.out.kept g6.keeps); replace Wz := Lib.hid (Wz.out.kept g6.keeps); replace Nz := Lib.hid (Nz.out.kept g6.keeps); replace Wy := Lib.hid (Wy.out.kept g6.keeps); replace Ny := Lib.hid (Ny.out.kept g6.keeps); replace X5 := Lib.hid (X5.out.kept g6.keeps)) | (go_at_call 34; refine (wcmp_v _ _ (z * E) (y * D) (k + l) (l + k) _ X5.out X6.out hs3.out.2.2.2.2).mono ?_; rintro e w7 ⟨rfl, g7⟩; replace P := Lib.hid (P.out.grew g7); replace Q := Lib.hid (Q.out.grew g7); replace L := Lib.hid (L.out.grew g7); replace M := Lib.hid (M.out.grew g7); replace z0 := Lib.hid (lt_grew z0.out g7); replace z1 := Lib.hid (lt_grew z1.out g7); replace Z5 := Lib.hid (lt_grew Z5.out g7); replace Z6 := Lib.hid (lt_grew Z6.out g7); replace Ra := Lib.hid (Ra.out.kept g7.keeps); replace Rb := Lib.hid (Rb.out.kept g7.keeps); replace XL := Lib.hid (XL.out.kept g7.keeps); replace XM := Lib.hid (XM.out.kept g7.keeps); replace Wz := Lib.hid (Wz.out.kept g7.keeps); replace Nz := Lib.hid (Nz.out.kept g7.keeps); replace Wy := Lib.hid (Wy.out.kept g7.keeps); replace Ny := Lib.hid (Ny.out.kept g7.keeps); replace X5 := Lib.hid (X5.out.kept g7.keeps); replace X6 := Lib.hid (X6.out.kept g7.keeps)))
    replace G0 := Lib.hid ((((G0.out.trans gd.out).trans g5).trans g6).trans g7)
    clear gd g5 g6 g7 ZL ZM
    go_wp2_with fail
    go_ret
    exact ⟨by rw [r2.out]; rfl, G0.out⟩
  · as_aux_lemma =>
    have e1 : (s1 == s2) = false := by simp; omega
    have e2 : (s1 != s2) = true := by simp; omega
    have h' : ¬ s1 < s2 := by omega
    have e3 := Lib.hid ((r1.out (by omega)).trans (if_neg h'))
    go_wp2_with fail
    go_ret
    exact ⟨by rw [e3.out]; rfl, G0.out⟩
end Go.Proofs.Ytpglnfccmhkocaa
namespace Go.Proofs.Ytpglnfccmhkocaa
open Go.RowKit

/-- A fraction as it comes in whose lower part is not 0. -/
def FracP (w : World) (V : Value) (q : Rat) (k : Nat) : Prop :=
  ∃ neg N D n m va vd, V = .agg #[.bool neg, va, vd] ∧ Num 4294967296 .u32 w va N n ∧ Num 4294967296 .u32 w vd D m ∧ mkRat (sgn neg N) D = q ∧ n ≤ k ∧ m ≤ k ∧ D ≠ 0

theorem num_nil (w : World) : Num 4294967296 .u32 w (.slice none 0 0) 0 0 := by
  exact ⟨none, 0, rfl, by simp, by simp, by simp⟩

set_option maxRecDepth 100000 in
set_option maxHeartbeats 4000000 in
theorem rworth_any (Va : Value) (p : Rat) (k : Nat) (w : World) (ha : FracR w Va p k) (hk : 1 ≤ k) (hs : k < 274877906944) :
    Calls Try.prog 60 #[Va] w fun e w' => ∃ V, e = .returned V ∧ FracP w' V p k ∧ Grew w w' := by
  obtain ⟨b1, N, D, n1, m1, va, vd, rfl, Na, Da, Ep, kn, km⟩ := ha
  obtain ⟨A1, c1, rfl, Ra⟩ := Na.slice
  obtain ⟨C1, d1, rfl, Rb⟩ := Da.slice
  clear Na Da
  replace Ep := Lib.hid Ep
  go_enter Try.func60, Try.ntmps60
  go_wp2_with fail
  refine gen_calls ?_
  intro W0 hW0
  have G0 : Grew w W0 := by rw [hW0]; exact ((Grew.refl w).alloc _).alloc _
  have P : Box3 W0 (w.heap.size) 0 (.bool b1) (.slice A1 n1 c1) (.slice C1 m1 d1) := by rw [hW0]; exact ⟨by simp [go_sem], by simp [go_sem], by simp [go_sem]⟩
  replace P := Lib.hid P
  have R : Res3 W0 (w.heap.size + 1) 0 (.bool false) (.slice none 0 0) (.slice none 0 0) := by rw [hW0]; exact ⟨by simp [go_sem], by simp [go_sem], by simp [go_sem], by simp [go_sem], by simp [go_sem], by simp [go_sem], by simp⟩
  replace R := Lib.hid R
  have z0 : w.heap.size < W0.heap.size := by rw [hW0]; simp <;> omega
  replace z0 := Lib.hid z0
  have z1 : w.heap.size + 1 < W0.heap.size := by rw [hW0]; simp <;> omega
  replace z1 := Lib.hid z1
  clear hW0
  replace Ra := Lib.hid (Ra.out.kept G0.keeps)
  replace Rb := Lib.hid (Rb.out.kept G0.keeps)
  replace G0 := Lib.hid G0
  refine (rbits_any _ D m1 _ Rb.out (by omega)).mono ?_
  rintro e w1 ⟨b, rfl, hb0, g1⟩
  replace R := Lib.hid (R.out.grew g1)
  replace P := Lib.hid (P.out.grew g1)
  replace z0 := Lib.hid (lt_grew z0.out g1)
  replace z1 := Lib.hid (lt_grew z1.out g1)
  replace Ra := Lib.hid (Ra.out.kept g1.keeps)
  replace Rb := Lib.hid (Rb.out.kept g1.keeps)
  replace G0 := Lib.hid (G0.out.trans g1)
  clear g1
  by_cases h0 : D = 0
  · as_aux_lemma =>
    have hb : b = 0 := hb0.2 h0
    subst hb
    clear hb0

    obtain ⟨W1, hW1⟩ : ∃ V, V = w1.alloc (.cells #[.int .u32 1] 80) := ⟨_, rfl⟩
    have gl : Grew w1 W1 := by rw [hW1]; exact (Grew.refl _).alloc _
    have y1 := Lib.hid (R.out).2.2.2.2.2.2
    replace R := Lib.hid (R.out.grew gl)
    replace P := Lib.hid (P.out.grew gl)
    replace z0 := Lib.hid (lt_grew z0.out gl)
    replace z1 := Lib.hid (lt_grew z1.out gl)
    replace Ra := Lib.hid (Ra.out.kept gl.keeps)
    replace Rb := Lib.hid (Rb.out.kept gl.keeps)
    have X5 : Num 4294967296 .u32 W1 (.slice (some ⟨w1.heap.size, 0, none⟩) 1 1) 1 1 := by rw [hW1]; exact num_one _ _
    replace X5 := Lib.hid X5
    skip
    replace G0 := Lib.hid (G0.out.trans gl)
    clear gl
    subst hW1
    obtain ⟨P0, P1, P2⟩ := P.out
    obtain ⟨R0, R1, R2, Rf0, Rf1, Rf2, Rs⟩ := R.out
    go_wp2_with fail
    clear P0 P1 P2
    refine gen_post ?_
    intro W9 hW9
    obtain ⟨q0, q1, q2, qK, -, -, qs, qG⟩ := store3 (o := 0) R0 R1 R2 hW9
    have GE := qG w (.inr (by omega)) G0.out
    have QK := Lib.hid qK
    clear qK qG hW9 R0 R1 R2
    exact bodyPost_ret (v := .agg #[.bool false, .slice none 0 0, .slice (some ⟨w1.heap.size, 0, none⟩) 1 1]) (by simp [results, Try.results60, go_sem, q0, q1, q2]) rfl ⟨_, rfl, ⟨false, 0, 1, 0, 1, _, _, rfl, num_nil _, QK.out _ _ _ _ _ X5.out, by rw [← Ep.out, h0, Rat.mkRat_zero]; rfl, by omega, hk, by omega⟩, GE⟩

  · as_aux_lemma =>
    have hb : (b : Int) ≠ 0 := fun e => h0 (hb0.1 (by omega))
    generalize (b : Int) = bi at *
    clear hb0
    obtain ⟨P0, P1, P2⟩ := P.out
    obtain ⟨R0, R1, R2, Rf0, Rf1, Rf2, Rs⟩ := R.out
    go_wp2_with fail
    clear P0 P1 P2
    refine gen_post ?_
    intro W9 hW9
    obtain ⟨q0, q1, q2, qK, -, -, qs, qG⟩ := store3 (o := 0) R0 R1 R2 hW9
    have GE := qG w (.inr (by omega)) G0.out
    have QK := Lib.hid qK
    clear qK qG hW9 R0 R1 R2
    exact bodyPost_ret (v := .agg #[.bool b1, .slice A1 n1 c1, .slice C1 m1 d1]) (by simp [results, Try.results60, go_sem, q0, q1, q2]) rfl ⟨_, rfl, ⟨b1, N, D, n1, m1, _, _, rfl, QK.out _ _ _ _ _ Ra.out, QK.out _ _ _ _ _ Rb.out, Ep.out, kn, km, h0⟩, GE⟩
end Go.Proofs.Ytpglnfccmhkocaa
namespace Go.Proofs.Ytpglnfccmhkocaa
open Go.RowKit

set_option maxRecDepth 100000 in
set_option maxHeartbeats 4000000 in
theorem rup_any (b1 : Bool) (A1 C1 : Option Addr) (n1 c1 m1 d1 D : Nat) (w : World) (hb : Num 4294967296 .u32 w (.slice C1 m1 d1) D m1) :
    Calls Try.prog 63 #[.agg #[.bool b1, .slice A1 n1 c1, .slice C1 m1 d1]] w fun e w' => e = .returned (.agg #[.bool false, .slice C1 m1 d1]) ∧ Grew w w' := by
  replace hb := Lib.hid hb
  go_enter Try.func63, Try.ntmps63
  go_wp2_with fail
  exact bodyPost_ret (v := .agg #[.bool false, .slice C1 m1 d1]) (by simp [results, Try.results63, go_sem]) rfl ⟨rfl, ((Grew.refl w).alloc _).alloc _⟩

theorem sgn_neg_dec {b : Bool} {N : Nat} (h : N ≠ 0) : decide (sgn b N < 0) = b := by
  unfold sgn; cases b <;> simp <;> omega

set_option maxRecDepth 100000 in
set_option maxHeartbeats 4000000 in
theorem rfreduce_any (Va : Value) (p : Rat) (k : Nat) (w : World) (ha : FracR w Va p k) (hs : k < 4294967296) :
    Calls Try.prog 66 #[Va] w fun e w' => ∃ V, e = .returned V ∧ FracC w' V p ∧ Grew w w' := by
  obtain ⟨b1, N, D, n1, m1, va, vd, rfl, Na, Da, Ep, kn, km⟩ := ha
  obtain ⟨A1, c1, rfl, Ra⟩ := Na.slice
  obtain ⟨C1, d1, rfl, Rb⟩ := Da.slice
  have hz : sgn b1 N = 0 ↔ N = 0 := by unfold sgn; cases b1 <;> simp
  clear Na Da
  replace Ep := Lib.hid Ep
  go_enter Try.func66, Try.ntmps66
  go_wp2_with fail
  refine gen_calls ?_
  intro W0 hW0
  have G0 : Grew w W0 := by rw [hW0]; exact ((Grew.refl w).alloc _).alloc _
  have P : Box3 W0 (w.heap.size) 0 (.bool b1) (.slice A1 n1 c1) (.slice C1 m1 d1) := by rw [hW0]; exact ⟨by simp [go_sem], by simp [go_sem], by simp [go_sem]⟩
  replace P := Lib.hid P
  have R : Res3 W0 (w.heap.size + 1) 0 (.bool false) (.slice none 0 0) (.slice none 0 0) := by rw [hW0]; exact ⟨by simp [go_sem], by simp [go_sem], by simp [go_sem], by simp [go_sem], by simp [go_sem], by simp [go_sem], by simp⟩
  replace R := Lib.hid R
  have z0 : w.heap.size < W0.heap.size := by rw [hW0]; simp <;> omega
  replace z0 := Lib.hid z0
  have z1 : w.heap.size + 1 < W0.heap.size := by rw [hW0]; simp <;> omega
  replace z1 := Lib.hid z1
  clear hW0
  replace Ra := Lib.hid (Ra.out.kept G0.keeps)
  replace Rb := Lib.hid (Rb.out.kept G0.keeps)
  replace G0 := Lib.hid G0
  refine (rbits_any _ D m1 _ Rb.out (by omega)).mono ?_
  rintro e w1 ⟨b, rfl, hb0, g1⟩
  replace R := Lib.hid (R.out.grew g1)
  replace P := Lib.hid (P.out.grew g1)
  replace z0 := Lib.hid (lt_grew z0.out g1)
  replace z1 := Lib.hid (lt_grew z1.out g1)
  replace Ra := Lib.hid (Ra.out.kept g1.keeps)
  replace Rb := Lib.hid (Rb.out.kept g1.keeps)
  replace G0 := Lib.hid (G0.out.trans g1)
  clear g1

  by_cases h0 : D = 0
  · as_aux_lemma =>
    have hb : b = 0 := hb0.2 h0
    subst hb
    clear hb0
    have hp : p = 0 := by rw [← Ep.out, h0, Rat.mkRat_zero]
    obtain ⟨W1, hW1⟩ : ∃ V, V = w1.alloc (.cells #[.int .u32 1] 80) := ⟨_, rfl⟩
    have gl : Grew w1 W1 := by rw [hW1]; exact (Grew.refl _).alloc _
    have y1 := Lib.hid (R.out).2.2.2.2.2.2
    replace R := Lib.hid (R.out.grew gl)
    replace P := Lib.hid (P.out.grew gl)
    replace z0 := Lib.hid (lt_grew z0.out gl)
    replace z1 := Lib.hid (lt_grew z1.out gl)
    replace Ra := Lib.hid (Ra.out.kept gl.keeps)
    replace Rb := Lib.hid (Rb.out.kept gl.keeps)
    have X5 : Num 4294967296 .u32 W1 (.slice (some ⟨w1.heap.size, 0, none⟩) 1 1) 1 1 := by rw [hW1]; exact num_one _ _
    replace X5 := Lib.hid X5
    skip
    replace G0 := Lib.hid (G0.out.trans gl)
    clear gl
    subst hW1
    obtain ⟨P0, P1, P2⟩ := P.out
    obtain ⟨R0, R1, R2, Rf0, Rf1, Rf2, Rs⟩ := R.out
    go_wp2_with fail
    clear P0 P1 P2
    refine gen_post ?_
    intro W9 hW9
    obtain ⟨q0, q1, q2, qK, -, -, qs, qG⟩ := store3 (o := 0) R0 R1 R2 hW9
    have GE := qG w (.inr (by omega)) G0.out
    have QK := Lib.hid qK
    clear qK qG hW9 R0 R1 R2
    exact bodyPost_ret (v := .agg #[.bool false, .slice none 0 0, .slice (some ⟨w1.heap.size, 0, none⟩) 1 1]) (by simp [results, Try.results66, go_sem, q0, q1, q2]) rfl ⟨_, rfl, hp ▸ FracC.mk (z := 0) ⟨_, rfl, num_nil _⟩ (QK.out _ _ _ _ _ X5.out) rfl rfl rfl, GE⟩
  · as_aux_lemma =>

    have hb : (b : Int) ≠ 0 := fun e => h0 (hb0.1 (by omega))
    generalize (b : Int) = bi at *
    clear hb0
    obtain ⟨P0, P1, P2⟩ := P.out
    go_wp2_with fail
    clear P0 P1 P2
    refine (rbits_any _ N n1 _ Ra.out (by omega)).mono ?_
    rintro e w2 ⟨b2, rfl, hb2, g2⟩
    replace R := Lib.hid (R.out.grew g2)
    replace P := Lib.hid (P.out.grew g2)
    replace z0 := Lib.hid (lt_grew z0.out g2)
    replace z1 := Lib.hid (lt_grew z1.out g2)
    replace Ra := Lib.hid (Ra.out.kept g2.keeps)
    replace Rb := Lib.hid (Rb.out.kept g2.keeps)
    replace G0 := Lib.hid (G0.out.trans g2)
    clear g2

    by_cases h1 : N = 0
    · as_aux_lemma =>
      have hb3 : b2 = 0 := hb2.2 h1
      subst hb3
      clear hb2
      have hp : p = 0 := by rw [← Ep.out, hz.2 h1]; exact Rat.zero_mkRat _
      obtain ⟨W1, hW1⟩ : ∃ V, V = w2.alloc (.cells #[.int .u32 1] 80) := ⟨_, rfl⟩
      have gl : Grew w2 W1 := by rw [hW1]; exact (Grew.refl _).alloc _
      have y1 := Lib.hid (R.out).2.2.2.2.2.2
      replace R := Lib.hid (R.out.grew gl)
      replace P := Lib.hid (P.out.grew gl)
      replace z0 := Lib.hid (lt_grew z0.out gl)
      replace z1 := Lib.hid (lt_grew z1.out gl)
      replace Ra := Lib.hid (Ra.out.kept gl.keeps)
      replace Rb := Lib.hid (Rb.out.kept gl.keeps)
      have X5 : Num 4294967296 .u32 W1 (.slice (some ⟨w2.heap.size, 0, none⟩) 1 1) 1 1 := by rw [hW1]; exact num_one _ _
      replace X5 := Lib.hid X5
      skip
      replace G0 := Lib.hid (G0.out.trans gl)
      clear gl
      subst hW1
      obtain ⟨P0, P1, P2⟩ := P.out
      obtain ⟨R0, R1, R2, Rf0, Rf1, Rf2, Rs⟩ := R.out
      go_wp2_with fail
      clear P0 P1 P2
      refine gen_post ?_
      intro W9 hW9
      obtain ⟨q0, q1, q2, qK, -, -, qs, qG⟩ := store3 (o := 0) R0 R1 R2 hW9
      have GE := qG w (.inr (by omega)) G0.out
      have QK := Lib.hid qK
      clear qK qG hW9 R0 R1 R2
      exact bodyPost_ret (v := .agg #[.bool false, .slice none 0 0, .slice (some ⟨w2.heap.size, 0, none⟩) 1 1]) (by simp [results, Try.results66, go_sem, q0, q1, q2]) rfl ⟨_, rfl, hp ▸ FracC.mk (z := 0) ⟨_, rfl, num_nil _⟩ (QK.out _ _ _ _ _ X5.out) rfl rfl rfl, GE⟩
    · as_aux_lemma =>

      have hb3 : (b2 : Int) ≠ 0 := fun e => h1 (hb2.1 (by omega))
      generalize (b2 : Int) = bj at *
      clear hb2
      have f1 : (bi == 0) = false := by simp [hb]
      have f2 : (bj == 0) = false := by simp [hb3]
      rw [f1]
      have hgl : len 4294967296 (N / Nat.gcd N D) < 137438953472 := by
        have h1 := len_mono (B := 4294967296) (by omega) (Nat.div_le_self N (Nat.gcd N D))
        have := Ra.out.len_le (by omega)
        omega
      have e1 : sgn b1 (N / Nat.gcd N D) = p.num := by
        have := mkRat_num_sgn (sgn b1 N) D h0
        rw [sgn_neg_dec h1, sgn_abs, Ep.out] at this
        exact this
      have e2 : D / Nat.gcd N D = p.den := by
        have := mkRat_den_gcd (sgn b1 N) D h0
        rw [sgn_abs, Ep.out] at this
        exact this
      replace hgl := Lib.hid hgl
      replace e1 := Lib.hid e1
      replace e2 := Lib.hid e2
      obtain ⟨P0, P1, P2⟩ := P.out
      go_wp2_with fail
      clear P0 P1 P2
      refine (rReduce_any _ _ N D n1 m1 _ Ra.out Rb.out (by omega) h0).mono ?_
      rintro e w3 ⟨x, y, rfl, hX, hY, g3⟩
      obtain ⟨A3, c3, rfl, X1⟩ := hX.slice
      obtain ⟨C3, d3, rfl, Y1⟩ := hY.slice
      clear hX hY
      replace R := Lib.hid (R.out.grew g3)
      replace P := Lib.hid (P.out.grew g3)
      replace z0 := Lib.hid (lt_grew z0.out g3)
      replace z1 := Lib.hid (lt_grew z1.out g3)
      replace Ra := Lib.hid (Ra.out.kept g3.keeps)
      replace Rb := Lib.hid (Rb.out.kept g3.keeps)
      replace G0 := Lib.hid (G0.out.trans g3)
      clear g3
      obtain ⟨P0, P1, P2⟩ := P.out
      go_wp2_with fail
      clear P0 P1 P2
      refine (rmake_any _ _ (N / Nat.gcd N D) _ _ X1.out hgl.out).mono ?_
      rintro e w4 ⟨V2, rfl, hV2, g4⟩
      obtain ⟨b4, A4, n4, c4, rfl, X2, -⟩ := hV2.laid
      clear hV2
      replace R := Lib.hid (R.out.grew g4)
      replace P := Lib.hid (P.out.grew g4)
      replace z0 := Lib.hid (lt_grew z0.out g4)
      replace z1 := Lib.hid (lt_grew z1.out g4)
      replace Ra := Lib.hid (Ra.out.kept g4.keeps)
      replace Rb := Lib.hid (Rb.out.kept g4.keeps)
      replace X1 := Lib.hid (X1.out.kept g4.keeps)
      replace Y1 := Lib.hid (Y1.out.kept g4.keeps)
      replace G0 := Lib.hid (G0.out.trans g4)
      clear g4
      obtain ⟨P0, P1, P2⟩ := P.out
      obtain ⟨R0, R1, R2, Rf0, Rf1, Rf2, Rs⟩ := R.out
      go_wp2_with fail
      clear P0 P1 P2
      refine gen_post ?_
      intro W9 hW9
      obtain ⟨q0, q1, q2, qK, -, -, qs, qG⟩ := store3 (o := 0) R0 R1 R2 hW9
      have GE := qG w (.inr (by omega)) G0.out
      have QK := Lib.hid qK
      clear qK qG hW9 R0 R1 R2
      exact bodyPost_ret (v := .agg #[.bool b4, .slice A4 n4 c4, .slice C3 (len 4294967296 (D / Nat.gcd N D)) d3]) (by simp [results, Try.results66, go_sem, q0, q1, q2]) rfl ⟨_, rfl, FracC.mk (X2.out.kept QK.out) (QK.out _ _ _ _ _ Y1.out) rfl e1.out e2.out, GE⟩
end Go.Proofs.Ytpglnfccmhkocaa
namespace Go.Proofs.Ytpglnfccmhkocaa
open Go.RowKit

set_option maxRecDepth 100000 in
set_option maxHeartbeats 4000000 in
theorem rfint_any (x : Int) (w : World) (h0 : -9223372036854775808 ≤ x) (h1 : x ≤ 9223372036854775807) :
    Calls Try.prog 26 #[.int .i64 x] w fun e w' => ∃ V, e = .returned V ∧ FracC w' V (x : Rat) ∧ Grew w w' := by
  go_enter Try.func26, Try.ntmps26
  go_wp2_with fail
  refine gen_calls ?_
  intro W0 hW0
  have G0 : Grew w W0 := by rw [hW0]; exact (Grew.refl w).alloc _
  have R : Res3 W0 (w.heap.size) 0 (.bool false) (.slice none 0 0) (.slice none 0 0) := by rw [hW0]; exact ⟨by simp [go_sem], by simp [go_sem], by simp [go_sem], by simp [go_sem], by simp [go_sem], by simp [go_sem], by simp⟩
  replace R := Lib.hid R
  have z0 : w.heap.size < W0.heap.size := by rw [hW0]; simp <;> omega
  replace z0 := Lib.hid z0
  clear hW0
  replace G0 := Lib.hid G0
  refine (r2of_any x _ h0 h1).mono ?_
  rintro e w1 ⟨V1, rfl, hV1, g1⟩
  obtain ⟨b3, A3, n3, c3, rfl, X1, -⟩ := hV1.laid
  clear hV1
  replace R := Lib.hid (R.out.grew g1)
  replace z0 := Lib.hid (lt_grew z0.out g1)
  replace G0 := Lib.hid (G0.out.trans g1)
  clear g1
  obtain ⟨W1, hW1⟩ : ∃ V, V = w1.alloc (.cells #[.int .u32 1] 80) := ⟨_, rfl⟩
  have gl : Grew w1 W1 := by rw [hW1]; exact (Grew.refl _).alloc _
  have y1 := Lib.hid (R.out).2.2.2.2.2.2
  replace R := Lib.hid (R.out.grew gl)
  replace z0 := Lib.hid (lt_grew z0.out gl)
  replace X1 := Lib.hid (X1.out.kept gl.keeps)
  have X5 : Num 4294967296 .u32 W1 (.slice (some ⟨w1.heap.size, 0, none⟩) 1 1) 1 1 := by rw [hW1]; exact num_one _ _
  replace X5 := Lib.hid X5
  skip
  replace G0 := Lib.hid (G0.out.trans gl)
  clear gl
  subst hW1
  obtain ⟨R0, R1, R2, Rf0, Rf1, Rf2, Rs⟩ := R.out
  go_wp2_with fail
  refine gen_post ?_
  intro W9 hW9
  obtain ⟨q0, q1, q2, qK, -, -, qs, qG⟩ := store3 (o := 0) R0 R1 R2 hW9
  have GE := qG w (.inr (by omega)) G0.out
  have QK := Lib.hid qK
  clear qK qG hW9 R0 R1 R2
  exact bodyPost_ret (v := .agg #[.bool b3, .slice A3 n3 c3, .slice (some ⟨w1.heap.size, 0, none⟩) 1 1]) (by simp [results, Try.results26, go_sem, q0, q1, q2]) rfl ⟨_, rfl, FracC.mk (X1.out.kept QK.out) (X5.out.kept QK.out) rfl rfl rfl, GE⟩
end Go.Proofs.Ytpglnfccmhkocaa
