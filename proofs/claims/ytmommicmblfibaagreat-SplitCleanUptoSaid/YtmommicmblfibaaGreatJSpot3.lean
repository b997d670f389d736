/- frac.Cmp. Condition: what comes in reads; fewer than 2^39 words. spot.Turn, spot.Mid. Condition: what comes in reads; fewer than 2^30 words. spot.within, spot.On. Condition: what comes in reads; fewer than 2^30 words. spot.On, spot.At, and spot.Turns at three points. Condition: what comes in reads; fewer than 2^30 words. -/
import Derived.Test.YtmommicmblfibaaGreatJFrac6
namespace Go.Proofs.YtmommicmblfibaaGreat
open Go.RowKit

set_option maxRecDepth 100000 in
set_option maxHeartbeats 8000000 in
theorem fcmp_any (Va Vb : Value) (p q : Rat) (k l : Nat) (w : World) (ha : FracV w Va p k) (hb : FracV w Vb q l) (hk : 1 ≤ k) (hl : 1 ≤ l) (hs : k + l < 549755813888) :
    Calls Tryz.prog 36 #[Va, Vb] w fun e w' => e = .returned (.int .i64 (cmpQ p q)) ∧ Grew w w' := by
  obtain ⟨b1, A1, n1, c1, C1, m1, d1, rfl, Ra⟩ := ha.laid
  obtain ⟨b2, A2, n2, c2, C2, m2, d2, rfl, Rb⟩ := hb.laid
  have hs2 : k < 549755813888 ∧ l < 549755813888 := by omega
  replace hs2 := Lib.hid hs2
  clear ha hb
  go_enter Tryz.func36, Tryz.ntmps36
  go_wp2_with fail
  refine gen_wp ?_
  intro W0 hW0
  have G0 : Grew w W0 := by rw [hW0]; exact ((Grew.refl w).alloc _).alloc _
  have P : Box3 W0 (w.heap.size) 0 (.bool b1) (.slice A1 n1 c1) (.slice C1 m1 d1) := by rw [hW0]; exact ⟨by simp [go_sem], by simp [go_sem], by simp [go_sem]⟩
  replace P := Lib.hid P
  have Q : Box3 W0 (w.heap.size + 1) 0 (.bool b2) (.slice A2 n2 c2) (.slice C2 m2 d2) := by rw [hW0]; exact ⟨by simp [go_sem], by simp [go_sem], by simp [go_sem]⟩
  replace Q := Lib.hid Q
  have z0 : w.heap.size < W0.heap.size := by rw [hW0]; simp <;> omega
  replace z0 := Lib.hid z0
  have z1 : w.heap.size + 1 < W0.heap.size := by rw [hW0]; simp <;> omega
  replace z1 := Lib.hid z1
  clear hW0
  replace Ra := Lib.hid (Ra.out.kept G0.keeps)
  replace Rb := Lib.hid (Rb.out.kept G0.keeps)
  replace G0 := Lib.hid G0
  go_upto_region 1 with fail
  go_cut [5, 6] (fun s5 s6 wx => ∃ e5 e6 : Nat, s5 = .pointer (some ⟨e5, 0, none⟩) ∧ At3 wx e5 (fun w V => RatQ w V p k) ∧ W0.heap.size ≤ e5 ∧ s6 = .pointer (some ⟨e6, 0, none⟩) ∧ At3 wx e6 (fun w V => RatQ w V q l) ∧ W0.heap.size ≤ e6 ∧ Grew W0 wx)
  · have KS : ∀ X, Grew W0 X → (fun w' => w'.cell? ⟨w.heap.size, 0, none⟩ = some (.bool b1) ∧ w'.cell? ⟨w.heap.size, 1, none⟩ = some (.slice A1 n1 c1) ∧ w'.cell? ⟨w.heap.size, 2, none⟩ = some (.slice C1 m1 d1) ∧ w'.cell? ⟨w.heap.size + 1, 0, none⟩ = some (.bool b2) ∧ w'.cell? ⟨w.heap.size + 1, 1, none⟩ = some (.slice A2 n2 c2) ∧ w'.cell? ⟨w.heap.size + 1, 2, none⟩ = some (.slice C2 m2 d2)) X := fun X g => ⟨g.cell P.out.p0, g.cell P.out.p1, g.cell P.out.p2, g.cell Q.out.p0, g.cell Q.out.p1, g.cell Q.out.p2⟩
    replace KS := Lib.hid KS
    go_region_held3 (fun w' => w'.cell? ⟨w.heap.size, 0, none⟩ = some (.bool b1) ∧ w'.cell? ⟨w.heap.size, 1, none⟩ = some (.slice A1 n1 c1) ∧ w'.cell? ⟨w.heap.size, 2, none⟩ = some (.slice C1 m1 d1) ∧ w'.cell? ⟨w.heap.size + 1, 0, none⟩ = some (.bool b2) ∧ w'.cell? ⟨w.heap.size + 1, 1, none⟩ = some (.slice A2 n2 c2) ∧ w'.cell? ⟨w.heap.size + 1, 2, none⟩ = some (.slice C2 m2 d2))
      (first | (refine KS.out _ ?_; (repeat (first | with_reducible exact Grew.refl _ | with_reducible refine Grew.setCell ?_ (by simp <;> omega) _ | with_reducible refine Grew.alloc ?_ _ | with_reducible refine Grew.drew ?_ | with_reducible apply Grew.trans ?_ g2 | with_reducible apply Grew.trans ?_ g1 )); done))
      (first | (go_at_call_of 62 (Value.agg #[.bool b1, .slice A1 n1 c1, .slice C1 m1 d1]); refine (parts_v _ p k _ (Ra.out.kept (Grew.keeps (by (repeat (first | with_reducible exact Grew.refl _ | with_reducible refine Grew.setCell ?_ (by simp <;> omega) _ | with_reducible refine Grew.alloc ?_ _ | with_reducible refine Grew.drew ?_ ))))) hk hs2.out.1).mono ?_; rintro e w1 ⟨V1, rfl, hV1, g1⟩; have zn1 : W0.heap.size ≤ w1.heap.size := (by have t := g1.size; (try simp at t); omega); obtain ⟨b3, A3, n3, c3, C3, m3, d3, rfl, X1⟩ := hV1.laid; clear hV1; (first | (with_reducible have tt := res_new2 g1; have h0_0 := tt.1; have h0_1 := tt.2; clear tt) | (with_reducible have tt := res_new2D g1; have h0_0 := tt.1; have h0_1 := tt.2; clear tt) | (with_reducible have h0_0 := res_new g1) | (with_reducible have h0_0 := res_newD g1) | skip); (try (have uu := Res3.lt h0_0; have ne0_1a : ¬ (w1.heap.size = W0.heap.size) := (by omega); have ne0_1b : ¬ (W0.heap.size = w1.heap.size) := (by omega); clear uu))) | (go_at_call 62; refine (parts_v _ q l _ (Rb.out.kept (Grew.keeps (by (repeat (first | with_reducible exact Grew.refl _ | with_reducible refine Grew.setCell ?_ (by simp <;> omega) _ | with_reducible refine Grew.alloc ?_ _ | with_reducible refine Grew.drew ?_ | with_reducible apply Grew.trans ?_ g1 ))))) hl hs2.out.2).mono ?_; rintro e w2 ⟨V2, rfl, hV2, g2⟩; have zn2 : w1.heap.size ≤ w2.heap.size := (by have t := g2.size; (try simp at t); omega); obtain ⟨b4, A4, n4, c4, C4, m4, d4, rfl, X2⟩ := hV2.laid; clear hV2; (try replace h0_0 : Res3 w2 (W0.heap.size) 0 (.bool false) (.slice none 0 0) (.slice none 0 0) := h0_0.grew (by (repeat (first | with_reducible exact Grew.refl _ | with_reducible refine Grew.setCell ?_ (by simp <;> omega) _ | with_reducible refine Grew.alloc ?_ _ | with_reducible refine Grew.drew ?_ | with_reducible apply Grew.trans ?_ g2 )))); (try replace h0_1 : Res3 w2 (W0.heap.size + 1) 0 (.bool false) (.slice none 0 0) (.slice none 0 0) := h0_1.grew (by (repeat (first | with_reducible exact Grew.refl _ | with_reducible refine Grew.setCell ?_ (by simp <;> omega) _ | with_reducible refine Grew.alloc ?_ _ | with_reducible refine Grew.drew ?_ | with_reducible apply Grew.trans ?_ g2 )))); (first | (with_reducible have tt := res_new2 g2; have h1_0 := tt.1; have h1_1 := tt.2; clear tt) | (with_reducible have tt := res_new2D g2; have h1_0 := tt.1; have h1_1 := tt.2; clear tt) | (with_reducible have h1_0 := res_new g2) | (with_reducible have h1_0 := res_newD g2) | skip); (try (have uu := Res3.lt h0_0; have ne0_2a : ¬ (w2.heap.size = W0.heap.size) := (by omega); have ne0_2b : ¬ (W0.heap.size = w2.heap.size) := (by omega); clear uu)); (try (have uu := Res3.lt h1_0; have ne1_2a : ¬ (w2.heap.size = w1.heap.size) := (by omega); have ne1_2b : ¬ (w1.heap.size = w2.heap.size) := (by omega); clear uu)); (try (have tt := h0_0; obtain ⟨h0_00, h0_01, h0_02, h0_0f0, h0_0f1, h0_0f2, h0_0s⟩ := tt)); (try (have tt := h0_1; obtain ⟨h0_10, h0_11, h0_12, h0_1f0, h0_1f1, h0_1f2, h0_1s⟩ := tt)); (try (have tt := h1_0; obtain ⟨h1_00, h1_01, h1_02, h1_0f0, h1_0f1, h1_0f2, h1_0s⟩ := tt)); (try (have tt := h1_1; obtain ⟨h1_10, h1_11, h1_12, h1_1f0, h1_1f1, h1_1f2, h1_1s⟩ := tt))))
    all_goals
      go_wp2_with fail
      go_meet
      have XX1 := Lib.hid (X1.out.kept (Grew.keeps (w := w1) (w' := w2) (by (repeat (first | with_reducible exact Grew.refl _ | with_reducible refine Grew.setCell ?_ (by simp <;> omega) _ | with_reducible refine Grew.alloc ?_ _ | with_reducible refine Grew.drew ?_ | with_reducible apply Grew.trans ?_ g2 )))))
      have XX2 := Lib.hid (X2.out.kept (Grew.keeps (w := w2) (w' := w2) (by (repeat (first | with_reducible exact Grew.refl _ | with_reducible refine Grew.setCell ?_ (by simp <;> omega) _ | with_reducible refine Grew.alloc ?_ _ | with_reducible refine Grew.drew ?_ )))))
      refine ⟨_, _, rfl, ?_, ?_, rfl, ?_, ?_, ?_⟩
      · repeat (first | with_reducible exact h0_0  | with_reducible exact h0_1  | with_reducible exact h1_0  | with_reducible exact h1_1 | with_reducible exact Keeps.refl _ | with_reducible refine At3.of_store (w := w2) (Rd.ratQ _ _) ?_ ?_ XX1.out | with_reducible refine At3.of_alloc (w := w2) (Rd.ratQ _ _) (by simp) ?_ XX1.out | with_reducible refine At3.store_far (Rd.ratQ _ _) ?_ ?_ (by omega) | with_reducible refine At3.grew (Rd.ratQ _ _) ?_ ((Grew.refl _).alloc _) | with_reducible refine Keeps.store ?_ ?_ | with_reducible refine Keeps.alloc ?_ | with_reducible refine Res3.store_far ?_ ?_ (by omega))
      · omega
      · repeat (first | with_reducible exact h0_0  | with_reducible exact h0_1  | with_reducible exact h1_0  | with_reducible exact h1_1 | with_reducible exact Keeps.refl _ | with_reducible refine At3.of_store (w := w2) (Rd.ratQ _ _) ?_ ?_ XX2.out | with_reducible refine At3.of_alloc (w := w2) (Rd.ratQ _ _) (by simp) ?_ XX2.out | with_reducible refine At3.store_far (Rd.ratQ _ _) ?_ ?_ (by omega) | with_reducible refine At3.grew (Rd.ratQ _ _) ?_ ((Grew.refl _).alloc _) | with_reducible refine Keeps.store ?_ ?_ | with_reducible refine Keeps.alloc ?_ | with_reducible refine Res3.store_far ?_ ?_ (by omega))
      · omega
      · (repeat (first | with_reducible exact Grew.refl _ | with_reducible refine Grew.setCell ?_ (by simp <;> omega) _ | with_reducible refine Grew.alloc ?_ _ | with_reducible refine Grew.drew ?_ | with_reducible apply Grew.trans ?_ g2 | with_reducible apply Grew.trans ?_ g1 ))
  obtain ⟨e5, e6, rfl, L, E5, rfl, M, E6, GA⟩ := hcut
  replace P := Lib.hid (P.out.grew GA)
  replace Q := Lib.hid (Q.out.grew GA)
  replace z0 := Lib.hid (lt_grew z0.out GA)
  replace z1 := Lib.hid (lt_grew z1.out GA)
  replace Ra := Lib.hid (Ra.out.kept GA.keeps)
  replace Rb := Lib.hid (Rb.out.kept GA.keeps)
  replace G0 := Lib.hid (G0.out.trans GA)
  obtain ⟨b105, A105, n105, c105, C105, m105, d105, L, XL, Z5⟩ := L
  replace L := Lib.hid L
  replace XL := Lib.hid XL
  replace Z5 := Lib.hid Z5
  clear E5
  obtain ⟨b106, A106, n106, c106, C106, m106, d106, M, XM, Z6⟩ := M
  replace M := Lib.hid M
  replace XM := Lib.hid XM
  replace Z6 := Lib.hid Z6
  clear E6
  clear GA
  obtain ⟨z, D, Ez, hD, Wz, Nz, k1, k2, -, -⟩ := XL.out.parts
  obtain ⟨y, E, Ey, hE, Wy, Ny, l1, l2, -, -⟩ := XM.out.parts
  -- Wz Nz Wy Ny
  have hs3 : k < 1099511627776 ∧ l < 1099511627776 ∧ k + l < 1099511627776 ∧ l + k < 1099511627776 ∧ (k + l < 549755813888 ∧ l + k < 549755813888) := by omega
  replace hs3 := Lib.hid hs3
  have r1 := Lib.hid (fun h : sg z ≠ sg y => (show cmpQ p q = if sg z < sg y then -1 else 1 by rw [← Ez.out, ← Ey.out]; exact cmpQ_sg_ne hD hE h))
  have r2 : cmpQ p q = cmpZ (z * E) (y * D) := by rw [← Ez.out, ← Ey.out]; exact cmpQ_mkRat z y D E hD hE
  have hm1 := Lib.hid (len_mulz z E k l k1 (by simpa using l2))
  have hm2 := Lib.hid (len_mulz y D l k l1 (by simpa using k2))
  replace r2 := Lib.hid r2
  replace k2 := Lib.hid k2
  replace l2 := Lib.hid l2
  clear hD hE k1 l1 Ez Ey hk hl hs
  go_wp2_with fail
  have gd : Grew wc wc.drew := (Grew.refl wc).drew
  replace P := Lib.hid (P.out.grew gd)
  replace Q := Lib.hid (Q.out.grew gd)
  replace L := Lib.hid (L.out.grew gd)
  replace M := Lib.hid (M.out.grew gd)
  replace z0 := Lib.hid (lt_grew z0.out gd)
  replace z1 := Lib.hid (lt_grew z1.out gd)
  replace Z5 := Lib.hid (lt_grew Z5.out gd)
  replace Z6 := Lib.hid (lt_grew Z6.out gd)
  replace Ra := Lib.hid (Ra.out.kept gd.keeps)
  replace Rb := Lib.hid (Rb.out.kept gd.keeps)
  replace XL := Lib.hid (XL.out.kept gd.keeps)
  replace XM := Lib.hid (XM.out.kept gd.keeps)
  replace Wz := Lib.hid (Wz.out.kept gd.keeps)
  replace Nz := Lib.hid (Nz.out.kept gd.keeps)
  replace Wy := Lib.hid (Wy.out.kept gd.keeps)
  replace Ny := Lib.hid (Ny.out.kept gd.keeps)
  replace gd := Lib.hid gd
  have ZL := L
  have ZM := M
  go_region_held3 (fun w' => w'.cell? ⟨e5, 0, none⟩ = some (.bool b105) ∧ w'.cell? ⟨e5, 1, none⟩ = some (.slice A105 n105 c105) ∧ w'.cell? ⟨e5, 2, none⟩ = some (.slice C105 m105 d105) ∧ w'.cell? ⟨e6, 0, none⟩ = some (.bool b106) ∧ w'.cell? ⟨e6, 1, none⟩ = some (.slice A106 n106 c106) ∧ w'.cell? ⟨e6, 2, none⟩ = some (.slice C106 m106 d106))
    (first | (with_reducible exact ⟨ZL.out.p0, ZL.out.p1, ZL.out.p2, ZM.out.p0, ZM.out.p1, ZM.out.p2⟩) | (with_reducible exact ⟨g3.cell ZL.out.p0, g3.cell ZL.out.p1, g3.cell ZL.out.p2, g3.cell ZM.out.p0, g3.cell ZM.out.p1, g3.cell ZM.out.p2⟩) | (with_reducible exact ⟨(g3.trans g4).cell ZL.out.p0, (g3.trans g4).cell ZL.out.p1, (g3.trans g4).cell ZL.out.p2, (g3.trans g4).cell ZM.out.p0, (g3.trans g4).cell ZM.out.p1, (g3.trans g4).cell ZM.out.p2⟩))
    (first | (go_at_call_of 63 (Value.agg #[.bool b105, .slice A105 n105 c105]); refine (sign_v _ z k _ Wz.out hs3.out.1).mono ?_; rintro e w3 ⟨rfl, g3⟩; replace P := Lib.hid (P.out.grew g3); replace Q := Lib.hid (Q.out.grew g3); replace L := Lib.hid (L.out.grew g3); replace M := Lib.hid (M.out.grew g3); replace z0 := Lib.hid (lt_grew z0.out g3); replace z1 := Lib.hid (lt_grew z1.out g3); replace Z5 := Lib.hid (lt_grew Z5.out g3); replace Z6 := Lib.hid (lt_grew Z6.out g3); replace Ra := Lib.hid (Ra.out.kept g3.keeps); replace Rb := Lib.hid (Rb.out.kept g3.keeps); replace XL := Lib.hid (XL.out.kept g3.keeps); replace XM := Lib.hid (XM.out.kept g3.keeps); replace Wz := Lib.hid (Wz.out.kept g3.keeps); replace Nz := Lib.hid (Nz.out.kept g3.keeps); replace Wy := Lib.hid (Wy.out.kept g3.keeps); replace Ny := Lib.hid (Ny.out.kept g3.keeps)) | (go_at_call 63; refine (sign_v _ y l _ Wy.out hs3.out.2.1).mono ?_; rintro e w4 ⟨rfl, g4⟩; replace P := Lib.hid (P.out.grew g4); replace Q := Lib.hid (Q.out.grew g4); replace L := Lib.hid (L.out.grew g4); replace M := Lib.hid (M.out.grew g4); replace z0 := Lib.hid (lt_grew z0.out g4); replace z1 := Lib.hid (lt_grew z1.out g4); replace Z5 := Lib.hid (lt_grew Z5.out g4); replace Z6 := Lib.hid (lt_grew Z6.out g4); replace Ra := Lib.hid (Ra.out.kept g4.keeps); replace Rb := Lib.hid (Rb.out.kept g4.keeps); replace XL := Lib.hid (XL.out.kept g4.keeps); replace XM := Lib.hid (XM.out.kept g4.keeps); replace Wz := Lib.hid (Wz.out.kept g4.keeps); replace Nz := Lib.hid (Nz.out.kept g4.keeps); replace Wy := Lib.hid (Wy.out.kept g4.keeps); replace Ny := Lib.hid (Ny.out.kept g4.keeps)))
  replace G0 := Lib.hid (((G0.out.trans gd.out).trans g3).trans g4)
  clear gd g3 g4 ZL ZM
  generalize sg z = s1 at *
  generalize sg y = s2 at *
  rcases Int.lt_trichotomy s1 s2 with h | h | h
  · as_aux_lemma =>
    have e1 : (s1 == s2) = false := by simp; omega
    have e2 : (s1 != s2) = true := by simp; omega
    have e3 := Lib.hid ((r1.out (by omega)).trans (if_pos h))
    go_wp2_with fail
    go_ret
    exact ⟨by rw [e3.out]; rfl, G0.out⟩
  · as_aux_lemma =>
    subst h
    have e1 : (s1 == s1) = true := by simp
    have e2 : (s1 != s1) = false := by simp
    clear r1
    go_wp2_with fail
    have gd : Grew w4 w4.drew := (Grew.refl w4).drew
    replace P := Lib.hid (P.out.grew gd)
    replace Q := Lib.hid (Q.out.grew gd)
    replace L := Lib.hid (L.out.grew gd)
    replace M := Lib.hid (M.out.grew gd)
    replace z0 := Lib.hid (lt_grew z0.out gd)
    replace z1 := Lib.hid (lt_grew z1.out gd)
    replace Z5 := Lib.hid (lt_grew Z5.out gd)
    replace Z6 := Lib.hid (lt_grew Z6.out gd)
    replace Ra := Lib.hid (Ra.out.kept gd.keeps)
    replace Rb := Lib.hid (Rb.out.kept gd.keeps)
    replace XL := Lib.hid (XL.out.kept gd.keeps)
    replace XM := Lib.hid (XM.out.kept gd.keeps)
    replace Wz := Lib.hid (Wz.out.kept gd.keeps)
    replace Nz := Lib.hid (Nz.out.kept gd.keeps)
    replace Wy := Lib.hid (Wy.out.kept gd.keeps)
    replace Ny := Lib.hid (Ny.out.kept gd.keeps)
    replace gd := Lib.hid gd
    have ZL := L
    have ZM := M
    go_region_held3 (fun w' => w'.cell? ⟨e5, 0, none⟩ = some (.bool b105) ∧ w'.cell? ⟨e5, 1, none⟩ = some (.slice A105 n105 c105) ∧ w'.cell? ⟨e5, 2, none⟩ = some (.slice C105 m105 d105) ∧ w'.cell? ⟨e6, 0, none⟩ = some (.bool b106) ∧ w'.cell? ⟨e6, 1, none⟩ = some (.slice A106 n106 c106) ∧ w'.cell? ⟨e6, 2, none⟩ = some (.slice C106 m106 d106))
      (first | (with_reducible exact ⟨ZL.out.p0, ZL.out.p1, ZL.out.p2, ZM.out.p0, ZM.out.p1, ZM.out.p2⟩) | (with_reducible exact ⟨g5.cell ZL.out.p0, g5.cell ZL.out.p1, g5.cell ZL.out.p2, g5.cell ZM.out.p0, g5.cell ZM.out.p1, g5.cell ZM.out.p2⟩) | (with_reducible exact ⟨(g5.trans g6).cell ZL.out.p0, (g5.trans g6).cell ZL.out.p1, (g5.trans g6).cell ZL.out.p2, (g5.trans g6).cell ZM.out.p0, (g5.trans g6).cell ZM.out.p1, (g5.trans g6).cell ZM.out.p2⟩) | (with_reducible exact ⟨((g5.trans g6).trans g7).cell ZL.out.p0, ((g5.trans g6).trans g7).cell ZL.out.p1, ((g5.trans g6).trans g7).cell ZL.out.p2, ((g5.trans g6).trans g7).cell ZM.out.p0, ((g5.trans g6).trans g7).cell ZM.out.p1, ((g5.trans g6).trans g7).cell ZM.out.p2⟩))
      (first | (go_at_call_of 65 (Value.agg #[.bool b105, .slice A105 n105 c105]); refine (wmul_v _ _ z E k l _ Wz.out (Ny.out.whl l2.out) hs3.out.2.2.1).mono ?_; rintro e w5 ⟨V5, rfl, hV5, g5⟩; obtain ⟨b7, A7, n7, c7, rfl, hV5, -⟩ := hV5.laid; have X5 := Lib.hid (hV5.out.v hm1.out); clear hV5; replace P := Lib.hid (P.out.grew g5); replace Q := Lib.hid (Q.out.grew g5); replace L := Lib.hid (L.out.grew g5); replace M := Lib.hid (M.out.grew g5); replace z0 := Lib.hid (lt_grew z0.out g5); replace z1 := Lib.hid (lt_grew z1.out g5); replace Z5 := Lib.hid (lt_grew Z5.out g5); replace Z6 := Lib.hid (lt_grew Z6.out g5); replace Ra := Lib.hid (Ra.out.kept g5.keeps); replace Rb := Lib.hid (Rb.out.kept g5.keeps); replace XL := Lib.hid (XL.out.kept g5.keeps); replace XM := Lib.hid (XM.out.kept g5.keeps); replace Wz := Lib.hid (Wz.out.kept g5.keeps); replace Nz := Lib.hid (Nz.out.kept g5.keeps); replace Wy := Lib.hid (Wy.out.kept g5.keeps); replace Ny := Lib.hid (Ny.out.kept g5.keeps)) | (go_at_call 65; refine (wmul_v _ _ y D l k _ Wy.out (Nz.out.whl k2.out) hs3.out.2.2.2.1).mono ?_; rintro e w6 ⟨V6, rfl, hV6, g6⟩; obtain ⟨b8, A8, n8, c8, rfl, hV6, -⟩ := hV6.laid; have X6 := Lib.hid (hV6.out.v hm2.out); clear hV6; replace P := Lib.hid (P.out.grew g6); replace Q := Lib.hid (Q.out.grew g6); replace L := Lib.hid (L.out.grew g6); replace M := Lib.hid (M.out.grew g6); replace z0 := Lib.hid (lt_grew z0.out g6); replace z1 := Lib.hid (lt_grew z1.out g6); replace Z5 := Lib.hid (lt_grew Z5.out g6); replace Z6 := Lib.hid (lt_grew Z6.out g6); replace Ra := Lib.hid (Ra.out.kept g6.keeps); replace Rb := Lib.hid (Rb.out.kept g6.keeps); replace XL := Lib.hid (XL.out.kept g6.keeps); replace XM := Lib.hid (XM.out.kept g6.keeps); replace Wz := Lib.hid (Wz.out.kept g6.keeps); replace Nz := Lib.hid (Nz.out.kept g6.keeps); replace Wy := Lib.hid (Wy.out.kept g6.keeps); replace Ny := Lib.hid (Ny.out.kept g6.keeps); replace X5 := Lib.hid (X5.out.kept g6.keeps)) | (go_at_call 64; refine (wcmp_v _ _ (z * E) (y * D) (k + l) (l + k) _ X5.out X6.out hs3.out.2.2.2.2).mono ?_; rintro e w7 ⟨rfl, g7⟩; replace P := Lib.hid (P.out.grew g7); replace Q := Lib.hid (Q.out.grew g7); replace L := Lib.hid (L.out.grew g7); replace M := Lib.hid (M.out.grew g7); replace z0 := Lib.hid (lt_grew z0.out g7); replace z1 := Lib.hid (lt_grew z1.out g7); replace Z5 := Lib.hid (lt_grew Z5.out g7); replace Z6 := Lib.hid (lt_grew Z6.out g7); replace Ra := Lib.hid (Ra.out.kept g7.keeps); replace Rb := Lib.hid (Rb.out.kept g7.keeps); replace XL := Lib.hid (XL.out.kept g7.keeps); replace XM := Lib.hid (XM.out.kept g7.keeps); replace Wz := Lib.hid (Wz.out.kept g7.keeps); replace Nz := Lib.hid (Nz.out.kept g7.keeps); replace Wy := Lib.hid (Wy.out.kept g7.keeps); replace Ny := Lib.hid (Ny.out.kept g7.keeps); replace X5 := Lib.hid (X5.out.kept g7.keeps); replace X6 := Lib.hid (X6.out.kept g7.keeps)))
    replace G0 := Lib.hid ((((G0.out.trans gd.out).trans g5).trans g6).trans g7)
    clear gd g5 g6 g7 ZL ZM
    go_wp2_with fail
    go_ret
    exact ⟨by rw [r2.out]; rfl, G0.out⟩
  · as_aux_lemma =>
    have e1 : (s1 == s2) = false := by simp; omega
    have e2 : (s1 != s2) = true := by simp; omega
    have h' : ¬ s1 < s2 := by omega
    have e3 := Lib.hid ((r1.out (by omega)).trans (if_neg h'))
    go_wp2_with fail
    go_ret
    exact ⟨by rw [e3.out]; rfl, G0.out⟩
end Go.Proofs.YtmommicmblfibaaGreat
namespace Go.Proofs.YtmommicmblfibaaGreat
open Go.RowKit

set_option maxRecDepth 100000 in
set_option maxHeartbeats 8000000 in
theorem turn_any (Va Vb Vc : Value) (ax ay bx b_y cx cy : Rat) (k : Nat) (w : World) (ha : SpotV w Va ax ay k) (hb : SpotV w Vb bx b_y k) (hc : SpotV w Vc cx cy k) (hk : 1 ≤ k) (hs : k < 1073741824) :
    Calls Tryz.prog 38 #[Va, Vb, Vc] w fun e w' => e = .returned (.int .i64 (cmpQ ((bx - ax) * (cy - ay)) ((b_y - ay) * (cx - ax)))) ∧ Grew w w' := by
  obtain ⟨b1, A1, n1, c1, C1, m1, d1, b2, A2, n2, c2, C2, m2, d2, rfl, Fa, Fb, -⟩ := ha.laid
  obtain ⟨b3, A3, n3, c3, C3, m3, d3, b4, A4, n4, c4, C4, m4, d4, rfl, Fc, Fd, -⟩ := hb.laid
  obtain ⟨b5, A5, n5, c5, C5, m5, d5, b6, A6, n6, c6, C6, m6, d6, rfl, Fe, Ff, -⟩ := hc.laid
  clear ha hb hc
  have hs2 : k + k < 549755813887 := by omega
  have hs3 : (k + k + 1) + (k + k + 1) < 549755813888 := by omega
  have hs4 : ((k + k + 1) + (k + k + 1)) + ((k + k + 1) + (k + k + 1)) < 549755813888 := by omega
  have hk1 : 1 ≤ k + k + 1 := by omega
  have hk2 : 1 ≤ (k + k + 1) + (k + k + 1) := by omega
  have q1 := Lib.hid ((Fa.out.qb hk))
  have q2 := Lib.hid ((Fb.out.qb hk))
  have q3 := Lib.hid ((Fc.out.qb hk))
  have q4 := Lib.hid ((Fd.out.qb hk))
  have q5 := Lib.hid ((Fe.out.qb hk))
  have q6 := Lib.hid ((Ff.out.qb hk))
  have q7 := Lib.hid ((q3.out.sub q1.out).mul (q6.out.sub q2.out))
  have q8 := Lib.hid ((q4.out.sub q2.out).mul (q5.out.sub q1.out))
  go_enter Tryz.func38, Tryz.ntmps38
  go_wp2_with fail
  refine gen_wp ?_
  intro W0 hW0
  have G0 : Grew w W0 := by rw [hW0]; exact (((Grew.refl w).alloc _).alloc _).alloc _
  have P : Box3 W0 (w.heap.size) 0 (.bool b1) (.slice A1 n1 c1) (.slice C1 m1 d1) := by rw [hW0]; exact ⟨by simp [go_sem], by simp [go_sem], by simp [go_sem]⟩
  replace P := Lib.hid P
  have Py : Box3 W0 (w.heap.size) 3 (.bool b2) (.slice A2 n2 c2) (.slice C2 m2 d2) := by rw [hW0]; exact ⟨by simp [go_sem], by simp [go_sem], by simp [go_sem]⟩
  replace Py := Lib.hid Py
  have Q : Box3 W0 (w.heap.size + 1) 0 (.bool b3) (.slice A3 n3 c3) (.slice C3 m3 d3) := by rw [hW0]; exact ⟨by simp [go_sem], by simp [go_sem], by simp [go_sem]⟩
  replace Q := Lib.hid Q
  have Qy : Box3 W0 (w.heap.size + 1) 3 (.bool b4) (.slice A4 n4 c4) (.slice C4 m4 d4) := by rw [hW0]; exact ⟨by simp [go_sem], by simp [go_sem], by simp [go_sem]⟩
  replace Qy := Lib.hid Qy
  have S : Box3 W0 (w.heap.size + 1 + 1) 0 (.bool b5) (.slice A5 n5 c5) (.slice C5 m5 d5) := by rw [hW0]; exact ⟨by simp [go_sem], by simp [go_sem], by simp [go_sem]⟩
  replace S := Lib.hid S
  have Sy : Box3 W0 (w.heap.size + 1 + 1) 3 (.bool b6) (.slice A6 n6 c6) (.slice C6 m6 d6) := by rw [hW0]; exact ⟨by simp [go_sem], by simp [go_sem], by simp [go_sem]⟩
  replace Sy := Lib.hid Sy
  have z0 : w.heap.size < W0.heap.size := by rw [hW0]; simp <;> omega
  replace z0 := Lib.hid z0
  have z1 : w.heap.size + 1 < W0.heap.size := by rw [hW0]; simp <;> omega
  replace z1 := Lib.hid z1
  have z2 : w.heap.size + 1 + 1 < W0.heap.size := by rw [hW0]; simp <;> omega
  replace z2 := Lib.hid z2
  clear hW0
  replace Fa := Lib.hid (Fa.out.kept G0.keeps)
  replace Fb := Lib.hid (Fb.out.kept G0.keeps)
  replace Fc := Lib.hid (Fc.out.kept G0.keeps)
  replace Fd := Lib.hid (Fd.out.kept G0.keeps)
  replace Fe := Lib.hid (Fe.out.kept G0.keeps)
  replace Ff := Lib.hid (Ff.out.kept G0.keeps)
  replace G0 := Lib.hid G0
  go_upto_region 1 with fail
  go_cut [7] (fun s7 wx => ∃ e7 : Nat, s7 = .pointer (some ⟨e7, 0, none⟩) ∧ At3 wx e7 (fun w V => FracC w V ((bx - ax) * (cy - ay))) ∧ W0.heap.size ≤ e7 ∧ Grew W0 wx)
  · have KS : ∀ X, Grew W0 X → (fun w' => w'.cell? ⟨w.heap.size, 0, none⟩ = some (.bool b1) ∧ w'.cell? ⟨w.heap.size, 1, none⟩ = some (.slice A1 n1 c1) ∧ w'.cell? ⟨w.heap.size, 2, none⟩ = some (.slice C1 m1 d1) ∧ w'.cell? ⟨w.heap.size, 3, none⟩ = some (.bool b2) ∧ w'.cell? ⟨w.heap.size, 4, none⟩ = some (.slice A2 n2 c2) ∧ w'.cell? ⟨w.heap.size, 5, none⟩ = some (.slice C2 m2 d2) ∧ w'.cell? ⟨w.heap.size + 1, 0, none⟩ = some (.bool b3) ∧ w'.cell? ⟨w.heap.size + 1, 1, none⟩ = some (.slice A3 n3 c3) ∧ w'.cell? ⟨w.heap.size + 1, 2, none⟩ = some (.slice C3 m3 d3) ∧ w'.cell? ⟨w.heap.size + 1 + 1, 3, none⟩ = some (.bool b6) ∧ w'.cell? ⟨w.heap.size + 1 + 1, 4, none⟩ = some (.slice A6 n6 c6) ∧ w'.cell? ⟨w.heap.size + 1 + 1, 5, none⟩ = some (.slice C6 m6 d6)) X := fun X g => ⟨g.cell P.out.p0, g.cell P.out.p1, g.cell P.out.p2, g.cell Py.out.p0, g.cell Py.out.p1, g.cell Py.out.p2, g.cell Q.out.p0, g.cell Q.out.p1, g.cell Q.out.p2, g.cell Sy.out.p0, g.cell Sy.out.p1, g.cell Sy.out.p2⟩
    replace KS := Lib.hid KS
    go_region_held3 (fun w' => w'.cell? ⟨w.heap.size, 0, none⟩ = some (.bool b1) ∧ w'.cell? ⟨w.heap.size, 1, none⟩ = some (.slice A1 n1 c1) ∧ w'.cell? ⟨w.heap.size, 2, none⟩ = some (.slice C1 m1 d1) ∧ w'.cell? ⟨w.heap.size, 3, none⟩ = some (.bool b2) ∧ w'.cell? ⟨w.heap.size, 4, none⟩ = some (.slice A2 n2 c2) ∧ w'.cell? ⟨w.heap.size, 5, none⟩ = some (.slice C2 m2 d2) ∧ w'.cell? ⟨w.heap.size + 1, 0, none⟩ = some (.bool b3) ∧ w'.cell? ⟨w.heap.size + 1, 1, none⟩ = some (.slice A3 n3 c3) ∧ w'.cell? ⟨w.heap.size + 1, 2, none⟩ = some (.slice C3 m3 d3) ∧ w'.cell? ⟨w.heap.size + 1 + 1, 3, none⟩ = some (.bool b6) ∧ w'.cell? ⟨w.heap.size + 1 + 1, 4, none⟩ = some (.slice A6 n6 c6) ∧ w'.cell? ⟨w.heap.size + 1 + 1, 5, none⟩ = some (.slice C6 m6 d6))
      (first | (refine KS.out _ ?_; (repeat (first | with_reducible exact Grew.refl _ | with_reducible refine Grew.setCell ?_ (by simp <;> omega) _ | with_reducible refine Grew.alloc ?_ _ | with_reducible refine Grew.drew ?_ | with_reducible apply Grew.trans ?_ g3 | with_reducible apply Grew.trans ?_ g2 | with_reducible apply Grew.trans ?_ g1 )); done))
      (first | (go_at_call_of 67 (Value.agg #[.bool b3, .slice A3 n3 c3, .slice C3 m3 d3]); refine (fsub_any _ _ bx ax k k _ (Fc.out.kept (Grew.keeps (by (repeat (first | with_reducible exact Grew.refl _ | with_reducible refine Grew.setCell ?_ (by simp <;> omega) _ | with_reducible refine Grew.alloc ?_ _ | with_reducible refine Grew.drew ?_ ))))) (Fa.out.kept (Grew.keeps (by (repeat (first | with_reducible exact Grew.refl _ | with_reducible refine Grew.setCell ?_ (by simp <;> omega) _ | with_reducible refine Grew.alloc ?_ _ | with_reducible refine Grew.drew ?_ ))))) hk hk hs2).mono ?_; rintro e w1 ⟨V1, rfl, hV1, g1⟩; have zn1 : W0.heap.size ≤ w1.heap.size := (by have t := g1.size; (try simp at t); omega); obtain ⟨b13, A13, n13, c13, C13, m13, d13, rfl, X1⟩ := hV1.laid; clear hV1; have Y1 := Lib.hid (X1.out.v (q3.out.sub q1.out)); (first | (with_reducible have h0_0 := res_new g1) | (with_reducible have h0_0 := res_newD g1) | skip)) | (go_at_call 67; refine (fsub_any _ _ cy ay k k _ (Ff.out.kept (Grew.keeps (by (repeat (first | with_reducible exact Grew.refl _ | with_reducible refine Grew.setCell ?_ (by simp <;> omega) _ | with_reducible refine Grew.alloc ?_ _ | with_reducible refine Grew.drew ?_ | with_reducible apply Grew.trans ?_ g1 ))))) (Fb.out.kept (Grew.keeps (by (repeat (first | with_reducible exact Grew.refl _ | with_reducible refine Grew.setCell ?_ (by simp <;> omega) _ | with_reducible refine Grew.alloc ?_ _ | with_reducible refine Grew.drew ?_ | with_reducible apply Grew.trans ?_ g1 ))))) hk hk hs2).mono ?_; rintro e w2 ⟨V2, rfl, hV2, g2⟩; have zn2 : w1.heap.size ≤ w2.heap.size := (by have t := g2.size; (try simp at t); omega); obtain ⟨b14, A14, n14, c14, C14, m14, d14, rfl, X2⟩ := hV2.laid; clear hV2; have Y2 := Lib.hid (X2.out.v (q6.out.sub q2.out)); (try replace h0_0 : Res3 w2 (W0.heap.size) 0 (.bool false) (.slice none 0 0) (.slice none 0 0) := h0_0.grew (by (repeat (first | with_reducible exact Grew.refl _ | with_reducible refine Grew.setCell ?_ (by simp <;> omega) _ | with_reducible refine Grew.alloc ?_ _ | with_reducible refine Grew.drew ?_ | with_reducible apply Grew.trans ?_ g2 )))); (first | (with_reducible have h1_0 := res_new g2) | (with_reducible have h1_0 := res_newD g2) | skip)) | (go_at_call 66; refine (fmul_any _ _ (bx - ax) (cy - ay) (k + k + 1) (k + k + 1) _ (Y1.out.kept (Grew.keeps (by (repeat (first | with_reducible exact Grew.refl _ | with_reducible refine Grew.setCell ?_ (by simp <;> omega) _ | with_reducible refine Grew.alloc ?_ _ | with_reducible refine Grew.drew ?_ | with_reducible apply Grew.trans ?_ g2 | with_reducible apply Grew.trans ?_ g1 ))))) (Y2.out.kept (Grew.keeps (by (repeat (first | with_reducible exact Grew.refl _ | with_reducible refine Grew.setCell ?_ (by simp <;> omega) _ | with_reducible refine Grew.alloc ?_ _ | with_reducible refine Grew.drew ?_ | with_reducible apply Grew.trans ?_ g2 | with_reducible apply Grew.trans ?_ g1 ))))) hk1 hk1 hs3).mono ?_; rintro e w3 ⟨V3, rfl, hV3, g3⟩; have zn3 : w2.heap.size ≤ w3.heap.size := (by have t := g3.size; (try simp at t); omega); obtain ⟨b15, A15, n15, c15, C15, m15, d15, rfl, X3⟩ := hV3.laid; clear hV3; (try replace h0_0 : Res3 w3 (W0.heap.size) 0 (.bool false) (.slice none 0 0) (.slice none 0 0) := h0_0.grew (by (repeat (first | with_reducible exact Grew.refl _ | with_reducible refine Grew.setCell ?_ (by simp <;> omega) _ | with_reducible refine Grew.alloc ?_ _ | with_reducible refine Grew.drew ?_ | with_reducible apply Grew.trans ?_ g3 )))); (try replace h1_0 : Res3 w3 (w1.heap.size) 0 (.bool false) (.slice none 0 0) (.slice none 0 0) := h1_0.grew (by (repeat (first | with_reducible exact Grew.refl _ | with_reducible refine Grew.setCell ?_ (by simp <;> omega) _ | with_reducible refine Grew.alloc ?_ _ | with_reducible refine Grew.drew ?_ | with_reducible apply Grew.trans ?_ g3 )))); (first | (with_reducible have h2_0 := res_new g3) | (with_reducible have h2_0 := res_newD g3) | skip); (try (have tt := h0_0; obtain ⟨h0_00, h0_01, h0_02, h0_0f0, h0_0f1, h0_0f2, h0_0s⟩ := tt)); (try (have tt := h1_0; obtain ⟨h1_00, h1_01, h1_02, h1_0f0, h1_0f1, h1_0f2, h1_0s⟩ := tt)); (try (have tt := h2_0; obtain ⟨h2_00, h2_01, h2_02, h2_0f0, h2_0f1, h2_0f2, h2_0s⟩ := tt))))
    all_goals
      go_wp2_with fail
      go_meet
      have XX3 := Lib.hid (X3.out.kept (Grew.keeps (w := w3) (w' := w3) (by (repeat (first | with_reducible exact Grew.refl _ | with_reducible refine Grew.setCell ?_ (by simp <;> omega) _ | with_reducible refine Grew.alloc ?_ _ | with_reducible refine Grew.drew ?_ )))))
      refine ⟨_, rfl, ?_, ?_, ?_⟩
      · repeat (first | with_reducible exact h0_0  | with_reducible exact h1_0  | with_reducible exact h2_0 | with_reducible exact Keeps.refl _ | with_reducible refine At3.of_store (w := w3) (Rd.fracC _) ?_ ?_ XX3.out | with_reducible refine At3.of_alloc (w := w3) (Rd.fracC _) (by simp) ?_ XX3.out | with_reducible refine At3.store_far (Rd.fracC _) ?_ ?_ (by omega) | with_reducible refine At3.grew (Rd.fracC _) ?_ ((Grew.refl _).alloc _) | with_reducible refine Keeps.store ?_ ?_ | with_reducible refine Keeps.alloc ?_ | with_reducible refine Res3.store_far ?_ ?_ (by omega))
      · omega
      · (repeat (first | with_reducible exact Grew.refl _ | with_reducible refine Grew.setCell ?_ (by simp <;> omega) _ | with_reducible refine Grew.alloc ?_ _ | with_reducible refine Grew.drew ?_ | with_reducible apply Grew.trans ?_ g3 | with_reducible apply Grew.trans ?_ g2 | with_reducible apply Grew.trans ?_ g1 ))
  obtain ⟨e7, rfl, L, E7, GA⟩ := hcut
  replace P := Lib.hid (P.out.grew GA)
  replace Py := Lib.hid (Py.out.grew GA)
  replace Q := Lib.hid (Q.out.grew GA)
  replace Qy := Lib.hid (Qy.out.grew GA)
  replace S := Lib.hid (S.out.grew GA)
  replace Sy := Lib.hid (Sy.out.grew GA)
  replace z0 := Lib.hid (lt_grew z0.out GA)
  replace z1 := Lib.hid (lt_grew z1.out GA)
  replace z2 := Lib.hid (lt_grew z2.out GA)
  replace Fa := Lib.hid (Fa.out.kept GA.keeps)
  replace Fb := Lib.hid (Fb.out.kept GA.keeps)
  replace Fc := Lib.hid (Fc.out.kept GA.keeps)
  replace Fd := Lib.hid (Fd.out.kept GA.keeps)
  replace Fe := Lib.hid (Fe.out.kept GA.keeps)
  replace Ff := Lib.hid (Ff.out.kept GA.keeps)
  replace G0 := Lib.hid (G0.out.trans GA)
  obtain ⟨b107, A107, n107, c107, C107, m107, d107, L, XL, Z7⟩ := L
  replace L := Lib.hid L
  replace XL := Lib.hid XL
  replace Z7 := Lib.hid Z7
  clear E7
  clear GA
  go_upto_region 2 with fail
  go_cut [8] (fun s8 wx => ∃ e8 : Nat, s8 = .pointer (some ⟨e8, 0, none⟩) ∧ At3 wx e8 (fun w V => FracC w V ((b_y - ay) * (cx - ax))) ∧ wc.heap.size ≤ e8 ∧ Grew wc wx)
  · have KS : ∀ X, Grew wc X → (fun w' => w'.cell? ⟨w.heap.size, 0, none⟩ = some (.bool b1) ∧ w'.cell? ⟨w.heap.size, 1, none⟩ = some (.slice A1 n1 c1) ∧ w'.cell? ⟨w.heap.size, 2, none⟩ = some (.slice C1 m1 d1) ∧ w'.cell? ⟨w.heap.size, 3, none⟩ = some (.bool b2) ∧ w'.cell? ⟨w.heap.size, 4, none⟩ = some (.slice A2 n2 c2) ∧ w'.cell? ⟨w.heap.size, 5, none⟩ = some (.slice C2 m2 d2) ∧ w'.cell? ⟨w.heap.size + 1, 3, none⟩ = some (.bool b4) ∧ w'.cell? ⟨w.heap.size + 1, 4, none⟩ = some (.slice A4 n4 c4) ∧ w'.cell? ⟨w.heap.size + 1, 5, none⟩ = some (.slice C4 m4 d4) ∧ w'.cell? ⟨w.heap.size + 1 + 1, 0, none⟩ = some (.bool b5) ∧ w'.cell? ⟨w.heap.size + 1 + 1, 1, none⟩ = some (.slice A5 n5 c5) ∧ w'.cell? ⟨w.heap.size + 1 + 1, 2, none⟩ = some (.slice C5 m5 d5)) X := fun X g => ⟨g.cell P.out.p0, g.cell P.out.p1, g.cell P.out.p2, g.cell Py.out.p0, g.cell Py.out.p1, g.cell Py.out.p2, g.cell Qy.out.p0, g.cell Qy.out.p1, g.cell Qy.out.p2, g.cell S.out.p0, g.cell S.out.p1, g.cell S.out.p2⟩
    replace KS := Lib.hid KS
    go_region_held3 (fun w' => w'.cell? ⟨w.heap.size, 0, none⟩ = some (.bool b1) ∧ w'.cell? ⟨w.heap.size, 1, none⟩ = some (.slice A1 n1 c1) ∧ w'.cell? ⟨w.heap.size, 2, none⟩ = some (.slice C1 m1 d1) ∧ w'.cell? ⟨w.heap.size, 3, none⟩ = some (.bool b2) ∧ w'.cell? ⟨w.heap.size, 4, none⟩ = some (.slice A2 n2 c2) ∧ w'.cell? ⟨w.heap.size, 5, none⟩ = some (.slice C2 m2 d2) ∧ w'.cell? ⟨w.heap.size + 1, 3, none⟩ = some (.bool b4) ∧ w'.cell? ⟨w.heap.size + 1, 4, none⟩ = some (.slice A4 n4 c4) ∧ w'.cell? ⟨w.heap.size + 1, 5, none⟩ = some (.slice C4 m4 d4) ∧ w'.cell? ⟨w.heap.size + 1 + 1, 0, none⟩ = some (.bool b5) ∧ w'.cell? ⟨w.heap.size + 1 + 1, 1, none⟩ = some (.slice A5 n5 c5) ∧ w'.cell? ⟨w.heap.size + 1 + 1, 2, none⟩ = some (.slice C5 m5 d5))
      (first | (refine KS.out _ ?_; (repeat (first | with_reducible exact Grew.refl _ | with_reducible refine Grew.setCell ?_ (by simp <;> omega) _ | with_reducible refine Grew.alloc ?_ _ | with_reducible refine Grew.drew ?_ | with_reducible apply Grew.trans ?_ g6 | with_reducible apply Grew.trans ?_ g5 | with_reducible apply Grew.trans ?_ g4 )); done))
      (first | (go_at_call_of 67 (Value.agg #[.bool b4, .slice A4 n4 c4, .slice C4 m4 d4]); refine (fsub_any _ _ b_y ay k k _ (Fd.out.kept (Grew.keeps (by (repeat (first | with_reducible exact Grew.refl _ | with_reducible refine Grew.setCell ?_ (by simp <;> omega) _ | with_reducible refine Grew.alloc ?_ _ | with_reducible refine Grew.drew ?_ ))))) (Fb.out.kept (Grew.keeps (by (repeat (first | with_reducible exact Grew.refl _ | with_reducible refine Grew.setCell ?_ (by simp <;> omega) _ | with_reducible refine Grew.alloc ?_ _ | with_reducible refine Grew.drew ?_ ))))) hk hk hs2).mono ?_; rintro e w4 ⟨V4, rfl, hV4, g4⟩; have zn4 : wc.heap.size ≤ w4.heap.size := (by have t := g4.size; (try simp at t); omega); obtain ⟨b13, A13, n13, c13, C13, m13, d13, rfl, X4⟩ := hV4.laid; clear hV4; have Y4 := Lib.hid (X4.out.v (q4.out.sub q2.out)); (first | (with_reducible have h3_0 := res_new g4) | (with_reducible have h3_0 := res_newD g4) | skip)) | (go_at_call 67; refine (fsub_any _ _ cx ax k k _ (Fe.out.kept (Grew.keeps (by (repeat (first | with_reducible exact Grew.refl _ | with_reducible refine Grew.setCell ?_ (by simp <;> omega) _ | with_reducible refine Grew.alloc ?_ _ | with_reducible refine Grew.drew ?_ | with_reducible apply Grew.trans ?_ g4 ))))) (Fa.out.kept (Grew.keeps (by (repeat (first | with_reducible exact Grew.refl _ | with_reducible refine Grew.setCell ?_ (by simp <;> omega) _ | with_reducible refine Grew.alloc ?_ _ | with_reducible refine Grew.drew ?_ | with_reducible apply Grew.trans ?_ g4 ))))) hk hk hs2).mono ?_; rintro e w5 ⟨V5, rfl, hV5, g5⟩; have zn5 : w4.heap.size ≤ w5.heap.size := (by have t := g5.size; (try simp at t); omega); obtain ⟨b14, A14, n14, c14, C14, m14, d14, rfl, X5⟩ := hV5.laid; clear hV5; have Y5 := Lib.hid (X5.out.v (q5.out.sub q1.out)); (try replace h3_0 : Res3 w5 (wc.heap.size) 0 (.bool false) (.slice none 0 0) (.slice none 0 0) := h3_0.grew (by (repeat (first | with_reducible exact Grew.refl _ | with_reducible refine Grew.setCell ?_ (by simp <;> omega) _ | with_reducible refine Grew.alloc ?_ _ | with_reducible refine Grew.drew ?_ | with_reducible apply Grew.trans ?_ g5 )))); (first | (with_reducible have h4_0 := res_new g5) | (with_reducible have h4_0 := res_newD g5) | skip)) | (go_at_call 66; refine (fmul_any _ _ (b_y - ay) (cx - ax) (k + k + 1) (k + k + 1) _ (Y4.out.kept (Grew.keeps (by (repeat (first | with_reducible exact Grew.refl _ | with_reducible refine Grew.setCell ?_ (by simp <;> omega) _ | with_reducible refine Grew.alloc ?_ _ | with_reducible refine Grew.drew ?_ | with_reducible apply Grew.trans ?_ g5 | with_reducible apply Grew.trans ?_ g4 ))))) (Y5.out.kept (Grew.keeps (by (repeat (first | with_reducible exact Grew.refl _ | with_reducible refine Grew.setCell ?_ (by simp <;> omega) _ | with_reducible refine Grew.alloc ?_ _ | with_reducible refine Grew.drew ?_ | with_reducible apply Grew.trans ?_ g5 | with_reducible apply Grew.trans ?_ g4 ))))) hk1 hk1 hs3).mono ?_; rintro e w6 ⟨V6, rfl, hV6, g6⟩; have zn6 : w5.heap.size ≤ w6.heap.size := (by have t := g6.size; (try simp at t); omega); obtain ⟨b15, A15, n15, c15, C15, m15, d15, rfl, X6⟩ := hV6.laid; clear hV6; (try replace h3_0 : Res3 w6 (wc.heap.size) 0 (.bool false) (.slice none 0 0) (.slice none 0 0) := h3_0.grew (by (repeat (first | with_reducible exact Grew.refl _ | with_reducible refine Grew.setCell ?_ (by simp <;> omega) _ | with_reducible refine Grew.alloc ?_ _ | with_reducible refine Grew.drew ?_ | with_reducible apply Grew.trans ?_ g6 )))); (try replace h4_0 : Res3 w6 (w4.heap.size) 0 (.bool false) (.slice none 0 0) (.slice none 0 0) := h4_0.grew (by (repeat (first | with_reducible exact Grew.refl _ | with_reducible refine Grew.setCell ?_ (by simp <;> omega) _ | with_reducible refine Grew.alloc ?_ _ | with_reducible refine Grew.drew ?_ | with_reducible apply Grew.trans ?_ g6 )))); (first | (with_reducible have h5_0 := res_new g6) | (with_reducible have h5_0 := res_newD g6) | skip); (try (have tt := h3_0; obtain ⟨h3_00, h3_01, h3_02, h3_0f0, h3_0f1, h3_0f2, h3_0s⟩ := tt)); (try (have tt := h4_0; obtain ⟨h4_00, h4_01, h4_02, h4_0f0, h4_0f1, h4_0f2, h4_0s⟩ := tt)); (try (have tt := h5_0; obtain ⟨h5_00, h5_01, h5_02, h5_0f0, h5_0f1, h5_0f2, h5_0s⟩ := tt))))
    all_goals
      go_wp2_with fail
      go_meet
      have XX6 := Lib.hid (X6.out.kept (Grew.keeps (w := w6) (w' := w6) (by (repeat (first | with_reducible exact Grew.refl _ | with_reducible refine Grew.setCell ?_ (by simp <;> omega) _ | with_reducible refine Grew.alloc ?_ _ | with_reducible refine Grew.drew ?_ )))))
      refine ⟨_, rfl, ?_, ?_, ?_⟩
      · repeat (first | with_reducible exact h3_0  | with_reducible exact h4_0  | with_reducible exact h5_0 | with_reducible exact Keeps.refl _ | with_reducible refine At3.of_store (w := w6) (Rd.fracC _) ?_ ?_ XX6.out | with_reducible refine At3.of_alloc (w := w6) (Rd.fracC _) (by simp) ?_ XX6.out | with_reducible refine At3.store_far (Rd.fracC _) ?_ ?_ (by omega) | with_reducible refine At3.grew (Rd.fracC _) ?_ ((Grew.refl _).alloc _) | with_reducible refine Keeps.store ?_ ?_ | with_reducible refine Keeps.alloc ?_ | with_reducible refine Res3.store_far ?_ ?_ (by omega))
      · omega
      · (repeat (first | with_reducible exact Grew.refl _ | with_reducible refine Grew.setCell ?_ (by simp <;> omega) _ | with_reducible refine Grew.alloc ?_ _ | with_reducible refine Grew.drew ?_ | with_reducible apply Grew.trans ?_ g6 | with_reducible apply Grew.trans ?_ g5 | with_reducible apply Grew.trans ?_ g4 ))
  obtain ⟨e8, rfl, M, E8, GA⟩ := hcut
  replace P := Lib.hid (P.out.grew GA)
  replace Py := Lib.hid (Py.out.grew GA)
  replace Q := Lib.hid (Q.out.grew GA)
  replace Qy := Lib.hid (Qy.out.grew GA)
  replace S := Lib.hid (S.out.grew GA)
  replace Sy := Lib.hid (Sy.out.grew GA)
  replace L := Lib.hid (L.out.grew GA)
  replace z0 := Lib.hid (lt_grew z0.out GA)
  replace z1 := Lib.hid (lt_grew z1.out GA)
  replace z2 := Lib.hid (lt_grew z2.out GA)
  replace Z7 := Lib.hid (lt_grew Z7.out GA)
  replace Fa := Lib.hid (Fa.out.kept GA.keeps)
  replace Fb := Lib.hid (Fb.out.kept GA.keeps)
  replace Fc := Lib.hid (Fc.out.kept GA.keeps)
  replace Fd := Lib.hid (Fd.out.kept GA.keeps)
  replace Fe := Lib.hid (Fe.out.kept GA.keeps)
  replace Ff := Lib.hid (Ff.out.kept GA.keeps)
  replace XL := Lib.hid (XL.out.kept GA.keeps)
  replace G0 := Lib.hid (G0.out.trans GA)
  obtain ⟨b108, A108, n108, c108, C108, m108, d108, M, XM, Z8⟩ := M
  replace M := Lib.hid M
  replace XM := Lib.hid XM
  replace Z8 := Lib.hid Z8
  clear E8
  clear GA
  obtain ⟨L0, L1, L2⟩ := L.out
  obtain ⟨M0, M1, M2⟩ := M.out
  go_wp2_with fail
  clear L0 L1 L2 M0 M1 M2
  refine (fcmp_any _ _ ((bx - ax) * (cy - ay)) ((b_y - ay) * (cx - ax)) _ _ _ (XL.out.v q7.out) (XM.out.v q8.out) hk2 hk2 hs4).mono ?_
  rintro e w7 ⟨rfl, g7⟩
  replace P := Lib.hid (P.out.grew g7)
  replace Py := Lib.hid (Py.out.grew g7)
  replace Q := Lib.hid (Q.out.grew g7)
  replace Qy := Lib.hid (Qy.out.grew g7)
  replace S := Lib.hid (S.out.grew g7)
  replace Sy := Lib.hid (Sy.out.grew g7)
  replace L := Lib.hid (L.out.grew g7)
  replace M := Lib.hid (M.out.grew g7)
  replace z0 := Lib.hid (lt_grew z0.out g7)
  replace z1 := Lib.hid (lt_grew z1.out g7)
  replace z2 := Lib.hid (lt_grew z2.out g7)
  replace Z7 := Lib.hid (lt_grew Z7.out g7)
  replace Z8 := Lib.hid (lt_grew Z8.out g7)
  replace Fa := Lib.hid (Fa.out.kept g7.keeps)
  replace Fb := Lib.hid (Fb.out.kept g7.keeps)
  replace Fc := Lib.hid (Fc.out.kept g7.keeps)
  replace Fd := Lib.hid (Fd.out.kept g7.keeps)
  replace Fe := Lib.hid (Fe.out.kept g7.keeps)
  replace Ff := Lib.hid (Ff.out.kept g7.keeps)
  replace XL := Lib.hid (XL.out.kept g7.keeps)
  replace XM := Lib.hid (XM.out.kept g7.keeps)
  replace G0 := Lib.hid (G0.out.trans g7)
  clear g7
  go_wp2_with fail
  go_ret
  exact ⟨rfl, G0.out⟩

end Go.Proofs.YtmommicmblfibaaGreat
namespace Go.Proofs.YtmommicmblfibaaGreat
open Go.RowKit

theorem cmpQ_gt {a b : Rat} (h : b < a) : cmpQ a b = 1 := by
  unfold cmpQ; rw [if_neg (by grind), if_pos h]
theorem cmpQ_le {a b : Rat} (h : ¬ b < a) : cmpQ a b ≤ 0 := by
  unfold cmpQ; split <;> (try split) <;> first | omega | contradiction

/-- Is c between a and b, or one of them? -/
def midQ (a b c : Rat) : Bool := !decide (c < a) && !decide (b < c)
def withinQ (a b c : Rat) : Bool := if b < a then midQ b a c else midQ a b c

set_option maxRecDepth 100000 in
set_option maxHeartbeats 8000000 in
theorem within_any (Va Vb Vc : Value) (p q r : Rat) (k : Nat) (w : World) (ha : FracV w Va p k) (hb : FracV w Vb q k) (hc : FracV w Vc r k) (hk : 1 ≤ k) (hs : k < 1073741824) :
    Calls Tryz.prog 37 #[Va, Vb, Vc] w fun e w' => e = .returned (.bool (withinQ p q r)) ∧ Grew w w' := by
  obtain ⟨b1, A1, n1, c1, C1, m1, d1, rfl, Fa⟩ := ha.laid
  obtain ⟨b2, A2, n2, c2, C2, m2, d2, rfl, Fb⟩ := hb.laid
  obtain ⟨b3, A3, n3, c3, C3, m3, d3, rfl, Fc⟩ := hc.laid
  clear ha hb hc
  have hs2 : k + k < 549755813888 := by omega
  go_enter Tryz.func37, Tryz.ntmps37
  go_wp2_with fail
  refine gen_calls ?_
  intro W0 hW0
  have G0 : Grew w W0 := by rw [hW0]; exact (((Grew.refl w).alloc _).alloc _).alloc _
  have P : Box3 W0 (w.heap.size) 0 (.bool b1) (.slice A1 n1 c1) (.slice C1 m1 d1) := by rw [hW0]; exact ⟨by simp [go_sem], by simp [go_sem], by simp [go_sem]⟩
  replace P := Lib.hid P
  have Pr : Res3 W0 (w.heap.size) 0 (.bool b1) (.slice A1 n1 c1) (.slice C1 m1 d1) := by rw [hW0]; exact ⟨by simp [go_sem], by simp [go_sem], by simp [go_sem], by simp [go_sem], by simp [go_sem], by simp [go_sem], by simp <;> omega⟩
  replace Pr := Lib.hid Pr
  have Q : Box3 W0 (w.heap.size + 1) 0 (.bool b2) (.slice A2 n2 c2) (.slice C2 m2 d2) := by rw [hW0]; exact ⟨by simp [go_sem], by simp [go_sem], by simp [go_sem]⟩
  replace Q := Lib.hid Q
  have Qr : Res3 W0 (w.heap.size + 1) 0 (.bool b2) (.slice A2 n2 c2) (.slice C2 m2 d2) := by rw [hW0]; exact ⟨by simp [go_sem], by simp [go_sem], by simp [go_sem], by simp [go_sem], by simp [go_sem], by simp [go_sem], by simp <;> omega⟩
  replace Qr := Lib.hid Qr
  have S : Box3 W0 (w.heap.size + 1 + 1) 0 (.bool b3) (.slice A3 n3 c3) (.slice C3 m3 d3) := by rw [hW0]; exact ⟨by simp [go_sem], by simp [go_sem], by simp [go_sem]⟩
  replace S := Lib.hid S
  have z0 : w.heap.size < W0.heap.size := by rw [hW0]; simp <;> omega
  replace z0 := Lib.hid z0
  have z1 : w.heap.size + 1 < W0.heap.size := by rw [hW0]; simp <;> omega
  replace z1 := Lib.hid z1
  have z2 : w.heap.size + 1 + 1 < W0.heap.size := by rw [hW0]; simp <;> omega
  replace z2 := Lib.hid z2
  clear hW0
  replace Fa := Lib.hid (Fa.out.kept G0.keeps)
  replace Fb := Lib.hid (Fb.out.kept G0.keeps)
  replace Fc := Lib.hid (Fc.out.kept G0.keeps)
  replace G0 := Lib.hid G0
  refine (fcmp_any _ _ p q k k _ Fa.out Fb.out hk hk hs2).mono ?_
  rintro e w1 ⟨rfl, g1⟩
  replace Pr := Lib.hid (Pr.out.grew g1)
  replace Qr := Lib.hid (Qr.out.grew g1)
  replace P := Lib.hid (P.out.grew g1)
  replace Q := Lib.hid (Q.out.grew g1)
  replace S := Lib.hid (S.out.grew g1)
  replace z0 := Lib.hid (lt_grew z0.out g1)
  replace z1 := Lib.hid (lt_grew z1.out g1)
  replace z2 := Lib.hid (lt_grew z2.out g1)
  replace Fa := Lib.hid (Fa.out.kept g1.keeps)
  replace Fb := Lib.hid (Fb.out.kept g1.keeps)
  replace Fc := Lib.hid (Fc.out.kept g1.keeps)
  replace G0 := Lib.hid (G0.out.trans g1)
  clear g1

  by_cases hpq : q < p
  · as_aux_lemma =>
    have e0 : withinQ p q r = midQ q p r := if_pos hpq
    replace e0 := Lib.hid e0
    rw [cmpQ_gt hpq]
    clear hpq
    obtain ⟨a0, a1, a2, af0, af1, af2, az⟩ := Pr.out
    obtain ⟨t0, t1, t2, tf0, tf1, tf2, ts⟩ := Qr.out
    go_upto_region 3 with fail
    refine gen_wp ?_
    intro W1 hW1
    obtain ⟨nP, nQ, nK, nf, nG, nz⟩ := store33 Pr.out Qr.out (by omega) hW1
    have nS := (S.out).kept (fun p => nf _ p (by omega) (by omega))
    replace G0 := Lib.hid (nG w (by omega) (by omega) G0.out)
    replace P := Lib.hid nP
    replace Q := Lib.hid nQ
    replace S := Lib.hid nS
    replace Fa := Lib.hid (Fa.out.kept nK)
    replace Fb := Lib.hid (Fb.out.kept nK)
    replace Fc := Lib.hid (Fc.out.kept nK)
    replace z0 := Lib.hid (show w.heap.size < W1.heap.size by rw [nz]; exact z0.out)
    replace z1 := Lib.hid (show w.heap.size + 1 < W1.heap.size by rw [nz]; exact z1.out)
    replace z2 := Lib.hid (show w.heap.size + 1 + 1 < W1.heap.size by rw [nz]; exact z2.out)
    clear a0 a1 a2 af0 af1 af2 az t0 t1 t2 tf0 tf1 tf2 ts nf nG nK nP nQ nS nz hW1 Pr Qr
    -- the world is W1
    obtain ⟨P0, P1, P2⟩ := P.out
    obtain ⟨Q0, Q1, Q2⟩ := Q.out
    obtain ⟨S0, S1, S2⟩ := S.out
    go_wp2_with fail
    clear P0 P1 P2 Q0 Q1 Q2 S0 S1 S2
    refine (fcmp_any _ _ q r k k _ Fb.out Fc.out hk hk hs2).mono ?_
    rintro e w2 ⟨rfl, g2⟩
    replace P := Lib.hid (P.out.grew g2)
    replace Q := Lib.hid (Q.out.grew g2)
    replace S := Lib.hid (S.out.grew g2)
    replace z0 := Lib.hid (lt_grew z0.out g2)
    replace z1 := Lib.hid (lt_grew z1.out g2)
    replace z2 := Lib.hid (lt_grew z2.out g2)
    replace Fa := Lib.hid (Fa.out.kept g2.keeps)
    replace Fb := Lib.hid (Fb.out.kept g2.keeps)
    replace Fc := Lib.hid (Fc.out.kept g2.keeps)
    replace G0 := Lib.hid (G0.out.trans g2)
    clear g2

    by_cases h1 : r < q
    · as_aux_lemma =>
      have e1 : midQ q p r = false := by unfold midQ; rw [decide_eq_true h1]; rfl
      replace e1 := Lib.hid (e0.out.trans e1)
      rw [cmpQ_gt h1]
      clear h1
      obtain ⟨P0, P1, P2⟩ := P.out
      obtain ⟨Q0, Q1, Q2⟩ := Q.out
      obtain ⟨S0, S1, S2⟩ := S.out
      go_wp2_with fail
      clear P0 P1 P2 Q0 Q1 Q2 S0 S1 S2
      go_ret
      exact ⟨by rw [e1.out]; rfl, G0.out⟩
    · as_aux_lemma =>

      have c1 := cmpQ_le h1
      have f1 := Lib.hid h1
      generalize cmpQ q r = cc at *
      clear h1
      obtain ⟨P0, P1, P2⟩ := P.out
      obtain ⟨Q0, Q1, Q2⟩ := Q.out
      obtain ⟨S0, S1, S2⟩ := S.out
      go_wp2_with fail
      clear P0 P1 P2 Q0 Q1 Q2 S0 S1 S2
      refine (fcmp_any _ _ r p k k _ Fc.out Fa.out hk hk hs2).mono ?_
      rintro e w3 ⟨rfl, g3⟩
      replace P := Lib.hid (P.out.grew g3)
      replace Q := Lib.hid (Q.out.grew g3)
      replace S := Lib.hid (S.out.grew g3)
      replace z0 := Lib.hid (lt_grew z0.out g3)
      replace z1 := Lib.hid (lt_grew z1.out g3)
      replace z2 := Lib.hid (lt_grew z2.out g3)
      replace Fa := Lib.hid (Fa.out.kept g3.keeps)
      replace Fb := Lib.hid (Fb.out.kept g3.keeps)
      replace Fc := Lib.hid (Fc.out.kept g3.keeps)
      replace G0 := Lib.hid (G0.out.trans g3)
      clear g3
      by_cases h2 : p < r
      · as_aux_lemma =>
        have e1 : midQ q p r = false := by unfold midQ; rw [decide_eq_true h2]; simp
        replace e1 := Lib.hid (e0.out.trans e1)
        rw [cmpQ_gt h2]
        clear h2
        go_wp2_with fail
        go_ret
        exact ⟨by rw [e1.out]; rfl, G0.out⟩
      · as_aux_lemma =>
        have e1 : midQ q p r = true := by unfold midQ; rw [decide_eq_false f1.out, decide_eq_false h2]; rfl
        replace e1 := Lib.hid (e0.out.trans e1)
        have c2 := cmpQ_le h2
        generalize cmpQ r p = cd at *
        clear h2
        go_wp2_with fail
        go_ret
        exact ⟨by rw [e1.out]; rfl, G0.out⟩
  · as_aux_lemma =>


    have e0 : withinQ p q r = midQ p q r := if_neg hpq
    replace e0 := Lib.hid e0
    have c0 := cmpQ_le hpq
    generalize cmpQ p q = c9 at *
    clear hpq
    obtain ⟨P0, P1, P2⟩ := P.out
    obtain ⟨Q0, Q1, Q2⟩ := Q.out
    obtain ⟨S0, S1, S2⟩ := S.out
    go_wp2_with fail
    clear P0 P1 P2 Q0 Q1 Q2 S0 S1 S2
    refine (fcmp_any _ _ p r k k _ Fa.out Fc.out hk hk hs2).mono ?_
    rintro e w2 ⟨rfl, g2⟩
    replace Pr := Lib.hid (Pr.out.grew g2)
    replace Qr := Lib.hid (Qr.out.grew g2)
    replace P := Lib.hid (P.out.grew g2)
    replace Q := Lib.hid (Q.out.grew g2)
    replace S := Lib.hid (S.out.grew g2)
    replace z0 := Lib.hid (lt_grew z0.out g2)
    replace z1 := Lib.hid (lt_grew z1.out g2)
    replace z2 := Lib.hid (lt_grew z2.out g2)
    replace Fa := Lib.hid (Fa.out.kept g2.keeps)
    replace Fb := Lib.hid (Fb.out.kept g2.keeps)
    replace Fc := Lib.hid (Fc.out.kept g2.keeps)
    replace G0 := Lib.hid (G0.out.trans g2)
    clear g2

    by_cases h1 : r < p
    · as_aux_lemma =>
      have e1 : midQ p q r = false := by unfold midQ; rw [decide_eq_true h1]; rfl
      replace e1 := Lib.hid (e0.out.trans e1)
      rw [cmpQ_gt h1]
      clear h1
      obtain ⟨P0, P1, P2⟩ := P.out
      obtain ⟨Q0, Q1, Q2⟩ := Q.out
      obtain ⟨S0, S1, S2⟩ := S.out
      go_wp2_with fail
      clear P0 P1 P2 Q0 Q1 Q2 S0 S1 S2
      go_ret
      exact ⟨by rw [e1.out]; rfl, G0.out⟩
    · as_aux_lemma =>

      have c1 := cmpQ_le h1
      have f1 := Lib.hid h1
      generalize cmpQ p r = cc at *
      clear h1
      obtain ⟨P0, P1, P2⟩ := P.out
      obtain ⟨Q0, Q1, Q2⟩ := Q.out
      obtain ⟨S0, S1, S2⟩ := S.out
      go_wp2_with fail
      clear P0 P1 P2 Q0 Q1 Q2 S0 S1 S2
      refine (fcmp_any _ _ r q k k _ Fc.out Fb.out hk hk hs2).mono ?_
      rintro e w3 ⟨rfl, g3⟩
      replace Pr := Lib.hid (Pr.out.grew g3)
      replace Qr := Lib.hid (Qr.out.grew g3)
      replace P := Lib.hid (P.out.grew g3)
      replace Q := Lib.hid (Q.out.grew g3)
      replace S := Lib.hid (S.out.grew g3)
      replace z0 := Lib.hid (lt_grew z0.out g3)
      replace z1 := Lib.hid (lt_grew z1.out g3)
      replace z2 := Lib.hid (lt_grew z2.out g3)
      replace Fa := Lib.hid (Fa.out.kept g3.keeps)
      replace Fb := Lib.hid (Fb.out.kept g3.keeps)
      replace Fc := Lib.hid (Fc.out.kept g3.keeps)
      replace G0 := Lib.hid (G0.out.trans g3)
      clear g3
      by_cases h2 : q < r
      · as_aux_lemma =>
        have e1 : midQ p q r = false := by unfold midQ; rw [decide_eq_true h2]; simp
        replace e1 := Lib.hid (e0.out.trans e1)
        rw [cmpQ_gt h2]
        clear h2
        go_wp2_with fail
        go_ret
        exact ⟨by rw [e1.out]; rfl, G0.out⟩
      · as_aux_lemma =>
        have e1 : midQ p q r = true := by unfold midQ; rw [decide_eq_false f1.out, decide_eq_false h2]; rfl
        replace e1 := Lib.hid (e0.out.trans e1)
        have c2 := cmpQ_le h2
        generalize cmpQ r q = cd at *
        clear h2
        go_wp2_with fail
        go_ret
        exact ⟨by rw [e1.out]; rfl, G0.out⟩
end Go.Proofs.YtmommicmblfibaaGreat
namespace Go.Proofs.YtmommicmblfibaaGreat
open Go.RowKit

/-- On which side: by both products. -/
def turnQ (ax ay bx b_y cx cy : Rat) : Int := cmpQ ((bx - ax) * (cy - ay)) ((b_y - ay) * (cx - ax))
def onQ (ax ay bx b_y cx cy : Rat) : Bool := withinQ ax bx cx && withinQ ay b_y cy && decide (turnQ ax ay bx b_y cx cy = 0)

set_option maxRecDepth 100000 in
set_option maxHeartbeats 8000000 in
theorem on_any (Va Vb Vc : Value) (ax ay bx b_y cx cy : Rat) (k : Nat) (w : World) (ha : SpotV w Va ax ay k) (hb : SpotV w Vb bx b_y k) (hc : SpotV w Vc cx cy k) (hk : 1 ≤ k) (hs : k < 1073741824) :
    Calls Tryz.prog 20 #[Va, Vb, Vc] w fun e w' => e = .returned (.bool (onQ ax ay bx b_y cx cy)) ∧ Grew w w' := by
  obtain ⟨b1, A1, n1, c1, C1, m1, d1, b2, A2, n2, c2, C2, m2, d2, rfl, Fa, Fb, Sa⟩ := ha.laid
  obtain ⟨b3, A3, n3, c3, C3, m3, d3, b4, A4, n4, c4, C4, m4, d4, rfl, Fc, Fd, Sb⟩ := hb.laid
  obtain ⟨b5, A5, n5, c5, C5, m5, d5, b6, A6, n6, c6, C6, m6, d6, rfl, Fe, Ff, Sc⟩ := hc.laid
  clear ha hb hc
  have eO : onQ ax ay bx b_y cx cy = (withinQ ax bx cx && withinQ ay b_y cy && decide (turnQ ax ay bx b_y cx cy = 0)) := rfl
  have eT : turnQ ax ay bx b_y cx cy = cmpQ ((bx - ax) * (cy - ay)) ((b_y - ay) * (cx - ax)) := rfl
  generalize onQ ax ay bx b_y cx cy = oo at *
  replace eO := Lib.hid eO
  replace eT := Lib.hid eT
  go_enter Tryz.func20, Tryz.ntmps20
  go_wp2_with fail
  refine gen_calls ?_
  intro W0 hW0
  have G0 : Grew w W0 := by rw [hW0]; exact (((Grew.refl w).alloc _).alloc _).alloc _
  have P : Box3 W0 (w.heap.size) 0 (.bool b1) (.slice A1 n1 c1) (.slice C1 m1 d1) := by rw [hW0]; exact ⟨by simp [go_sem], by simp [go_sem], by simp [go_sem]⟩
  replace P := Lib.hid P
  have Py : Box3 W0 (w.heap.size) 3 (.bool b2) (.slice A2 n2 c2) (.slice C2 m2 d2) := by rw [hW0]; exact ⟨by simp [go_sem], by simp [go_sem], by simp [go_sem]⟩
  replace Py := Lib.hid Py
  have Q : Box3 W0 (w.heap.size + 1) 0 (.bool b3) (.slice A3 n3 c3) (.slice C3 m3 d3) := by rw [hW0]; exact ⟨by simp [go_sem], by simp [go_sem], by simp [go_sem]⟩
  replace Q := Lib.hid Q
  have Qy : Box3 W0 (w.heap.size + 1) 3 (.bool b4) (.slice A4 n4 c4) (.slice C4 m4 d4) := by rw [hW0]; exact ⟨by simp [go_sem], by simp [go_sem], by simp [go_sem]⟩
  replace Qy := Lib.hid Qy
  have S : Box3 W0 (w.heap.size + 1 + 1) 0 (.bool b5) (.slice A5 n5 c5) (.slice C5 m5 d5) := by rw [hW0]; exact ⟨by simp [go_sem], by simp [go_sem], by simp [go_sem]⟩
  replace S := Lib.hid S
  have Sy : Box3 W0 (w.heap.size + 1 + 1) 3 (.bool b6) (.slice A6 n6 c6) (.slice C6 m6 d6) := by rw [hW0]; exact ⟨by simp [go_sem], by simp [go_sem], by simp [go_sem]⟩
  replace Sy := Lib.hid Sy
  have z0 : w.heap.size < W0.heap.size := by rw [hW0]; simp <;> omega
  replace z0 := Lib.hid z0
  have z1 : w.heap.size + 1 < W0.heap.size := by rw [hW0]; simp <;> omega
  replace z1 := Lib.hid z1
  have z2 : w.heap.size + 1 + 1 < W0.heap.size := by rw [hW0]; simp <;> omega
  replace z2 := Lib.hid z2
  clear hW0
  replace Fa := Lib.hid (Fa.out.kept G0.keeps)
  replace Fb := Lib.hid (Fb.out.kept G0.keeps)
  replace Fc := Lib.hid (Fc.out.kept G0.keeps)
  replace Fd := Lib.hid (Fd.out.kept G0.keeps)
  replace Fe := Lib.hid (Fe.out.kept G0.keeps)
  replace Ff := Lib.hid (Ff.out.kept G0.keeps)
  replace Sa := Lib.hid (Sa.out.kept G0.keeps)
  replace Sb := Lib.hid (Sb.out.kept G0.keeps)
  replace Sc := Lib.hid (Sc.out.kept G0.keeps)
  replace G0 := Lib.hid G0
  refine (within_any _ _ _ ax bx cx k _ Fa.out Fc.out Fe.out hk hs).mono ?_
  rintro e w1 ⟨rfl, g1⟩
  replace P := Lib.hid (P.out.grew g1)
  replace Py := Lib.hid (Py.out.grew g1)
  replace Q := Lib.hid (Q.out.grew g1)
  replace Qy := Lib.hid (Qy.out.grew g1)
  replace S := Lib.hid (S.out.grew g1)
  replace Sy := Lib.hid (Sy.out.grew g1)
  replace z0 := Lib.hid (lt_grew z0.out g1)
  replace z1 := Lib.hid (lt_grew z1.out g1)
  replace z2 := Lib.hid (lt_grew z2.out g1)
  replace Fa := Lib.hid (Fa.out.kept g1.keeps)
  replace Fb := Lib.hid (Fb.out.kept g1.keeps)
  replace Fc := Lib.hid (Fc.out.kept g1.keeps)
  replace Fd := Lib.hid (Fd.out.kept g1.keeps)
  replace Fe := Lib.hid (Fe.out.kept g1.keeps)
  replace Ff := Lib.hid (Ff.out.kept g1.keeps)
  replace Sa := Lib.hid (Sa.out.kept g1.keeps)
  replace Sb := Lib.hid (Sb.out.kept g1.keeps)
  replace Sc := Lib.hid (Sc.out.kept g1.keeps)
  replace G0 := Lib.hid (G0.out.trans g1)
  clear g1
  generalize withinQ ax bx cx = B1 at *

  cases B1
  · as_aux_lemma =>
    rw [Bool.false_and, Bool.false_and] at eO
    obtain ⟨P0, P1, P2⟩ := P.out
    obtain ⟨Py0, Py1, Py2⟩ := Py.out
    obtain ⟨Q0, Q1, Q2⟩ := Q.out
    obtain ⟨Qy0, Qy1, Qy2⟩ := Qy.out
    obtain ⟨S0, S1, S2⟩ := S.out
    obtain ⟨Sy0, Sy1, Sy2⟩ := Sy.out
    go_wp2_with fail
    clear P0 P1 P2 Py0 Py1 Py2 Q0 Q1 Q2 Qy0 Qy1 Qy2 S0 S1 S2 Sy0 Sy1 Sy2
    go_ret
    exact ⟨by rw [eO.out]; rfl, G0.out⟩
  · as_aux_lemma =>

    rw [Bool.true_and] at eO
    obtain ⟨P0, P1, P2⟩ := P.out
    obtain ⟨Py0, Py1, Py2⟩ := Py.out
    obtain ⟨Q0, Q1, Q2⟩ := Q.out
    obtain ⟨Qy0, Qy1, Qy2⟩ := Qy.out
    obtain ⟨S0, S1, S2⟩ := S.out
    obtain ⟨Sy0, Sy1, Sy2⟩ := Sy.out
    go_wp2_with fail
    clear P0 P1 P2 Py0 Py1 Py2 Q0 Q1 Q2 Qy0 Qy1 Qy2 S0 S1 S2 Sy0 Sy1 Sy2
    refine (within_any _ _ _ ay b_y cy k _ Fb.out Fd.out Ff.out hk hs).mono ?_
    rintro e w2 ⟨rfl, g2⟩
    replace P := Lib.hid (P.out.grew g2)
    replace Py := Lib.hid (Py.out.grew g2)
    replace Q := Lib.hid (Q.out.grew g2)
    replace Qy := Lib.hid (Qy.out.grew g2)
    replace S := Lib.hid (S.out.grew g2)
    replace Sy := Lib.hid (Sy.out.grew g2)
    replace z0 := Lib.hid (lt_grew z0.out g2)
    replace z1 := Lib.hid (lt_grew z1.out g2)
    replace z2 := Lib.hid (lt_grew z2.out g2)
    replace Fa := Lib.hid (Fa.out.kept g2.keeps)
    replace Fb := Lib.hid (Fb.out.kept g2.keeps)
    replace Fc := Lib.hid (Fc.out.kept g2.keeps)
    replace Fd := Lib.hid (Fd.out.kept g2.keeps)
    replace Fe := Lib.hid (Fe.out.kept g2.keeps)
    replace Ff := Lib.hid (Ff.out.kept g2.keeps)
    replace Sa := Lib.hid (Sa.out.kept g2.keeps)
    replace Sb := Lib.hid (Sb.out.kept g2.keeps)
    replace Sc := Lib.hid (Sc.out.kept g2.keeps)
    replace G0 := Lib.hid (G0.out.trans g2)
    clear g2
    generalize withinQ ay b_y cy = B2 at *

    cases B2
    · as_aux_lemma =>
      rw [Bool.false_and] at eO
      obtain ⟨P0, P1, P2⟩ := P.out
      obtain ⟨Py0, Py1, Py2⟩ := Py.out
      obtain ⟨Q0, Q1, Q2⟩ := Q.out
      obtain ⟨Qy0, Qy1, Qy2⟩ := Qy.out
      obtain ⟨S0, S1, S2⟩ := S.out
      obtain ⟨Sy0, Sy1, Sy2⟩ := Sy.out
      go_wp2_with fail
      clear P0 P1 P2 Py0 Py1 Py2 Q0 Q1 Q2 Qy0 Qy1 Qy2 S0 S1 S2 Sy0 Sy1 Sy2
      go_ret
      exact ⟨by rw [eO.out]; rfl, G0.out⟩
    · as_aux_lemma =>

      rw [Bool.true_and] at eO
      obtain ⟨P0, P1, P2⟩ := P.out
      obtain ⟨Py0, Py1, Py2⟩ := Py.out
      obtain ⟨Q0, Q1, Q2⟩ := Q.out
      obtain ⟨Qy0, Qy1, Qy2⟩ := Qy.out
      obtain ⟨S0, S1, S2⟩ := S.out
      obtain ⟨Sy0, Sy1, Sy2⟩ := Sy.out
      go_wp2_with fail
      clear P0 P1 P2 Py0 Py1 Py2 Q0 Q1 Q2 Qy0 Qy1 Qy2 S0 S1 S2 Sy0 Sy1 Sy2
      refine (turn_any _ _ _ ax ay bx b_y cx cy k _ Sa.out Sb.out Sc.out hk hs).mono ?_
      rintro e w3 ⟨rfl, g3⟩
      replace P := Lib.hid (P.out.grew g3)
      replace Py := Lib.hid (Py.out.grew g3)
      replace Q := Lib.hid (Q.out.grew g3)
      replace Qy := Lib.hid (Qy.out.grew g3)
      replace S := Lib.hid (S.out.grew g3)
      replace Sy := Lib.hid (Sy.out.grew g3)
      replace z0 := Lib.hid (lt_grew z0.out g3)
      replace z1 := Lib.hid (lt_grew z1.out g3)
      replace z2 := Lib.hid (lt_grew z2.out g3)
      replace Fa := Lib.hid (Fa.out.kept g3.keeps)
      replace Fb := Lib.hid (Fb.out.kept g3.keeps)
      replace Fc := Lib.hid (Fc.out.kept g3.keeps)
      replace Fd := Lib.hid (Fd.out.kept g3.keeps)
      replace Fe := Lib.hid (Fe.out.kept g3.keeps)
      replace Ff := Lib.hid (Ff.out.kept g3.keeps)
      replace Sa := Lib.hid (Sa.out.kept g3.keeps)
      replace Sb := Lib.hid (Sb.out.kept g3.keeps)
      replace Sc := Lib.hid (Sc.out.kept g3.keeps)
      replace G0 := Lib.hid (G0.out.trans g3)
      clear g3
      rw [← eT.out]
      generalize turnQ ax ay bx b_y cx cy = t at *
      by_cases ht : t = 0
      · as_aux_lemma =>
        subst ht
        have eO' := Lib.hid (eO.out.trans (decide_eq_true rfl))
        clear eO
        go_wp2_with fail
        go_ret
        exact ⟨by rw [eO'.out]; rfl, G0.out⟩
      · as_aux_lemma =>
        have eO' := Lib.hid (eO.out.trans (decide_eq_false ht))
        have htb : (t == 0) = false := by simpa using ht
        clear eO
        go_wp2_with fail
        go_ret
        exact ⟨by rw [eO'.out]; rfl, G0.out⟩

set_option maxRecDepth 100000 in
set_option maxHeartbeats 8000000 in
theorem at_any (x y : Int) (w : World) (x0 : -9223372036854775808 ≤ x) (x1 : x ≤ 9223372036854775807) (y0 : -9223372036854775808 ≤ y) (y1 : y ≤ 9223372036854775807) :
    Calls Tryz.prog 42 #[.agg #[.int .i64 x, .int .i64 y]] w fun e w' => ∃ V, e = .returned V ∧ SpotC w' V (x : Rat) (y : Rat) ∧ Grew w w' := by
  go_enter Tryz.func42, Tryz.ntmps42
  go_wp2_with fail
  refine gen_wp ?_
  intro W0 hW0
  have G0 : Grew w W0 := by rw [hW0]; exact ((Grew.refl w).alloc _).alloc _
  have P : Box2 W0 (w.heap.size) 0 (.int .i64 x) (.int .i64 y) := by rw [hW0]; exact ⟨by simp [go_sem], by simp [go_sem]⟩
  replace P := Lib.hid P
  have R : Res3 W0 (w.heap.size + 1) 0 (.bool false) (.slice none 0 0) (.slice none 0 0) := by rw [hW0]; exact ⟨by simp [go_sem], by simp [go_sem], by simp [go_sem], by simp [go_sem], by simp [go_sem], by simp [go_sem], by simp⟩
  replace R := Lib.hid R
  have R_ : Res3 W0 (w.heap.size + 1) 3 (.bool false) (.slice none 0 0) (.slice none 0 0) := by rw [hW0]; exact ⟨by simp [go_sem], by simp [go_sem], by simp [go_sem], by simp [go_sem], by simp [go_sem], by simp [go_sem], by simp⟩
  replace R_ := Lib.hid R_
  have z0 : w.heap.size < W0.heap.size := by rw [hW0]; simp <;> omega
  replace z0 := Lib.hid z0
  have z1 : w.heap.size + 1 < W0.heap.size := by rw [hW0]; simp <;> omega
  replace z1 := Lib.hid z1
  clear hW0
  replace G0 := Lib.hid G0
  have gd : Grew W0 W0.drew := (Grew.refl W0).drew
  replace R := Lib.hid (R.out.grew gd)
  replace R_ := Lib.hid (R_.out.grew gd)
  replace P := Lib.hid (P.out.grew gd)
  replace z0 := Lib.hid (lt_grew z0.out gd)
  replace z1 := Lib.hid (lt_grew z1.out gd)
  replace gd := Lib.hid gd
  have ZP := P
  go_region_held3 (fun w' => w'.cell? ⟨w.heap.size, 0, none⟩ = some (.int .i64 x) ∧ w'.cell? ⟨w.heap.size, 1, none⟩ = some (.int .i64 y))
    (first | (with_reducible exact ⟨ZP.out.p0, ZP.out.p1⟩) | (with_reducible exact ⟨g1.cell ZP.out.p0, g1.cell ZP.out.p1⟩) | (with_reducible exact ⟨(g1.trans g2).cell ZP.out.p0, (g1.trans g2).cell ZP.out.p1⟩) | (with_reducible exact ⟨other3 (o := 3) (by omega) (other3 (o := 0) (by omega) ((g1.trans g2).cell ZP.out.p0)), other3 (o := 3) (by omega) (other3 (o := 0) (by omega) ((g1.trans g2).cell ZP.out.p1))⟩))
    (first | (go_at_call 71; refine (fint_any x _ x0 x1).mono ?_; rintro e w1 ⟨V1, rfl, hV1, g1⟩; obtain ⟨b13, A13, n13, c13, C13, m13, d13, rfl, X1⟩ := hV1.laid; clear hV1; replace R := Lib.hid (R.out.grew g1); replace R_ := Lib.hid (R_.out.grew g1); replace P := Lib.hid (P.out.grew g1); replace z0 := Lib.hid (lt_grew z0.out g1); replace z1 := Lib.hid (lt_grew z1.out g1)) | (go_at_call 71; refine (fint_any y _ y0 y1).mono ?_; rintro e w2 ⟨V2, rfl, hV2, g2⟩; obtain ⟨b14, A14, n14, c14, C14, m14, d14, rfl, X2⟩ := hV2.laid; clear hV2; replace R := Lib.hid (R.out.grew g2); replace R_ := Lib.hid (R_.out.grew g2); replace P := Lib.hid (P.out.grew g2); replace z0 := Lib.hid (lt_grew z0.out g2); replace z1 := Lib.hid (lt_grew z1.out g2); replace X1 := Lib.hid (X1.out.kept g2.keeps); obtain ⟨R0, R1, R2, Rf0, Rf1, Rf2, Rs⟩ := R.out; obtain ⟨R_0, R_1, R_2, R_f0, R_f1, R_f2, R_s⟩ := R_.out))
  replace G0 := Lib.hid (((G0.out.trans gd.out).trans g1).trans g2)
  clear gd g1 g2 ZP
  refine gen_then ?_
  intro W9 hW9
  obtain ⟨q0, q1, q2, q3, q4, q5, qK, qG⟩ := store6 R0 R1 R2 R_0 R_1 R_2 hW9
  have GE := qG w (by omega) G0.out
  have QK := Lib.hid qK
  clear qK qG hW9 R0 R1 R2 R_0 R_1 R_2
  go_wp2_with fail
  exact bodyPost_ret (v := .agg #[.bool b13, .slice A13 n13 c13, .slice C13 m13 d13, .bool b14, .slice A14 n14 c14, .slice C14 m14 d14]) (by simp [results, Tryz.results42, go_sem, q0, q1, q2, q3, q4, q5]) rfl ⟨_, rfl, SpotC.mk (X1.out.kept QK.out) (X2.out.kept QK.out), GE⟩

end Go.Proofs.YtmommicmblfibaaGreat
