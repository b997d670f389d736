/- frac.Cmp. Condition: what comes in reads; fewer than 2^39 words. spot.Turn, spot.Mid. Condition: what comes in reads; fewer than 2^30 words. spot.within, spot.On. Condition: what comes in reads; fewer than 2^30 words. spot.On, spot.At, and spot.Turns at three points. Condition: what comes in reads; fewer than 2^30 words. -/
import Derived.Test.YtngbcbncllfblaaGreatJFrac6
namespace Go.Proofs.YtngbcbncllfblaaGreat
open Go.RowKit

set_option maxRecDepth 100000 in
set_option maxHeartbeats 8000000 in
theorem fcmp_any (Va Vb : Value) (p q : Rat) (k l : Nat) (w : World) (ha : FracV w Va p k) (hb : FracV w Vb q l) (hk : 1 ≤ k) (hl : 1 ≤ l) (hs : k + l < 549755813888) :
    Calls Tryz.prog 106 #[Va, Vb] w fun e w' => e = .returned (.int .i64 (cmpQ p q)) ∧ Grew w w' := by
  obtain ⟨b1, A1, n1, c1, C1, m1, d1, rfl, Ra⟩ := ha.laid
  obtain ⟨b2, A2, n2, c2, C2, m2, d2, rfl, Rb⟩ := hb.laid
  have hs2 : k < 549755813888 ∧ l < 549755813888 := by omega
  replace hs2 := Lib.hid hs2
  clear ha hb
  go_enter Tryz.func106, Tryz.ntmps106
  go_wp2_with fail
  refine gen_wp ?_
  intro W0 hW0
  have G0 : Grew w W0 := by rw [hW0]; exact ((Grew.refl w).alloc _).alloc _
  have P : Box3 W0 (w.heap.size) 0 (.bool b1) (.slice A1 n1 c1) (.slice C1 m1 d1) := by rw [hW0]; exact ⟨by simp [go_sem], by simp [go_sem], by simp [go_sem]⟩
  replace P := Lib.hid P
  have Q : Box3 W0 (w.heap.size + 1) 0 (.bool b2) (.slice A2 n2 c2) (.slice C2 m2 d2) := by rw [hW0]; exact ⟨by simp [go_sem], by simp [go_sem], by simp [go_sem]⟩
  replace Q := Lib.hid Q
  have z0 : w.heap.size < W0.heap.size := by rw [hW0]; simp <;> omega
  replace z0 := Lib.hid z0
  have z1 : w.heap.size + 1 < W0.heap.size := by rw [hW0]; simp <;> omega
  replace z1 := Lib.hid z1
  clear hW0
  replace Ra := Lib.hid (Ra.out.kept G0.keeps)
  replace Rb := Lib.hid (Rb.out.kept G0.keeps)
  replace G0 := Lib.hid G0
  go_upto_region 1 with fail
  go_cut [5, 6] (fun s5 s6 wx => ∃ e5 e6 : Nat, s5 = .pointer (some ⟨e5, 0, none⟩) ∧ At3 wx e5 (fun w V => RatQ w V p k) ∧ W0.heap.size ≤ e5 ∧ s6 = .pointer (some ⟨e6, 0, none⟩) ∧ At3 wx e6 (fun w V => RatQ w V q l) ∧ W0.heap.size ≤ e6 ∧ Grew W0 wx)
  · have KS : ∀ X, Grew W0 X → (fun w' => w'.cell? ⟨w.heap.size, 0, none⟩ = some (.bool b1) ∧ w'.cell? ⟨w.heap.size, 1, none⟩ = some (.slice A1 n1 c1) ∧ w'.cell? ⟨w.heap.size, 2, none⟩ = some (.slice C1 m1 d1) ∧ w'.cell? ⟨w.heap.size + 1, 0, none⟩ = some (.bool b2) ∧ w'.cell? ⟨w.heap.size + 1, 1, none⟩ = some (.slice A2 n2 c2) ∧ w'.cell? ⟨w.heap.size + 1, 2, none⟩ = some (.slice C2 m2 d2)) X := fun X g => ⟨g.cell P.out.p0, g.cell P.out.p1, g.cell P.out.p2, g.cell Q.out.p0, g.cell Q.out.p1, g.cell Q.out.p2⟩
    replace KS := Lib.hid KS
    go_region_held3 (fun w' => w'.cell? ⟨w.heap.size, 0, none⟩ = some (.bool b1) ∧ w'.cell? ⟨w.heap.size, 1, none⟩ = some (.slice A1 n1 c1) ∧ w'.cell? ⟨w.heap.size, 2, none⟩ = some (.slice C1 m1 d1) ∧ w'.cell? ⟨w.heap.size + 1, 0, none⟩ = some (.bool b2) ∧ w'.cell? ⟨w.heap.size + 1, 1, none⟩ = some (.slice A2 n2 c2) ∧ w'.cell? ⟨w.heap.size + 1, 2, none⟩ = some (.slice C2 m2 d2))
      (first | (refine KS.out _ ?_; (repeat (first | with_reducible exact Grew.refl _ | with_reducible refine Grew.setCell ?_ (by simp <;> omega) _ | with_reducible refine Grew.alloc ?_ _ | with_reducible refine Grew.drew ?_ | with_reducible apply Grew.trans ?_ g2 | with_reducible apply Grew.trans ?_ g1 )); done))
      (first | (go_at_call_of 146 (Value.agg #[.bool b1, .slice A1 n1 c1, .slice C1 m1 d1]); refine (parts_v _ p k _ (Ra.out.kept (Grew.keeps (by (repeat (first | with_reducible exact Grew.refl _ | with_reducible refine Grew.setCell ?_ (by simp <;> omega) _ | with_reducible refine Grew.alloc ?_ _ | with_reducible refine Grew.drew ?_ ))))) hk hs2.out.1).mono ?_; rintro e w1 ⟨V1, rfl, hV1, g1⟩; have zn1 : W0.heap.size ≤ w1.heap.size := (by have t := g1.size; (try simp at t); omega); obtain ⟨b3, A3, n3, c3, C3, m3, d3, rfl, X1⟩ := hV1.laid; clear hV1; (first | (with_reducible have tt := res_new2 g1; have h0_0 := tt.1; have h0_1 := tt.2; clear tt) | (with_reducible have tt := res_new2D g1; have h0_0 := tt.1; have h0_1 := tt.2; clear tt) | (with_reducible have h0_0 := res_new g1) | (with_reducible have h0_0 := res_newD g1) | skip); (try (have uu := Res3.lt h0_0; have ne0_1a : ¬ (w1.heap.size = W0.heap.size) := (by omega); have ne0_1b : ¬ (W0.heap.size = w1.heap.size) := (by omega); clear uu))) | (go_at_call 146; refine (parts_v _ q l _ (Rb.out.kept (Grew.keeps (by (repeat (first | with_reducible exact Grew.refl _ | with_reducible refine Grew.setCell ?_ (by simp <;> omega) _ | with_reducible refine Grew.alloc ?_ _ | with_reducible refine Grew.drew ?_ | with_reducible apply Grew.trans ?_ g1 ))))) hl hs2.out.2).mono ?_; rintro e w2 ⟨V2, rfl, hV2, g2⟩; have zn2 : w1.heap.size ≤ w2.heap.size := (by have t := g2.size; (try simp at t); omega); obtain ⟨b4, A4, n4, c4, C4, m4, d4, rfl, X2⟩ := hV2.laid; clear hV2; (try replace h0_0 : Res3 w2 (W0.heap.size) 0 (.bool false) (.slice none 0 0) (.slice none 0 0) := h0_0.grew (by (repeat (first | with_reducible exact Grew.refl _ | with_reducible refine Grew.setCell ?_ (by simp <;> omega) _ | with_reducible refine Grew.alloc ?_ _ | with_reducible refine Grew.drew ?_ | with_reducible apply Grew.trans ?_ g2 )))); (try replace h0_1 : Res3 w2 (W0.heap.size + 1) 0 (.bool false) (.slice none 0 0) (.slice none 0 0) := h0_1.grew (by (repeat (first | with_reducible exact Grew.refl _ | with_reducible refine Grew.setCell ?_ (by simp <;> omega) _ | with_reducible refine Grew.alloc ?_ _ | with_reducible refine Grew.drew ?_ | with_reducible apply Grew.trans ?_ g2 )))); (first | (with_reducible have tt := res_new2 g2; have h1_0 := tt.1; have h1_1 := tt.2; clear tt) | (with_reducible have tt := res_new2D g2; have h1_0 := tt.1; have h1_1 := tt.2; clear tt) | (with_reducible have h1_0 := res_new g2) | (with_reducible have h1_0 := res_newD g2) | skip); (try (have uu := Res3.lt h0_0; have ne0_2a : ¬ (w2.heap.size = W0.heap.size) := (by omega); have ne0_2b : ¬ (W0.heap.size = w2.heap.size) := (by omega); clear uu)); (try (have uu := Res3.lt h1_0; have ne1_2a : ¬ (w2.heap.size = w1.heap.size) := (by omega); have ne1_2b : ¬ (w1.heap.size = w2.heap.size) := (by omega); clear uu)); (try (have tt := h0_0; obtain ⟨h0_00, h0_01, h0_02, h0_0f0, h0_0f1, h0_0f2, h0_0s⟩ := tt)); (try (have tt := h0_1; obtain ⟨h0_10, h0_11, h0_12, h0_1f0, h0_1f1, h0_1f2, h0_1s⟩ := tt)); (try (have tt := h1_0; obtain ⟨h1_00, h1_01, h1_02, h1_0f0, h1_0f1, h1_0f2, h1_0s⟩ := tt)); (try (have tt := h1_1; obtain ⟨h1_10, h1_11, h1_12, h1_1f0, h1_1f1, h1_1f2, h1_1s⟩ := tt))))
    all_goals
      go_wp2_with fail
      go_meet
      have XX1 := Lib.hid (X1.out.kept (Grew.keeps (w := w1) (w' := w2) (by (repeat (first | with_reducible exact Grew.refl _ | with_reducible refine Grew.setCell ?_ (by simp <;> omega) _ | with_reducible refine Grew.alloc ?_ _ | with_reducible refine Grew.drew ?_ | with_reducible apply Grew.trans ?_ g2 )))))
      have XX2 := Lib.hid (X2.out.kept (Grew.keeps (w := w2) (w' := w2) (by (repeat (first | with_reducible exact Grew.refl _ | with_reducible refine Grew.setCell ?_ (by simp <;> omega) _ | with_reducible refine Grew.alloc ?_ _ | with_reducible refine Grew.drew ?_ )))))
      refine ⟨_, _, rfl, ?_, ?_, rfl, ?_, ?_, ?_⟩
      · repeat (first | with_reducible exact h0_0  | with_reducible exact h0_1  | with_reducible exact h1_0  | with_reducible exact h1_1 | with_reducible exact Keeps.refl _ | with_reducible refine At3.of_store (w := w2) (Rd.ratQ _ _) ?_ ?_ XX1.out | with_reducible refine At3.of_alloc (w := w2) (Rd.ratQ _ _) (by simp) ?_ XX1.out | with_reducible refine At3.store_far (Rd.ratQ _ _) ?_ ?_ (by omega) | with_reducible refine At3.grew (Rd.ratQ _ _) ?_ ((Grew.refl _).alloc _) | with_reducible refine Keeps.store ?_ ?_ | with_reducible refine Keeps.alloc ?_ | with_reducible refine Res3.store_far ?_ ?_ (by omega))
      · omega
      · repeat (first | with_reducible exact h0_0  | with_reducible exact h0_1  | with_reducible exact h1_0  | with_reducible exact h1_1 | with_reducible exact Keeps.refl _ | with_reducible refine At3.of_store (w := w2) (Rd.ratQ _ _) ?_ ?_ XX2.out | with_reducible refine At3.of_alloc (w := w2) (Rd.ratQ _ _) (by simp) ?_ XX2.out | with_reducible refine At3.store_far (Rd.ratQ _ _) ?_ ?_ (by omega) | with_reducible refine At3.grew (Rd.ratQ _ _) ?_ ((Grew.refl _).alloc _) | with_reducible refine Keeps.store ?_ ?_ | with_reducible refine Keeps.alloc ?_ | with_reducible refine Res3.store_far ?_ ?_ (by omega))
      · omega
      · (repeat (first | with_reducible exact Grew.refl _ | with_reducible refine Grew.setCell ?_ (by simp <;> omega) _ | with_reducible refine Grew.alloc ?_ _ | with_reducible refine Grew.drew ?_ | with_reducible apply Grew.trans ?_ g2 | with_reducible apply Grew.trans ?_ g1 ))
  obtain ⟨e5, e6, rfl, L, E5, rfl, M, E6, GA⟩ := hcut
  replace P := Lib.hid (P.out.grew GA)
  replace Q := Lib.hid (Q.out.grew GA)
  replace z0 := Lib.hid (lt_grew z0.out GA)
  replace z1 := Lib.hid (lt_grew z1.out GA)
  replace Ra := Lib.hid (Ra.out.kept GA.keeps)
  replace Rb := Lib.hid (Rb.out.kept GA.keeps)
  replace G0 := Lib.hid (G0.out.trans GA)
  obtain ⟨b105, A105, n105, c105, C105, m105, d105, L, XL, Z5⟩ := L
  replace L := Lib.hid L
  replace XL := Lib.hid XL
  replace Z5 := Lib.hid Z5
  clear E5
  obtain ⟨b106, A106, n106, c106, C106, m106, d106, M, XM, Z6⟩ := M
  replace M := Lib.hid M
  replace XM := Lib.hid XM
  replace Z6 := Lib.hid Z6
  clear E6
  clear GA
  obtain ⟨z, D, Ez, hD, Wz, Nz, k1, k2, -, -⟩ := XL.out.parts
  obtain ⟨y, E, Ey, hE, Wy, Ny, l1, l2, -, -⟩ := XM.out.parts
  -- Wz Nz Wy Ny
  have hs3 : k < 1099511627776 ∧ l < 1099511627776 ∧ k + l < 1099511627776 ∧ l + k < 1099511627776 ∧ (k + l < 549755813888 ∧ l + k < 549755813888) := by omega
  replace hs3 := Lib.hid hs3
  have r1 := Lib.hid (fun h : sg z ≠ sg y => (show cmpQ p q = if sg z < sg y then -1 else 1 by rw [← Ez.out, ← Ey.out]; exact cmpQ_sg_ne hD hE h))
  have r2 : cmpQ p q = cmpZ (z * E) (y * D) := by rw [← Ez.out, ← Ey.out]; exact cmpQ_mkRat z y D E hD hE
  have hm1 := Lib.hid (len_mulz z E k l k1 (by simpa using l2))
  have hm2 := Lib.hid (len_mulz y D l k l1 (by simpa using k2))
  replace r2 := Lib.hid r2
  replace k2 := Lib.hid k2
  replace l2 := Lib.hid l2
  clear hD hE k1 l1 Ez Ey hk hl hs
  go_wp2_with fail
  have gd : Grew wc wc.drew := (Grew.refl wc).drew
  replace P := Lib.hid (P.out.grew gd)
  replace Q := Lib.hid (Q.out.grew gd)
  replace L := Lib.hid (L.out.grew gd)
  replace M := Lib.hid (M.out.grew gd)
  replace z0 := Lib.hid (lt_grew z0.out gd)
  replace z1 := Lib.hid (lt_grew z1.out gd)
  replace Z5 := Lib.hid (lt_grew Z5.out gd)
  replace Z6 := Lib.hid (lt_grew Z6.out gd)
  replace Ra := Lib.hid (Ra.out.kept gd.keeps)
  replace Rb := Lib.hid (Rb.out.kept gd.keeps)
  replace XL := Lib.hid (XL.out.kept gd.keeps)
  replace XM := Lib.hid (XM.out.kept gd.keeps)
  replace Wz := Lib.hid (Wz.out.kept gd.keeps)
  replace Nz := Lib.hid (Nz.out.kept gd.keeps)
  replace Wy := Lib.hid (Wy.out.kept gd.keeps)
  replace Ny := Lib.hid (Ny.out.kept gd.keeps)
  replace gd := Lib.hid gd
  have ZL := L
  have ZM := M
  go_region_held3 (fun w' => w'.cell? ⟨e5, 0, none⟩ = some (.bool b105) ∧ w'.cell? ⟨e5, 1, none⟩ = some (.slice A105 n105 c105) ∧ w'.cell? ⟨e5, 2, none⟩ = some (.slice C105 m105 d105) ∧ w'.cell? ⟨e6, 0, none⟩ = some (.bool b106) ∧ w'.cell? ⟨e6, 1, none⟩ = some (.slice A106 n106 c106) ∧ w'.cell? ⟨e6, 2, none⟩ = some (.slice C106 m106 d106))
    (first | (with_reducible exact ⟨ZL.out.p0, ZL.out.p1, ZL.out.p2, ZM.out.p0, ZM.out.p1, ZM.out.p2⟩) | (with_reducible exact ⟨g3.cell ZL.out.p0, g3.cell ZL.out.p1, g3.cell ZL.out.p2, g3.cell ZM.out.p0, g3.cell ZM.out.p1, g3.cell ZM.out.p2⟩) | (with_reducible exact ⟨(g3.trans g4).cell ZL.out.p0, (g3.trans g4).cell ZL.out.p1, (g3.trans g4).cell ZL.out.p2, (g3.trans g4).cell ZM.out.p0, (g3.trans g4).cell ZM.out.p1, (g3.trans g4).cell ZM.out.p2⟩))
    (first | (go_at_call_of 147 (Value.agg #[.bool b105, .slice A105 n105 c105]); refine (sign_v _ z k _ Wz.out hs3.out.1).mono ?_; rintro e w3 ⟨rfl, g3⟩; replace P := Lib.hid (P.out.grew g3); replace Q := Lib.hid (Q.out.grew g3); replace L := Lib.hid (L.out.grew g3); replace M := Lib.hid (M.out.grew g3); replace z0 := Lib.hid (lt_grew z0.out g3); replace z1 := Lib.hid (lt_grew z1.out g3); replace Z5 := Lib.hid (lt_grew Z5.out g3); replace Z6 := Lib.hid (lt_grew Z6.out g3); replace Ra := Lib.hid (Ra.out.kept g3.keeps); replace Rb := Lib.hid (Rb.out.kept g3.keeps); replace XL := Lib.hid (XL.out.kept g3.keeps); replace XM := Lib.hid (XM.out.kept g3.keeps); replace Wz := Lib.hid (Wz.out.kept g3.keeps); replace Nz := Lib.hid (Nz.out.kept g3.keeps); replace Wy := Lib.hid (Wy.out.kept g3.keeps); replace Ny := Lib.hid (Ny.out.kept g3.keeps)) | (go_at_call 147; refine (sign_v _ y l _ Wy.out hs3.out.2.1).mono ?_; rintro e w4 ⟨rfl, g4⟩; replace P := Lib.hid (P.out.grew g4); replace Q := Lib.hid (Q.out.grew g4); replace L := Lib.hid (L.out.grew g4); replace M := Lib.hid (M.out.grew g4); replace z0 := Lib.hid (lt_grew z0.out g4); replace z1 := Lib.hid (lt_grew z1.out g4); replace Z5 := Lib.hid (lt_grew Z5.out g4); replace Z6 := Lib.hid (lt_grew Z6.out g4); replace Ra := Lib.hid (Ra.out.kept g4.keeps); replace Rb := Lib.hid (Rb.out.kept g4.keeps); replace XL := Lib.hid (XL.out.kept g4.keeps); replace XM := Lib.hid (XM.out.kept g4.keeps); replace Wz := Lib.hid (Wz.out.kept g4.keeps); replace Nz := Lib.hid (Nz.out.kept g4.keeps); replace Wy := Lib.hid (Wy.out.kept g4.keeps); replace Ny := Lib.hid (Ny.out.kept g4.keeps)))
  replace G0 := Lib.hid (((G0.out.trans gd.out).trans g3).trans g4)
  clear gd g3 g4 ZL ZM
  generalize sg z = s1 at *
  generalize sg y = s2 at *
  rcases Int.lt_trichotomy s1 s2 with h | h | h
  · as_aux_lemma =>
    have e1 : (s1 == s2) = false := by simp; omega
    have e2 : (s1 != s2) = true := by simp; omega
    have e3 := Lib.hid ((r1.out (by omega)).trans (if_pos h))
    go_wp2_with fail
    go_ret
    exact ⟨by rw [e3.out]; rfl, G0.out⟩
  · as_aux_lemma =>
    subst h
    have e1 : (s1 == s1) = true := by simp
    have e2 : (s1 != s1) = false := by simp
    clear r1
    go_wp2_with fail
    have gd : Grew w4 w4.drew := (Grew.refl w4).drew
    replace P := Lib.hid (P.out.grew gd)
    replace Q := Lib.hid (Q.out.grew gd)
    replace L := Lib.hid (L.out.grew gd)
    replace M := Lib.hid (M.out.grew gd)
    replace z0 := Lib.hid (lt_grew z0.out gd)
    replace z1 := Lib.hid (lt_grew z1.out gd)
    replace Z5 := Lib.hid (lt_grew Z5.out gd)
    replace Z6 := Lib.hid (lt_grew Z6.out gd)
    replace Ra := Lib.hid (Ra.out.kept gd.keeps)
    replace Rb := Lib.hid (Rb.out.kept gd.keeps)
    replace XL := Lib.hid (XL.out.kept gd.keeps)
    replace XM := Lib.hid (XM.out.kept gd.keeps)
    replace Wz := Lib.hid (Wz.out.kept gd.keeps)
    replace Nz := Lib.hid (Nz.out.kept gd.keeps)
    replace Wy := Lib.hid (Wy.out.kept gd.keeps)
    replace Ny := Lib.hid (Ny.out.kept gd.keeps)
    replace gd := Lib.hid gd
    have ZL := L
    have ZM := M
    go_region_held3 (fun w' => w'.cell? ⟨e5, 0, none⟩ = some (.bool b105) ∧ w'.cell? ⟨e5, 1, none⟩ = some (.slice A105 n105 c105) ∧ w'.cell? ⟨e5, 2, none⟩ = some (.slice C105 m105 d105) ∧ w'.cell? ⟨e6, 0, none⟩ = some (.bool b106) ∧ w'.cell? ⟨e6, 1, none⟩ = some (.slice A106 n106 c106) ∧ w'.cell? ⟨e6, 2, none⟩ = some (.slice C106 m106 d106))
      (first | (with_reducible exact ⟨ZL.out.p0, ZL.out.p1, ZL.out.p2, ZM.out.p0, ZM.out.p1, ZM.out.p2⟩) | (with_reducible exact ⟨g5.cell ZL.out.p0, g5.cell ZL.out.p1, g5.cell ZL.out.p2, g5.cell ZM.out.p0, g5.cell ZM.out.p1, g5.cell ZM.out.p2⟩) | (with_reducible exact ⟨(g5.trans g6).cell ZL.out.p0, (g5.trans g6).cell ZL.out.p1, (g5.trans g6).cell ZL.out.p2, (g5.trans g6).cell ZM.out.p0, (g5.trans g6).cell ZM.out.p1, (g5.trans g6).cell ZM.out.p2⟩) | (with_reducible exact ⟨((g5.trans g6).trans g7).cell ZL.out.p0, ((g5.trans g6).trans g7).cell ZL.out.p1, ((g5.trans g6).trans g7).cell ZL.out.p2, ((g5.trans g6).trans g7).cell ZM.out.p0, ((g5.trans g6).trans g7).cell ZM.out.p1, ((g5.trans g6).trans g7).cell ZM.out.p2⟩))
      (first | (go_at_call_of 149 (Value.agg #[.bool b105, .slice A105 n105 c105]); refine (wmul_v _ _ z E k l _ Wz.out (Ny.out.whl l2.out) hs3.out.2.2.1).mono ?_; rintro e w5 ⟨V5, rfl, hV5, g5⟩; obtain ⟨b7, A7, n7, c7, rfl, hV5, -⟩ := hV5.laid; have X5 := Lib.hid (hV5.out.v hm1.out); clear hV5; replace P := Lib.hid (P.out.grew g5); replace Q := Lib.hid (Q.out.grew g5); replace L := Lib.hid (L.out.grew g5); replace M := Lib.hid (M.out.grew g5); replace z0 := Lib.hid (lt_grew z0.out g5); replace z1 := Lib.hid (lt_grew z1.out g5); replace Z5 := Lib.hid (lt_grew Z5.out g5); replace Z6 := Lib.hid (lt_grew Z6.out g5); replace Ra := Lib.hid (Ra.out.kept g5.keeps); replace Rb := Lib.hid (Rb.out.kept g5.keeps); replace XL := Lib.hid (XL.out.kept g5.keeps); replace XM := Lib.hid (XM.out.kept g5.keeps); replace Wz := Lib.hid (Wz.out.kept g5.keeps); replace Nz := Lib.hid (Nz.out.kept g5.keeps); replace Wy := Lib.hid (Wy.out.kept g5.keeps); replace Ny := Lib.hid (Ny.out.kept g5.keeps)) | (go_at_call 149; refine (wmul_v _ _ y D l k _ Wy.out (Nz.out.whl k2.out) hs3.out.2.2.2.1).mono ?_; rintro e w6 ⟨V6, rfl, hV6, g6⟩; obtain ⟨b8, A8, n8, c8, rfl, hV6, -⟩ := hV6.laid; have X6 := Lib.hid (hV6.out.v hm2.out); clear hV6; replace P := Lib.hid (P.out.grew g6); replace Q := Lib.hid (Q.out.grew g6); replace L := Lib.hid (L.out.grew g6); replace M := Lib.hid (M.out.grew g6); replace z0 := Lib.hid (lt_grew z0.out g6); replace z1 := Lib.hid (lt_grew z1.out g6); replace Z5 := Lib.hid (lt_grew Z5.out g6); replace Z6 := Lib.hid (lt_grew Z6.out g6); replace Ra := Lib.hid (Ra.out.kept g6.keeps); replace Rb := Lib.hid (Rb.out.kept g6.keeps); replace XL := Lib.hid (XL.out.kept g6.keeps); replace XM := Lib.hid (XM.out.kept g6.keeps); replace Wz := Lib.hid (Wz.out.kept g6.keeps); replace Nz := Lib.hid (Nz.out.kept g6.keeps); replace Wy := Lib.hid (Wy.out.kept g6.keeps); replace Ny := Lib.hid (Ny.out.kept g6.keeps); replace X5 := Lib.hid (X5.out.kept g6.keeps)) | (go_at_call 148; refine (wcmp_v _ _ (z * E) (y * D) (k + l) (l + k) _ X5.out X6.out hs3.out.2.2.2.2).mono ?_; rintro e w7 ⟨rfl, g7⟩; replace P := Lib.hid (P.out.grew g7); replace Q := Lib.hid (Q.out.grew g7); replace L := Lib.hid (L.out.grew g7); replace M := Lib.hid (M.out.grew g7); replace z0 := Lib.hid (lt_grew z0.out g7); replace z1 := Lib.hid (lt_grew z1.out g7); replace Z5 := Lib.hid (lt_grew Z5.out g7); replace Z6 := Lib.hid (lt_grew Z6.out g7); replace Ra := Lib.hid (Ra.out.kept g7.keeps); replace Rb := Lib.hid (Rb.out.kept g7.keeps); replace XL := Lib.hid (XL.out.kept g7.keeps); replace XM := Lib.hid (XM.out.kept g7.keeps); replace Wz := Lib.hid (Wz.out.kept g7.keeps); replace Nz := Lib.hid (Nz.out.kept g7.keeps); replace Wy := Lib.hid (Wy.out.kept g7.keeps); replace Ny := Lib.hid (Ny.out.kept g7.keeps); replace X5 := Lib.hid (X5.out.kept g7.keeps); replace X6 := Lib.hid (X6.out.kept g7.keeps)))
    replace G0 := Lib.hid ((((G0.out.trans gd.out).trans g5).trans g6).trans g7)
    clear gd g5 g6 g7 ZL ZM
    go_wp2_with fail
    go_ret
    exact ⟨by rw [r2.out]; rfl, G0.out⟩
  · as_aux_lemma =>
    have e1 : (s1 == s2) = false := by simp; omega
    have e2 : (s1 != s2) = true := by simp; omega
    have h' : ¬ s1 < s2 := by omega
    have e3 := Lib.hid ((r1.out (by omega)).trans (if_neg h'))
    go_wp2_with fail
    go_ret
    exact ⟨by rw [e3.out]; rfl, G0.out⟩
end Go.Proofs.YtngbcbncllfblaaGreat
namespace Go.Proofs.YtngbcbncllfblaaGreat
open Go.RowKit

end Go.Proofs.YtngbcbncllfblaaGreat
namespace Go.Proofs.YtngbcbncllfblaaGreat
open Go.RowKit

end Go.Proofs.YtngbcbncllfblaaGreat
namespace Go.Proofs.YtngbcbncllfblaaGreat
open Go.RowKit

set_option maxRecDepth 100000 in
set_option maxHeartbeats 8000000 in
theorem at_any (x y : Int) (w : World) (x0 : -9223372036854775808 ≤ x) (x1 : x ≤ 9223372036854775807) (y0 : -9223372036854775808 ≤ y) (y1 : y ≤ 9223372036854775807) :
    Calls Tryz.prog 51 #[.agg #[.int .i64 x, .int .i64 y]] w fun e w' => ∃ V, e = .returned V ∧ SpotC w' V (x : Rat) (y : Rat) ∧ Grew w w' := by
  go_enter Tryz.func51, Tryz.ntmps51
  go_wp2_with fail
  refine gen_wp ?_
  intro W0 hW0
  have G0 : Grew w W0 := by rw [hW0]; exact ((Grew.refl w).alloc _).alloc _
  have P : Box2 W0 (w.heap.size) 0 (.int .i64 x) (.int .i64 y) := by rw [hW0]; exact ⟨by simp [go_sem], by simp [go_sem]⟩
  replace P := Lib.hid P
  have R : Res3 W0 (w.heap.size + 1) 0 (.bool false) (.slice none 0 0) (.slice none 0 0) := by rw [hW0]; exact ⟨by simp [go_sem], by simp [go_sem], by simp [go_sem], by simp [go_sem], by simp [go_sem], by simp [go_sem], by simp⟩
  replace R := Lib.hid R
  have R_ : Res3 W0 (w.heap.size + 1) 3 (.bool false) (.slice none 0 0) (.slice none 0 0) := by rw [hW0]; exact ⟨by simp [go_sem], by simp [go_sem], by simp [go_sem], by simp [go_sem], by simp [go_sem], by simp [go_sem], by simp⟩
  replace R_ := Lib.hid R_
  have z0 : w.heap.size < W0.heap.size := by rw [hW0]; simp <;> omega
  replace z0 := Lib.hid z0
  have z1 : w.heap.size + 1 < W0.heap.size := by rw [hW0]; simp <;> omega
  replace z1 := Lib.hid z1
  clear hW0
  replace G0 := Lib.hid G0
  have gd : Grew W0 W0.drew := (Grew.refl W0).drew
  replace R := Lib.hid (R.out.grew gd)
  replace R_ := Lib.hid (R_.out.grew gd)
  replace P := Lib.hid (P.out.grew gd)
  replace z0 := Lib.hid (lt_grew z0.out gd)
  replace z1 := Lib.hid (lt_grew z1.out gd)
  replace gd := Lib.hid gd
  have ZP := P
  go_region_held3 (fun w' => w'.cell? ⟨w.heap.size, 0, none⟩ = some (.int .i64 x) ∧ w'.cell? ⟨w.heap.size, 1, none⟩ = some (.int .i64 y))
    (first | (with_reducible exact ⟨ZP.out.p0, ZP.out.p1⟩) | (with_reducible exact ⟨g1.cell ZP.out.p0, g1.cell ZP.out.p1⟩) | (with_reducible exact ⟨(g1.trans g2).cell ZP.out.p0, (g1.trans g2).cell ZP.out.p1⟩) | (with_reducible exact ⟨other3 (o := 3) (by omega) (other3 (o := 0) (by omega) ((g1.trans g2).cell ZP.out.p0)), other3 (o := 3) (by omega) (other3 (o := 0) (by omega) ((g1.trans g2).cell ZP.out.p1))⟩))
    (first | (go_at_call 59; refine (fint_any x _ x0 x1).mono ?_; rintro e w1 ⟨V1, rfl, hV1, g1⟩; obtain ⟨b13, A13, n13, c13, C13, m13, d13, rfl, X1⟩ := hV1.laid; clear hV1; replace R := Lib.hid (R.out.grew g1); replace R_ := Lib.hid (R_.out.grew g1); replace P := Lib.hid (P.out.grew g1); replace z0 := Lib.hid (lt_grew z0.out g1); replace z1 := Lib.hid (lt_grew z1.out g1)) | (go_at_call 59; refine (fint_any y _ y0 y1).mono ?_; rintro e w2 ⟨V2, rfl, hV2, g2⟩; obtain ⟨b14, A14, n14, c14, C14, m14, d14, rfl, X2⟩ := hV2.laid; clear hV2; replace R := Lib.hid (R.out.grew g2); replace R_ := Lib.hid (R_.out.grew g2); replace P := Lib.hid (P.out.grew g2); replace z0 := Lib.hid (lt_grew z0.out g2); replace z1 := Lib.hid (lt_grew z1.out g2); replace X1 := Lib.hid (X1.out.kept g2.keeps); obtain ⟨R0, R1, R2, Rf0, Rf1, Rf2, Rs⟩ := R.out; obtain ⟨R_0, R_1, R_2, R_f0, R_f1, R_f2, R_s⟩ := R_.out))
  replace G0 := Lib.hid (((G0.out.trans gd.out).trans g1).trans g2)
  clear gd g1 g2 ZP
  refine gen_then ?_
  intro W9 hW9
  obtain ⟨q0, q1, q2, q3, q4, q5, qK, qG⟩ := store6 R0 R1 R2 R_0 R_1 R_2 hW9
  have GE := qG w (by omega) G0.out
  have QK := Lib.hid qK
  clear qK qG hW9 R0 R1 R2 R_0 R_1 R_2
  go_wp2_with fail
  exact bodyPost_ret (v := .agg #[.bool b13, .slice A13 n13 c13, .slice C13 m13 d13, .bool b14, .slice A14 n14 c14, .slice C14 m14 d14]) (by simp [results, Tryz.results51, go_sem, q0, q1, q2, q3, q4, q5]) rfl ⟨_, rfl, SpotC.mk (X1.out.kept QK.out) (X2.out.kept QK.out), GE⟩

end Go.Proofs.YtngbcbncllfblaaGreat
