/- cross.lie. Condition: points of the grid. frac.Make. Condition: what comes in reads. cross.part, point, ahead, sorted. Condition: points of the grid. Rows of structs that hold no ints: append, with the numbers kept. Conditions: none. -/
import Derived.Test.YtpglnfccmhkocaaJAtV
import Derived.Test.YtpglnfccmhkocaaJSpot3
import Derived.Test.YtpglnfccmhkocaaJAt2
import Derived.Test.YtpglnfccmhkocaaJR2a
import Derived.Test.YtpglnfccmhkocaaJRefDiv
namespace Go.Proofs.Ytpglnfccmhkocaa
open Go.RowKit

/-- The area of two vectors. -/
def crossZ (ux uy vx vy : Int) : Int := ux * vy - uy * vx
/-- How two ways lie: apart (0), once (1: n by d of the first one), along (2). -/
def lieZ (ax ay bx b_y cx cy dx dy : Int) : Int × Int × Int :=
  let d := crossZ (bx - ax) (b_y - ay) (dx - cx) (dy - cy)
  if d = 0 then
    (if crossZ (if bx - ax = 0 ∧ b_y - ay = 0 then dx - cx else bx - ax) (if bx - ax = 0 ∧ b_y - ay = 0 then dy - cy else b_y - ay) (cx - ax) (cy - ay) = 0 then (2, 0, 0) else (0, 0, 0))
  else
    (let n := crossZ (cx - ax) (cy - ay) (dx - cx) (dy - cy)
     if shareB n d = true ∧ shareB (crossZ (cx - ax) (cy - ay) (bx - ax) (b_y - ay)) d = true then (1, n, d) else (0, 0, 0))

def In24 (x : Int) : Prop := -16777214 ≤ x ∧ x ≤ 16777214
theorem prod24 {u v : Int} (hu : In24 u) (hv : In24 v) : -281474909601796 ≤ u * v ∧ u * v ≤ 281474909601796 := by
  have h : (u * v).natAbs ≤ 16777214 * 16777214 := by
    rw [Int.natAbs_mul]; exact Nat.mul_le_mul (by unfold In24 at hu; omega) (by unfold In24 at hv; omega)
  omega
theorem cross24 {a b c d : Int} (ha : In24 a) (hb : In24 b) (hc : In24 c) (hd : In24 d) : -562949819203592 ≤ crossZ a b c d ∧ crossZ a b c d ≤ 562949819203592 := by
  have h1 := prod24 ha hd
  have h2 := prod24 hb hc
  unfold crossZ; omega

set_option maxRecDepth 100000 in
set_option maxHeartbeats 2000000 in
theorem timesg_any (a b c d : Int) (w : World) (ha : In24 a) (hb : In24 b) (hc : In24 c) (hd : In24 d) :
    Calls Try.prog 82 #[ptV a b, ptV c d] w fun e w' => e = .returned (.int .i64 (crossZ a b c d)) ∧ Grew w w' := by
  have h1 := prod24 ha hd
  have h2 := prod24 hb hc
  exact times_any a b c d w (by omega) (by omega) (by omega)
theorem fromg_any (ax ay bx b_y : Int) (w : World) (h1 : In24 (bx - ax)) (h2 : In24 (b_y - ay)) :
    Calls Try.prog 81 #[ptV ax ay, ptV bx b_y] w fun e w' => e = .returned (ptV (bx - ax) (b_y - ay)) ∧ Grew w w' :=
  from_any ax ay bx b_y w (by unfold In24 at h1; omega) (by unfold In24 at h2; omega)

set_option maxRecDepth 100000 in
set_option maxHeartbeats 8000000 in
theorem lie_any (ax ay bx b_y cx cy dx dy : Int) (w : World) (ha : fitB ax ay = true) (hb : fitB bx b_y = true) (hc : fitB cx cy = true) (hd : fitB dx dy = true) :
    Calls Try.prog 45 #[segV ax ay bx b_y, segV cx cy dx dy] w fun e w' => e = .returned (.tuple #[.int .i64 (lieZ ax ay bx b_y cx cy dx dy).1, .int .i64 (lieZ ax ay bx b_y cx cy dx dy).2.1, .int .i64 (lieZ ax ay bx b_y cx cy dx dy).2.2]) ∧ Grew w w' := by
  have i1 := (fitB_iff _ _).1 ha
  have i2 := (fitB_iff _ _).1 hb
  have i3 := (fitB_iff _ _).1 hc
  have i4 := (fitB_iff _ _).1 hd
  have r1 : In24 (bx - ax) := by unfold In24; omega
  have r2 : In24 (b_y - ay) := by unfold In24; omega
  have r3 : In24 (dx - cx) := by unfold In24; omega
  have r4 : In24 (dy - cy) := by unfold In24; omega
  have r5 : In24 (cx - ax) := by unfold In24; omega
  have r6 : In24 (cy - ay) := by unfold In24; omega
  have eL : lieZ ax ay bx b_y cx cy dx dy = lieZ ax ay bx b_y cx cy dx dy := rfl
  obtain ⟨L, hL⟩ : ∃ L, lieZ ax ay bx b_y cx cy dx dy = L := ⟨_, rfl⟩
  rw [hL]
  unfold lieZ at hL
  simp only at hL
  clear ha hb hc hd i1 i2 i3 i4 eL
  replace r1 := Lib.hid r1
  replace r2 := Lib.hid r2
  replace r3 := Lib.hid r3
  replace r4 := Lib.hid r4
  replace r5 := Lib.hid r5
  replace r6 := Lib.hid r6
  replace hL := Lib.hid hL
  go_enter Try.func45, Try.ntmps45
  go_wp2_with fail
  refine gen_wp ?_
  intro W0 hW0
  have G0 : Grew w W0 := by rw [hW0]; exact ((Grew.refl w).alloc _).alloc _
  have P : Box2 W0 (w.heap.size) 0 (.int .i64 ax) (.int .i64 ay) := by rw [hW0]; exact ⟨by simp [go_sem], by simp [go_sem]⟩
  replace P := Lib.hid P
  have Pb : Box2 W0 (w.heap.size) 2 (.int .i64 bx) (.int .i64 b_y) := by rw [hW0]; exact ⟨by simp [go_sem], by simp [go_sem]⟩
  replace Pb := Lib.hid Pb
  have Q : Box2 W0 (w.heap.size + 1) 0 (.int .i64 cx) (.int .i64 cy) := by rw [hW0]; exact ⟨by simp [go_sem], by simp [go_sem]⟩
  replace Q := Lib.hid Q
  have Qb : Box2 W0 (w.heap.size + 1) 2 (.int .i64 dx) (.int .i64 dy) := by rw [hW0]; exact ⟨by simp [go_sem], by simp [go_sem]⟩
  replace Qb := Lib.hid Qb
  have z0 : w.heap.size < W0.heap.size := by rw [hW0]; simp <;> omega
  replace z0 := Lib.hid z0
  have z1 : w.heap.size + 1 < W0.heap.size := by rw [hW0]; simp <;> omega
  replace z1 := Lib.hid z1
  clear hW0
  replace G0 := Lib.hid G0
  go_upto_region 1 with fail
  go_cut [7, 8] (fun s7 s8 wx => ∃ e7 e8 : Nat, s7 = .pointer (some ⟨e7, 0, none⟩) ∧ AtV wx e7 (bx - ax, b_y - ay) ∧ W0.heap.size ≤ e7 ∧ s8 = .pointer (some ⟨e8, 0, none⟩) ∧ AtV wx e8 (dx - cx, dy - cy) ∧ W0.heap.size ≤ e8 ∧ Grew W0 wx)
  · have KS : ∀ X, Grew W0 X → (fun w' => w'.cell? ⟨w.heap.size, 0, none⟩ = some (.int .i64 ax) ∧ w'.cell? ⟨w.heap.size, 1, none⟩ = some (.int .i64 ay) ∧ w'.cell? ⟨w.heap.size, 2, none⟩ = some (.int .i64 bx) ∧ w'.cell? ⟨w.heap.size, 3, none⟩ = some (.int .i64 b_y) ∧ w'.cell? ⟨w.heap.size + 1, 0, none⟩ = some (.int .i64 cx) ∧ w'.cell? ⟨w.heap.size + 1, 1, none⟩ = some (.int .i64 cy) ∧ w'.cell? ⟨w.heap.size + 1, 2, none⟩ = some (.int .i64 dx) ∧ w'.cell? ⟨w.heap.size + 1, 3, none⟩ = some (.int .i64 dy)) X := fun X g => ⟨g.cell P.out.p0, g.cell P.out.p1, g.cell Pb.out.p0, g.cell Pb.out.p1, g.cell Q.out.p0, g.cell Q.out.p1, g.cell Qb.out.p0, g.cell Qb.out.p1⟩
    replace KS := Lib.hid KS
    go_region_held3 (fun w' => w'.cell? ⟨w.heap.size, 0, none⟩ = some (.int .i64 ax) ∧ w'.cell? ⟨w.heap.size, 1, none⟩ = some (.int .i64 ay) ∧ w'.cell? ⟨w.heap.size, 2, none⟩ = some (.int .i64 bx) ∧ w'.cell? ⟨w.heap.size, 3, none⟩ = some (.int .i64 b_y) ∧ w'.cell? ⟨w.heap.size + 1, 0, none⟩ = some (.int .i64 cx) ∧ w'.cell? ⟨w.heap.size + 1, 1, none⟩ = some (.int .i64 cy) ∧ w'.cell? ⟨w.heap.size + 1, 2, none⟩ = some (.int .i64 dx) ∧ w'.cell? ⟨w.heap.size + 1, 3, none⟩ = some (.int .i64 dy))
      (first | (refine KS.out _ ?_; (repeat (first | with_reducible exact Grew.refl _ | with_reducible refine Grew.setCell ?_ (by simp <;> omega) _ | with_reducible refine Grew.alloc ?_ _ | with_reducible refine Grew.drew ?_ | with_reducible apply Grew.trans ?_ g2 | with_reducible apply Grew.trans ?_ g1 )); done))
      (first | (have chk := g1; clear chk; go_at_call 81; refine (fromg_any cx cy dx dy _ r3.out r4.out).mono ?_; rintro e w2 ⟨rfl, g2⟩; have zn2 : w1.heap.size ≤ w2.heap.size := (by have t := g2.size; (try simp at t); omega); (try replace h0_0 : ResV w2 (W0.heap.size) := h0_0.grew (by (repeat (first | with_reducible exact Grew.refl _ | with_reducible refine Grew.setCell ?_ (by simp <;> omega) _ | with_reducible refine Grew.alloc ?_ _ | with_reducible refine Grew.drew ?_ | with_reducible apply Grew.trans ?_ g2 )))); (try replace h0_1 : ResV w2 (W0.heap.size + 1) := h0_1.grew (by (repeat (first | with_reducible exact Grew.refl _ | with_reducible refine Grew.setCell ?_ (by simp <;> omega) _ | with_reducible refine Grew.alloc ?_ _ | with_reducible refine Grew.drew ?_ | with_reducible apply Grew.trans ?_ g2 )))); (first | (with_reducible have tt := resV_new2 g2; have h1_0 := tt.1; have h1_1 := tt.2; clear tt) | (with_reducible have tt := resV_new2D g2; have h1_0 := tt.1; have h1_1 := tt.2; clear tt) | (with_reducible have h1_0 := resV_new g2) | (with_reducible have h1_0 := resV_newD g2) | skip); (try (have uu := ResV.lt h0_0; have ne0_2a : ¬ (w2.heap.size = W0.heap.size) := (by omega); have ne0_2b : ¬ (W0.heap.size = w2.heap.size) := (by omega); clear uu)); (try (have uu := ResV.lt h1_0; have ne1_2a : ¬ (w2.heap.size = w1.heap.size) := (by omega); have ne1_2b : ¬ (w1.heap.size = w2.heap.size) := (by omega); clear uu)); (try (have tt := h0_0; obtain ⟨h0_00, h0_01, h0_0f0, h0_0f1, h0_0s⟩ := tt)); (try (have tt := h0_1; obtain ⟨h0_10, h0_11, h0_1f0, h0_1f1, h0_1s⟩ := tt)); (try (have tt := h1_0; obtain ⟨h1_00, h1_01, h1_0f0, h1_0f1, h1_0s⟩ := tt)); (try (have tt := h1_1; obtain ⟨h1_10, h1_11, h1_1f0, h1_1f1, h1_1s⟩ := tt))) | (go_at_call 81; refine (fromg_any ax ay bx b_y _ r1.out r2.out).mono ?_; rintro e w1 ⟨rfl, g1⟩; have zn1 : W0.heap.size ≤ w1.heap.size := (by have t := g1.size; (try simp at t); omega); (first | (with_reducible have tt := resV_new2 g1; have h0_0 := tt.1; have h0_1 := tt.2; clear tt) | (with_reducible have tt := resV_new2D g1; have h0_0 := tt.1; have h0_1 := tt.2; clear tt) | (with_reducible have h0_0 := resV_new g1) | (with_reducible have h0_0 := resV_newD g1) | skip); (try (have uu := ResV.lt h0_0; have ne0_1a : ¬ (w1.heap.size = W0.heap.size) := (by omega); have ne0_1b : ¬ (W0.heap.size = w1.heap.size) := (by omega); clear uu))))
    all_goals
      go_wp2_with fail
      go_meet
      refine ⟨_, _, rfl, ?_, ?_, rfl, ?_, ?_, ?_⟩
      · repeat (first | with_reducible exact h0_0  | with_reducible exact h0_1  | with_reducible exact h1_0  | with_reducible exact h1_1 | with_reducible refine AtV.of_store ?_ | with_reducible refine AtV.of_alloc (by simp) | with_reducible refine AtV.store_far ?_ ?_ (by omega) | with_reducible refine AtV.grew ?_ ((Grew.refl _).alloc _) | with_reducible refine ResV.store_far ?_ ?_ (by omega))
      · omega
      · repeat (first | with_reducible exact h0_0  | with_reducible exact h0_1  | with_reducible exact h1_0  | with_reducible exact h1_1 | with_reducible refine AtV.of_store ?_ | with_reducible refine AtV.of_alloc (by simp) | with_reducible refine AtV.store_far ?_ ?_ (by omega) | with_reducible refine AtV.grew ?_ ((Grew.refl _).alloc _) | with_reducible refine ResV.store_far ?_ ?_ (by omega))
      · omega
      · (repeat (first | with_reducible exact Grew.refl _ | with_reducible refine Grew.setCell ?_ (by simp <;> omega) _ | with_reducible refine Grew.alloc ?_ _ | with_reducible refine Grew.drew ?_ | with_reducible apply Grew.trans ?_ g2 | with_reducible apply Grew.trans ?_ g1 ))
  obtain ⟨e7, e8, rfl, V, E7, rfl, W, E8, GA⟩ := hcut
  replace P := Lib.hid (P.out.grew GA)
  replace Pb := Lib.hid (Pb.out.grew GA)
  replace Q := Lib.hid (Q.out.grew GA)
  replace Qb := Lib.hid (Qb.out.grew GA)
  replace z0 := Lib.hid (lt_grew z0.out GA)
  replace z1 := Lib.hid (lt_grew z1.out GA)
  replace G0 := Lib.hid (G0.out.trans GA)
  obtain ⟨V, Z7⟩ := V
  replace V := Lib.hid V
  replace Z7 := Lib.hid Z7
  clear E7
  obtain ⟨W, Z8⟩ := W
  replace W := Lib.hid W
  replace Z8 := Lib.hid Z8
  clear E8
  clear GA
  obtain ⟨d, hd⟩ : ∃ d, crossZ (bx - ax) (b_y - ay) (dx - cx) (dy - cy) = d := ⟨_, rfl⟩
  have db := cross24 r1.out r2.out r3.out r4.out
  rw [hd] at db
  rw [hd] at hL
  replace hd := Lib.hid hd
  obtain ⟨V0, V1⟩ := V.out
  obtain ⟨W0, W1⟩ := W.out
  go_wp2_with fail
  clear V0 V1 W0 W1
  refine (timesg_any (bx - ax) (b_y - ay) (dx - cx) (dy - cy) _ r1.out r2.out r3.out r4.out).mono ?_
  rintro e w3 ⟨rfl, g3⟩
  replace P := Lib.hid (P.out.grew g3)
  replace Pb := Lib.hid (Pb.out.grew g3)
  replace Q := Lib.hid (Q.out.grew g3)
  replace Qb := Lib.hid (Qb.out.grew g3)
  replace V := Lib.hid (V.out.grew g3)
  replace W := Lib.hid (W.out.grew g3)
  replace z0 := Lib.hid (lt_grew z0.out g3)
  replace z1 := Lib.hid (lt_grew z1.out g3)
  replace Z7 := Lib.hid (lt_grew Z7.out g3)
  replace Z8 := Lib.hid (lt_grew Z8.out g3)
  replace G0 := Lib.hid (G0.out.trans g3)
  clear g3
  rw [hd.out]
  obtain ⟨P0, P1⟩ := P.out
  obtain ⟨Pb0, Pb1⟩ := Pb.out
  obtain ⟨Q0, Q1⟩ := Q.out
  obtain ⟨Qb0, Qb1⟩ := Qb.out
  go_wp2_with fail
  clear P0 P1 Pb0 Pb1 Q0 Q1 Qb0 Qb1
  refine (fromg_any ax ay cx cy _ r5.out r6.out).mono ?_
  rintro e w4 ⟨rfl, g4⟩
  replace P := Lib.hid (P.out.grew g4)
  replace Pb := Lib.hid (Pb.out.grew g4)
  replace Q := Lib.hid (Q.out.grew g4)
  replace Qb := Lib.hid (Qb.out.grew g4)
  replace V := Lib.hid (V.out.grew g4)
  replace W := Lib.hid (W.out.grew g4)
  replace z0 := Lib.hid (lt_grew z0.out g4)
  replace z1 := Lib.hid (lt_grew z1.out g4)
  replace Z7 := Lib.hid (lt_grew Z7.out g4)
  replace Z8 := Lib.hid (lt_grew Z8.out g4)
  replace G0 := Lib.hid (G0.out.trans g4)
  clear g4
  go_upto_region 4 with fail
  refine gen_wp ?_
  intro W1 hW1
  have gl : Grew w4 W1 := by rw [hW1]; exact (Grew.refl _).alloc _
  replace P := Lib.hid (P.out.grew gl)
  replace Pb := Lib.hid (Pb.out.grew gl)
  replace Q := Lib.hid (Q.out.grew gl)
  replace Qb := Lib.hid (Qb.out.grew gl)
  replace V := Lib.hid (V.out.grew gl)
  replace W := Lib.hid (W.out.grew gl)
  replace z0 := Lib.hid (lt_grew z0.out gl)
  replace z1 := Lib.hid (lt_grew z1.out gl)
  replace Z7 := Lib.hid (lt_grew Z7.out gl)
  replace Z8 := Lib.hid (lt_grew Z8.out gl)
  have O : Box2 W1 (w4.heap.size) 0 (.int .i64 (cx - ax)) (.int .i64 (cy - ay)) := by rw [hW1]; exact ⟨by simp [go_sem], by simp [go_sem]⟩
  replace O := Lib.hid O
  have z4 : w4.heap.size < W1.heap.size := by rw [hW1]; simp <;> omega
  replace z4 := Lib.hid z4
  clear hW1
  replace G0 := Lib.hid (G0.out.trans gl)
  clear gl

  by_cases h0 : d = 0
  · subst h0
    have hL1 := hL.out
    rw [if_pos rfl] at hL1
    by_cases hv1 : bx - ax = 0
    · by_cases hv2 : b_y - ay = 0
      · have hL2 := hL1
        rw [if_pos (c := bx - ax = 0 ∧ b_y - ay = 0) ⟨hv1, hv2⟩, if_pos (c := bx - ax = 0 ∧ b_y - ay = 0) ⟨hv1, hv2⟩] at hL2
        clear hL1 hL
        obtain ⟨V0, V1⟩ := V.out
        obtain ⟨W0, W1⟩ := W.out
        obtain ⟨O0, O1⟩ := O.out
        have oz0 := z0.out
        have oz1 := z1.out
        have oZ7 := Z7.out
        have oZ8 := Z8.out
        have oz4 := z4.out
        go_wp2_with fail
        clear V0 V1 W0 W1 O0 O1 oz0 oz1 oZ7 oZ8 oz4
        refine gen_calls ?_
        intro W2 hW2
        have gl : Grew W1 W2 := by rw [hW2]; exact (Grew.refl _).alloc _
        replace P := Lib.hid (P.out.grew gl)
        replace Pb := Lib.hid (Pb.out.grew gl)
        replace Q := Lib.hid (Q.out.grew gl)
        replace Qb := Lib.hid (Qb.out.grew gl)
        replace V := Lib.hid (V.out.grew gl)
        replace W := Lib.hid (W.out.grew gl)
        replace O := Lib.hid (O.out.grew gl)
        replace z0 := Lib.hid (lt_grew z0.out gl)
        replace z1 := Lib.hid (lt_grew z1.out gl)
        replace Z7 := Lib.hid (lt_grew Z7.out gl)
        replace Z8 := Lib.hid (lt_grew Z8.out gl)
        replace z4 := Lib.hid (lt_grew z4.out gl)
        have K : Box2 W2 (W1.heap.size) 0 (.int .i64 (dx - cx)) (.int .i64 (dy - cy)) := by rw [hW2]; exact ⟨by simp [go_sem], by simp [go_sem]⟩
        replace K := Lib.hid K
        have z5 : W1.heap.size < W2.heap.size := by rw [hW2]; simp <;> omega
        replace z5 := Lib.hid z5
        clear hW2
        replace G0 := Lib.hid (G0.out.trans gl)
        clear gl
        obtain ⟨x, hx⟩ : ∃ x, crossZ (dx - cx) (dy - cy) (cx - ax) (cy - ay) = x := ⟨_, rfl⟩
        rw [hx] at hL2
        replace hx := Lib.hid hx
        replace hL2 := Lib.hid hL2
        refine (timesg_any (dx - cx) (dy - cy) (cx - ax) (cy - ay) _ r3.out r4.out r5.out r6.out).mono ?_
        rintro e w5 ⟨rfl, g5⟩
        replace P := Lib.hid (P.out.grew g5)
        replace Pb := Lib.hid (Pb.out.grew g5)
        replace Q := Lib.hid (Q.out.grew g5)
        replace Qb := Lib.hid (Qb.out.grew g5)
        replace V := Lib.hid (V.out.grew g5)
        replace W := Lib.hid (W.out.grew g5)
        replace O := Lib.hid (O.out.grew g5)
        replace K := Lib.hid (K.out.grew g5)
        replace z0 := Lib.hid (lt_grew z0.out g5)
        replace z1 := Lib.hid (lt_grew z1.out g5)
        replace Z7 := Lib.hid (lt_grew Z7.out g5)
        replace Z8 := Lib.hid (lt_grew Z8.out g5)
        replace z4 := Lib.hid (lt_grew z4.out g5)
        replace z5 := Lib.hid (lt_grew z5.out g5)
        replace G0 := Lib.hid (G0.out.trans g5)
        clear g5
        rw [hx.out]
        by_cases hx0 : x = 0
        · have e := Lib.hid (hL2.out.symm.trans (if_pos hx0))
          subst hx0
          go_wp2_with fail
          go_ret3
          exact ⟨by rw [e.out]; rfl, G0.out⟩
        · have e := Lib.hid (hL2.out.symm.trans (if_neg hx0))
          have hxb : (x == 0) = false := by simpa using hx0
          go_wp2_with fail
          go_ret3
          exact ⟨by rw [e.out]; rfl, G0.out⟩
      · have hL2 := hL1
        rw [if_neg (c := bx - ax = 0 ∧ b_y - ay = 0) (fun h => hv2 h.2), if_neg (c := bx - ax = 0 ∧ b_y - ay = 0) (fun h => hv2 h.2)] at hL2
        clear hL1 hL hv1

        obtain ⟨V0, V1⟩ := V.out
        obtain ⟨W0, W1⟩ := W.out
        obtain ⟨O0, O1⟩ := O.out
        have oz0 := z0.out
        have oz1 := z1.out
        have oZ7 := Z7.out
        have oZ8 := Z8.out
        have oz4 := z4.out
        go_wp2_with fail
        clear V0 V1 W0 W1 O0 O1 oz0 oz1 oZ7 oZ8 oz4
        refine gen_calls ?_
        intro W2 hW2
        have gl : Grew W1 W2 := by rw [hW2]; exact (Grew.refl _).alloc _
        replace P := Lib.hid (P.out.grew gl)
        replace Pb := Lib.hid (Pb.out.grew gl)
        replace Q := Lib.hid (Q.out.grew gl)
        replace Qb := Lib.hid (Qb.out.grew gl)
        replace V := Lib.hid (V.out.grew gl)
        replace W := Lib.hid (W.out.grew gl)
        replace O := Lib.hid (O.out.grew gl)
        replace z0 := Lib.hid (lt_grew z0.out gl)
        replace z1 := Lib.hid (lt_grew z1.out gl)
        replace Z7 := Lib.hid (lt_grew Z7.out gl)
        replace Z8 := Lib.hid (lt_grew Z8.out gl)
        replace z4 := Lib.hid (lt_grew z4.out gl)
        have K : Box2 W2 (W1.heap.size) 0 (.int .i64 (bx - ax)) (.int .i64 (b_y - ay)) := by rw [hW2]; exact ⟨by simp [go_sem], by simp [go_sem]⟩
        replace K := Lib.hid K
        have z5 : W1.heap.size < W2.heap.size := by rw [hW2]; simp <;> omega
        replace z5 := Lib.hid z5
        clear hW2
        replace G0 := Lib.hid (G0.out.trans gl)
        clear gl
        obtain ⟨x, hx⟩ : ∃ x, crossZ (bx - ax) (b_y - ay) (cx - ax) (cy - ay) = x := ⟨_, rfl⟩
        rw [hx] at hL2
        replace hx := Lib.hid hx
        replace hL2 := Lib.hid hL2
        refine (timesg_any (bx - ax) (b_y - ay) (cx - ax) (cy - ay) _ r1.out r2.out r5.out r6.out).mono ?_
        rintro e w5 ⟨rfl, g5⟩
        replace P := Lib.hid (P.out.grew g5)
        replace Pb := Lib.hid (Pb.out.grew g5)
        replace Q := Lib.hid (Q.out.grew g5)
        replace Qb := Lib.hid (Qb.out.grew g5)
        replace V := Lib.hid (V.out.grew g5)
        replace W := Lib.hid (W.out.grew g5)
        replace O := Lib.hid (O.out.grew g5)
        replace K := Lib.hid (K.out.grew g5)
        replace z0 := Lib.hid (lt_grew z0.out g5)
        replace z1 := Lib.hid (lt_grew z1.out g5)
        replace Z7 := Lib.hid (lt_grew Z7.out g5)
        replace Z8 := Lib.hid (lt_grew Z8.out g5)
        replace z4 := Lib.hid (lt_grew z4.out g5)
        replace z5 := Lib.hid (lt_grew z5.out g5)
        replace G0 := Lib.hid (G0.out.trans g5)
        clear g5
        rw [hx.out]
        by_cases hx0 : x = 0
        · have e := Lib.hid (hL2.out.symm.trans (if_pos hx0))
          subst hx0
          go_wp2_with fail
          go_ret3
          exact ⟨by rw [e.out]; rfl, G0.out⟩
        · have e := Lib.hid (hL2.out.symm.trans (if_neg hx0))
          have hxb : (x == 0) = false := by simpa using hx0
          go_wp2_with fail
          go_ret3
          exact ⟨by rw [e.out]; rfl, G0.out⟩
    · have hL2 := hL1
      rw [if_neg (c := bx - ax = 0 ∧ b_y - ay = 0) (fun h => hv1 h.1), if_neg (c := bx - ax = 0 ∧ b_y - ay = 0) (fun h => hv1 h.1)] at hL2
      clear hL1 hL

      obtain ⟨V0, V1⟩ := V.out
      obtain ⟨W0, W1⟩ := W.out
      obtain ⟨O0, O1⟩ := O.out
      have oz0 := z0.out
      have oz1 := z1.out
      have oZ7 := Z7.out
      have oZ8 := Z8.out
      have oz4 := z4.out
      go_wp2_with fail
      clear V0 V1 W0 W1 O0 O1 oz0 oz1 oZ7 oZ8 oz4
      refine gen_calls ?_
      intro W2 hW2
      have gl : Grew W1 W2 := by rw [hW2]; exact (Grew.refl _).alloc _
      replace P := Lib.hid (P.out.grew gl)
      replace Pb := Lib.hid (Pb.out.grew gl)
      replace Q := Lib.hid (Q.out.grew gl)
      replace Qb := Lib.hid (Qb.out.grew gl)
      replace V := Lib.hid (V.out.grew gl)
      replace W := Lib.hid (W.out.grew gl)
      replace O := Lib.hid (O.out.grew gl)
      replace z0 := Lib.hid (lt_grew z0.out gl)
      replace z1 := Lib.hid (lt_grew z1.out gl)
      replace Z7 := Lib.hid (lt_grew Z7.out gl)
      replace Z8 := Lib.hid (lt_grew Z8.out gl)
      replace z4 := Lib.hid (lt_grew z4.out gl)
      have K : Box2 W2 (W1.heap.size) 0 (.int .i64 (bx - ax)) (.int .i64 (b_y - ay)) := by rw [hW2]; exact ⟨by simp [go_sem], by simp [go_sem]⟩
      replace K := Lib.hid K
      have z5 : W1.heap.size < W2.heap.size := by rw [hW2]; simp <;> omega
      replace z5 := Lib.hid z5
      clear hW2
      replace G0 := Lib.hid (G0.out.trans gl)
      clear gl
      obtain ⟨x, hx⟩ : ∃ x, crossZ (bx - ax) (b_y - ay) (cx - ax) (cy - ay) = x := ⟨_, rfl⟩
      rw [hx] at hL2
      replace hx := Lib.hid hx
      replace hL2 := Lib.hid hL2
      refine (timesg_any (bx - ax) (b_y - ay) (cx - ax) (cy - ay) _ r1.out r2.out r5.out r6.out).mono ?_
      rintro e w5 ⟨rfl, g5⟩
      replace P := Lib.hid (P.out.grew g5)
      replace Pb := Lib.hid (Pb.out.grew g5)
      replace Q := Lib.hid (Q.out.grew g5)
      replace Qb := Lib.hid (Qb.out.grew g5)
      replace V := Lib.hid (V.out.grew g5)
      replace W := Lib.hid (W.out.grew g5)
      replace O := Lib.hid (O.out.grew g5)
      replace K := Lib.hid (K.out.grew g5)
      replace z0 := Lib.hid (lt_grew z0.out g5)
      replace z1 := Lib.hid (lt_grew z1.out g5)
      replace Z7 := Lib.hid (lt_grew Z7.out g5)
      replace Z8 := Lib.hid (lt_grew Z8.out g5)
      replace z4 := Lib.hid (lt_grew z4.out g5)
      replace z5 := Lib.hid (lt_grew z5.out g5)
      replace G0 := Lib.hid (G0.out.trans g5)
      clear g5
      rw [hx.out]
      by_cases hx0 : x = 0
      · have e := Lib.hid (hL2.out.symm.trans (if_pos hx0))
        subst hx0
        go_wp2_with fail
        go_ret3
        exact ⟨by rw [e.out]; rfl, G0.out⟩
      · have e := Lib.hid (hL2.out.symm.trans (if_neg hx0))
        have hxb : (x == 0) = false := by simpa using hx0
        go_wp2_with fail
        go_ret3
        exact ⟨by rw [e.out]; rfl, G0.out⟩
  · have hL1 := hL.out
    rw [if_neg h0] at hL1
    have hdb : (d == 0) = false := by simpa using h0
    obtain ⟨n, hn⟩ : ∃ n, crossZ (cx - ax) (cy - ay) (dx - cx) (dy - cy) = n := ⟨_, rfl⟩
    obtain ⟨m, hm⟩ : ∃ m, crossZ (cx - ax) (cy - ay) (bx - ax) (b_y - ay) = m := ⟨_, rfl⟩
    have nb := cross24 r5.out r6.out r3.out r4.out
    have mb := cross24 r5.out r6.out r1.out r2.out
    rw [hn] at nb hL1
    rw [hm] at mb hL1
    obtain ⟨sn, hsn⟩ : ∃ sn, shareB n d = sn := ⟨_, rfl⟩
    obtain ⟨sm, hsm⟩ : ∃ sm, shareB m d = sm := ⟨_, rfl⟩
    rw [hsn, hsm] at hL1
    replace hn := Lib.hid hn
    replace hm := Lib.hid hm
    replace hsn := Lib.hid hsn
    replace hsm := Lib.hid hsm
    replace hL1 := Lib.hid hL1
    clear hL

    obtain ⟨W0, W1⟩ := W.out
    obtain ⟨O0, O1⟩ := O.out
    go_wp2_with fail
    clear W0 W1 O0 O1
    refine (timesg_any (cx - ax) (cy - ay) (dx - cx) (dy - cy) _ r5.out r6.out r3.out r4.out).mono ?_
    rintro e w5 ⟨rfl, g5⟩
    replace P := Lib.hid (P.out.grew g5)
    replace Pb := Lib.hid (Pb.out.grew g5)
    replace Q := Lib.hid (Q.out.grew g5)
    replace Qb := Lib.hid (Qb.out.grew g5)
    replace V := Lib.hid (V.out.grew g5)
    replace W := Lib.hid (W.out.grew g5)
    replace O := Lib.hid (O.out.grew g5)
    replace z0 := Lib.hid (lt_grew z0.out g5)
    replace z1 := Lib.hid (lt_grew z1.out g5)
    replace Z7 := Lib.hid (lt_grew Z7.out g5)
    replace Z8 := Lib.hid (lt_grew Z8.out g5)
    replace z4 := Lib.hid (lt_grew z4.out g5)
    replace G0 := Lib.hid (G0.out.trans g5)
    clear g5
    rw [hn.out]
    obtain ⟨V0, V1⟩ := V.out
    obtain ⟨O0, O1⟩ := O.out
    go_wp2_with fail
    clear V0 V1 O0 O1
    refine (share_any n d _ (by omega) (by omega)).mono ?_
    rintro e w6 ⟨rfl, g6⟩
    replace P := Lib.hid (P.out.grew g6)
    replace Pb := Lib.hid (Pb.out.grew g6)
    replace Q := Lib.hid (Q.out.grew g6)
    replace Qb := Lib.hid (Qb.out.grew g6)
    replace V := Lib.hid (V.out.grew g6)
    replace W := Lib.hid (W.out.grew g6)
    replace O := Lib.hid (O.out.grew g6)
    replace z0 := Lib.hid (lt_grew z0.out g6)
    replace z1 := Lib.hid (lt_grew z1.out g6)
    replace Z7 := Lib.hid (lt_grew Z7.out g6)
    replace Z8 := Lib.hid (lt_grew Z8.out g6)
    replace z4 := Lib.hid (lt_grew z4.out g6)
    replace G0 := Lib.hid (G0.out.trans g6)
    clear g6
    rw [hsn.out]

    cases sn
    ·
      have e := Lib.hid (hL1.out.symm.trans (if_neg (by simp)))
      go_wp2_with fail
      go_ret3
      exact ⟨by rw [e.out]; rfl, G0.out⟩
    ·

      obtain ⟨V0, V1⟩ := V.out
      obtain ⟨O0, O1⟩ := O.out
      go_wp2_with fail
      clear V0 V1 O0 O1
      refine (timesg_any (cx - ax) (cy - ay) (bx - ax) (b_y - ay) _ r5.out r6.out r1.out r2.out).mono ?_
      rintro e w7 ⟨rfl, g7⟩
      replace P := Lib.hid (P.out.grew g7)
      replace Pb := Lib.hid (Pb.out.grew g7)
      replace Q := Lib.hid (Q.out.grew g7)
      replace Qb := Lib.hid (Qb.out.grew g7)
      replace V := Lib.hid (V.out.grew g7)
      replace W := Lib.hid (W.out.grew g7)
      replace O := Lib.hid (O.out.grew g7)
      replace z0 := Lib.hid (lt_grew z0.out g7)
      replace z1 := Lib.hid (lt_grew z1.out g7)
      replace Z7 := Lib.hid (lt_grew Z7.out g7)
      replace Z8 := Lib.hid (lt_grew Z8.out g7)
      replace z4 := Lib.hid (lt_grew z4.out g7)
      replace G0 := Lib.hid (G0.out.trans g7)
      clear g7
      rw [hm.out]
      obtain ⟨V0, V1⟩ := V.out
      obtain ⟨O0, O1⟩ := O.out
      go_wp2_with fail
      clear V0 V1 O0 O1
      refine (share_any m d _ (by omega) (by omega)).mono ?_
      rintro e w8 ⟨rfl, g8⟩
      replace P := Lib.hid (P.out.grew g8)
      replace Pb := Lib.hid (Pb.out.grew g8)
      replace Q := Lib.hid (Q.out.grew g8)
      replace Qb := Lib.hid (Qb.out.grew g8)
      replace V := Lib.hid (V.out.grew g8)
      replace W := Lib.hid (W.out.grew g8)
      replace O := Lib.hid (O.out.grew g8)
      replace z0 := Lib.hid (lt_grew z0.out g8)
      replace z1 := Lib.hid (lt_grew z1.out g8)
      replace Z7 := Lib.hid (lt_grew Z7.out g8)
      replace Z8 := Lib.hid (lt_grew Z8.out g8)
      replace z4 := Lib.hid (lt_grew z4.out g8)
      replace G0 := Lib.hid (G0.out.trans g8)
      clear g8
      rw [hsm.out]
      cases sm
      ·
        have e := Lib.hid (hL1.out.symm.trans (if_neg (by simp)))
        go_wp2_with fail
        go_ret3
        exact ⟨by rw [e.out]; rfl, G0.out⟩
      ·
        have e := Lib.hid (hL1.out.symm.trans (if_pos (by simp)))
        go_wp2_with fail
        go_ret3
        exact ⟨by rw [e.out]; rfl, G0.out⟩
end Go.Proofs.Ytpglnfccmhkocaa
namespace Go.Proofs.Ytpglnfccmhkocaa
open Go.RowKit

set_option maxRecDepth 100000 in
set_option maxHeartbeats 4000000 in
theorem fmake_any (b1 b2 : Bool) (A1 A2 : Option Addr) (N M n1 c1 n2 c2 k : Nat) (w : World) (ha : Num 4294967296 .u32 w (.slice A1 n1 c1) N n1) (hb : Num 4294967296 .u32 w (.slice A2 n2 c2) M n2) (hM : M ≠ 0)
    (h1 : len 4294967296 N ≤ k) (h2 : len 4294967296 M ≤ k) (hs : k < 536870912) :
    Calls Try.prog 74 #[.agg #[.bool b1, .slice A1 n1 c1], .agg #[.bool b2, .slice A2 n2 c2]] w fun e w' => ∃ V, e = .returned (.tuple #[V, .int .i64 0]) ∧ FracC w' V (mkRat (sgn (b1 != b2) N) M) ∧ Grew w w' := by
  have Fa := Lib.hid ha
  have Fb := Lib.hid hb
  have s1 := Lib.hid (show len 4294967296 N < 1099511627776 ∧ len 4294967296 M < 1099511627776 by omega)
  have s2 := Lib.hid (show k < 549755813888 by omega)
  have h1' := Lib.hid (show len 4294967296 (sgn (b1 != b2) N).natAbs ≤ k by rw [sgn_abs]; exact h1)
  have h2' := Lib.hid h2
  have hsg : ∃ t : Int, sg (sgn b2 M) = t ∧ t ≠ 0 := ⟨_, rfl, by cases b2 <;> simp [sgn, sg] <;> split <;> omega⟩
  obtain ⟨t, ht, ht0⟩ := hsg
  have ht1 : (t == 0) = false := by simpa using ht0
  replace ht := Lib.hid ht
  clear ha hb h1 h2 hs
  go_enter Try.func74, Try.ntmps74
  go_wp2_with fail
  refine gen_calls ?_
  intro W0 hW0
  have G0 : Grew w W0 := by rw [hW0]; exact (((Grew.refl w).alloc _).alloc _).alloc _
  have P : Box2 W0 (w.heap.size) 0 (.bool b1) (.slice A1 n1 c1) := by rw [hW0]; exact ⟨by simp [go_sem], by simp [go_sem]⟩
  replace P := Lib.hid P
  have Q : Box2 W0 (w.heap.size + 1) 0 (.bool b2) (.slice A2 n2 c2) := by rw [hW0]; exact ⟨by simp [go_sem], by simp [go_sem]⟩
  replace Q := Lib.hid Q
  have R : Res3 W0 (w.heap.size + 1 + 1) 0 (.bool false) (.slice none 0 0) (.slice none 0 0) := by rw [hW0]; exact ⟨by simp [go_sem], by simp [go_sem], by simp [go_sem], by simp [go_sem], by simp [go_sem], by simp [go_sem], by simp⟩
  replace R := Lib.hid R
  have z0 : w.heap.size < W0.heap.size := by rw [hW0]; simp <;> omega
  replace z0 := Lib.hid z0
  have z1 : w.heap.size + 1 < W0.heap.size := by rw [hW0]; simp <;> omega
  replace z1 := Lib.hid z1
  have z2 : w.heap.size + 1 + 1 < W0.heap.size := by rw [hW0]; simp <;> omega
  replace z2 := Lib.hid z2
  clear hW0
  replace Fa := Lib.hid (Fa.out.kept G0.keeps)
  replace Fb := Lib.hid (Fb.out.kept G0.keeps)
  replace G0 := Lib.hid G0
  refine (sign_any b2 _ M _ _ Fb.out s1.out.2).mono ?_
  rintro e w1 ⟨rfl, g1⟩
  replace R := Lib.hid (R.out.grew g1)
  replace P := Lib.hid (P.out.grew g1)
  replace Q := Lib.hid (Q.out.grew g1)
  replace z0 := Lib.hid (lt_grew z0.out g1)
  replace z1 := Lib.hid (lt_grew z1.out g1)
  replace z2 := Lib.hid (lt_grew z2.out g1)
  replace Fa := Lib.hid (Fa.out.kept g1.keeps)
  replace Fb := Lib.hid (Fb.out.kept g1.keeps)
  replace G0 := Lib.hid (G0.out.trans g1)
  clear g1
  rw [ht.out]
  go_wp2_with fail
  have gd : Grew w1 w1.drew := (Grew.refl w1).drew
  replace R := Lib.hid (R.out.grew gd)
  replace P := Lib.hid (P.out.grew gd)
  replace Q := Lib.hid (Q.out.grew gd)
  replace z0 := Lib.hid (lt_grew z0.out gd)
  replace z1 := Lib.hid (lt_grew z1.out gd)
  replace z2 := Lib.hid (lt_grew z2.out gd)
  replace Fa := Lib.hid (Fa.out.kept gd.keeps)
  replace Fb := Lib.hid (Fb.out.kept gd.keeps)
  replace gd := Lib.hid gd
  have ZP := P
  have ZQ := Q
  go_region_held3 (fun w' => w'.cell? ⟨w.heap.size, 0, none⟩ = some (.bool b1) ∧ w'.cell? ⟨w.heap.size, 1, none⟩ = some (.slice A1 n1 c1) ∧ w'.cell? ⟨w.heap.size + 1, 0, none⟩ = some (.bool b2) ∧ w'.cell? ⟨w.heap.size + 1, 1, none⟩ = some (.slice A2 n2 c2))
    (first | (with_reducible exact ⟨ZP.out.p0, ZP.out.p1, ZQ.out.p0, ZQ.out.p1⟩) | (with_reducible exact ⟨g2.cell ZP.out.p0, g2.cell ZP.out.p1, g2.cell ZQ.out.p0, g2.cell ZQ.out.p1⟩) | (with_reducible exact ⟨(g2.trans g3).cell ZP.out.p0, (g2.trans g3).cell ZP.out.p1, (g2.trans g3).cell ZQ.out.p0, (g2.trans g3).cell ZQ.out.p1⟩) | (with_reducible exact ⟨((g2.trans g3).trans g4).cell ZP.out.p0, ((g2.trans g3).trans g4).cell ZP.out.p1, ((g2.trans g3).trans g4).cell ZQ.out.p0, ((g2.trans g3).trans g4).cell ZQ.out.p1⟩) | (with_reducible exact ⟨other3 (o := 0) (by omega) (((g2.trans g3).trans g4).cell ZP.out.p0), other3 (o := 0) (by omega) (((g2.trans g3).trans g4).cell ZP.out.p1), other3 (o := 0) (by omega) (((g2.trans g3).trans g4).cell ZQ.out.p0), other3 (o := 0) (by omega) (((g2.trans g3).trans g4).cell ZQ.out.p1)⟩))
    (first | (go_at_call 70; refine (make_any _ _ N _ _ Fa.out s1.out.1).mono ?_; rintro e w2 ⟨V2, rfl, hV2, g2⟩; obtain ⟨b4, A4, n4, c4, rfl, X2, -⟩ := hV2.laid; clear hV2; replace R := Lib.hid (R.out.grew g2); replace P := Lib.hid (P.out.grew g2); replace Q := Lib.hid (Q.out.grew g2); replace z0 := Lib.hid (lt_grew z0.out g2); replace z1 := Lib.hid (lt_grew z1.out g2); replace z2 := Lib.hid (lt_grew z2.out g2); replace Fa := Lib.hid (Fa.out.kept g2.keeps); replace Fb := Lib.hid (Fb.out.kept g2.keeps)) | (go_at_call 69; refine (trim_any _ M _ _ Fb.out s1.out.2).mono ?_; rintro e w3 ⟨v3, rfl, h3, g3⟩; obtain ⟨A5, c5, rfl, X3⟩ := h3.slice; clear h3; replace R := Lib.hid (R.out.grew g3); replace P := Lib.hid (P.out.grew g3); replace Q := Lib.hid (Q.out.grew g3); replace z0 := Lib.hid (lt_grew z0.out g3); replace z1 := Lib.hid (lt_grew z1.out g3); replace z2 := Lib.hid (lt_grew z2.out g3); replace Fa := Lib.hid (Fa.out.kept g3.keeps); replace Fb := Lib.hid (Fb.out.kept g3.keeps); replace X2 := Lib.hid (X2.out.kept g3.keeps)) | (go_at_call 77; refine (rfrac_any _ _ k _ (RatQ.mk X2.out X3.out rfl hM rfl h1'.out h2'.out) s2.out).mono ?_; rintro e w4 ⟨V6, rfl, hV6, g4⟩; obtain ⟨b7, A7, n7, c7, C7, m7, d7, rfl, X6⟩ := hV6.laid; clear hV6; replace R := Lib.hid (R.out.grew g4); replace P := Lib.hid (P.out.grew g4); replace Q := Lib.hid (Q.out.grew g4); replace z0 := Lib.hid (lt_grew z0.out g4); replace z1 := Lib.hid (lt_grew z1.out g4); replace z2 := Lib.hid (lt_grew z2.out g4); replace Fa := Lib.hid (Fa.out.kept g4.keeps); replace Fb := Lib.hid (Fb.out.kept g4.keeps); replace X2 := Lib.hid (X2.out.kept g4.keeps); replace X3 := Lib.hid (X3.out.kept g4.keeps); obtain ⟨R0, R1, R2, Rf0, Rf1, Rf2, Rs⟩ := R.out))
  replace G0 := Lib.hid ((((G0.out.trans gd.out).trans g2).trans g3).trans g4)
  clear gd g2 g3 g4 ZP ZQ
  refine gen_then ?_
  intro W9 hW9
  obtain ⟨q0, q1, q2, qK, -, -, qs, qG⟩ := store3 (o := 0) R0 R1 R2 hW9
  have GE := qG w (.inr (by omega)) G0.out
  have QK := Lib.hid qK
  clear qK qG hW9 R0 R1 R2
  go_wp2_with fail
  exact bodyPost_ret (v := .tuple #[.agg #[.bool b7, .slice A7 n7 c7, .slice C7 m7 d7], .int .i64 0]) (by simp [results, Try.results74, go_sem, q0, q1, q2]) rfl ⟨_, rfl, X6.out.kept QK.out, GE⟩

theorem quot_eq {X : Rat} {z y : Int} (hy : y ≠ 0) (h : X * (y : Rat) = (z : Rat)) : X = (z : Rat) / (y : Rat) := by
  have h1 : (y : Rat) ≠ 0 := fun e => hy (by have e2 : (y : Rat) = ((0 : Int) : Rat) := e; exact Rat.intCast_inj.1 e2)
  grind
theorem quot_mkRat (z y : Int) (hy : y ≠ 0) : mkRat (sgn (decide (z < 0) != decide (y < 0)) z.natAbs) y.natAbs = (z : Rat) / (y : Rat) := by
  refine quot_eq hy ?_
  have h := mkRat_times (sgn (decide (z < 0) != decide (y < 0)) z.natAbs) y.natAbs (by omega)
  by_cases h0 : y < 0
  · have e1 : ((y.natAbs : Nat) : Int) = -y := by omega
    have e2 : sgn (decide (z < 0) != decide (y < 0)) z.natAbs = -z := by
      rw [decide_eq_true h0]
      by_cases h1 : z < 0
      · rw [decide_eq_true h1]; simp [sgn]; omega
      · rw [decide_eq_false h1]; simp [sgn]; omega
    rw [e1, e2, Rat.intCast_neg, Rat.intCast_neg] at h
    rw [e2]
    grind
  · have e1 : ((y.natAbs : Nat) : Int) = y := by omega
    have e2 : sgn (decide (z < 0) != decide (y < 0)) z.natAbs = z := by
      rw [decide_eq_false h0]
      by_cases h1 : z < 0
      · rw [decide_eq_true h1]; simp [sgn]; omega
      · rw [decide_eq_false h1]; simp [sgn]; omega
    rw [e1, e2] at h
    rw [e2]
    exact h

set_option maxRecDepth 100000 in
set_option maxHeartbeats 4000000 in
theorem fmakez_any (Va Vb : Value) (z y : Int) (k : Nat) (w : World) (ha : Whl w Va z) (hb : Whl w Vb y) (hy : y ≠ 0) (h1 : len 4294967296 z.natAbs ≤ k) (h2 : len 4294967296 y.natAbs ≤ k) (hs : k < 536870912) :
    Calls Try.prog 74 #[Va, Vb] w fun e w' => ∃ V, e = .returned (.tuple #[V, .int .i64 0]) ∧ FracC w' V ((z : Rat) / (y : Rat)) ∧ Grew w w' := by
  obtain ⟨b1, A1, n1, c1, rfl, -, Y1⟩ := ha.laid
  obtain ⟨b2, A2, n2, c2, rfl, -, Y2⟩ := hb.laid
  obtain ⟨e1, -, X1⟩ := Y1.out
  obtain ⟨e2, -, X2⟩ := Y2.out
  rw [← quot_mkRat z y hy]
  subst e1; subst e2
  exact fmake_any _ _ A1 A2 z.natAbs y.natAbs n1 c1 n2 c2 k w X1 X2 (by omega) h1 h2 hs
end Go.Proofs.Ytpglnfccmhkocaa
namespace Go.Proofs.Ytpglnfccmhkocaa
open Go.RowKit

theorem QB_quot {z y : Int} {k : Nat} (hy : y ≠ 0) (h1 : len 4294967296 z.natAbs ≤ k) (h2 : len 4294967296 y.natAbs ≤ k) (hk : 1 ≤ k) : QB ((z : Rat) / (y : Rat)) k := by
  rw [← quot_mkRat z y hy]
  exact QB_mkRat _ _ _ (by rw [sgn_abs]; exact h1) h2 hk

set_option maxRecDepth 100000 in
set_option maxHeartbeats 4000000 in
theorem part_any (a u n d : Int) (w : World) (ha : In64 a u) (hn : In64 n d) (hd : d ≠ 0) :
    Calls Try.prog 84 #[.int .i64 a, .int .i64 u, .int .i64 n, .int .i64 d] w fun e w' => ∃ V, e = .returned V ∧ FracC w' V ((a : Rat) + ((u * n : Int) : Rat) / (d : Rat)) ∧ Grew w w' := by
  obtain ⟨a0, a1, u0, u1⟩ := ha
  obtain ⟨n0, n1, d0, d1⟩ := hn
  have l1 := Lib.hid (show len 4294967296 u.natAbs ≤ 2 from len_word (by omega))
  have l2 := Lib.hid (show len 4294967296 n.natAbs ≤ 2 from len_word (by omega))
  have l3 := Lib.hid (show len 4294967296 d.natAbs ≤ 4 from Nat.le_trans (len_word (by omega)) (by omega))
  have l4 := Lib.hid (len_mulz u n 2 2 l1.out l2.out)
  have qa := Lib.hid (QB_i64 a0 a1)
  have qq := Lib.hid (QB_quot hd l4.out l3.out (by omega))
  have k1 : 1 ≤ 2 := by omega
  have k2 : 1 ≤ 2 + 2 := by omega
  go_enter Try.func84, Try.ntmps84
  go_wp2_with fail
  refine gen_calls ?_
  intro W0 hW0
  have G0 : Grew w W0 := by rw [hW0]; exact (Grew.refl w).alloc _
  have R : Res3 W0 (w.heap.size) 0 (.bool false) (.slice none 0 0) (.slice none 0 0) := by rw [hW0]; exact ⟨by simp [go_sem], by simp [go_sem], by simp [go_sem], by simp [go_sem], by simp [go_sem], by simp [go_sem], by simp⟩
  replace R := Lib.hid R
  have z0 : w.heap.size < W0.heap.size := by rw [hW0]; simp <;> omega
  replace z0 := Lib.hid z0
  clear hW0
  replace G0 := Lib.hid G0
  refine (wof_any u _ u0 u1).mono ?_
  rintro e w1 ⟨V1, rfl, hV1, g1⟩
  have Y1 := Lib.hid (hV1.v l1.out)
  obtain ⟨b3, A3, n3, c3, rfl, -⟩ := hV1.laid
  have X1 := Y1
  clear hV1 Y1
  replace R := Lib.hid (R.out.grew g1)
  replace z0 := Lib.hid (lt_grew z0.out g1)
  replace G0 := Lib.hid (G0.out.trans g1)
  clear g1
  go_wp2_with fail
  refine (wof_any n _ n0 n1).mono ?_
  rintro e w2 ⟨V2, rfl, hV2, g2⟩
  have Y2 := Lib.hid (hV2.v l2.out)
  obtain ⟨b4, A4, n4, c4, rfl, -⟩ := hV2.laid
  have X2 := Y2
  clear hV2 Y2
  replace R := Lib.hid (R.out.grew g2)
  replace z0 := Lib.hid (lt_grew z0.out g2)
  replace X1 := Lib.hid (X1.out.kept g2.keeps)
  replace G0 := Lib.hid (G0.out.trans g2)
  clear g2
  go_wp2_with fail
  refine (wmul_v _ _ u n 2 2 _ X1.out X2.out (by omega)).mono ?_
  rintro e w3 ⟨V3, rfl, hV3, g3⟩
  obtain ⟨b5, A5, n5, c5, rfl, X3, -⟩ := hV3.laid
  clear hV3
  replace R := Lib.hid (R.out.grew g3)
  replace z0 := Lib.hid (lt_grew z0.out g3)
  replace X1 := Lib.hid (X1.out.kept g3.keeps)
  replace X2 := Lib.hid (X2.out.kept g3.keeps)
  replace G0 := Lib.hid (G0.out.trans g3)
  clear g3
  go_wp2_with fail
  refine (wof_any d _ d0 d1).mono ?_
  rintro e w4 ⟨V4, rfl, hV4, g4⟩
  obtain ⟨b6, A6, n6, c6, rfl, X4, -⟩ := hV4.laid
  clear hV4
  replace R := Lib.hid (R.out.grew g4)
  replace z0 := Lib.hid (lt_grew z0.out g4)
  replace X1 := Lib.hid (X1.out.kept g4.keeps)
  replace X2 := Lib.hid (X2.out.kept g4.keeps)
  replace X3 := Lib.hid (X3.out.kept g4.keeps)
  replace G0 := Lib.hid (G0.out.trans g4)
  clear g4
  go_wp2_with fail
  refine (fmakez_any _ _ (u * n) d (2 + 2) _ X3.out X4.out hd l4.out l3.out (by omega)).mono ?_
  rintro e w5 ⟨V5, rfl, hV5, g5⟩
  have Y5 := Lib.hid (hV5.v qq.out)
  obtain ⟨b7, A7, n7, c7, C7, m7, d7, rfl, -⟩ := hV5.laid
  have X5 := Y5
  clear hV5 Y5
  replace R := Lib.hid (R.out.grew g5)
  replace z0 := Lib.hid (lt_grew z0.out g5)
  replace X1 := Lib.hid (X1.out.kept g5.keeps)
  replace X2 := Lib.hid (X2.out.kept g5.keeps)
  replace X3 := Lib.hid (X3.out.kept g5.keeps)
  replace X4 := Lib.hid (X4.out.kept g5.keeps)
  replace G0 := Lib.hid (G0.out.trans g5)
  clear g5
  go_upto_region 2 with fail
  refine gen_wp ?_
  intro W1 hW1
  have gl : Grew w5 W1 := by rw [hW1]; exact (Grew.refl _).alloc _
  have y1 := Lib.hid (R.out).2.2.2.2.2.2
  replace R := Lib.hid (R.out.grew gl)
  replace z0 := Lib.hid (lt_grew z0.out gl)
  replace X1 := Lib.hid (X1.out.kept gl.keeps)
  replace X2 := Lib.hid (X2.out.kept gl.keeps)
  replace X3 := Lib.hid (X3.out.kept gl.keeps)
  replace X4 := Lib.hid (X4.out.kept gl.keeps)
  replace X5 := Lib.hid (X5.out.kept gl.keeps)
  have L : Box3 W1 (w5.heap.size) 0 (.bool b7) (.slice A7 n7 c7) (.slice C7 m7 d7) := by rw [hW1]; exact ⟨by simp [go_sem], by simp [go_sem], by simp [go_sem]⟩
  replace L := Lib.hid L
  have z1 : w5.heap.size < W1.heap.size := by rw [hW1]; simp <;> omega
  replace z1 := Lib.hid z1
  clear hW1
  replace G0 := Lib.hid (G0.out.trans gl)
  clear gl
  go_wp2_with fail
  have gd : Grew W1 W1.drew := (Grew.refl W1).drew
  replace R := Lib.hid (R.out.grew gd)
  replace L := Lib.hid (L.out.grew gd)
  replace z0 := Lib.hid (lt_grew z0.out gd)
  replace z1 := Lib.hid (lt_grew z1.out gd)
  replace X1 := Lib.hid (X1.out.kept gd.keeps)
  replace X2 := Lib.hid (X2.out.kept gd.keeps)
  replace X3 := Lib.hid (X3.out.kept gd.keeps)
  replace X4 := Lib.hid (X4.out.kept gd.keeps)
  replace X5 := Lib.hid (X5.out.kept gd.keeps)
  replace gd := Lib.hid gd
  have ZL := L
  go_region_held3 (fun w' => w'.cell? ⟨w5.heap.size, 0, none⟩ = some (.bool b7) ∧ w'.cell? ⟨w5.heap.size, 1, none⟩ = some (.slice A7 n7 c7) ∧ w'.cell? ⟨w5.heap.size, 2, none⟩ = some (.slice C7 m7 d7))
    (first | (with_reducible exact ⟨ZL.out.p0, ZL.out.p1, ZL.out.p2⟩) | (with_reducible exact ⟨g6.cell ZL.out.p0, g6.cell ZL.out.p1, g6.cell ZL.out.p2⟩) | (with_reducible exact ⟨(g6.trans g7).cell ZL.out.p0, (g6.trans g7).cell ZL.out.p1, (g6.trans g7).cell ZL.out.p2⟩) | (with_reducible exact ⟨other3 (o := 0) (by have := y1.out; omega) ((g6.trans g7).cell ZL.out.p0), other3 (o := 0) (by have := y1.out; omega) ((g6.trans g7).cell ZL.out.p1), other3 (o := 0) (by have := y1.out; omega) ((g6.trans g7).cell ZL.out.p2)⟩))
    (first | (have chk := g6; clear chk; go_at_call 39; refine (fadd_any _ _ (a : Rat) (((u * n : Int) : Rat) / (d : Rat)) 2 (2 + 2) _ X6.out X5.out k1 k2 (by omega)).mono ?_; rintro e w7 ⟨V7, rfl, hV7, g7⟩; obtain ⟨b9, A9, n9, c9, C9, m9, d9, rfl, X7⟩ := hV7.laid; clear hV7; replace R := Lib.hid (R.out.grew g7); replace L := Lib.hid (L.out.grew g7); replace z0 := Lib.hid (lt_grew z0.out g7); replace z1 := Lib.hid (lt_grew z1.out g7); replace X1 := Lib.hid (X1.out.kept g7.keeps); replace X2 := Lib.hid (X2.out.kept g7.keeps); replace X3 := Lib.hid (X3.out.kept g7.keeps); replace X4 := Lib.hid (X4.out.kept g7.keeps); replace X5 := Lib.hid (X5.out.kept g7.keeps); replace X6 := Lib.hid (X6.out.kept g7.keeps); obtain ⟨R0, R1, R2, Rf0, Rf1, Rf2, Rs⟩ := R.out) | (go_at_call 22; refine (fint_any a _ a0 a1).mono ?_; rintro e w6 ⟨V6, rfl, hV6, g6⟩; have Y6 := Lib.hid (hV6.v qa.out); obtain ⟨b8, A8, n8, c8, C8, m8, d8, rfl, -⟩ := hV6.laid; have X6 := Y6; clear hV6 Y6; replace R := Lib.hid (R.out.grew g6); replace L := Lib.hid (L.out.grew g6); replace z0 := Lib.hid (lt_grew z0.out g6); replace z1 := Lib.hid (lt_grew z1.out g6); replace X1 := Lib.hid (X1.out.kept g6.keeps); replace X2 := Lib.hid (X2.out.kept g6.keeps); replace X3 := Lib.hid (X3.out.kept g6.keeps); replace X4 := Lib.hid (X4.out.kept g6.keeps); replace X5 := Lib.hid (X5.out.kept g6.keeps)))
  replace G0 := Lib.hid (((G0.out.trans gd.out).trans g6).trans g7)
  clear gd g6 g7 ZL
  refine gen_then ?_
  intro W9 hW9
  obtain ⟨q0, q1, q2, qK, -, -, qs, qG⟩ := store3 (o := 0) R0 R1 R2 hW9
  have GE := qG w (.inr (by omega)) G0.out
  have QK := Lib.hid qK
  clear qK qG hW9 R0 R1 R2
  go_wp2_with fail
  exact bodyPost_ret (v := .agg #[.bool b9, .slice A9 n9 c9, .slice C9 m9 d9]) (by simp [results, Try.results84, go_sem, q0, q1, q2]) rfl ⟨_, rfl, X7.out.kept QK.out, GE⟩

set_option maxRecDepth 100000 in
set_option maxHeartbeats 4000000 in
theorem point_any (ax ay bx b_y n d : Int) (w : World) (ha : fitB ax ay = true) (hb : fitB bx b_y = true) (hn : In64 n d) (hd : d ≠ 0) :
    Calls Try.prog 46 #[segV ax ay bx b_y, .int .i64 n, .int .i64 d] w fun e w' => ∃ V, e = .returned V ∧ SpotC w' V ((ax : Rat) + (((bx - ax) * n : Int) : Rat) / (d : Rat)) ((ay : Rat) + (((b_y - ay) * n : Int) : Rat) / (d : Rat)) ∧ Grew w w' := by
  have i1 := (fitB_iff _ _).1 ha
  have i2 := (fitB_iff _ _).1 hb
  have r1 : In24 (bx - ax) := by unfold In24; omega
  have r2 : In24 (b_y - ay) := by unfold In24; omega
  have s1 := Lib.hid (show In64 ax (bx - ax) by unfold In64; omega)
  have s2 := Lib.hid (show In64 ay (b_y - ay) by unfold In64; omega)
  replace hn := Lib.hid hn
  replace r1 := Lib.hid r1
  replace r2 := Lib.hid r2
  clear i1 i2 ha hb
  go_enter Try.func46, Try.ntmps46
  go_wp2_with fail
  refine gen_calls ?_
  intro W0 hW0
  have G0 : Grew w W0 := by rw [hW0]; exact ((Grew.refl w).alloc _).alloc _
  have P : Box2 W0 (w.heap.size) 0 (.int .i64 ax) (.int .i64 ay) := by rw [hW0]; exact ⟨by simp [go_sem], by simp [go_sem]⟩
  replace P := Lib.hid P
  have Pb : Box2 W0 (w.heap.size) 2 (.int .i64 bx) (.int .i64 b_y) := by rw [hW0]; exact ⟨by simp [go_sem], by simp [go_sem]⟩
  replace Pb := Lib.hid Pb
  have R : Res3 W0 (w.heap.size + 1) 0 (.bool false) (.slice none 0 0) (.slice none 0 0) := by rw [hW0]; exact ⟨by simp [go_sem], by simp [go_sem], by simp [go_sem], by simp [go_sem], by simp [go_sem], by simp [go_sem], by simp⟩
  replace R := Lib.hid R
  have R_ : Res3 W0 (w.heap.size + 1) 3 (.bool false) (.slice none 0 0) (.slice none 0 0) := by rw [hW0]; exact ⟨by simp [go_sem], by simp [go_sem], by simp [go_sem], by simp [go_sem], by simp [go_sem], by simp [go_sem], by simp⟩
  replace R_ := Lib.hid R_
  have z0 : w.heap.size < W0.heap.size := by rw [hW0]; simp <;> omega
  replace z0 := Lib.hid z0
  have z1 : w.heap.size + 1 < W0.heap.size := by rw [hW0]; simp <;> omega
  replace z1 := Lib.hid z1
  clear hW0
  replace G0 := Lib.hid G0
  refine (fromg_any ax ay bx b_y _ r1.out r2.out).mono ?_
  rintro e w1 ⟨rfl, g1⟩
  replace R := Lib.hid (R.out.grew g1)
  replace R_ := Lib.hid (R_.out.grew g1)
  replace P := Lib.hid (P.out.grew g1)
  replace Pb := Lib.hid (Pb.out.grew g1)
  replace z0 := Lib.hid (lt_grew z0.out g1)
  replace z1 := Lib.hid (lt_grew z1.out g1)
  replace G0 := Lib.hid (G0.out.trans g1)
  clear g1
  go_upto_region 2 with fail
  refine gen_wp ?_
  intro W1 hW1
  have gl : Grew w1 W1 := by rw [hW1]; exact (Grew.refl _).alloc _
  have y1 := Lib.hid (R.out).2.2.2.2.2.2
  replace R := Lib.hid (R.out.grew gl)
  replace R_ := Lib.hid (R_.out.grew gl)
  replace P := Lib.hid (P.out.grew gl)
  replace Pb := Lib.hid (Pb.out.grew gl)
  replace z0 := Lib.hid (lt_grew z0.out gl)
  replace z1 := Lib.hid (lt_grew z1.out gl)
  have K : Box2 W1 (w1.heap.size) 0 (.int .i64 (bx - ax)) (.int .i64 (b_y - ay)) := by rw [hW1]; exact ⟨by simp [go_sem], by simp [go_sem]⟩
  replace K := Lib.hid K
  have z2 : w1.heap.size < W1.heap.size := by rw [hW1]; simp <;> omega
  replace z2 := Lib.hid z2
  clear hW1
  replace G0 := Lib.hid (G0.out.trans gl)
  clear gl
  have gd : Grew W1 W1.drew := (Grew.refl W1).drew
  replace R := Lib.hid (R.out.grew gd)
  replace R_ := Lib.hid (R_.out.grew gd)
  replace P := Lib.hid (P.out.grew gd)
  replace Pb := Lib.hid (Pb.out.grew gd)
  replace K := Lib.hid (K.out.grew gd)
  replace z0 := Lib.hid (lt_grew z0.out gd)
  replace z1 := Lib.hid (lt_grew z1.out gd)
  replace z2 := Lib.hid (lt_grew z2.out gd)
  replace gd := Lib.hid gd
  have ZP := P
  have ZK := K
  go_region_held3 (fun w' => w'.cell? ⟨w.heap.size, 0, none⟩ = some (.int .i64 ax) ∧ w'.cell? ⟨w.heap.size, 1, none⟩ = some (.int .i64 ay) ∧ w'.cell? ⟨w1.heap.size, 0, none⟩ = some (.int .i64 (bx - ax)) ∧ w'.cell? ⟨w1.heap.size, 1, none⟩ = some (.int .i64 (b_y - ay)))
    (first | (with_reducible exact ⟨ZP.out.p0, ZP.out.p1, ZK.out.p0, ZK.out.p1⟩) | (with_reducible exact ⟨g2.cell ZP.out.p0, g2.cell ZP.out.p1, g2.cell ZK.out.p0, g2.cell ZK.out.p1⟩) | (with_reducible exact ⟨(g2.trans g3).cell ZP.out.p0, (g2.trans g3).cell ZP.out.p1, (g2.trans g3).cell ZK.out.p0, (g2.trans g3).cell ZK.out.p1⟩) | (with_reducible exact ⟨other3 (o := 3) (by omega) (other3 (o := 0) (by omega) ((g2.trans g3).cell ZP.out.p0)), other3 (o := 3) (by omega) (other3 (o := 0) (by omega) ((g2.trans g3).cell ZP.out.p1)), other3 (o := 3) (by have := y1.out; omega) (other3 (o := 0) (by have := y1.out; omega) ((g2.trans g3).cell ZK.out.p0)), other3 (o := 3) (by have := y1.out; omega) (other3 (o := 0) (by have := y1.out; omega) ((g2.trans g3).cell ZK.out.p1))⟩))
    (first | (have chk := g2; clear chk; go_at_call 84; refine (part_any ay (b_y - ay) n d _ s2.out hn.out hd).mono ?_; rintro e w3 ⟨V2, rfl, hV2, g3⟩; obtain ⟨b14, A14, n14, c14, C14, m14, d14, rfl, X2⟩ := hV2.laid; clear hV2; replace R := Lib.hid (R.out.grew g3); replace R_ := Lib.hid (R_.out.grew g3); replace P := Lib.hid (P.out.grew g3); replace Pb := Lib.hid (Pb.out.grew g3); replace K := Lib.hid (K.out.grew g3); replace z0 := Lib.hid (lt_grew z0.out g3); replace z1 := Lib.hid (lt_grew z1.out g3); replace z2 := Lib.hid (lt_grew z2.out g3); replace X1 := Lib.hid (X1.out.kept g3.keeps); obtain ⟨R0, R1, R2, Rf0, Rf1, Rf2, Rs⟩ := R.out; obtain ⟨R_0, R_1, R_2, R_f0, R_f1, R_f2, R_s⟩ := R_.out) | (go_at_call 84; refine (part_any ax (bx - ax) n d _ s1.out hn.out hd).mono ?_; rintro e w2 ⟨V1, rfl, hV1, g2⟩; obtain ⟨b13, A13, n13, c13, C13, m13, d13, rfl, X1⟩ := hV1.laid; clear hV1; replace R := Lib.hid (R.out.grew g2); replace R_ := Lib.hid (R_.out.grew g2); replace P := Lib.hid (P.out.grew g2); replace Pb := Lib.hid (Pb.out.grew g2); replace K := Lib.hid (K.out.grew g2); replace z0 := Lib.hid (lt_grew z0.out g2); replace z1 := Lib.hid (lt_grew z1.out g2); replace z2 := Lib.hid (lt_grew z2.out g2)))
  replace G0 := Lib.hid (((G0.out.trans gd.out).trans g2).trans g3)
  clear gd g2 g3 ZP ZK
  refine gen_then ?_
  intro W9 hW9
  obtain ⟨q0, q1, q2, q3, q4, q5, qK, qG⟩ := store6 R0 R1 R2 R_0 R_1 R_2 hW9
  have GE := qG w (by omega) G0.out
  have QK := Lib.hid qK
  clear qK qG hW9 R0 R1 R2 R_0 R_1 R_2
  go_wp2_with fail
  exact bodyPost_ret (v := .agg #[.bool b13, .slice A13 n13 c13, .slice C13 m13 d13, .bool b14, .slice A14 n14 c14, .slice C14 m14 d14]) (by simp [results, Try.results46, go_sem, q0, q1, q2, q3, q4, q5]) rfl ⟨_, rfl, SpotC.mk (X1.out.kept QK.out) (X2.out.kept QK.out), GE⟩

/-- Does a point of the grid stand ahead of another one? -/
def aheadB (ax ay bx b_y : Int) : Bool := decide (ax < bx) || (decide (ax = bx) && decide (ay < b_y))
set_option maxRecDepth 100000 in
set_option maxHeartbeats 2000000 in
theorem ahead_any (ax ay bx b_y : Int) (w : World) : Calls Try.prog 86 #[ptV ax ay, ptV bx b_y] w fun e w' => e = .returned (.bool (aheadB ax ay bx b_y)) ∧ Grew w w' := by
  by_cases h1 : ax < bx
  · have e := Lib.hid (show aheadB ax ay bx b_y = true by unfold aheadB; simp [h1])
    go_enter Try.func86, Try.ntmps86
    go_wp2_with fail
    go_ret
    exact ⟨by rw [e.out]; rfl, ((Grew.refl w).alloc _).alloc _⟩
  · by_cases h2 : ax = bx
    · subst h2
      by_cases h3 : ay < b_y
      · have e := Lib.hid (show aheadB ax ay ax b_y = true by unfold aheadB; simp [h3])
        go_enter Try.func86, Try.ntmps86
        go_wp2_with fail
        go_ret
        exact ⟨by rw [e.out]; rfl, ((Grew.refl w).alloc _).alloc _⟩
      · have e := Lib.hid (show aheadB ax ay ax b_y = false by unfold aheadB; simp [h3])
        go_enter Try.func86, Try.ntmps86
        go_wp2_with fail
        go_ret
        exact ⟨by rw [e.out]; rfl, ((Grew.refl w).alloc _).alloc _⟩
    · have e := Lib.hid (show aheadB ax ay bx b_y = false by unfold aheadB; simp [h1, h2])
      have h2' : (ax == bx) = false := by simpa using h2
      go_enter Try.func86, Try.ntmps86
      go_wp2_with fail
      go_ret
      exact ⟨by rw [e.out]; rfl, ((Grew.refl w).alloc _).alloc _⟩

/-- Four ints of a struct that may be stored. -/
def Res4 (w : World) (r o : Nat) (u0 u1 u2 u3 : Value) : Prop :=
  w.cell? ⟨r, o, none⟩ = some u0 ∧ w.cell? ⟨r, o + 1, none⟩ = some u1 ∧ w.cell? ⟨r, o + 2, none⟩ = some u2 ∧ w.cell? ⟨r, o + 3, none⟩ = some u3 ∧
  w.frozen? ⟨r, o, none⟩ = false ∧ w.frozen? ⟨r, o + 1, none⟩ = false ∧ w.frozen? ⟨r, o + 2, none⟩ = false ∧ w.frozen? ⟨r, o + 3, none⟩ = false ∧ r < w.heap.size
theorem Res4.grew {w w' : World} {r o : Nat} {u0 u1 u2 u3 : Value} (h : Res4 w r o u0 u1 u2 u3) (g : Grew w w') : Res4 w' r o u0 u1 u2 u3 := by
  obtain ⟨h0, h1, h2, h3, f0, f1, f2, f3, s⟩ := h
  exact ⟨g.cell h0, g.cell h1, g.cell h2, g.cell h3, (g.below.frozen (p := ⟨r, o, none⟩) s).trans f0, (g.below.frozen (p := ⟨r, o + 1, none⟩) s).trans f1, (g.below.frozen (p := ⟨r, o + 2, none⟩) s).trans f2, (g.below.frozen (p := ⟨r, o + 3, none⟩) s).trans f3, Nat.lt_of_lt_of_le s g.size⟩
theorem store4 {w w' : World} {r : Nat} {u0 u1 u2 u3 v0 v1 v2 v3 : Value} (h : Res4 w r 0 u0 u1 u2 u3) (e : w' = (((w.setCell ⟨r, 0, none⟩ v0).setCell ⟨r, 1, none⟩ v1).setCell ⟨r, 2, none⟩ v2).setCell ⟨r, 3, none⟩ v3) :
    w'.cell? ⟨r, 0, none⟩ = some v0 ∧ w'.cell? ⟨r, 1, none⟩ = some v1 ∧ w'.cell? ⟨r, 2, none⟩ = some v2 ∧ w'.cell? ⟨r, 3, none⟩ = some v3 ∧ (∀ a, a.heap.size ≤ r → Grew a w → Grew a w') := by
  obtain ⟨h0, h1, h2, h3, -⟩ := h
  subst e
  have e1 : (w.setCell ⟨r, 0, none⟩ v0).cell? ⟨r, 1, none⟩ = some u1 := by rw [World.cell?_setCell_other _ _ _ _ (by simp)]; exact h1
  have e2 : ((w.setCell ⟨r, 0, none⟩ v0).setCell ⟨r, 1, none⟩ v1).cell? ⟨r, 2, none⟩ = some u2 := by rw [World.cell?_setCell_other _ _ _ _ (by simp), World.cell?_setCell_other _ _ _ _ (by simp)]; exact h2
  have e3 : (((w.setCell ⟨r, 0, none⟩ v0).setCell ⟨r, 1, none⟩ v1).setCell ⟨r, 2, none⟩ v2).cell? ⟨r, 3, none⟩ = some u3 := by rw [World.cell?_setCell_other _ _ _ _ (by simp), World.cell?_setCell_other _ _ _ _ (by simp), World.cell?_setCell_other _ _ _ _ (by simp)]; exact h3
  refine ⟨?_, ?_, ?_, cell_set e3 v3, fun a hr g => (((g.setCell hr _).setCell hr _).setCell hr _).setCell hr _⟩
  · rw [World.cell?_setCell_other _ _ _ _ (by simp), World.cell?_setCell_other _ _ _ _ (by simp), World.cell?_setCell_other _ _ _ _ (by simp)]; exact cell_set h0 v0
  · rw [World.cell?_setCell_other _ _ _ _ (by simp), World.cell?_setCell_other _ _ _ _ (by simp)]; exact cell_set e1 v1
  · rw [World.cell?_setCell_other _ _ _ _ (by simp)]; exact cell_set e2 v2

set_option maxRecDepth 100000 in
set_option maxHeartbeats 2000000 in
theorem sorted_any (ax ay bx b_y : Int) (w : World) : Calls Try.prog 85 #[segV ax ay bx b_y] w fun e w' => e = .returned (if aheadB bx b_y ax ay = true then segV bx b_y ax ay else segV ax ay bx b_y) ∧ Grew w w' := by
  obtain ⟨t, ht⟩ : ∃ t, aheadB bx b_y ax ay = t := ⟨_, rfl⟩
  rw [ht]
  replace ht := Lib.hid ht
  go_enter Try.func85, Try.ntmps85
  go_wp2_with fail
  refine gen_calls ?_
  intro W0 hW0
  have G0 : Grew w W0 := by rw [hW0]; exact ((Grew.refl w).alloc _).alloc _
  have P : Box2 W0 (w.heap.size) 0 (.int .i64 ax) (.int .i64 ay) := by rw [hW0]; exact ⟨by simp [go_sem], by simp [go_sem]⟩
  replace P := Lib.hid P
  have Pb : Box2 W0 (w.heap.size) 2 (.int .i64 bx) (.int .i64 b_y) := by rw [hW0]; exact ⟨by simp [go_sem], by simp [go_sem]⟩
  replace Pb := Lib.hid Pb
  have R : Res4 W0 (w.heap.size + 1) 0 (.int .i64 0) (.int .i64 0) (.int .i64 0) (.int .i64 0) := by rw [hW0]; exact ⟨by simp [go_sem], by simp [go_sem], by simp [go_sem], by simp [go_sem], by simp [go_sem], by simp [go_sem], by simp [go_sem], by simp [go_sem], by simp⟩
  replace R := Lib.hid R
  have z0 : w.heap.size < W0.heap.size := by rw [hW0]; simp <;> omega
  replace z0 := Lib.hid z0
  have z1 : w.heap.size + 1 < W0.heap.size := by rw [hW0]; simp <;> omega
  replace z1 := Lib.hid z1
  clear hW0
  replace G0 := Lib.hid G0
  refine (ahead_any bx b_y ax ay _).mono ?_
  rintro e w1 ⟨rfl, g1⟩
  replace R := Lib.hid (R.out.grew g1)
  replace P := Lib.hid (P.out.grew g1)
  replace Pb := Lib.hid (Pb.out.grew g1)
  replace z0 := Lib.hid (lt_grew z0.out g1)
  replace z1 := Lib.hid (lt_grew z1.out g1)
  replace G0 := Lib.hid (G0.out.trans g1)
  clear g1
  rw [ht.out]

  cases t
  ·
    obtain ⟨R0, R1, R2, R3, Rf0, Rf1, Rf2, Rf3, Rs⟩ := R.out
    obtain ⟨P0, P1⟩ := P.out
    obtain ⟨Pb0, Pb1⟩ := Pb.out
    go_wp2_with fail
    clear P0 P1 Pb0 Pb1
    refine gen_post ?_
    intro W9 hW9
    obtain ⟨q0, q1, q2, q3, qG⟩ := store4 R.out hW9
    have GE := qG w (by omega) G0.out
    clear qG hW9
    exact bodyPost_ret (v := .agg #[.int .i64 ax, .int .i64 ay, .int .i64 bx, .int .i64 b_y]) (by simp [results, Try.results85, go_sem, q0, q1, q2, q3]) rfl ⟨rfl, GE⟩
  ·

    obtain ⟨R0, R1, R2, R3, Rf0, Rf1, Rf2, Rf3, Rs⟩ := R.out
    obtain ⟨P0, P1⟩ := P.out
    obtain ⟨Pb0, Pb1⟩ := Pb.out
    go_wp2_with fail
    clear P0 P1 Pb0 Pb1
    refine gen_post ?_
    intro W9 hW9
    obtain ⟨q0, q1, q2, q3, qG⟩ := store4 R.out hW9
    have GE := qG w (by omega) G0.out
    clear qG hW9
    exact bodyPost_ret (v := .agg #[.int .i64 bx, .int .i64 b_y, .int .i64 ax, .int .i64 ay]) (by simp [results, Try.results85, go_sem, q0, q1, q2, q3]) rfl ⟨rfl, GE⟩
end Go.Proofs.Ytpglnfccmhkocaa
namespace Go.Proofs.Ytpglnfccmhkocaa
open Go.RowKit

/-- A value that is no int. -/
def NoInt (u : Value) : Prop := ∀ k x, u ≠ .int k x
/-- A block none of whose cells is an int. -/
def NoInts (w : World) (g : Nat) : Prop := ∀ p u, w.cell? ⟨g, p, none⟩ = some u → NoInt u
/-- A row of structs that a call owns, and that holds no int. -/
def OwnS (w : World) (base : Nat) (e : TypeId) (size : Nat) (v : Value) (n : Nat) (xs : List Value) : Prop :=
  w.ownsRow base e size v n xs ∧ ∀ g, v.ownBlock = some g → NoInts w g

theorem OwnS.nil (w : World) (base : Nat) (e : TypeId) (size : Nat) : OwnS w base e size (.slice none 0 0) 0 [] := ⟨World.ownsRow_nil _ _ _ _, fun g h => by simp [Value.ownBlock] at h⟩

/-- What is written into such a row turns no number. -/
theorem keeps_of_grown {w w' : World} {row : Option Nat} (hg : w.grownBy w' row) (hn : ∀ g, row = some g → NoInts w g) : Keeps w w' := by
  intro B K v N k h
  obtain ⟨A, c, hv, h1, h2, h4, h3⟩ := h
  refine ⟨A, c, hv, h1, h2, h4, fun hk => ?_⟩
  obtain ⟨b, off, hA, hc⟩ := h3 hk
  refine ⟨b, off, hA, fun i hi => ?_⟩
  refine hg.cell (hc i hi) fun e => ?_
  exact hn b e.symm _ _ (hc i hi) K _ rfl

section
variable {P : Program} (w : World)

theorem run_appS (base : Nat) (t ty e : TypeId) (i : TypeInfo) (z : Value) (size bytes : Nat) (ht : P.underlying t = some (.slice e)) (hi : P.info? e = some i) (hz : i.zero = some z)
    (hsize : i.size = size) (hby : i.bytes = bytes) (hzs : z.cells.size = size) (hsz : 0 < size) (hzn : ∀ u ∈ z.cells, NoInt u)
    (v : Value) (n : Nat) (xs : List Value) (hown : OwnS w base e size v n xs)
    (a : Addr) (m c : Nat) (news : List Value) (hl : news.length = m * size) (hnews : ∀ j u, news[j]? = some u → w.cell? (a.add j) = some u) (h1 : ∀ u ∈ news, u.oneCell' = true) (hnn : ∀ u ∈ news, NoInt u)
    (h63 : n + m ≤ maxLen) (hbytes : (n + m) * bytes ≤ 140737488355328) (hbase : base ≤ w.heap.size) :
    ∃ v' w', (Builtin.append_ #[t, t] ty #[v, .slice (some a) m c]).run P w = .ok v' w' ∧ OwnS w' base e size v' (n + m) (xs ++ news) ∧ w.grownBy w' v.ownBlock ∧ w.drawn ≤ w'.drawn ∧ Keeps w w' := by
  obtain ⟨hown, hni⟩ := hown
  obtain ⟨v', w', hr, h2, h3, h4⟩ := run_append_own (P := P) w base t ty e i z size bytes ht hi hz hsize hby hzs hsz v n xs hown a m c news hl hnews h1 h63 hbytes hbase
  have hd := drawn_append (P := P) w base t ty e i z size bytes ht hi hz hsize hby hsz v n xs hown a m c news hl hnews h1 h63 hbytes v' w' hr
  refine ⟨v', w', hr, ⟨h2, ?_⟩, h3, hd, keeps_of_grown h3 hni⟩
  subst hsize
  subst hby
  have hzero : ∀ k, ∀ u ∈ Builtin.zeroCells z.cells k, NoInt u := by
    intro k u hu
    simp only [Builtin.zeroCells, Array.mem_map, Array.mem_range] at hu
    obtain ⟨j, -, rfl⟩ := hu
    have hlt : j % z.cells.size < z.cells.size := Nat.mod_lt _ (by omega)
    rw [getElem!_pos z.cells _ hlt]
    exact hzn _ (Array.getElem_mem hlt)
  have hsmall : n + m ≤ 9223372036854775807 := by simp only [maxLen] at h63; omega
  have hblk : ∀ (W : World) (b : Nat) (cs : Array Value), W.heap[b]? = some (.cells cs e (0, 0)) → (∀ u ∈ cs, NoInt u) → NoInts W b := by
    intro W b cs hb hcs p u hu
    rw [cell_of_row W b p cs e (0, 0) hb] at hu
    exact hcs u (Array.mem_of_getElem? hu)
  rcases hown.2 with ⟨rfl, rfl⟩ | ⟨g, cap, cur, rfl, hbg, hg, hnc, hcm, hcs, htake⟩
  · by_cases hm : m = 0
    · subst hm
      have e1 : (Builtin.append_ #[t, t] ty #[.slice none 0 0, .slice (some a) 0 c]).run P w = .ok (.slice none 0 0) w := by
        simp [Builtin.append_, run_underlying ht, sizeOf, typeInfo, hi, Builtin.lenOf, Builtin.firstCells, loadCells, loadCellsFrom]
      rw [e1] at hr
      injection hr with hv _
      subst hv
      intro g hg
      simp [Value.ownBlock] at hg
    · have e1 := run_append_nil (P := P) w t ty e i z ht hi hz a m c news hl hnews (by omega) (by omega) (by have hb := hbytes; simp only [Nat.zero_add] at hb; omega)
      rw [e1] at hr
      injection hr with hv hw
      subst hv
      subst hw
      intro g hg
      simp only [Value.ownBlock, Option.some.injEq] at hg
      subst hg
      refine hblk _ _ _ (heap_alloc_new w.drew _) fun u hu => ?_
      simp only [Array.mem_append, List.mem_toArray] at hu
      exact hu.elim (hnn u) (hzero _ u)
  · have hcur : ∀ u ∈ cur, NoInt u := by
      intro u hu
      obtain ⟨p, hp⟩ := Array.getElem?_of_mem hu
      exact hni g rfl p u (by rw [cell_of_row w g p cur e (0, 0) hg]; exact hp)
    by_cases hroom : n + m ≤ cap
    · have hfit : n * i.size + news.length ≤ cur.size := by rw [hl, hcs, ← Nat.add_mul]; exact Nat.mul_le_mul_right _ hroom
      have e1 := run_append_room (P := P) w t ty e i ht hi g n cap cur hg a m c news hl hnews h1 hroom hfit
      rw [e1] at hr
      injection hr with hv hw
      subst hv
      subst hw
      intro g' hg'
      simp only [Value.ownBlock, Option.some.injEq] at hg'
      subst hg'
      refine hblk _ _ _ (setRow_heap w g cur _ e (0, 0) hg) fun u hu => ?_
      simp only [List.mem_toArray, List.mem_append] at hu
      rcases hu with (hu | hu) | hu
      · exact hcur u (by simpa using List.mem_of_mem_take hu)
      · exact hnn u hu
      · exact hcur u (by simpa using List.mem_of_mem_drop hu)
    · have holds : ∀ j u, xs[j]? = some u → w.cell? ((⟨g, 0, none⟩ : Addr).add j) = some u := hown.cells (g := g) rfl
      have e1 := run_append_grow (P := P) w t ty e i z ht hi hz ⟨g, 0, none⟩ n cap xs hown.1 holds a m c news hl hnews (by omega) (by omega) (growslice_fits (by omega) hbytes)
      rw [e1] at hr
      injection hr with hv hw
      subst hv
      subst hw
      intro g' hg'
      simp only [Value.ownBlock, Option.some.injEq] at hg'
      subst hg'
      refine hblk _ _ _ (heap_alloc_new w.drew _) fun u hu => ?_
      simp only [Array.mem_append, List.mem_toArray] at hu
      rcases hu with (hu | hu) | hu
      · exact hcur u (by rw [← htake] at hu; simpa using List.mem_of_mem_take hu)
      · exact hnn u hu
      · exact hzero _ u hu

/-- append of one struct, which the walk has laid into a block of its own. -/
theorem wpList_appS1 {ops : Array Oper} {rest : List Oper} {o : Oper} {a : Act} {Q : Exit → Act → World → Prop} (hgd : o.guard = none) (s x : Operand) (t : TypeId)
    (ho : o.op = .call { callee := .builtin .append, args := #[s, x], argTypes := #[t, t] })
    (base : Nat) (e : TypeId) (z : Value) (size bytes : Nat) (ht : P.underlying t = some (.slice e)) (hi : (P.info? e).map (fun i => (i.zero, i.size, i.bytes)) = some (some z, size, bytes))
    (hzs : z.cells.size = size) (hsz : 0 < size) (hzn : ∀ u ∈ z.cells, NoInt u)
    (v : Value) (n : Nat) (xs : List Value) (hs : a.eval s = v) (hown : OwnS w base e size v n xs)
    (us : Array Value) (hus : us.size = size) (h1 : ∀ u ∈ us.toList, u.oneCell' = true) (hnn : ∀ u ∈ us.toList, NoInt u) (hx : a.eval x = .slice (some ⟨w.heap.size, 0, none⟩) 1 1)
    (hbytes : (n + 1) * bytes ≤ 140737488355328) (hby : 0 < bytes) (hbase : base ≤ w.heap.size)
    (h : ∀ v' w', OwnS w' base e size v' (n + 1) (xs ++ us.toList) → (∀ W, W.heap.size ≤ base → Grew W w → Grew W w') → Keeps w w' → wpList P ops Q rest (a.put o.dst v') w') : wpList P ops Q (o :: rest) a (w.alloc (.cells us e)) := by
  obtain ⟨i, hi, hz, hsize, hbyt⟩ := info_parts hi
  have h63 : n + 1 ≤ maxLen := by
    have : (n + 1) * 1 ≤ (n + 1) * bytes := Nat.mul_le_mul_left _ hby
    simp only [maxLen]; omega
  have hnews : ∀ j u, us.toList[j]? = some u → (w.alloc (.cells us e)).cell? ((⟨w.heap.size, 0, none⟩ : Addr).add j) = some u := by
    intro j u hu
    have hadd : (⟨w.heap.size, 0, none⟩ : Addr).add j = ⟨w.heap.size, j, none⟩ := by unfold Addr.add; split <;> simp_all
    rw [hadd, cell_of_row _ w.heap.size j us e (0, 0) (heap_alloc_new w _)]
    simpa using hu
  have hown' : OwnS (w.alloc (.cells us e)) base e size v n xs := by
    refine ⟨hown.1.alloc _, fun g hg p u hu => ?_⟩
    have hlt := (hown.1.lt g hg).2
    rw [World.cell?_of_block (w := w) (Below.heap_alloc w _ g hlt)] at hu
    exact hown.2 g hg p u hu
  refine wpList_plain hgd fun _ hK => ?_
  obtain ⟨v', w', hr, h2, h3, hd, h4⟩ := run_appS (P := P) (w.alloc (.cells us e)) base t o.type e i z size bytes ht hi hz hsize hbyt hzs hsz hzn v n xs hown' ⟨w.heap.size, 0, none⟩ 1 1 us.toList (by simp [hus]) hnews h1 hnn h63 hbytes (by simp; omega)
  unfold Oper.wp execOp
  simp only [ho, resolve, invoke, builtin, Sem.run_bind, Sem.run_pure, Result.andThen_ok, List.map_toArray, List.map_cons, List.map_nil, hs, hx, hr]
  refine hK _ _ (h v' w' h2 (fun W hW hG => (hG.alloc _).grown h3 hd fun k hk => Nat.le_trans hW (hown.1.lt k hk).1) ?_)
  exact ((Grew.refl w).alloc _).keeps.trans h4
end
end Go.Proofs.Ytpglnfccmhkocaa
