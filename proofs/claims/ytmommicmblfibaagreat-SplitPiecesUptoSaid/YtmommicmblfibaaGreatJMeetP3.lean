/- cross.Meet. Condition: ints of 64 bits. Plain: the point that two ways have which are not along one another. Conditions: none. Plain: what the document answers where two ways meet; the same as the program's where they are not along one another. Conditions: none. Plain: points of one line in order; the first and the last of a row. Conditions: none. -/
import Derived.Test.YtmommicmblfibaaGreatJCross5
import Derived.Test.YtmommicmblfibaaGreatJRowP
set_option maxRecDepth 100000
namespace Go.Proofs.YtmommicmblfibaaGreat
open Go.RowKit
theorem lieZ_kinds {ax ay bx b_y cx cy dx dy k n d : Int} (ha : fitB ax ay = true) (hb : fitB bx b_y = true) (hc : fitB cx cy = true) (hd : fitB dx dy = true) (h : lieZ ax ay bx b_y cx cy dx dy = (k, n, d)) :
  (k = 0 ∨ k = 1 ∨ k = 2) ∧ (k = 1 → d ≠ 0 ∧ In64 n d) := by
 have i1 := (fitB_iff _ _).1 ha
 have i2 := (fitB_iff _ _).1 hb
 have i3 := (fitB_iff _ _).1 hc
 have i4 := (fitB_iff _ _).1 hd
 have r1 : In24 (bx - ax) := by unfold In24; omega
 have r2 : In24 (b_y - ay) := by unfold In24; omega
 have r3 : In24 (dx - cx) := by unfold In24; omega
 have r4 : In24 (dy - cy) := by unfold In24; omega
 have r5 : In24 (cx - ax) := by unfold In24; omega
 have r6 : In24 (cy - ay) := by unfold In24; omega
 have b1 := cross24 r1 r2 r3 r4
 have b2 := cross24 r5 r6 r3 r4
 have fin : ∀ (c : Prop) [Decidable c], (if c then ((2 : Int), (0 : Int), (0 : Int)) else (0, 0, 0)) = (k, n, d) → k = 0 ∨ k = 2 := by
  intro c _ h
  split at h <;> (simp only [Prod.mk.injEq] at h; omega)
 have fin2 : ∀ (c : Prop) [Decidable c] (u v : Int), (if c then ((1 : Int), u, v) else (0, 0, 0)) = (k, n, d) → (k = 1 ∧ u = n ∧ v = d) ∨ k = 0 := by
  intro c _ u v h
  split at h <;> (simp only [Prod.mk.injEq] at h; omega)
 unfold lieZ at h
 by_cases h0 : crossZ (bx - ax) (b_y - ay) (dx - cx) (dy - cy) = 0
 ·have h1 := h
  rw [if_pos h0] at h1
  rcases fin _ h1 with e | e <;> exact ⟨by omega, fun h => by omega⟩
 ·have h1 := h
  rw [if_neg h0] at h1
  rcases fin2 _ _ _ h1 with ⟨e, rfl, rfl⟩ | e
  ·exact ⟨by omega, fun _ => ⟨h0, by unfold In64; omega⟩⟩
  ·exact ⟨by omega, fun h => by omega⟩
theorem lie_g (ax ay bx b_y cx cy dx dy k n d : Int) (w : World) (ha : fitB ax ay = true) (hb : fitB bx b_y = true) (hc : fitB cx cy = true) (hd : fitB dx dy = true) (h : lieZ ax ay bx b_y cx cy dx dy = (k, n, d)) :
  Calls Tryz.prog 72 #[segV ax ay bx b_y, segV cx cy dx dy] w fun e w' => e = .returned (.tuple #[.int .i64 k, .int .i64 n, .int .i64 d]) ∧ Grew w w' :=
 (lie_any ax ay bx b_y cx cy dx dy w ha hb hc hd).mono fun _ _ ⟨h1, h2⟩ => ⟨by rw [h1, h], h2⟩
def meetQ (ax ay bx b_y cx cy dx dy : Int) : List (Rat × Rat) :=
 if (fitB ax ay && fitB bx b_y) = true ∧ (fitB cx cy && fitB dx dy) = true then
  (if (lieZ ax ay bx b_y cx cy dx dy).1 = 1 then
   [((ax : Rat) + (((bx - ax) * (lieZ ax ay bx b_y cx cy dx dy).2.1 : Int) : Rat) / ((lieZ ax ay bx b_y cx cy dx dy).2.2 : Rat), (ay : Rat) + (((b_y - ay) * (lieZ ax ay bx b_y cx cy dx dy).2.1 : Int) : Rat) / ((lieZ ax ay bx b_y cx cy dx dy).2.2 : Rat))]
  else if (lieZ ax ay bx b_y cx cy dx dy).1 = 2 then
   (if (ax = bx ∧ ay = b_y) ∧ (cx = dx ∧ cy = dy) ∧ ¬ (ax = cx ∧ ay = cy) then [] else (commonZ (sortZ ax ay bx b_y) (sortZ cx cy dx dy)).map castP)
  else [])
 else []
set_option maxHeartbeats 8000000 in
theorem meet_any (ax ay bx b_y cx cy dx dy : Int) (w : World) (ra : In64 ax ay) (rb : In64 bx b_y) (rc : In64 cx cy) (rd : In64 dx dy) :
  Calls Tryz.prog 43 #[segV ax ay bx b_y, segV cx cy dx dy] w fun e w' => ∃ v, e = .returned v ∧ RowC w' v (meetQ ax ay bx b_y cx cy dx dy) ∧ Grew w w' := by
 obtain ⟨ML, hML⟩ : ∃ ML, meetQ ax ay bx b_y cx cy dx dy = ML := ⟨_, rfl⟩
 rw [hML]
 unfold meetQ at hML
 replace ra := hZ ra
 replace rb := hZ rb
 replace rc := hZ rc
 replace rd := hZ rd
 obtain ⟨s, hs⟩ : ∃ s, (fitB ax ay && fitB bx b_y) = s := ⟨_, rfl⟩
 obtain ⟨t, ht⟩ : ∃ t, (fitB cx cy && fitB dx dy) = t := ⟨_, rfl⟩
 rw [hs, ht] at hML
 have hs' := hZ hs
 have ht' := hZ ht
 replace hML := hZ hML
 replace hs := hZ hs
 replace ht := hZ ht
 go_enter Tryz.func43, Tryz.ntmps43
 go_wp2_with fail
 refine gen_calls ?_
 intro W0 hW0
 have G0 : Grew w W0 := by rw [hW0]; exact ((Grew.refl w).alloc _).alloc _
 have P : Box4 W0 (w.heap.size) 0 (.int .i64 ax) (.int .i64 ay) (.int .i64 bx) (.int .i64 b_y) := by rw [hW0]; exact ⟨by simp [go_sem], by simp [go_sem], by simp [go_sem], by simp [go_sem]⟩
 replace P := hZ P
 have Q : Box4 W0 (w.heap.size + 1) 0 (.int .i64 cx) (.int .i64 cy) (.int .i64 dx) (.int .i64 dy) := by rw [hW0]; exact ⟨by simp [go_sem], by simp [go_sem], by simp [go_sem], by simp [go_sem]⟩
 replace Q := hZ Q
 have z0 : w.heap.size < W0.heap.size := by rw [hW0]; simp <;> omega
 replace z0 := hZ z0
 have z1 : w.heap.size + 1 < W0.heap.size := by rw [hW0]; simp <;> omega
 replace z1 := hZ z1
 clear hW0
 replace G0 := hZ G0
 refine (cmay_any ax ay bx b_y _).mono ?_
 rintro e w1 ⟨rfl, g1⟩
 replace P := hZ (P.out.grew g1)
 replace Q := hZ (Q.out.grew g1)
 replace z0 := hZ (lt_grew z0.out g1)
 replace z1 := hZ (lt_grew z1.out g1)
 replace G0 := hZ (G0.out.trans g1)
 clear g1
 rw [hs.out]
 cases s
 ·
  have e := hZ (show [] = ML by rw [← hML.out, if_neg (by simp)])
  go_wp2_with fail
  go_ret
  exact ⟨_, rfl, by rw [← e.out]; exact RowP.nil _ _, G0.out⟩
 ·
  obtain ⟨P0, P1, P2, P3⟩ := P.out
  obtain ⟨Q0, Q1, Q2, Q3⟩ := Q.out
  go_wp2_with fail
  clear P0 P1 P2 P3 Q0 Q1 Q2 Q3
  refine (cmay_any cx cy dx dy _).mono ?_
  rintro e w2 ⟨rfl, g2⟩
  replace P := hZ (P.out.grew g2)
  replace Q := hZ (Q.out.grew g2)
  replace z0 := hZ (lt_grew z0.out g2)
  replace z1 := hZ (lt_grew z1.out g2)
  replace G0 := hZ (G0.out.trans g2)
  clear g2
  rw [ht.out]
  cases t
  ·
   have e := hZ (show [] = ML by rw [← hML.out, if_neg (by simp)])
   go_wp2_with fail
   go_ret
   exact ⟨_, rfl, by rw [← e.out]; exact RowP.nil _ _, G0.out⟩
  ·
   have hM := hML.out
   rw [if_pos (by simp)] at hM
   have f1 := hs'.out
   have f2 := ht'.out
   rw [Bool.and_eq_true] at f1 f2
   obtain ⟨⟨k, n, d⟩, hL⟩ : ∃ L, lieZ ax ay bx b_y cx cy dx dy = L := ⟨_, rfl⟩
   have hk := lieZ_kinds f1.1 f1.2 f2.1 f2.2 hL
   rw [hL] at hM
   simp only at hM
   have F1 := hZ f1
   have F2 := hZ f2
   replace hL := hZ hL
   replace hM := hZ hM
   obtain ⟨hk1, hk2⟩ := hk
   replace hk2 := hZ hk2
   clear hML hs ht hs' ht' f1 f2
   obtain ⟨P0, P1, P2, P3⟩ := P.out
   obtain ⟨Q0, Q1, Q2, Q3⟩ := Q.out
   go_wp2_with fail
   clear P0 P1 P2 P3 Q0 Q1 Q2 Q3
   refine (lie_g ax ay bx b_y cx cy dx dy k n d _ F1.out.1 F1.out.2 F2.out.1 F2.out.2 hL.out).mono ?_
   rintro e w3 ⟨rfl, g3⟩
   replace P := hZ (P.out.grew g3)
   replace Q := hZ (Q.out.grew g3)
   replace z0 := hZ (lt_grew z0.out g3)
   replace z1 := hZ (lt_grew z1.out g3)
   replace G0 := hZ (G0.out.trans g3)
   clear g3
   rcases hk1 with rfl | rfl | rfl
   ·
    have e := hZ (show [] = ML by rw [← hM.out, if_neg (by omega), if_neg (by omega)])
    clear hM
    go_wp2_with fail
    go_ret
    exact ⟨_, rfl, by rw [← e.out]; exact RowP.nil _ _, G0.out⟩
   ·
    have e := hZ (hM.out.symm.trans (if_pos rfl))
    obtain ⟨hd0, hnd⟩ := hk2.out rfl
    replace hnd := hZ hnd
    clear hM
    obtain ⟨P0, P1, P2, P3⟩ := P.out
    go_wp2_with fail
    clear P0 P1 P2 P3
    refine (point_any ax ay bx b_y n d _ F1.out.1 F1.out.2 hnd.out hd0).mono ?_
    rintro e w4 ⟨V, rfl, hV, g4⟩
    replace P := hZ (P.out.grew g4)
    replace Q := hZ (Q.out.grew g4)
    replace z0 := hZ (lt_grew z0.out g4)
    replace z1 := hZ (lt_grew z1.out g4)
    replace G0 := hZ (G0.out.trans g4)
    clear g4
    obtain ⟨b7, A7, n7, c7, C7, m7, d7, b8, A8, n8, c8, C8, m8, d8, rfl, -, -, X5⟩ := hV.laid
    clear hV
    go_wp2_with fail
    go_ret
    exact ⟨_, rfl, by rw [e.out]; exact rowC_one X5.out, G0.out.alloc _⟩
   ·
    have hM2 := hM.out
    rw [if_neg (show ¬ (2 : Int) = 1 by omega), if_pos (show (2 : Int) = 2 from rfl)] at hM2
    replace hM2 := hZ hM2
    clear hM hL hk2 F1 F2
    by_cases a1 : ax = bx
    ·
     subst a1
     by_cases a2 : ay = b_y
     ·
      subst a2
      by_cases c1 : cx = dx
      ·
       subst c1
       by_cases c2 : cy = dy
       ·
        subst c2
        by_cases e1 : ax = cx
        ·
         subst e1
         by_cases e2 : ay = cy
         ·
          subst e2
          have ee := hZ (hM2.out.symm.trans (if_neg (fun h => h.2.2 ⟨rfl, rfl⟩)))
          clear hM2
          skip
          skip
          obtain ⟨P0, P1, P2, P3⟩ := P.out
          obtain ⟨Q0, Q1, Q2, Q3⟩ := Q.out
          go_wp2_with fail
          clear P0 P1 P2 P3 Q0 Q1 Q2 Q3
          refine (common_any ax ay ax ay ax ay ax ay _ ra.out rb.out rc.out rd.out).mono ?_
          rintro e w4 ⟨v, rfl, hv, g4⟩
          replace P := hZ (P.out.grew g4)
          replace Q := hZ (Q.out.grew g4)
          replace z0 := hZ (lt_grew z0.out g4)
          replace z1 := hZ (lt_grew z1.out g4)
          replace G0 := hZ (G0.out.trans g4)
          clear g4
          go_wp2_with fail
          go_ret
          exact ⟨_, rfl, by rw [ee.out]; exact hv, G0.out⟩
         ·
          have ee := hZ (hM2.out.symm.trans (if_pos ⟨⟨rfl, rfl⟩, ⟨rfl, rfl⟩, fun h => e2 h.2⟩))
          clear hM2
          skip
          skip
          obtain ⟨P0, P1, P2, P3⟩ := P.out
          obtain ⟨Q0, Q1, Q2, Q3⟩ := Q.out
          go_wp2_with fail
          clear P0 P1 P2 P3 Q0 Q1 Q2 Q3
          go_ret
          exact ⟨_, rfl, by rw [ee.out]; exact RowP.nil _ _, G0.out⟩
        ·
         have ee := hZ (hM2.out.symm.trans (if_pos ⟨⟨rfl, rfl⟩, ⟨rfl, rfl⟩, fun h => e1 h.1⟩))
         clear hM2
         skip
         skip
         obtain ⟨P0, P1, P2, P3⟩ := P.out
         obtain ⟨Q0, Q1, Q2, Q3⟩ := Q.out
         go_wp2_with fail
         clear P0 P1 P2 P3 Q0 Q1 Q2 Q3
         go_ret
         exact ⟨_, rfl, by rw [ee.out]; exact RowP.nil _ _, G0.out⟩
       ·
        have ee := hZ (hM2.out.symm.trans (if_neg (fun h => c2 h.2.1.2)))
        clear hM2
        skip
        skip
        obtain ⟨P0, P1, P2, P3⟩ := P.out
        obtain ⟨Q0, Q1, Q2, Q3⟩ := Q.out
        go_wp2_with fail
        clear P0 P1 P2 P3 Q0 Q1 Q2 Q3
        refine (common_any ax ay ax ay cx cy cx dy _ ra.out rb.out rc.out rd.out).mono ?_
        rintro e w4 ⟨v, rfl, hv, g4⟩
        replace P := hZ (P.out.grew g4)
        replace Q := hZ (Q.out.grew g4)
        replace z0 := hZ (lt_grew z0.out g4)
        replace z1 := hZ (lt_grew z1.out g4)
        replace G0 := hZ (G0.out.trans g4)
        clear g4
        go_wp2_with fail
        go_ret
        exact ⟨_, rfl, by rw [ee.out]; exact hv, G0.out⟩
      ·
       have ee := hZ (hM2.out.symm.trans (if_neg (fun h => c1 h.2.1.1)))
       clear hM2
       skip
       skip
       obtain ⟨P0, P1, P2, P3⟩ := P.out
       obtain ⟨Q0, Q1, Q2, Q3⟩ := Q.out
       go_wp2_with fail
       clear P0 P1 P2 P3 Q0 Q1 Q2 Q3
       refine (common_any ax ay ax ay cx cy dx dy _ ra.out rb.out rc.out rd.out).mono ?_
       rintro e w4 ⟨v, rfl, hv, g4⟩
       replace P := hZ (P.out.grew g4)
       replace Q := hZ (Q.out.grew g4)
       replace z0 := hZ (lt_grew z0.out g4)
       replace z1 := hZ (lt_grew z1.out g4)
       replace G0 := hZ (G0.out.trans g4)
       clear g4
       go_wp2_with fail
       go_ret
       exact ⟨_, rfl, by rw [ee.out]; exact hv, G0.out⟩
     ·
      have ee := hZ (hM2.out.symm.trans (if_neg (fun h => a2 h.1.2)))
      clear hM2
      skip
      skip
      obtain ⟨P0, P1, P2, P3⟩ := P.out
      obtain ⟨Q0, Q1, Q2, Q3⟩ := Q.out
      go_wp2_with fail
      clear P0 P1 P2 P3 Q0 Q1 Q2 Q3
      refine (common_any ax ay ax b_y cx cy dx dy _ ra.out rb.out rc.out rd.out).mono ?_
      rintro e w4 ⟨v, rfl, hv, g4⟩
      replace P := hZ (P.out.grew g4)
      replace Q := hZ (Q.out.grew g4)
      replace z0 := hZ (lt_grew z0.out g4)
      replace z1 := hZ (lt_grew z1.out g4)
      replace G0 := hZ (G0.out.trans g4)
      clear g4
      go_wp2_with fail
      go_ret
      exact ⟨_, rfl, by rw [ee.out]; exact hv, G0.out⟩
    ·
     have ee := hZ (hM2.out.symm.trans (if_neg (fun h => a1 h.1.1)))
     clear hM2
     skip
     skip
     obtain ⟨P0, P1, P2, P3⟩ := P.out
     obtain ⟨Q0, Q1, Q2, Q3⟩ := Q.out
     go_wp2_with fail
     clear P0 P1 P2 P3 Q0 Q1 Q2 Q3
     refine (common_any ax ay bx b_y cx cy dx dy _ ra.out rb.out rc.out rd.out).mono ?_
     rintro e w4 ⟨v, rfl, hv, g4⟩
     replace P := hZ (P.out.grew g4)
     replace Q := hZ (Q.out.grew g4)
     replace z0 := hZ (lt_grew z0.out g4)
     replace z1 := hZ (lt_grew z1.out g4)
     replace G0 := hZ (G0.out.trans g4)
     clear g4
     go_wp2_with fail
     go_ret
     exact ⟨_, rfl, by rw [ee.out]; exact hv, G0.out⟩
theorem scale_nonneg {f c : Rat} (h : 0 < c) : 0 ≤ f * c ↔ 0 ≤ f := by
 constructor
 ·intro g
  refine Rat.not_lt.1 fun e => ?_
  have := Rat.mul_pos (show 0 < -f by grind) h
  grind
 ·intro g
  exact Rat.mul_nonneg g (Rat.le_of_lt h)
theorem withinQ_iff {a b c : Rat} : withinQ a b c = true ↔ (a ≤ c ∧ c ≤ b) ∨ (b ≤ c ∧ c ≤ a) := by
 unfold withinQ midQ
 by_cases h : b < a
 ·rw [if_pos h]
  simp only [Bool.and_eq_true, Bool.not_eq_true', decide_eq_false_iff_not]
  grind
 ·rw [if_neg h]
  simp only [Bool.and_eq_true, Bool.not_eq_true', decide_eq_false_iff_not]
  grind
theorem within_param (a b f : Rat) : withinQ a b (a + f * (b - a)) = true ↔ a = b ∨ (0 ≤ f ∧ f ≤ 1) := by
 rw [withinQ_iff]
 by_cases h : a = b
 ·subst h
  constructor
  ·intro _; exact .inl rfl
  ·intro _
   have : a + f * (a - a) = a := by grind
   rw [this]; exact .inl ⟨Rat.le_refl, Rat.le_refl⟩
 ·rcases (show a < b ∨ b < a by grind) with g | g
  ·have p : 0 < b - a := by grind
   have e1 := scale_nonneg (f := f) p
   have e2 := scale_nonneg (f := 1 - f) p
   have e3 : (1 - f) * (b - a) = (b - a) - f * (b - a) := by grind
   rw [e3] at e2
   generalize f * (b - a) = t at *
   grind
  ·have p : 0 < a - b := by grind
   have e1 := scale_nonneg (f := f) p
   have e2 := scale_nonneg (f := 1 - f) p
   have e3 : (1 - f) * (a - b) = (a - b) + f * (b - a) := by grind
   have e4 : f * (a - b) = -(f * (b - a)) := by grind
   rw [e3] at e2
   rw [e4] at e1
   generalize f * (b - a) = t at *
   grind
theorem turn_param (ax ay bx b_y f : Rat) : turnQ ax ay bx b_y (ax + f * (bx - ax)) (ay + f * (b_y - ay)) = 0 := by
 rw [turnQ_eq, ← sgQ_zero]; congr 1; grind
theorem on_param (ax ay bx b_y f : Rat) (hv : ax ≠ bx ∨ ay ≠ b_y) : onQ ax ay bx b_y (ax + f * (bx - ax)) (ay + f * (b_y - ay)) = decide (0 ≤ f ∧ f ≤ 1) := by
 have h1 := within_param ax bx f
 have h2 := within_param ay b_y f
 unfold onQ
 rw [turn_param]
 by_cases h : 0 ≤ f ∧ f ≤ 1
 ·rw [h1.2 (.inr h), h2.2 (.inr h), decide_eq_true h]; rfl
 ·rw [decide_eq_false h]
  rcases hv with hv | hv
  ·have : withinQ ax bx (ax + f * (bx - ax)) = false := Bool.eq_false_iff.2 fun e => by
    rcases h1.1 e with g | g
    ·exact hv g
    ·exact h g
   rw [this]; rfl
  ·have : withinQ ay b_y (ay + f * (b_y - ay)) = false := Bool.eq_false_iff.2 fun e => by
    rcases h2.1 e with g | g
    ·exact hv g
    ·exact h g
   rw [this]; cases withinQ ax bx (ax + f * (bx - ax)) <;> rfl
theorem quot_mul {n d : Int} (hd : d ≠ 0) : ((n : Rat) / (d : Rat)) * (d : Rat) = (n : Rat) := by
 have h1 : (d : Rat) ≠ 0 := fun e => hd (by have e2 : (d : Rat) = ((0 : Int) : Rat) := e; exact Rat.intCast_inj.1 e2)
 grind
theorem share_q (n d : Int) (hd : d ≠ 0) : shareB n d = decide (0 ≤ (n : Rat) / (d : Rat) ∧ (n : Rat) / (d : Rat) ≤ 1) := by
 have h := quot_mul (n := n) hd
 generalize (n : Rat) / (d : Rat) = f at *
 unfold shareB
 by_cases g : d < 0
 ·rw [if_pos g]
  have p : (0 : Rat) < -(d : Rat) := by
   have : (((0 : Int)) : Rat) < ((-d : Int) : Rat) := Rat.intCast_lt_intCast.2 (by omega)
   rw [Rat.intCast_neg] at this; exact this
  have e1 := scale_nonneg (f := f) p
  have e2 := scale_nonneg (f := 1 - f) p
  have e3 : f * -(d : Rat) = ((-n : Int) : Rat) := by rw [Rat.intCast_neg]; grind
  have e4 : (1 - f) * -(d : Rat) = ((n - d : Int) : Rat) := by rw [Rat.intCast_sub]; grind
  rw [e3] at e1
  rw [e4] at e2
  have z : ((0 : Int) : Rat) = 0 := rfl
  rw [← z, Rat.intCast_le_intCast] at e1 e2
  rw [z] at e1 e2
  rw [← Bool.decide_and]
  refine decide_eq_decide.2 ⟨fun k => ⟨e1.1 k.1, ?_⟩, fun k => ⟨e1.2 k.1, ?_⟩⟩
  ·have := e2.1 (by omega); grind
  ·have := e2.2 (by grind); omega
 ·rw [if_neg g]
  have p : (0 : Rat) < (d : Rat) := by
   have : (((0 : Int)) : Rat) < ((d : Int) : Rat) := Rat.intCast_lt_intCast.2 (by omega)
   exact this
  have e1 := scale_nonneg (f := f) p
  have e2 := scale_nonneg (f := 1 - f) p
  have e4 : (1 - f) * (d : Rat) = ((d - n : Int) : Rat) := by rw [Rat.intCast_sub]; grind
  rw [h] at e1
  rw [e4] at e2
  have z : ((0 : Int) : Rat) = 0 := rfl
  rw [← z, Rat.intCast_le_intCast] at e1 e2
  rw [z] at e1 e2
  rw [← Bool.decide_and]
  refine decide_eq_decide.2 ⟨fun k => ⟨e1.1 k.1, ?_⟩, fun k => ⟨e1.2 k.1, ?_⟩⟩
  ·have := e2.1 (by omega); grind
  ·have := e2.2 (by grind); omega
def apartB (ax ay bx b_y cx cy dx dy : Int) : Bool :=
 decide (max ax bx < min cx dx) || decide (max cx dx < min ax bx) || decide (max ay b_y < min cy dy) || decide (max cy dy < min ay b_y)
def ends2 (l : List (Rat × Rat)) : List (Rat × Rat) := if 2 < l.length then [l.getD 0 (0, 0), l.getD (l.length - 1) (0, 0)] else l
def endsQ (ax ay bx b_y cx cy dx dy : Rat) : List (Rat × Rat) :=
 (if onQ cx cy dx dy ax ay = true then [(ax, ay)] else []) ++ (if onQ cx cy dx dy bx b_y = true then [(bx, b_y)] else []) ++
  (if onQ ax ay bx b_y cx cy = true then [(cx, cy)] else []) ++ (if onQ ax ay bx b_y dx dy = true then [(dx, dy)] else [])
def lineQ (ax ay bx b_y cx cy dx dy f : Rat) : List (Rat × Rat) :=
 if onQ ax ay bx b_y (ax + f * (bx - ax)) (ay + f * (b_y - ay)) = true ∧ onQ cx cy dx dy (ax + f * (bx - ax)) (ay + f * (b_y - ay)) = true then [(ax + f * (bx - ax), ay + f * (b_y - ay))] else []
def rmeetQ (ax ay bx b_y cx cy dx dy : Int) : List (Rat × Rat) :=
 if (fitB ax ay && fitB bx b_y) = true ∧ (fitB cx cy && fitB dx dy) = true then
  (if apartB ax ay bx b_y cx cy dx dy = true then []
   else if cmpQ (areaQ (cx : Rat) (cy : Rat) (dx : Rat) (dy : Rat) (ax : Rat) (ay : Rat)) (areaQ (cx : Rat) (cy : Rat) (dx : Rat) (dy : Rat) (bx : Rat) (b_y : Rat)) ≠ 0 then
   lineQ (ax : Rat) (ay : Rat) (bx : Rat) (b_y : Rat) (cx : Rat) (cy : Rat) (dx : Rat) (dy : Rat)
    (areaQ (cx : Rat) (cy : Rat) (dx : Rat) (dy : Rat) (ax : Rat) (ay : Rat) / (areaQ (cx : Rat) (cy : Rat) (dx : Rat) (dy : Rat) (ax : Rat) (ay : Rat) - areaQ (cx : Rat) (cy : Rat) (dx : Rat) (dy : Rat) (bx : Rat) (b_y : Rat)))
   else ends2 (rowQ (endsQ (ax : Rat) (ay : Rat) (bx : Rat) (b_y : Rat) (cx : Rat) (cy : Rat) (dx : Rat) (dy : Rat))))
 else []
theorem cramer {ax ay bx b_y cx cy dx dy f g D : Rat} (hD : D = (bx - ax) * (dy - cy) - (b_y - ay) * (dx - cx)) (h0 : D ≠ 0) (hf : f * D = (cx - ax) * (dy - cy) - (cy - ay) * (dx - cx)) (hg : g * D = (cx - ax) * (b_y - ay) - (cy - ay) * (bx - ax)) :
  ax + f * (bx - ax) = cx + g * (dx - cx) ∧ ay + f * (b_y - ay) = cy + g * (dy - cy) := by
 have e1 : (ax + f * (bx - ax) - (cx + g * (dx - cx))) * D = 0 := by grind
 have e2 : (ay + f * (b_y - ay) - (cy + g * (dy - cy))) * D = 0 := by grind
 have c : ∀ x : Rat, x * D = 0 → x = 0 := fun x h => by
  rcases Rat.mul_eq_zero.1 h with h | h
  ·exact h
  ·exact absurd h h0
 have r1 := c _ e1
 have r2 := c _ e2
 constructor <;> grind
theorem not_apart {ax ay bx b_y cx cy dx dy : Int} {X Y : Rat} (h1 : onQ (ax : Rat) (ay : Rat) (bx : Rat) (b_y : Rat) X Y = true) (h2 : onQ (cx : Rat) (cy : Rat) (dx : Rat) (dy : Rat) X Y = true) : apartB ax ay bx b_y cx cy dx dy = false := by
 unfold onQ at h1 h2
 simp only [Bool.and_eq_true] at h1 h2
 have a1 := withinQ_iff.1 h1.1.1
 have a2 := withinQ_iff.1 h1.1.2
 have a3 := withinQ_iff.1 h2.1.1
 have a4 := withinQ_iff.1 h2.1.2
 have key : ∀ (p q r s : Int) (Z : Rat), (((p : Rat) ≤ Z ∧ Z ≤ (q : Rat)) ∨ ((q : Rat) ≤ Z ∧ Z ≤ (p : Rat))) → (((r : Rat) ≤ Z ∧ Z ≤ (s : Rat)) ∨ ((s : Rat) ≤ Z ∧ Z ≤ (r : Rat))) → ¬ max p q < min r s := by
  intro p q r s Z u v h
  have l1 : p < r ∧ p < s ∧ q < r ∧ q < s := by omega
  have m1 := Rat.intCast_lt_intCast.2 l1.1
  have m2 := Rat.intCast_lt_intCast.2 l1.2.1
  have m3 := Rat.intCast_lt_intCast.2 l1.2.2.1
  have m4 := Rat.intCast_lt_intCast.2 l1.2.2.2
  grind
 unfold apartB
 rw [decide_eq_false (key _ _ _ _ X a1 a3), decide_eq_false (key _ _ _ _ X a3 a1), decide_eq_false (key _ _ _ _ Y a2 a4), decide_eq_false (key _ _ _ _ Y a4 a2)]
 rfl
theorem meet_cross (ax ay bx b_y cx cy dx dy : Int) (hs : (fitB ax ay && fitB bx b_y) = true ∧ (fitB cx cy && fitB dx dy) = true) (hD : crossZ (bx - ax) (b_y - ay) (dx - cx) (dy - cy) ≠ 0) :
  meetQ ax ay bx b_y cx cy dx dy = rmeetQ ax ay bx b_y cx cy dx dy := by
 obtain ⟨D, eD⟩ : ∃ D, crossZ (bx - ax) (b_y - ay) (dx - cx) (dy - cy) = D := ⟨_, rfl⟩
 obtain ⟨n, en⟩ : ∃ n, crossZ (cx - ax) (cy - ay) (dx - cx) (dy - cy) = n := ⟨_, rfl⟩
 obtain ⟨m, em⟩ : ∃ m, crossZ (cx - ax) (cy - ay) (bx - ax) (b_y - ay) = m := ⟨_, rfl⟩
 rw [eD] at hD
 have hL : lieZ ax ay bx b_y cx cy dx dy = if shareB n D = true ∧ shareB m D = true then (1, n, D) else (0, 0, 0) := by
  unfold lieZ
  simp only [eD, en, em]
  rw [if_neg hD]
 have rD : (D : Rat) = ((bx : Rat) - ax) * ((dy : Rat) - cy) - ((b_y : Rat) - ay) * ((dx : Rat) - cx) := by
  rw [← eD]; unfold crossZ; simp only [Rat.intCast_sub, Rat.intCast_mul]
 have rn : (n : Rat) = ((cx : Rat) - ax) * ((dy : Rat) - cy) - ((cy : Rat) - ay) * ((dx : Rat) - cx) := by
  rw [← en]; unfold crossZ; simp only [Rat.intCast_sub, Rat.intCast_mul]
 have rm : (m : Rat) = ((cx : Rat) - ax) * ((b_y : Rat) - ay) - ((cy : Rat) - ay) * ((bx : Rat) - ax) := by
  rw [← em]; unfold crossZ; simp only [Rat.intCast_sub, Rat.intCast_mul]
 have D0 : (D : Rat) ≠ 0 := fun e => hD (by have e2 : (D : Rat) = ((0 : Int) : Rat) := e; exact Rat.intCast_inj.1 e2)
 have p1 : areaQ (cx : Rat) (cy : Rat) (dx : Rat) (dy : Rat) (ax : Rat) (ay : Rat) = (n : Rat) := by rw [areaQ_eq, rn]; grind
 have p2 : areaQ (cx : Rat) (cy : Rat) (dx : Rat) (dy : Rat) (ax : Rat) (ay : Rat) - areaQ (cx : Rat) (cy : Rat) (dx : Rat) (dy : Rat) (bx : Rat) (b_y : Rat) = (D : Rat) := by rw [areaQ_eq, areaQ_eq, rD]; grind
 have p3 : cmpQ (areaQ (cx : Rat) (cy : Rat) (dx : Rat) (dy : Rat) (ax : Rat) (ay : Rat)) (areaQ (cx : Rat) (cy : Rat) (dx : Rat) (dy : Rat) (bx : Rat) (b_y : Rat)) ≠ 0 := fun e => D0 (by rw [← p2, cmpQ_zero.1 e]; grind)
 have f1 := quot_mul (n := n) hD
 have g1 := quot_mul (n := m) hD
 obtain ⟨c1, c2⟩ := cramer rD D0 (f1.trans rn) (g1.trans rm)
 have v0 : (ax : Rat) ≠ bx ∨ (ay : Rat) ≠ b_y := by
  refine Decidable.byContradiction fun h => D0 ?_
  rw [rD]; grind
 have w0 : (cx : Rat) ≠ dx ∨ (cy : Rat) ≠ dy := by
  refine Decidable.byContradiction fun h => D0 ?_
  rw [rD]; grind
 have o1 := on_param (ax : Rat) ay bx b_y ((n : Rat) / (D : Rat)) v0
 have o2 := on_param (cx : Rat) cy dx dy ((m : Rat) / (D : Rat)) w0
 rw [← share_q n D hD] at o1
 rw [← share_q m D hD, ← c1, ← c2] at o2
 have x1 : (ax : Rat) + (((bx - ax) * n : Int) : Rat) / (D : Rat) = (ax : Rat) + (n : Rat) / (D : Rat) * ((bx : Rat) - ax) := by rw [Rat.intCast_mul, Rat.intCast_sub]; grind
 have x2 : (ay : Rat) + (((b_y - ay) * n : Int) : Rat) / (D : Rat) = (ay : Rat) + (n : Rat) / (D : Rat) * ((b_y : Rat) - ay) := by rw [Rat.intCast_mul, Rat.intCast_sub]; grind
 unfold meetQ rmeetQ
 have p2' := p2
 rw [p1] at p2'
 rw [if_pos hs, if_pos hs, hL, if_pos p3, p1, p2']
 unfold lineQ
 rw [o1, o2]
 by_cases hsh : shareB n D = true ∧ shareB m D = true
 ·have na := not_apart (o1.trans hsh.1) (o2.trans hsh.2)
  have e2 : ¬ apartB ax ay bx b_y cx cy dx dy = true := by rw [na]; simp
  simp only [if_pos hsh, if_neg e2]
  rw [x1, x2, if_pos trivial]
 ·rw [if_neg hsh, if_neg hsh]
  simp
def spotLe (p q : Rat × Rat) : Prop := p = q ∨ spotLt p q
theorem spotLe_anti {p q : Rat × Rat} (h : spotLe p q) (k : spotLe q p) : p = q := by
 rcases h with h | h
 ·exact h
 ·rcases k with k | k
  ·exact k.symm
  ·exact (spotLt_irr h k).elim
theorem spotLe_trans {p q r : Rat × Rat} (h : spotLe p q) (k : spotLe q r) : spotLe p r := by
 rcases h with rfl | h
 ·exact k
 ·rcases k with rfl | k
  ·exact .inr h
  ·exact .inr (spotLt_trans h k)
theorem spotLe_total (p q : Rat × Rat) : spotLe p q ∨ spotLt q p := by
 rcases spotLt_tri p q with h | h | h
 ·exact .inl (.inr h)
 ·exact .inl (.inl h)
 ·exact .inr h
theorem ends2_none {R : List (Rat × Rat)} (h : ∀ q, q ∉ R) : ends2 R = [] := by
 have : R = [] := List.eq_nil_iff_forall_not_mem.2 h
 subst this; rfl
theorem sorted_head {R : List (Rat × Rat)} {lo : Rat × Rat} (hs : R.Pairwise spotLt) (h1 : lo ∈ R) (h2 : ∀ q ∈ R, spotLe lo q) : ∃ T, R = lo :: T := by
 cases R with
 | nil => simp at h1
 | cons r T =>
  refine ⟨T, ?_⟩
  rcases List.mem_cons.1 h1 with e | e
  ·rw [e]
  ·have a := (List.pairwise_cons.1 hs).1 lo e
   have b := h2 r List.mem_cons_self
   rw [spotLe_anti b (.inr a)]
theorem sorted_last {R : List (Rat × Rat)} {hi : Rat × Rat} (hs : R.Pairwise spotLt) (h1 : hi ∈ R) (h2 : ∀ q ∈ R, spotLe q hi) : ∃ T, R = T ++ [hi] := by
 rcases List.eq_nil_or_concat R with e | ⟨T, r, e⟩
 ·subst e; simp at h1
 ·rw [List.concat_eq_append] at e
  subst e
  refine ⟨T, ?_⟩
  have hp := List.pairwise_append.1 hs
  rcases List.mem_append.1 h1 with e | e
  ·have a := hp.2.2 hi e r (by simp)
   have b := h2 r (by simp)
   rw [spotLe_anti b (.inr a)]
  ·have : hi = r := by simpa using e
   rw [this]
theorem ends2_span {R : List (Rat × Rat)} {lo hi : Rat × Rat} (hs : R.Pairwise spotLt) (h1 : lo ∈ R) (h2 : hi ∈ R) (h3 : ∀ q ∈ R, spotLe lo q ∧ spotLe q hi) : ends2 R = if lo = hi then [lo] else [lo, hi] := by
 obtain ⟨T, hT⟩ := sorted_head hs h1 (fun q hq => (h3 q hq).1)
 obtain ⟨U, hU⟩ := sorted_last hs h2 (fun q hq => (h3 q hq).2)
 by_cases e : lo = hi
 ·rw [if_pos e]
  subst e
  have hT0 : T = [] := by
   refine List.eq_nil_iff_forall_not_mem.2 fun q hq => ?_
   have a : spotLt lo q := by rw [hT] at hs; exact (List.pairwise_cons.1 hs).1 q hq
   have b := (h3 q (by rw [hT]; exact List.mem_cons_of_mem _ hq)).2
   rcases b with b | b
   ·rw [b] at a; exact spotLt_irr a a
   ·exact spotLt_irr a b
  rw [hT, hT0]; rfl
 ·rw [if_neg e]
  unfold ends2
  by_cases hl : 2 < R.length
  ·rw [if_pos hl]
   have g1 : R.getD 0 (0, 0) = lo := by rw [hT]; rfl
   have g2 : R.getD (R.length - 1) (0, 0) = hi := by
    rw [hU]; simp
   rw [g1, g2]
  ·rw [if_neg hl]
   cases T with
   | nil =>
    rw [hT] at h2
    exact absurd (by simpa using h2 : hi = lo).symm e
   | cons t T =>
    cases T with
    | nil =>
     rw [hT] at h2
     have : hi = t := by
      rcases List.mem_cons.1 h2 with k | k
      ·exact absurd k.symm e
      ·simpa using k
     rw [hT, this]
    | cons t' T => rw [hT] at hl; simp at hl
theorem onQ_swap (ax ay bx b_y cx cy : Rat) : onQ bx b_y ax ay cx cy = onQ ax ay bx b_y cx cy := by
 have w : ∀ a b c : Rat, withinQ b a c = withinQ a b c := fun a b c => Bool.eq_iff_iff.2 (by rw [withinQ_iff, withinQ_iff]; exact Or.comm)
 have t : turnQ bx b_y ax ay cx cy = 0 ↔ turnQ ax ay bx b_y cx cy = 0 := by
  rw [turnQ_eq, turnQ_eq]
  have e : (ax - bx) * (cy - b_y) - (ay - b_y) * (cx - bx) = -((bx - ax) * (cy - ay) - (b_y - ay) * (cx - ax)) := by grind
  rw [e, sgQ_neg]; omega
 unfold onQ
 have t2 : decide (turnQ bx b_y ax ay cx cy = 0) = decide (turnQ ax ay bx b_y cx cy = 0) := decide_eq_decide.2 t
 rw [w ax bx cx, w ay b_y cy, t2]
theorem on_lex {cx cy dx dy ax ay : Rat} (hl : spotLt (cx, cy) (dx, dy)) (ht : turnQ cx cy dx dy ax ay = 0) :
  onQ cx cy dx dy ax ay = true ↔ spotLe (cx, cy) (ax, ay) ∧ spotLe (ax, ay) (dx, dy) := by
 have ht2 : (dx - cx) * (ay - cy) - (dy - cy) * (ax - cx) = 0 := by
  rw [turnQ_eq] at ht
  unfold sgQ at ht
  split at ht
  ·omega
  ·split at ht
   ·omega
   ·grind
 have hp : ∃ f, ax = cx + f * (dx - cx) ∧ ay = cy + f * (dy - cy) := by
  by_cases h : dx = cx
  ·have h2 : dy - cy ≠ 0 := by unfold spotLt at hl; simp at hl; grind
   exact ⟨(ay - cy) / (dy - cy), by grind, by grind⟩
  ·have h2 : dx - cx ≠ 0 := by grind
   exact ⟨(ax - cx) / (dx - cx), by grind, by grind⟩
 obtain ⟨f, rfl, rfl⟩ := hp
 rw [on_param _ _ _ _ _ (by unfold spotLt at hl; simp at hl; grind), decide_eq_true_eq]
 unfold spotLe spotLt at *
 simp only [Prod.mk.injEq] at *
 rcases hl with g | ⟨g, g'⟩
 ·have p : 0 < dx - cx := by grind
  have e1 := scale_nonneg (f := f) p
  have e2 := scale_nonneg (f := 1 - f) p
  have e3 : (1 - f) * (dx - cx) = (dx - cx) - f * (dx - cx) := by grind
  rw [e3] at e2
  by_cases z : f = 0
  ·subst z; grind
  ·by_cases z1 : f = 1
   ·subst z1; grind
   ·have n1 : f * (dx - cx) ≠ 0 := fun e => by rcases Rat.mul_eq_zero.1 e with e | e <;> grind
    have n2 : (1 - f) * (dx - cx) ≠ 0 := fun e => by rcases Rat.mul_eq_zero.1 e with e | e <;> grind
    rw [e3] at n2
    generalize f * (dx - cx) = t at *
    generalize f * (dy - cy) = u at *
    grind
 ·subst g
  have p : 0 < dy - cy := by grind
  have e1 := scale_nonneg (f := f) p
  have e2 := scale_nonneg (f := 1 - f) p
  have e3 : (1 - f) * (dy - cy) = (dy - cy) - f * (dy - cy) := by grind
  rw [e3] at e2
  have e4 : f * (cx - cx) = 0 := by grind
  rw [e4]
  generalize f * (dy - cy) = u at *
  grind
end Go.Proofs.YtmommicmblfibaaGreat
