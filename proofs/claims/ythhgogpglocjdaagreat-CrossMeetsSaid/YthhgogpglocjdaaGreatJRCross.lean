/- r17.Cross, the document's own answer whether two ways go through one another. Condition: ints of 64 bits. -/
import Derived.Test.YthhgogpglocjdaaGreatJRMeet2
import Derived.Test.YthhgogpglocjdaaGreatJTakeD
namespace Go.Proofs.YthhgogpglocjdaaGreat
open Go.RowKit

/-- More or fewer points than one, or a way that is a point. -/
def rcB (ax ay bx b_y cx cy dx dy : Int) (n : Nat) : Bool := !decide (n = 1) || (decide (ax = bx) && decide (ay = b_y)) || (decide (cx = dx) && decide (cy = dy))
/-- One point, that is no end. -/
def rcrossB (ax ay bx b_y cx cy dx dy : Int) (l : List (Rat × Rat)) : Bool :=
  !rcB ax ay bx b_y cx cy dx dy l.length && (!decide (spotCmp (l.getD 0 (0, 0)).1 (l.getD 0 (0, 0)).2 (ax : Rat) (ay : Rat) = 0) && !decide (spotCmp (l.getD 0 (0, 0)).1 (l.getD 0 (0, 0)).2 (bx : Rat) (b_y : Rat) = 0) &&
    !decide (spotCmp (l.getD 0 (0, 0)).1 (l.getD 0 (0, 0)).2 (cx : Rat) (cy : Rat) = 0) && !decide (spotCmp (l.getD 0 (0, 0)).1 (l.getD 0 (0, 0)).2 (dx : Rat) (dy : Rat) = 0))
theorem rcrossB_iff (ax ay bx b_y cx cy dx dy : Int) (l : List (Rat × Rat)) : rcrossB ax ay bx b_y cx cy dx dy l = true ↔ rcrossP ax ay bx b_y cx cy dx dy l := by
  have f : ∀ x y : Int, spotCmp (l.getD 0 (0, 0)).1 (l.getD 0 (0, 0)).2 (x : Rat) (y : Rat) = 0 ↔ l.getD 0 (0, 0) = castP (x, y) := fun x y => spotCmp_zero (p := l.getD 0 (0, 0)) (q := castP (x, y))
  unfold rcrossB rcB rcrossP
  simp only [Bool.and_eq_true, Bool.not_eq_true', Bool.or_eq_false_iff, Bool.and_eq_false_iff, Bool.not_eq_false', decide_eq_true_eq, decide_eq_false_iff_not, f, ne_eq]
  constructor
  · rintro ⟨⟨⟨h1, h2⟩, h3⟩, ⟨⟨h4, h5⟩, h6⟩, h7⟩
    exact ⟨h1, fun h => h2.elim (fun k => k h.1) (fun k => k h.2), fun h => h3.elim (fun k => k h.1) (fun k => k h.2), h4, h5, h6, h7⟩
  · rintro ⟨h1, h2, h3, h4, h5, h6, h7⟩
    refine ⟨⟨⟨h1, ?_⟩, ?_⟩, ⟨⟨h4, h5⟩, h6⟩, h7⟩
    · by_cases h : ax = bx
      · exact .inr fun k => h2 ⟨h, k⟩
      · exact .inl h
    · by_cases h : cx = dx
      · exact .inr fun k => h3 ⟨h, k⟩
      · exact .inl h
theorem crossB_eq (ax ay bx b_y cx cy dx dy : Int) : crossB ax ay bx b_y cx cy dx dy = rcrossB ax ay bx b_y cx cy dx dy (rmeetQ ax ay bx b_y cx cy dx dy) := by
  rw [Bool.eq_iff_iff, rcrossB_iff, ← meetQ_eq]
  exact cross_eq ax ay bx b_y cx cy dx dy

set_option maxRecDepth 100000 in
set_option maxHeartbeats 8000000 in
theorem rcross_any (ax ay bx b_y cx cy dx dy : Int) (w : World) (ra : In64 ax ay) (rb : In64 bx b_y) (rc : In64 cx cy) (rd : In64 dx dy) :
    Calls Tryz.prog 10 #[segV ax ay bx b_y, segV cx cy dx dy] w fun e w' => e = .returned (.bool (rcrossB ax ay bx b_y cx cy dx dy (rmeetQ ax ay bx b_y cx cy dx dy))) ∧ Grew w w' := by
  obtain ⟨L, hL⟩ : ∃ L, rmeetQ ax ay bx b_y cx cy dx dy = L := ⟨_, rfl⟩
  rw [hL]
  have hq : ∀ p, p ∈ L → QB p.1 7 ∧ QB p.2 7 := fun p hp => rmeet_qb (hL ▸ hp)
  obtain ⟨ML, hML⟩ : ∃ ML, rcrossB ax ay bx b_y cx cy dx dy L = ML := ⟨_, rfl⟩
  rw [hML]
  unfold rcrossB at hML
  replace hML := Lib.hid hML
  replace hL := Lib.hid hL
  replace hq := Lib.hid hq
  have qa := Lib.hid (QB_i64 ra.1 ra.2.1)
  replace ra := Lib.hid ra
  replace rb := Lib.hid rb
  replace rc := Lib.hid rc
  replace rd := Lib.hid rd
  clear qa
  go_enter Tryz.func10, Tryz.ntmps10
  go_wp2_with fail
  refine gen_calls ?_
  intro W0 hW0
  have G0 : Grew w W0 := by rw [hW0]; exact ((Grew.refl w).alloc _).alloc _
  have P : Box4 W0 (w.heap.size) 0 (.int .i64 ax) (.int .i64 ay) (.int .i64 bx) (.int .i64 b_y) := by rw [hW0]; exact ⟨by simp [go_sem], by simp [go_sem], by simp [go_sem], by simp [go_sem]⟩
  replace P := Lib.hid P
  have Q : Box4 W0 (w.heap.size + 1) 0 (.int .i64 cx) (.int .i64 cy) (.int .i64 dx) (.int .i64 dy) := by rw [hW0]; exact ⟨by simp [go_sem], by simp [go_sem], by simp [go_sem], by simp [go_sem]⟩
  replace Q := Lib.hid Q
  have z0 : w.heap.size < W0.heap.size := by rw [hW0]; simp <;> omega
  replace z0 := Lib.hid z0
  have z1 : w.heap.size + 1 < W0.heap.size := by rw [hW0]; simp <;> omega
  replace z1 := Lib.hid z1
  clear hW0
  replace G0 := Lib.hid G0
  refine (rmeet_any ax ay bx b_y cx cy dx dy _ ra.out rb.out rc.out rd.out).mono ?_
  rintro e w1 ⟨v, rfl, hv, g1⟩
  replace P := Lib.hid (P.out.grew g1)
  replace Q := Lib.hid (Q.out.grew g1)
  replace z0 := Lib.hid (lt_grew z0.out g1)
  replace z1 := Lib.hid (lt_grew z1.out g1)
  replace G0 := Lib.hid (G0.out.trans g1)
  clear g1
  rw [hL.out] at hv
  obtain ⟨A, c, rfl, r1, r2, r3⟩ := hv
  obtain ⟨n, hn⟩ : ∃ n, L.length = n := ⟨_, rfl⟩
  have hM := hML.out
  rw [hn] at hM r1 r3 ⊢
  obtain ⟨B, hB⟩ : ∃ B, rcB ax ay bx b_y cx cy dx dy n = B := ⟨_, rfl⟩
  rw [hB] at hM
  unfold rcB at hB
  replace hM := Lib.hid hM
  replace hB := Lib.hid hB
  replace r3 := Lib.hid r3
  replace hn := Lib.hid hn
  have hn9 : n ≤ 9223372036854775807 := by omega
  clear hML hL
  go_upto_region 2 with fail
  go_cut [25] from 9 to 25 (fun s25 wx => s25 = .bool B ∧ Grew w1 wx)
  · skip
    have GW := Lib.hid (Grew.refl w1)
    have hBo := hB.out
    clear hB hM
    by_cases n1 : n = 1
    · subst n1
      by_cases a1 : ax = bx
      · subst a1
        by_cases a2 : ay = b_y
        · subst a2
          have bb := Lib.hid (show true = B by rw [← hBo]; simp)
          clear hBo

          skip
          obtain ⟨P0, P1, P2, P3⟩ := P.out
          obtain ⟨Q0, Q1, Q2, Q3⟩ := Q.out
          go_wp2_with fail
          clear P0 P1 P2 P3 Q0 Q1 Q2 Q3
          go_meet
          exact ⟨by rw [← bb.out], GW.out⟩
        · by_cases c1 : cx = dx
          · subst c1
            by_cases c2 : cy = dy
            · subst c2
              have bb := Lib.hid (show true = B by rw [← hBo]; simp)
              clear hBo

              skip
              skip
              obtain ⟨P0, P1, P2, P3⟩ := P.out
              obtain ⟨Q0, Q1, Q2, Q3⟩ := Q.out
              go_wp2_with fail
              clear P0 P1 P2 P3 Q0 Q1 Q2 Q3
              go_meet
              exact ⟨by rw [← bb.out], GW.out⟩
            · have bb := Lib.hid (show false = B by rw [← hBo]; simp [a2, c2])
              clear hBo

              skip
              skip
              obtain ⟨P0, P1, P2, P3⟩ := P.out
              obtain ⟨Q0, Q1, Q2, Q3⟩ := Q.out
              go_wp2_with fail
              clear P0 P1 P2 P3 Q0 Q1 Q2 Q3
              go_meet
              exact ⟨by rw [← bb.out], GW.out⟩
          · have bb := Lib.hid (show false = B by rw [← hBo]; simp [a2, c1])
            clear hBo

            skip
            obtain ⟨P0, P1, P2, P3⟩ := P.out
            obtain ⟨Q0, Q1, Q2, Q3⟩ := Q.out
            go_wp2_with fail
            clear P0 P1 P2 P3 Q0 Q1 Q2 Q3
            go_meet
            exact ⟨by rw [← bb.out], GW.out⟩
      · by_cases c1 : cx = dx
        · subst c1
          by_cases c2 : cy = dy
          · subst c2
            have bb := Lib.hid (show true = B by rw [← hBo]; simp)
            clear hBo

            skip
            obtain ⟨P0, P1, P2, P3⟩ := P.out
            obtain ⟨Q0, Q1, Q2, Q3⟩ := Q.out
            go_wp2_with fail
            clear P0 P1 P2 P3 Q0 Q1 Q2 Q3
            go_meet
            exact ⟨by rw [← bb.out], GW.out⟩
          · have bb := Lib.hid (show false = B by rw [← hBo]; simp [a1, c2])
            clear hBo

            skip
            obtain ⟨P0, P1, P2, P3⟩ := P.out
            obtain ⟨Q0, Q1, Q2, Q3⟩ := Q.out
            go_wp2_with fail
            clear P0 P1 P2 P3 Q0 Q1 Q2 Q3
            go_meet
            exact ⟨by rw [← bb.out], GW.out⟩
        · have bb := Lib.hid (show false = B by rw [← hBo]; simp [a1, c1])
          clear hBo

          obtain ⟨P0, P1, P2, P3⟩ := P.out
          obtain ⟨Q0, Q1, Q2, Q3⟩ := Q.out
          go_wp2_with fail
          clear P0 P1 P2 P3 Q0 Q1 Q2 Q3
          go_meet
          exact ⟨by rw [← bb.out], GW.out⟩
    · have bb := Lib.hid (show true = B by rw [← hBo]; simp [n1])
      have n2 : ((n : Int) != 1) = true := by simp; omega
      have n3 : ((n : Int) == 1) = false := by simp; omega
      clear hBo
      go_wp2_with fail
      go_meet
      exact ⟨by rw [← bb.out], GW.out⟩
  · obtain ⟨rfl, GA⟩ := hcut

    have GA9 := Lib.hid GA
    replace P := Lib.hid (P.out.grew GA)
    replace Q := Lib.hid (Q.out.grew GA)
    replace z0 := Lib.hid (lt_grew z0.out GA)
    replace z1 := Lib.hid (lt_grew z1.out GA)
    replace G0 := Lib.hid (G0.out.trans GA)
    clear GA
    cases B
    · have hBo := hB.out
      have hn1 : n = 1 := by
        simp only [Bool.or_eq_false_iff, Bool.not_eq_false', decide_eq_true_eq] at hBo
        exact hBo.1.1
      clear hBo
      subst hn1
      obtain ⟨b, o, rfl, he⟩ := r3.out (by omega)
      obtain ⟨⟨X, Y⟩, hp0⟩ : ∃ p, L[0]? = some p := ⟨L[0]'(by rw [hn.out]; omega), List.getElem?_eq_getElem _⟩
      obtain ⟨b21, A21, n21, c21, C21, m21, d21, b22, A22, n22, c22, C22, m22, d22, ⟨e0, e1, e2, e3, e4, e5⟩, S1⟩ := he 0 _ hp0
      have hxy := hq.out _ (List.mem_of_getElem? hp0)
      have g0 : L.getD 0 (0, 0) = (X, Y) := by rw [List.getD_eq_getElem?_getD, hp0]; rfl
      have hM1 := hM.out
      rw [g0] at hM1
      replace e0 : w1.cell? ⟨b, o, none⟩ = some (.bool b21) := by simpa using e0
      replace e1 : w1.cell? ⟨b, o + 1, none⟩ = some (.slice A21 n21 c21) := by simpa using e1
      replace e2 : w1.cell? ⟨b, o + 2, none⟩ = some (.slice C21 m21 d21) := by simpa using e2
      replace e3 : w1.cell? ⟨b, o + 3, none⟩ = some (.bool b22) := by simpa using e3
      replace e4 : w1.cell? ⟨b, o + 4, none⟩ = some (.slice A22 n22 c22) := by simpa using e4
      replace e5 : w1.cell? ⟨b, o + 5, none⟩ = some (.slice C22 m22 d22) := by simpa using e5
      replace S1 := SpotC.kept S1 GA9.out.keeps
      replace S1 := Lib.hid (SpotC.r S1 hxy.1 hxy.2)
      replace e0 := Lib.hid (GA9.out.cell e0)
      replace e1 := Lib.hid (GA9.out.cell e1)
      replace e2 := Lib.hid (GA9.out.cell e2)
      replace e3 := Lib.hid (GA9.out.cell e3)
      replace e4 := Lib.hid (GA9.out.cell e4)
      replace e5 := Lib.hid (GA9.out.cell e5)
      clear he hp0 hxy g0 hM hq hB
      simp only [] at hM1
      obtain ⟨t1, j1⟩ : ∃ t, spotCmp X Y (ax : Rat) (ay : Rat) = t := ⟨_, rfl⟩
      obtain ⟨t2, j2⟩ : ∃ t, spotCmp X Y (bx : Rat) (b_y : Rat) = t := ⟨_, rfl⟩
      obtain ⟨t3, j3⟩ : ∃ t, spotCmp X Y (cx : Rat) (cy : Rat) = t := ⟨_, rfl⟩
      obtain ⟨t4, j4⟩ : ∃ t, spotCmp X Y (dx : Rat) (dy : Rat) = t := ⟨_, rfl⟩
      rw [j1, j2, j3, j4] at hM1
      replace hM1 := Lib.hid hM1
      replace j1 := Lib.hid j1
      replace j2 := Lib.hid j2
      replace j3 := Lib.hid j3
      replace j4 := Lib.hid j4
      have qa := Lib.hid (QB_i64 ra.out.1 ra.out.2.1)
      have qa2 := Lib.hid (QB_i64 ra.out.2.2.1 ra.out.2.2.2)
      have qb := Lib.hid (QB_i64 rb.out.1 rb.out.2.1)
      have qb2 := Lib.hid (QB_i64 rb.out.2.2.1 rb.out.2.2.2)
      have qc := Lib.hid (QB_i64 rc.out.1 rc.out.2.1)
      have qc2 := Lib.hid (QB_i64 rc.out.2.2.1 rc.out.2.2.2)
      have qd := Lib.hid (QB_i64 rd.out.1 rd.out.2.1)
      have qd2 := Lib.hid (QB_i64 rd.out.2.2.1 rd.out.2.2.2)
      go_upto_region 4 with fail
      by_cases z1 : t1 = 0
      · subst z1
        have ee := Lib.hid (show false = ML by rw [← hM1.out]; simp)
        clear hM1
        refine wp_region_held_drew (S := fun wv => Grew wc wv) (by kernel_rfl) ((Grew.refl wc).drew) (fun hHeld => ?_)
        replace hHeld := Lib.hid hHeld
        try simp only [Act.put, List.setIfInBounds_toArray, List.set_cons_zero, List.set_cons_succ]
        refine wpAnyH_takeD (i := 0) (d := 26) (v := ?_) rfl rfl (by kernel_rfl) (by kernel_rfl) (by kernel_rfl) (fun _ _ _ h => h) (Or.inl ⟨by rfl, ?_⟩) hHeld.out ?_
        rotate_left
        · intro wv hSw
          replace hSw : Hid (Grew wc wv) := Lib.hid hSw
          go_simp
          try with_reducible rfl
        try simp only [Act.put, List.setIfInBounds_toArray, List.set_cons_zero, List.set_cons_succ]
        refine wpAnyH_takeD (i := 1) (d := 27) (v := ?_) rfl rfl (by kernel_rfl) (by kernel_rfl) (by kernel_rfl) (fun _ _ _ h => h) (Or.inl ⟨by rfl, ?_⟩) hHeld.out ?_
        rotate_left
        · intro wv hSw
          replace hSw : Hid (Grew wc wv) := Lib.hid hSw
          go_simp
          try with_reducible rfl
        try simp only [Act.put, List.setIfInBounds_toArray, List.set_cons_zero, List.set_cons_succ]
        refine wpAnyH_takeD (i := 2) (d := 28) (v := ?_) rfl rfl (by kernel_rfl) (by kernel_rfl) (by kernel_rfl) (fun _ _ _ h => h) (Or.inl ⟨by rfl, ?_⟩) hHeld.out ?_
        rotate_left
        · intro wv hSw
          replace hSw : Hid (Grew wc wv) := Lib.hid hSw
          have t0 := hSw.out.cell e0.out
          have t1 := hSw.out.cell e1.out
          have t2 := hSw.out.cell e2.out
          have t3 := hSw.out.cell e3.out
          have t4 := hSw.out.cell e4.out
          have t5 := hSw.out.cell e5.out
          go_simp
          try with_reducible rfl
        try simp only [Act.put, List.setIfInBounds_toArray, List.set_cons_zero, List.set_cons_succ]
        refine wpAnyH_takeD (i := 3) (d := 29) (v := ?_) rfl rfl (by kernel_rfl) (by kernel_rfl) (by kernel_rfl) (fun _ _ _ h => h) (Or.inl ⟨by rfl, ?_⟩) hHeld.out ?_
        rotate_left
        · intro wv hSw
          replace hSw : Hid (Grew wc wv) := Lib.hid hSw
          go_simp
          try with_reducible rfl
        try simp only [Act.put, List.setIfInBounds_toArray, List.set_cons_zero, List.set_cons_succ]
        refine wpAnyH_takeD (i := 4) (d := 30) (v := ?_) rfl rfl (by kernel_rfl) (by kernel_rfl) (by kernel_rfl) (fun _ _ _ h => h) (Or.inl ⟨by rfl, ?_⟩) hHeld.out ?_
        rotate_left
        · intro wv hSw
          replace hSw : Hid (Grew wc wv) := Lib.hid hSw
          have t0 := hSw.out.cell P.out.p0
          have t1 := hSw.out.cell P.out.p1
          go_simp
          try with_reducible rfl
        try simp only [Act.put, List.setIfInBounds_toArray, List.set_cons_zero, List.set_cons_succ]
        refine wpAnyH_ready (rs := [5]) (by kernel_rfl) (by simp) ?_
        refine AllReadyH.cons rfl (fun KK hKK => ?_) AllReadyH.nil
        go_simp
        refine (rat5_any ax ay _ ra.out.1 ra.out.2.1 ra.out.2.2.1 ra.out.2.2.2).mono ?_
        rintro e wk1 ⟨V, rfl, hV, g⟩
        have gk := hHeld.out.trans g
        have hV := Lib.hid (((hV.d qa.out qa2.out).2).mono (show 2 ≤ 7 by omega))
        clear hHeld
        try dsimp only
        refine hKK.out _ _ gk (fun hHeld => ?_)
        clear gk hKK KK
        replace hHeld := Lib.hid (show Grew wc wk1 from hHeld)
        try simp only [Act.put, List.setIfInBounds_toArray, List.set_cons_zero, List.set_cons_succ]
        refine wpAnyH_ready (rs := [6]) (by kernel_rfl) (by simp) ?_
        refine AllReadyH.cons rfl (fun KK hKK => ?_) AllReadyH.nil
        go_simp
        refine (rscmp_any _ _ X Y (ax : Rat) (ay : Rat) 7 _ (SpotR.kept S1.out hHeld.out.keeps) hV.out (by omega) (by omega)).mono ?_
        rintro e wk2 ⟨rfl, g⟩
        have gk := hHeld.out.trans g
        rw [j1.out]
        clear hV
        clear hHeld
        try dsimp only
        refine hKK.out _ _ gk (fun hHeld => ?_)
        clear gk hKK KK
        replace hHeld := Lib.hid (show Grew wc wk2 from hHeld)
        try simp only [Act.put, List.setIfInBounds_toArray, List.set_cons_zero, List.set_cons_succ]
        refine wpAnyH_takeD (i := 7) (d := 33) (v := ?_) rfl rfl (by kernel_rfl) (by kernel_rfl) (by kernel_rfl) (fun _ _ _ h => h) (Or.inl ⟨by rfl, ?_⟩) hHeld.out ?_
        rotate_left
        · intro wv hSw
          replace hSw : Hid (Grew wc wv) := Lib.hid hSw
          go_simp
          try with_reducible rfl
        try simp only [Act.put, List.setIfInBounds_toArray, List.set_cons_zero, List.set_cons_succ]
        refine wpAnyH_takeD (i := 8) (d := 34) (v := ?_) rfl rfl (by kernel_rfl) (by kernel_rfl) (by kernel_rfl) (fun _ _ _ h => h) (Or.inl ⟨by rfl, ?_⟩) hHeld.out ?_
        rotate_left
        · intro wv hSw
          replace hSw : Hid (Grew wc wv) := Lib.hid hSw
          go_simp
          try with_reducible rfl
        try simp only [Act.put, List.setIfInBounds_toArray, List.set_cons_zero, List.set_cons_succ]
        refine wpAnyH_takeD (i := 9) (d := 35) (v := undef) rfl rfl (by kernel_rfl) (by kernel_rfl) (by kernel_rfl) (fun _ _ _ h => h) (Or.inr ⟨by rfl, rfl⟩) hHeld.out ?_
        try simp only [Act.put, List.setIfInBounds_toArray, List.set_cons_zero, List.set_cons_succ]
        refine wpAnyH_takeD (i := 10) (d := 36) (v := undef) rfl rfl (by kernel_rfl) (by kernel_rfl) (by kernel_rfl) (fun _ _ _ h => h) (Or.inr ⟨by rfl, rfl⟩) hHeld.out ?_
        try simp only [Act.put, List.setIfInBounds_toArray, List.set_cons_zero, List.set_cons_succ]
        refine wpAnyH_takeD (i := 11) (d := 37) (v := undef) rfl rfl (by kernel_rfl) (by kernel_rfl) (by kernel_rfl) (fun _ _ _ h => h) (Or.inr ⟨by rfl, rfl⟩) hHeld.out ?_
        try simp only [Act.put, List.setIfInBounds_toArray, List.set_cons_zero, List.set_cons_succ]
        refine wpAnyH_takeD (i := 12) (d := 38) (v := undef) rfl rfl (by kernel_rfl) (by kernel_rfl) (by kernel_rfl) (fun _ _ _ h => h) (Or.inr ⟨by rfl, rfl⟩) hHeld.out ?_
        try simp only [Act.put, List.setIfInBounds_toArray, List.set_cons_zero, List.set_cons_succ]
        refine wpAnyH_takeD (i := 13) (d := 39) (v := undef) rfl rfl (by kernel_rfl) (by kernel_rfl) (by kernel_rfl) (fun _ _ _ h => h) (Or.inr ⟨by rfl, rfl⟩) hHeld.out ?_
        try simp only [Act.put, List.setIfInBounds_toArray, List.set_cons_zero, List.set_cons_succ]
        refine wpAnyH_takeD (i := 14) (d := 40) (v := undef) rfl rfl (by kernel_rfl) (by kernel_rfl) (by kernel_rfl) (fun _ _ _ h => h) (Or.inr ⟨by rfl, rfl⟩) hHeld.out ?_
        try simp only [Act.put, List.setIfInBounds_toArray, List.set_cons_zero, List.set_cons_succ]
        refine wpAnyH_takeD (i := 15) (d := 41) (v := undef) rfl rfl (by kernel_rfl) (by kernel_rfl) (by kernel_rfl) (fun _ _ _ h => h) (Or.inr ⟨by rfl, rfl⟩) hHeld.out ?_
        try simp only [Act.put, List.setIfInBounds_toArray, List.set_cons_zero, List.set_cons_succ]
        refine wpAnyH_takeD (i := 16) (d := 42) (v := undef) rfl rfl (by kernel_rfl) (by kernel_rfl) (by kernel_rfl) (fun _ _ _ h => h) (Or.inr ⟨by rfl, rfl⟩) hHeld.out ?_
        try simp only [Act.put, List.setIfInBounds_toArray, List.set_cons_zero, List.set_cons_succ]
        refine wpAnyH_takeD (i := 17) (d := 43) (v := ?_) rfl rfl (by kernel_rfl) (by kernel_rfl) (by kernel_rfl) (fun _ _ _ h => h) (Or.inl ⟨by rfl, ?_⟩) hHeld.out ?_
        rotate_left
        · intro wv hSw
          replace hSw : Hid (Grew wc wv) := Lib.hid hSw
          go_simp
          try with_reducible rfl
        try simp only [Act.put, List.setIfInBounds_toArray, List.set_cons_zero, List.set_cons_succ]
        refine wpAnyH_takeD (i := 18) (d := 44) (v := ?_) rfl rfl (by kernel_rfl) (by kernel_rfl) (by kernel_rfl) (fun _ _ _ h => h) (Or.inl ⟨by rfl, ?_⟩) hHeld.out ?_
        rotate_left
        · intro wv hSw
          replace hSw : Hid (Grew wc wv) := Lib.hid hSw
          go_simp
          try with_reducible rfl
        try simp only [Act.put, List.setIfInBounds_toArray, List.set_cons_zero, List.set_cons_succ]
        refine wpAnyH_takeD (i := 19) (d := 45) (v := undef) rfl rfl (by kernel_rfl) (by kernel_rfl) (by kernel_rfl) (fun _ _ _ h => h) (Or.inr ⟨by rfl, rfl⟩) hHeld.out ?_
        try simp only [Act.put, List.setIfInBounds_toArray, List.set_cons_zero, List.set_cons_succ]
        refine wpAnyH_takeD (i := 20) (d := 46) (v := undef) rfl rfl (by kernel_rfl) (by kernel_rfl) (by kernel_rfl) (fun _ _ _ h => h) (Or.inr ⟨by rfl, rfl⟩) hHeld.out ?_
        try simp only [Act.put, List.setIfInBounds_toArray, List.set_cons_zero, List.set_cons_succ]
        refine wpAnyH_takeD (i := 21) (d := 47) (v := undef) rfl rfl (by kernel_rfl) (by kernel_rfl) (by kernel_rfl) (fun _ _ _ h => h) (Or.inr ⟨by rfl, rfl⟩) hHeld.out ?_
        try simp only [Act.put, List.setIfInBounds_toArray, List.set_cons_zero, List.set_cons_succ]
        refine wpAnyH_takeD (i := 22) (d := 48) (v := undef) rfl rfl (by kernel_rfl) (by kernel_rfl) (by kernel_rfl) (fun _ _ _ h => h) (Or.inr ⟨by rfl, rfl⟩) hHeld.out ?_
        try simp only [Act.put, List.setIfInBounds_toArray, List.set_cons_zero, List.set_cons_succ]
        refine wpAnyH_takeD (i := 23) (d := 49) (v := undef) rfl rfl (by kernel_rfl) (by kernel_rfl) (by kernel_rfl) (fun _ _ _ h => h) (Or.inr ⟨by rfl, rfl⟩) hHeld.out ?_
        try simp only [Act.put, List.setIfInBounds_toArray, List.set_cons_zero, List.set_cons_succ]
        refine wpAnyH_takeD (i := 24) (d := 50) (v := undef) rfl rfl (by kernel_rfl) (by kernel_rfl) (by kernel_rfl) (fun _ _ _ h => h) (Or.inr ⟨by rfl, rfl⟩) hHeld.out ?_
        try simp only [Act.put, List.setIfInBounds_toArray, List.set_cons_zero, List.set_cons_succ]
        refine wpAnyH_takeD (i := 25) (d := 51) (v := undef) rfl rfl (by kernel_rfl) (by kernel_rfl) (by kernel_rfl) (fun _ _ _ h => h) (Or.inr ⟨by rfl, rfl⟩) hHeld.out ?_
        try simp only [Act.put, List.setIfInBounds_toArray, List.set_cons_zero, List.set_cons_succ]
        refine wpAnyH_takeD (i := 26) (d := 52) (v := undef) rfl rfl (by kernel_rfl) (by kernel_rfl) (by kernel_rfl) (fun _ _ _ h => h) (Or.inr ⟨by rfl, rfl⟩) hHeld.out ?_
        try simp only [Act.put, List.setIfInBounds_toArray, List.set_cons_zero, List.set_cons_succ]
        refine wpAnyH_takeD (i := 27) (d := 53) (v := ?_) rfl rfl (by kernel_rfl) (by kernel_rfl) (by kernel_rfl) (fun _ _ _ h => h) (Or.inl ⟨by rfl, ?_⟩) hHeld.out ?_
        rotate_left
        · intro wv hSw
          replace hSw : Hid (Grew wc wv) := Lib.hid hSw
          go_simp
          try with_reducible rfl
        try simp only [Act.put, List.setIfInBounds_toArray, List.set_cons_zero, List.set_cons_succ]
        refine wpAnyH_takeD (i := 28) (d := 54) (v := ?_) rfl rfl (by kernel_rfl) (by kernel_rfl) (by kernel_rfl) (fun _ _ _ h => h) (Or.inl ⟨by rfl, ?_⟩) hHeld.out ?_
        rotate_left
        · intro wv hSw
          replace hSw : Hid (Grew wc wv) := Lib.hid hSw
          go_simp
          try with_reducible rfl
        try simp only [Act.put, List.setIfInBounds_toArray, List.set_cons_zero, List.set_cons_succ]
        refine wpAnyH_takeD (i := 29) (d := 55) (v := undef) rfl rfl (by kernel_rfl) (by kernel_rfl) (by kernel_rfl) (fun _ _ _ h => h) (Or.inr ⟨by rfl, rfl⟩) hHeld.out ?_
        try simp only [Act.put, List.setIfInBounds_toArray, List.set_cons_zero, List.set_cons_succ]
        refine wpAnyH_takeD (i := 30) (d := 56) (v := undef) rfl rfl (by kernel_rfl) (by kernel_rfl) (by kernel_rfl) (fun _ _ _ h => h) (Or.inr ⟨by rfl, rfl⟩) hHeld.out ?_
        try simp only [Act.put, List.setIfInBounds_toArray, List.set_cons_zero, List.set_cons_succ]
        refine wpAnyH_takeD (i := 31) (d := 57) (v := undef) rfl rfl (by kernel_rfl) (by kernel_rfl) (by kernel_rfl) (fun _ _ _ h => h) (Or.inr ⟨by rfl, rfl⟩) hHeld.out ?_
        try simp only [Act.put, List.setIfInBounds_toArray, List.set_cons_zero, List.set_cons_succ]
        refine wpAnyH_takeD (i := 32) (d := 58) (v := undef) rfl rfl (by kernel_rfl) (by kernel_rfl) (by kernel_rfl) (fun _ _ _ h => h) (Or.inr ⟨by rfl, rfl⟩) hHeld.out ?_
        try simp only [Act.put, List.setIfInBounds_toArray, List.set_cons_zero, List.set_cons_succ]
        refine wpAnyH_takeD (i := 33) (d := 59) (v := undef) rfl rfl (by kernel_rfl) (by kernel_rfl) (by kernel_rfl) (fun _ _ _ h => h) (Or.inr ⟨by rfl, rfl⟩) hHeld.out ?_
        try simp only [Act.put, List.setIfInBounds_toArray, List.set_cons_zero, List.set_cons_succ]
        refine wpAnyH_takeD (i := 34) (d := 60) (v := undef) rfl rfl (by kernel_rfl) (by kernel_rfl) (by kernel_rfl) (fun _ _ _ h => h) (Or.inr ⟨by rfl, rfl⟩) hHeld.out ?_
        try simp only [Act.put, List.setIfInBounds_toArray, List.set_cons_zero, List.set_cons_succ]
        refine wpAnyH_takeD (i := 35) (d := 61) (v := undef) rfl rfl (by kernel_rfl) (by kernel_rfl) (by kernel_rfl) (fun _ _ _ h => h) (Or.inr ⟨by rfl, rfl⟩) hHeld.out ?_
        try simp only [Act.put, List.setIfInBounds_toArray, List.set_cons_zero, List.set_cons_succ]
        refine wpAnyH_takeD (i := 36) (d := 62) (v := undef) rfl rfl (by kernel_rfl) (by kernel_rfl) (by kernel_rfl) (fun _ _ _ h => h) (Or.inr ⟨by rfl, rfl⟩) hHeld.out ?_
        try simp only [Act.put, List.setIfInBounds_toArray, List.set_cons_zero, List.set_cons_succ]
        refine wpAnyH_takeD (i := 37) (d := 63) (v := ?_) rfl rfl (by kernel_rfl) (by kernel_rfl) (by kernel_rfl) (fun _ _ _ h => h) (Or.inl ⟨by rfl, ?_⟩) hHeld.out ?_
        rotate_left
        · intro wv hSw
          replace hSw : Hid (Grew wc wv) := Lib.hid hSw
          go_simp
          try with_reducible rfl
        try simp only [Act.put, List.setIfInBounds_toArray, List.set_cons_zero, List.set_cons_succ]
        refine wpAnyH_takeD (i := 38) (d := 4) (v := ?_) rfl rfl (by kernel_rfl) (by kernel_rfl) (by kernel_rfl) (fun _ _ _ h => h) (Or.inl ⟨by rfl, ?_⟩) hHeld.out ?_
        rotate_left
        · intro wv hSw
          replace hSw : Hid (Grew wc wv) := Lib.hid hSw
          go_simp
          try with_reducible rfl
        try simp only [Act.put, List.setIfInBounds_toArray, List.set_cons_zero, List.set_cons_succ]
        refine wpAnyH_done (by kernel_rfl) ?_ _
        go_wp2_with fail
        go_ret
        exact ⟨by rw [ee.out]; rfl, G0.out.trans hHeld.out⟩
      · have y1 : (t1 == 0) = false := by simpa using z1
        have y1' : (t1 != 0) = true := by simpa using z1
        by_cases z2 : t2 = 0
        · subst z2
          have ee := Lib.hid (show false = ML by rw [← hM1.out]; simp)
          clear hM1
          refine wp_region_held_drew (S := fun wv => Grew wc wv) (by kernel_rfl) ((Grew.refl wc).drew) (fun hHeld => ?_)
          replace hHeld := Lib.hid hHeld
          try simp only [Act.put, List.setIfInBounds_toArray, List.set_cons_zero, List.set_cons_succ]
          refine wpAnyH_takeD (i := 0) (d := 26) (v := ?_) rfl rfl (by kernel_rfl) (by kernel_rfl) (by kernel_rfl) (fun _ _ _ h => h) (Or.inl ⟨by rfl, ?_⟩) hHeld.out ?_
          rotate_left
          · intro wv hSw
            replace hSw : Hid (Grew wc wv) := Lib.hid hSw
            go_simp
            try with_reducible rfl
          try simp only [Act.put, List.setIfInBounds_toArray, List.set_cons_zero, List.set_cons_succ]
          refine wpAnyH_takeD (i := 1) (d := 27) (v := ?_) rfl rfl (by kernel_rfl) (by kernel_rfl) (by kernel_rfl) (fun _ _ _ h => h) (Or.inl ⟨by rfl, ?_⟩) hHeld.out ?_
          rotate_left
          · intro wv hSw
            replace hSw : Hid (Grew wc wv) := Lib.hid hSw
            go_simp
            try with_reducible rfl
          try simp only [Act.put, List.setIfInBounds_toArray, List.set_cons_zero, List.set_cons_succ]
          refine wpAnyH_takeD (i := 2) (d := 28) (v := ?_) rfl rfl (by kernel_rfl) (by kernel_rfl) (by kernel_rfl) (fun _ _ _ h => h) (Or.inl ⟨by rfl, ?_⟩) hHeld.out ?_
          rotate_left
          · intro wv hSw
            replace hSw : Hid (Grew wc wv) := Lib.hid hSw
            have t0 := hSw.out.cell e0.out
            have t1 := hSw.out.cell e1.out
            have t2 := hSw.out.cell e2.out
            have t3 := hSw.out.cell e3.out
            have t4 := hSw.out.cell e4.out
            have t5 := hSw.out.cell e5.out
            go_simp
            try with_reducible rfl
          try simp only [Act.put, List.setIfInBounds_toArray, List.set_cons_zero, List.set_cons_succ]
          refine wpAnyH_takeD (i := 3) (d := 29) (v := ?_) rfl rfl (by kernel_rfl) (by kernel_rfl) (by kernel_rfl) (fun _ _ _ h => h) (Or.inl ⟨by rfl, ?_⟩) hHeld.out ?_
          rotate_left
          · intro wv hSw
            replace hSw : Hid (Grew wc wv) := Lib.hid hSw
            go_simp
            try with_reducible rfl
          try simp only [Act.put, List.setIfInBounds_toArray, List.set_cons_zero, List.set_cons_succ]
          refine wpAnyH_takeD (i := 4) (d := 30) (v := ?_) rfl rfl (by kernel_rfl) (by kernel_rfl) (by kernel_rfl) (fun _ _ _ h => h) (Or.inl ⟨by rfl, ?_⟩) hHeld.out ?_
          rotate_left
          · intro wv hSw
            replace hSw : Hid (Grew wc wv) := Lib.hid hSw
            have t0 := hSw.out.cell P.out.p0
            have t1 := hSw.out.cell P.out.p1
            go_simp
            try with_reducible rfl
          try simp only [Act.put, List.setIfInBounds_toArray, List.set_cons_zero, List.set_cons_succ]
          refine wpAnyH_ready (rs := [5]) (by kernel_rfl) (by simp) ?_
          refine AllReadyH.cons rfl (fun KK hKK => ?_) AllReadyH.nil
          go_simp
          refine (rat5_any ax ay _ ra.out.1 ra.out.2.1 ra.out.2.2.1 ra.out.2.2.2).mono ?_
          rintro e wk1 ⟨V, rfl, hV, g⟩
          have gk := hHeld.out.trans g
          have hV := Lib.hid (((hV.d qa.out qa2.out).2).mono (show 2 ≤ 7 by omega))
          clear hHeld
          try dsimp only
          refine hKK.out _ _ gk (fun hHeld => ?_)
          clear gk hKK KK
          replace hHeld := Lib.hid (show Grew wc wk1 from hHeld)
          try simp only [Act.put, List.setIfInBounds_toArray, List.set_cons_zero, List.set_cons_succ]
          refine wpAnyH_ready (rs := [6]) (by kernel_rfl) (by simp) ?_
          refine AllReadyH.cons rfl (fun KK hKK => ?_) AllReadyH.nil
          go_simp
          refine (rscmp_any _ _ X Y (ax : Rat) (ay : Rat) 7 _ (SpotR.kept S1.out hHeld.out.keeps) hV.out (by omega) (by omega)).mono ?_
          rintro e wk2 ⟨rfl, g⟩
          have gk := hHeld.out.trans g
          rw [j1.out]
          clear hV
          clear hHeld
          try dsimp only
          refine hKK.out _ _ gk (fun hHeld => ?_)
          clear gk hKK KK
          replace hHeld := Lib.hid (show Grew wc wk2 from hHeld)
          try simp only [Act.put, List.setIfInBounds_toArray, List.set_cons_zero, List.set_cons_succ]
          refine wpAnyH_takeD (i := 7) (d := 33) (v := ?_) rfl rfl (by kernel_rfl) (by kernel_rfl) (by kernel_rfl) (fun _ _ _ h => h) (Or.inl ⟨by rfl, ?_⟩) hHeld.out ?_
          rotate_left
          · intro wv hSw
            replace hSw : Hid (Grew wc wv) := Lib.hid hSw
            go_simp
            try with_reducible rfl
          try simp only [Act.put, List.setIfInBounds_toArray, List.set_cons_zero, List.set_cons_succ]
          refine wpAnyH_takeD (i := 8) (d := 34) (v := ?_) rfl rfl (by kernel_rfl) (by kernel_rfl) (by kernel_rfl) (fun _ _ _ h => h) (Or.inl ⟨by rfl, ?_⟩) hHeld.out ?_
          rotate_left
          · intro wv hSw
            replace hSw : Hid (Grew wc wv) := Lib.hid hSw
            go_simp
            try with_reducible rfl
          try simp only [Act.put, List.setIfInBounds_toArray, List.set_cons_zero, List.set_cons_succ]
          refine wpAnyH_takeD (i := 9) (d := 35) (v := ?_) rfl rfl (by kernel_rfl) (by kernel_rfl) (by kernel_rfl) (fun _ _ _ h => h) (Or.inl ⟨by rfl, ?_⟩) hHeld.out ?_
          rotate_left
          · intro wv hSw
            replace hSw : Hid (Grew wc wv) := Lib.hid hSw
            go_simp
            try with_reducible rfl
          try simp only [Act.put, List.setIfInBounds_toArray, List.set_cons_zero, List.set_cons_succ]
          refine wpAnyH_takeD (i := 10) (d := 36) (v := ?_) rfl rfl (by kernel_rfl) (by kernel_rfl) (by kernel_rfl) (fun _ _ _ h => h) (Or.inl ⟨by rfl, ?_⟩) hHeld.out ?_
          rotate_left
          · intro wv hSw
            replace hSw : Hid (Grew wc wv) := Lib.hid hSw
            go_simp
            try with_reducible rfl
          try simp only [Act.put, List.setIfInBounds_toArray, List.set_cons_zero, List.set_cons_succ]
          refine wpAnyH_takeD (i := 11) (d := 37) (v := ?_) rfl rfl (by kernel_rfl) (by kernel_rfl) (by kernel_rfl) (fun _ _ _ h => h) (Or.inl ⟨by rfl, ?_⟩) hHeld.out ?_
          rotate_left
          · intro wv hSw
            replace hSw : Hid (Grew wc wv) := Lib.hid hSw
            have t0 := hSw.out.cell e0.out
            have t1 := hSw.out.cell e1.out
            have t2 := hSw.out.cell e2.out
            have t3 := hSw.out.cell e3.out
            have t4 := hSw.out.cell e4.out
            have t5 := hSw.out.cell e5.out
            go_simp
            try with_reducible rfl
          try simp only [Act.put, List.setIfInBounds_toArray, List.set_cons_zero, List.set_cons_succ]
          refine wpAnyH_takeD (i := 12) (d := 38) (v := ?_) rfl rfl (by kernel_rfl) (by kernel_rfl) (by kernel_rfl) (fun _ _ _ h => h) (Or.inl ⟨by rfl, ?_⟩) hHeld.out ?_
          rotate_left
          · intro wv hSw
            replace hSw : Hid (Grew wc wv) := Lib.hid hSw
            go_simp
            try with_reducible rfl
          try simp only [Act.put, List.setIfInBounds_toArray, List.set_cons_zero, List.set_cons_succ]
          refine wpAnyH_takeD (i := 13) (d := 39) (v := ?_) rfl rfl (by kernel_rfl) (by kernel_rfl) (by kernel_rfl) (fun _ _ _ h => h) (Or.inl ⟨by rfl, ?_⟩) hHeld.out ?_
          rotate_left
          · intro wv hSw
            replace hSw : Hid (Grew wc wv) := Lib.hid hSw
            have t0 := hSw.out.cell P.out.p2
            have t1 := hSw.out.cell P.out.p3
            go_simp
            try with_reducible rfl
          try simp only [Act.put, List.setIfInBounds_toArray, List.set_cons_zero, List.set_cons_succ]
          refine wpAnyH_ready (rs := [14]) (by kernel_rfl) (by simp) ?_
          refine AllReadyH.cons rfl (fun KK hKK => ?_) AllReadyH.nil
          go_simp
          refine (rat5_any bx b_y _ rb.out.1 rb.out.2.1 rb.out.2.2.1 rb.out.2.2.2).mono ?_
          rintro e wk3 ⟨V, rfl, hV, g⟩
          have gk := hHeld.out.trans g
          have hV := Lib.hid (((hV.d qb.out qb2.out).2).mono (show 2 ≤ 7 by omega))
          clear hHeld
          try dsimp only
          refine hKK.out _ _ gk (fun hHeld => ?_)
          clear gk hKK KK
          replace hHeld := Lib.hid (show Grew wc wk3 from hHeld)
          try simp only [Act.put, List.setIfInBounds_toArray, List.set_cons_zero, List.set_cons_succ]
          refine wpAnyH_ready (rs := [15]) (by kernel_rfl) (by simp) ?_
          refine AllReadyH.cons rfl (fun KK hKK => ?_) AllReadyH.nil
          go_simp
          refine (rscmp_any _ _ X Y (bx : Rat) (b_y : Rat) 7 _ (SpotR.kept S1.out hHeld.out.keeps) hV.out (by omega) (by omega)).mono ?_
          rintro e wk4 ⟨rfl, g⟩
          have gk := hHeld.out.trans g
          rw [j2.out]
          clear hV
          clear hHeld
          try dsimp only
          refine hKK.out _ _ gk (fun hHeld => ?_)
          clear gk hKK KK
          replace hHeld := Lib.hid (show Grew wc wk4 from hHeld)
          try simp only [Act.put, List.setIfInBounds_toArray, List.set_cons_zero, List.set_cons_succ]
          refine wpAnyH_takeD (i := 16) (d := 42) (v := ?_) rfl rfl (by kernel_rfl) (by kernel_rfl) (by kernel_rfl) (fun _ _ _ h => h) (Or.inl ⟨by rfl, ?_⟩) hHeld.out ?_
          rotate_left
          · intro wv hSw
            replace hSw : Hid (Grew wc wv) := Lib.hid hSw
            go_simp
            try with_reducible rfl
          try simp only [Act.put, List.setIfInBounds_toArray, List.set_cons_zero, List.set_cons_succ]
          refine wpAnyH_takeD (i := 17) (d := 43) (v := ?_) rfl rfl (by kernel_rfl) (by kernel_rfl) (by kernel_rfl) (fun _ _ _ h => h) (Or.inl ⟨by rfl, ?_⟩) hHeld.out ?_
          rotate_left
          · intro wv hSw
            replace hSw : Hid (Grew wc wv) := Lib.hid hSw
            go_simp
            try with_reducible rfl
          try simp only [Act.put, List.setIfInBounds_toArray, List.set_cons_zero, List.set_cons_succ]
          refine wpAnyH_takeD (i := 18) (d := 44) (v := ?_) rfl rfl (by kernel_rfl) (by kernel_rfl) (by kernel_rfl) (fun _ _ _ h => h) (Or.inl ⟨by rfl, ?_⟩) hHeld.out ?_
          rotate_left
          · intro wv hSw
            replace hSw : Hid (Grew wc wv) := Lib.hid hSw
            go_simp
            try with_reducible rfl
          try simp only [Act.put, List.setIfInBounds_toArray, List.set_cons_zero, List.set_cons_succ]
          refine wpAnyH_takeD (i := 19) (d := 45) (v := undef) rfl rfl (by kernel_rfl) (by kernel_rfl) (by kernel_rfl) (fun _ _ _ h => h) (Or.inr ⟨by rfl, rfl⟩) hHeld.out ?_
          try simp only [Act.put, List.setIfInBounds_toArray, List.set_cons_zero, List.set_cons_succ]
          refine wpAnyH_takeD (i := 20) (d := 46) (v := undef) rfl rfl (by kernel_rfl) (by kernel_rfl) (by kernel_rfl) (fun _ _ _ h => h) (Or.inr ⟨by rfl, rfl⟩) hHeld.out ?_
          try simp only [Act.put, List.setIfInBounds_toArray, List.set_cons_zero, List.set_cons_succ]
          refine wpAnyH_takeD (i := 21) (d := 47) (v := undef) rfl rfl (by kernel_rfl) (by kernel_rfl) (by kernel_rfl) (fun _ _ _ h => h) (Or.inr ⟨by rfl, rfl⟩) hHeld.out ?_
          try simp only [Act.put, List.setIfInBounds_toArray, List.set_cons_zero, List.set_cons_succ]
          refine wpAnyH_takeD (i := 22) (d := 48) (v := undef) rfl rfl (by kernel_rfl) (by kernel_rfl) (by kernel_rfl) (fun _ _ _ h => h) (Or.inr ⟨by rfl, rfl⟩) hHeld.out ?_
          try simp only [Act.put, List.setIfInBounds_toArray, List.set_cons_zero, List.set_cons_succ]
          refine wpAnyH_takeD (i := 23) (d := 49) (v := undef) rfl rfl (by kernel_rfl) (by kernel_rfl) (by kernel_rfl) (fun _ _ _ h => h) (Or.inr ⟨by rfl, rfl⟩) hHeld.out ?_
          try simp only [Act.put, List.setIfInBounds_toArray, List.set_cons_zero, List.set_cons_succ]
          refine wpAnyH_takeD (i := 24) (d := 50) (v := undef) rfl rfl (by kernel_rfl) (by kernel_rfl) (by kernel_rfl) (fun _ _ _ h => h) (Or.inr ⟨by rfl, rfl⟩) hHeld.out ?_
          try simp only [Act.put, List.setIfInBounds_toArray, List.set_cons_zero, List.set_cons_succ]
          refine wpAnyH_takeD (i := 25) (d := 51) (v := undef) rfl rfl (by kernel_rfl) (by kernel_rfl) (by kernel_rfl) (fun _ _ _ h => h) (Or.inr ⟨by rfl, rfl⟩) hHeld.out ?_
          try simp only [Act.put, List.setIfInBounds_toArray, List.set_cons_zero, List.set_cons_succ]
          refine wpAnyH_takeD (i := 26) (d := 52) (v := undef) rfl rfl (by kernel_rfl) (by kernel_rfl) (by kernel_rfl) (fun _ _ _ h => h) (Or.inr ⟨by rfl, rfl⟩) hHeld.out ?_
          try simp only [Act.put, List.setIfInBounds_toArray, List.set_cons_zero, List.set_cons_succ]
          refine wpAnyH_takeD (i := 27) (d := 53) (v := ?_) rfl rfl (by kernel_rfl) (by kernel_rfl) (by kernel_rfl) (fun _ _ _ h => h) (Or.inl ⟨by rfl, ?_⟩) hHeld.out ?_
          rotate_left
          · intro wv hSw
            replace hSw : Hid (Grew wc wv) := Lib.hid hSw
            go_simp
            try with_reducible rfl
          try simp only [Act.put, List.setIfInBounds_toArray, List.set_cons_zero, List.set_cons_succ]
          refine wpAnyH_takeD (i := 28) (d := 54) (v := ?_) rfl rfl (by kernel_rfl) (by kernel_rfl) (by kernel_rfl) (fun _ _ _ h => h) (Or.inl ⟨by rfl, ?_⟩) hHeld.out ?_
          rotate_left
          · intro wv hSw
            replace hSw : Hid (Grew wc wv) := Lib.hid hSw
            go_simp
            try with_reducible rfl
          try simp only [Act.put, List.setIfInBounds_toArray, List.set_cons_zero, List.set_cons_succ]
          refine wpAnyH_takeD (i := 29) (d := 55) (v := undef) rfl rfl (by kernel_rfl) (by kernel_rfl) (by kernel_rfl) (fun _ _ _ h => h) (Or.inr ⟨by rfl, rfl⟩) hHeld.out ?_
          try simp only [Act.put, List.setIfInBounds_toArray, List.set_cons_zero, List.set_cons_succ]
          refine wpAnyH_takeD (i := 30) (d := 56) (v := undef) rfl rfl (by kernel_rfl) (by kernel_rfl) (by kernel_rfl) (fun _ _ _ h => h) (Or.inr ⟨by rfl, rfl⟩) hHeld.out ?_
          try simp only [Act.put, List.setIfInBounds_toArray, List.set_cons_zero, List.set_cons_succ]
          refine wpAnyH_takeD (i := 31) (d := 57) (v := undef) rfl rfl (by kernel_rfl) (by kernel_rfl) (by kernel_rfl) (fun _ _ _ h => h) (Or.inr ⟨by rfl, rfl⟩) hHeld.out ?_
          try simp only [Act.put, List.setIfInBounds_toArray, List.set_cons_zero, List.set_cons_succ]
          refine wpAnyH_takeD (i := 32) (d := 58) (v := undef) rfl rfl (by kernel_rfl) (by kernel_rfl) (by kernel_rfl) (fun _ _ _ h => h) (Or.inr ⟨by rfl, rfl⟩) hHeld.out ?_
          try simp only [Act.put, List.setIfInBounds_toArray, List.set_cons_zero, List.set_cons_succ]
          refine wpAnyH_takeD (i := 33) (d := 59) (v := undef) rfl rfl (by kernel_rfl) (by kernel_rfl) (by kernel_rfl) (fun _ _ _ h => h) (Or.inr ⟨by rfl, rfl⟩) hHeld.out ?_
          try simp only [Act.put, List.setIfInBounds_toArray, List.set_cons_zero, List.set_cons_succ]
          refine wpAnyH_takeD (i := 34) (d := 60) (v := undef) rfl rfl (by kernel_rfl) (by kernel_rfl) (by kernel_rfl) (fun _ _ _ h => h) (Or.inr ⟨by rfl, rfl⟩) hHeld.out ?_
          try simp only [Act.put, List.setIfInBounds_toArray, List.set_cons_zero, List.set_cons_succ]
          refine wpAnyH_takeD (i := 35) (d := 61) (v := undef) rfl rfl (by kernel_rfl) (by kernel_rfl) (by kernel_rfl) (fun _ _ _ h => h) (Or.inr ⟨by rfl, rfl⟩) hHeld.out ?_
          try simp only [Act.put, List.setIfInBounds_toArray, List.set_cons_zero, List.set_cons_succ]
          refine wpAnyH_takeD (i := 36) (d := 62) (v := undef) rfl rfl (by kernel_rfl) (by kernel_rfl) (by kernel_rfl) (fun _ _ _ h => h) (Or.inr ⟨by rfl, rfl⟩) hHeld.out ?_
          try simp only [Act.put, List.setIfInBounds_toArray, List.set_cons_zero, List.set_cons_succ]
          refine wpAnyH_takeD (i := 37) (d := 63) (v := ?_) rfl rfl (by kernel_rfl) (by kernel_rfl) (by kernel_rfl) (fun _ _ _ h => h) (Or.inl ⟨by rfl, ?_⟩) hHeld.out ?_
          rotate_left
          · intro wv hSw
            replace hSw : Hid (Grew wc wv) := Lib.hid hSw
            go_simp
            try with_reducible rfl
          try simp only [Act.put, List.setIfInBounds_toArray, List.set_cons_zero, List.set_cons_succ]
          refine wpAnyH_takeD (i := 38) (d := 4) (v := ?_) rfl rfl (by kernel_rfl) (by kernel_rfl) (by kernel_rfl) (fun _ _ _ h => h) (Or.inl ⟨by rfl, ?_⟩) hHeld.out ?_
          rotate_left
          · intro wv hSw
            replace hSw : Hid (Grew wc wv) := Lib.hid hSw
            go_simp
            try with_reducible rfl
          try simp only [Act.put, List.setIfInBounds_toArray, List.set_cons_zero, List.set_cons_succ]
          refine wpAnyH_done (by kernel_rfl) ?_ _
          go_wp2_with fail
          go_ret
          exact ⟨by rw [ee.out]; rfl, G0.out.trans hHeld.out⟩
        · have y2 : (t2 == 0) = false := by simpa using z2
          have y2' : (t2 != 0) = true := by simpa using z2
          by_cases z3 : t3 = 0
          · subst z3
            have ee := Lib.hid (show false = ML by rw [← hM1.out]; simp)
            clear hM1
            refine wp_region_held_drew (S := fun wv => Grew wc wv) (by kernel_rfl) ((Grew.refl wc).drew) (fun hHeld => ?_)
            replace hHeld := Lib.hid hHeld
            try simp only [Act.put, List.setIfInBounds_toArray, List.set_cons_zero, List.set_cons_succ]
            refine wpAnyH_takeD (i := 0) (d := 26) (v := ?_) rfl rfl (by kernel_rfl) (by kernel_rfl) (by kernel_rfl) (fun _ _ _ h => h) (Or.inl ⟨by rfl, ?_⟩) hHeld.out ?_
            rotate_left
            · intro wv hSw
              replace hSw : Hid (Grew wc wv) := Lib.hid hSw
              go_simp
              try with_reducible rfl
            try simp only [Act.put, List.setIfInBounds_toArray, List.set_cons_zero, List.set_cons_succ]
            refine wpAnyH_takeD (i := 1) (d := 27) (v := ?_) rfl rfl (by kernel_rfl) (by kernel_rfl) (by kernel_rfl) (fun _ _ _ h => h) (Or.inl ⟨by rfl, ?_⟩) hHeld.out ?_
            rotate_left
            · intro wv hSw
              replace hSw : Hid (Grew wc wv) := Lib.hid hSw
              go_simp
              try with_reducible rfl
            try simp only [Act.put, List.setIfInBounds_toArray, List.set_cons_zero, List.set_cons_succ]
            refine wpAnyH_takeD (i := 2) (d := 28) (v := ?_) rfl rfl (by kernel_rfl) (by kernel_rfl) (by kernel_rfl) (fun _ _ _ h => h) (Or.inl ⟨by rfl, ?_⟩) hHeld.out ?_
            rotate_left
            · intro wv hSw
              replace hSw : Hid (Grew wc wv) := Lib.hid hSw
              have t0 := hSw.out.cell e0.out
              have t1 := hSw.out.cell e1.out
              have t2 := hSw.out.cell e2.out
              have t3 := hSw.out.cell e3.out
              have t4 := hSw.out.cell e4.out
              have t5 := hSw.out.cell e5.out
              go_simp
              try with_reducible rfl
            try simp only [Act.put, List.setIfInBounds_toArray, List.set_cons_zero, List.set_cons_succ]
            refine wpAnyH_takeD (i := 3) (d := 29) (v := ?_) rfl rfl (by kernel_rfl) (by kernel_rfl) (by kernel_rfl) (fun _ _ _ h => h) (Or.inl ⟨by rfl, ?_⟩) hHeld.out ?_
            rotate_left
            · intro wv hSw
              replace hSw : Hid (Grew wc wv) := Lib.hid hSw
              go_simp
              try with_reducible rfl
            try simp only [Act.put, List.setIfInBounds_toArray, List.set_cons_zero, List.set_cons_succ]
            refine wpAnyH_takeD (i := 4) (d := 30) (v := ?_) rfl rfl (by kernel_rfl) (by kernel_rfl) (by kernel_rfl) (fun _ _ _ h => h) (Or.inl ⟨by rfl, ?_⟩) hHeld.out ?_
            rotate_left
            · intro wv hSw
              replace hSw : Hid (Grew wc wv) := Lib.hid hSw
              have t0 := hSw.out.cell P.out.p0
              have t1 := hSw.out.cell P.out.p1
              go_simp
              try with_reducible rfl
            try simp only [Act.put, List.setIfInBounds_toArray, List.set_cons_zero, List.set_cons_succ]
            refine wpAnyH_ready (rs := [5]) (by kernel_rfl) (by simp) ?_
            refine AllReadyH.cons rfl (fun KK hKK => ?_) AllReadyH.nil
            go_simp
            refine (rat5_any ax ay _ ra.out.1 ra.out.2.1 ra.out.2.2.1 ra.out.2.2.2).mono ?_
            rintro e wk1 ⟨V, rfl, hV, g⟩
            have gk := hHeld.out.trans g
            have hV := Lib.hid (((hV.d qa.out qa2.out).2).mono (show 2 ≤ 7 by omega))
            clear hHeld
            try dsimp only
            refine hKK.out _ _ gk (fun hHeld => ?_)
            clear gk hKK KK
            replace hHeld := Lib.hid (show Grew wc wk1 from hHeld)
            try simp only [Act.put, List.setIfInBounds_toArray, List.set_cons_zero, List.set_cons_succ]
            refine wpAnyH_ready (rs := [6]) (by kernel_rfl) (by simp) ?_
            refine AllReadyH.cons rfl (fun KK hKK => ?_) AllReadyH.nil
            go_simp
            refine (rscmp_any _ _ X Y (ax : Rat) (ay : Rat) 7 _ (SpotR.kept S1.out hHeld.out.keeps) hV.out (by omega) (by omega)).mono ?_
            rintro e wk2 ⟨rfl, g⟩
            have gk := hHeld.out.trans g
            rw [j1.out]
            clear hV
            clear hHeld
            try dsimp only
            refine hKK.out _ _ gk (fun hHeld => ?_)
            clear gk hKK KK
            replace hHeld := Lib.hid (show Grew wc wk2 from hHeld)
            try simp only [Act.put, List.setIfInBounds_toArray, List.set_cons_zero, List.set_cons_succ]
            refine wpAnyH_takeD (i := 7) (d := 33) (v := ?_) rfl rfl (by kernel_rfl) (by kernel_rfl) (by kernel_rfl) (fun _ _ _ h => h) (Or.inl ⟨by rfl, ?_⟩) hHeld.out ?_
            rotate_left
            · intro wv hSw
              replace hSw : Hid (Grew wc wv) := Lib.hid hSw
              go_simp
              try with_reducible rfl
            try simp only [Act.put, List.setIfInBounds_toArray, List.set_cons_zero, List.set_cons_succ]
            refine wpAnyH_takeD (i := 8) (d := 34) (v := ?_) rfl rfl (by kernel_rfl) (by kernel_rfl) (by kernel_rfl) (fun _ _ _ h => h) (Or.inl ⟨by rfl, ?_⟩) hHeld.out ?_
            rotate_left
            · intro wv hSw
              replace hSw : Hid (Grew wc wv) := Lib.hid hSw
              go_simp
              try with_reducible rfl
            try simp only [Act.put, List.setIfInBounds_toArray, List.set_cons_zero, List.set_cons_succ]
            refine wpAnyH_takeD (i := 9) (d := 35) (v := ?_) rfl rfl (by kernel_rfl) (by kernel_rfl) (by kernel_rfl) (fun _ _ _ h => h) (Or.inl ⟨by rfl, ?_⟩) hHeld.out ?_
            rotate_left
            · intro wv hSw
              replace hSw : Hid (Grew wc wv) := Lib.hid hSw
              go_simp
              try with_reducible rfl
            try simp only [Act.put, List.setIfInBounds_toArray, List.set_cons_zero, List.set_cons_succ]
            refine wpAnyH_takeD (i := 10) (d := 36) (v := ?_) rfl rfl (by kernel_rfl) (by kernel_rfl) (by kernel_rfl) (fun _ _ _ h => h) (Or.inl ⟨by rfl, ?_⟩) hHeld.out ?_
            rotate_left
            · intro wv hSw
              replace hSw : Hid (Grew wc wv) := Lib.hid hSw
              go_simp
              try with_reducible rfl
            try simp only [Act.put, List.setIfInBounds_toArray, List.set_cons_zero, List.set_cons_succ]
            refine wpAnyH_takeD (i := 11) (d := 37) (v := ?_) rfl rfl (by kernel_rfl) (by kernel_rfl) (by kernel_rfl) (fun _ _ _ h => h) (Or.inl ⟨by rfl, ?_⟩) hHeld.out ?_
            rotate_left
            · intro wv hSw
              replace hSw : Hid (Grew wc wv) := Lib.hid hSw
              have t0 := hSw.out.cell e0.out
              have t1 := hSw.out.cell e1.out
              have t2 := hSw.out.cell e2.out
              have t3 := hSw.out.cell e3.out
              have t4 := hSw.out.cell e4.out
              have t5 := hSw.out.cell e5.out
              go_simp
              try with_reducible rfl
            try simp only [Act.put, List.setIfInBounds_toArray, List.set_cons_zero, List.set_cons_succ]
            refine wpAnyH_takeD (i := 12) (d := 38) (v := ?_) rfl rfl (by kernel_rfl) (by kernel_rfl) (by kernel_rfl) (fun _ _ _ h => h) (Or.inl ⟨by rfl, ?_⟩) hHeld.out ?_
            rotate_left
            · intro wv hSw
              replace hSw : Hid (Grew wc wv) := Lib.hid hSw
              go_simp
              try with_reducible rfl
            try simp only [Act.put, List.setIfInBounds_toArray, List.set_cons_zero, List.set_cons_succ]
            refine wpAnyH_takeD (i := 13) (d := 39) (v := ?_) rfl rfl (by kernel_rfl) (by kernel_rfl) (by kernel_rfl) (fun _ _ _ h => h) (Or.inl ⟨by rfl, ?_⟩) hHeld.out ?_
            rotate_left
            · intro wv hSw
              replace hSw : Hid (Grew wc wv) := Lib.hid hSw
              have t0 := hSw.out.cell P.out.p2
              have t1 := hSw.out.cell P.out.p3
              go_simp
              try with_reducible rfl
            try simp only [Act.put, List.setIfInBounds_toArray, List.set_cons_zero, List.set_cons_succ]
            refine wpAnyH_ready (rs := [14]) (by kernel_rfl) (by simp) ?_
            refine AllReadyH.cons rfl (fun KK hKK => ?_) AllReadyH.nil
            go_simp
            refine (rat5_any bx b_y _ rb.out.1 rb.out.2.1 rb.out.2.2.1 rb.out.2.2.2).mono ?_
            rintro e wk3 ⟨V, rfl, hV, g⟩
            have gk := hHeld.out.trans g
            have hV := Lib.hid (((hV.d qb.out qb2.out).2).mono (show 2 ≤ 7 by omega))
            clear hHeld
            try dsimp only
            refine hKK.out _ _ gk (fun hHeld => ?_)
            clear gk hKK KK
            replace hHeld := Lib.hid (show Grew wc wk3 from hHeld)
            try simp only [Act.put, List.setIfInBounds_toArray, List.set_cons_zero, List.set_cons_succ]
            refine wpAnyH_ready (rs := [15]) (by kernel_rfl) (by simp) ?_
            refine AllReadyH.cons rfl (fun KK hKK => ?_) AllReadyH.nil
            go_simp
            refine (rscmp_any _ _ X Y (bx : Rat) (b_y : Rat) 7 _ (SpotR.kept S1.out hHeld.out.keeps) hV.out (by omega) (by omega)).mono ?_
            rintro e wk4 ⟨rfl, g⟩
            have gk := hHeld.out.trans g
            rw [j2.out]
            clear hV
            clear hHeld
            try dsimp only
            refine hKK.out _ _ gk (fun hHeld => ?_)
            clear gk hKK KK
            replace hHeld := Lib.hid (show Grew wc wk4 from hHeld)
            try simp only [Act.put, List.setIfInBounds_toArray, List.set_cons_zero, List.set_cons_succ]
            refine wpAnyH_takeD (i := 16) (d := 42) (v := ?_) rfl rfl (by kernel_rfl) (by kernel_rfl) (by kernel_rfl) (fun _ _ _ h => h) (Or.inl ⟨by rfl, ?_⟩) hHeld.out ?_
            rotate_left
            · intro wv hSw
              replace hSw : Hid (Grew wc wv) := Lib.hid hSw
              go_simp
              try with_reducible rfl
            try simp only [Act.put, List.setIfInBounds_toArray, List.set_cons_zero, List.set_cons_succ]
            refine wpAnyH_takeD (i := 17) (d := 43) (v := ?_) rfl rfl (by kernel_rfl) (by kernel_rfl) (by kernel_rfl) (fun _ _ _ h => h) (Or.inl ⟨by rfl, ?_⟩) hHeld.out ?_
            rotate_left
            · intro wv hSw
              replace hSw : Hid (Grew wc wv) := Lib.hid hSw
              go_simp
              try with_reducible rfl
            try simp only [Act.put, List.setIfInBounds_toArray, List.set_cons_zero, List.set_cons_succ]
            refine wpAnyH_takeD (i := 18) (d := 44) (v := ?_) rfl rfl (by kernel_rfl) (by kernel_rfl) (by kernel_rfl) (fun _ _ _ h => h) (Or.inl ⟨by rfl, ?_⟩) hHeld.out ?_
            rotate_left
            · intro wv hSw
              replace hSw : Hid (Grew wc wv) := Lib.hid hSw
              go_simp
              try with_reducible rfl
            try simp only [Act.put, List.setIfInBounds_toArray, List.set_cons_zero, List.set_cons_succ]
            refine wpAnyH_takeD (i := 19) (d := 45) (v := ?_) rfl rfl (by kernel_rfl) (by kernel_rfl) (by kernel_rfl) (fun _ _ _ h => h) (Or.inl ⟨by rfl, ?_⟩) hHeld.out ?_
            rotate_left
            · intro wv hSw
              replace hSw : Hid (Grew wc wv) := Lib.hid hSw
              go_simp
              try with_reducible rfl
            try simp only [Act.put, List.setIfInBounds_toArray, List.set_cons_zero, List.set_cons_succ]
            refine wpAnyH_takeD (i := 20) (d := 46) (v := ?_) rfl rfl (by kernel_rfl) (by kernel_rfl) (by kernel_rfl) (fun _ _ _ h => h) (Or.inl ⟨by rfl, ?_⟩) hHeld.out ?_
            rotate_left
            · intro wv hSw
              replace hSw : Hid (Grew wc wv) := Lib.hid hSw
              go_simp
              try with_reducible rfl
            try simp only [Act.put, List.setIfInBounds_toArray, List.set_cons_zero, List.set_cons_succ]
            refine wpAnyH_takeD (i := 21) (d := 47) (v := ?_) rfl rfl (by kernel_rfl) (by kernel_rfl) (by kernel_rfl) (fun _ _ _ h => h) (Or.inl ⟨by rfl, ?_⟩) hHeld.out ?_
            rotate_left
            · intro wv hSw
              replace hSw : Hid (Grew wc wv) := Lib.hid hSw
              have t0 := hSw.out.cell e0.out
              have t1 := hSw.out.cell e1.out
              have t2 := hSw.out.cell e2.out
              have t3 := hSw.out.cell e3.out
              have t4 := hSw.out.cell e4.out
              have t5 := hSw.out.cell e5.out
              go_simp
              try with_reducible rfl
            try simp only [Act.put, List.setIfInBounds_toArray, List.set_cons_zero, List.set_cons_succ]
            refine wpAnyH_takeD (i := 22) (d := 48) (v := ?_) rfl rfl (by kernel_rfl) (by kernel_rfl) (by kernel_rfl) (fun _ _ _ h => h) (Or.inl ⟨by rfl, ?_⟩) hHeld.out ?_
            rotate_left
            · intro wv hSw
              replace hSw : Hid (Grew wc wv) := Lib.hid hSw
              go_simp
              try with_reducible rfl
            try simp only [Act.put, List.setIfInBounds_toArray, List.set_cons_zero, List.set_cons_succ]
            refine wpAnyH_takeD (i := 23) (d := 49) (v := ?_) rfl rfl (by kernel_rfl) (by kernel_rfl) (by kernel_rfl) (fun _ _ _ h => h) (Or.inl ⟨by rfl, ?_⟩) hHeld.out ?_
            rotate_left
            · intro wv hSw
              replace hSw : Hid (Grew wc wv) := Lib.hid hSw
              have t0 := hSw.out.cell Q.out.p0
              have t1 := hSw.out.cell Q.out.p1
              go_simp
              try with_reducible rfl
            try simp only [Act.put, List.setIfInBounds_toArray, List.set_cons_zero, List.set_cons_succ]
            refine wpAnyH_ready (rs := [24]) (by kernel_rfl) (by simp) ?_
            refine AllReadyH.cons rfl (fun KK hKK => ?_) AllReadyH.nil
            go_simp
            refine (rat5_any cx cy _ rc.out.1 rc.out.2.1 rc.out.2.2.1 rc.out.2.2.2).mono ?_
            rintro e wk5 ⟨V, rfl, hV, g⟩
            have gk := hHeld.out.trans g
            have hV := Lib.hid (((hV.d qc.out qc2.out).2).mono (show 2 ≤ 7 by omega))
            clear hHeld
            try dsimp only
            refine hKK.out _ _ gk (fun hHeld => ?_)
            clear gk hKK KK
            replace hHeld := Lib.hid (show Grew wc wk5 from hHeld)
            try simp only [Act.put, List.setIfInBounds_toArray, List.set_cons_zero, List.set_cons_succ]
            refine wpAnyH_ready (rs := [25]) (by kernel_rfl) (by simp) ?_
            refine AllReadyH.cons rfl (fun KK hKK => ?_) AllReadyH.nil
            go_simp
            refine (rscmp_any _ _ X Y (cx : Rat) (cy : Rat) 7 _ (SpotR.kept S1.out hHeld.out.keeps) hV.out (by omega) (by omega)).mono ?_
            rintro e wk6 ⟨rfl, g⟩
            have gk := hHeld.out.trans g
            rw [j3.out]
            clear hV
            clear hHeld
            try dsimp only
            refine hKK.out _ _ gk (fun hHeld => ?_)
            clear gk hKK KK
            replace hHeld := Lib.hid (show Grew wc wk6 from hHeld)
            try simp only [Act.put, List.setIfInBounds_toArray, List.set_cons_zero, List.set_cons_succ]
            refine wpAnyH_takeD (i := 26) (d := 52) (v := ?_) rfl rfl (by kernel_rfl) (by kernel_rfl) (by kernel_rfl) (fun _ _ _ h => h) (Or.inl ⟨by rfl, ?_⟩) hHeld.out ?_
            rotate_left
            · intro wv hSw
              replace hSw : Hid (Grew wc wv) := Lib.hid hSw
              go_simp
              try with_reducible rfl
            try simp only [Act.put, List.setIfInBounds_toArray, List.set_cons_zero, List.set_cons_succ]
            refine wpAnyH_takeD (i := 27) (d := 53) (v := ?_) rfl rfl (by kernel_rfl) (by kernel_rfl) (by kernel_rfl) (fun _ _ _ h => h) (Or.inl ⟨by rfl, ?_⟩) hHeld.out ?_
            rotate_left
            · intro wv hSw
              replace hSw : Hid (Grew wc wv) := Lib.hid hSw
              go_simp
              try with_reducible rfl
            try simp only [Act.put, List.setIfInBounds_toArray, List.set_cons_zero, List.set_cons_succ]
            refine wpAnyH_takeD (i := 28) (d := 54) (v := ?_) rfl rfl (by kernel_rfl) (by kernel_rfl) (by kernel_rfl) (fun _ _ _ h => h) (Or.inl ⟨by rfl, ?_⟩) hHeld.out ?_
            rotate_left
            · intro wv hSw
              replace hSw : Hid (Grew wc wv) := Lib.hid hSw
              go_simp
              try with_reducible rfl
            try simp only [Act.put, List.setIfInBounds_toArray, List.set_cons_zero, List.set_cons_succ]
            refine wpAnyH_takeD (i := 29) (d := 55) (v := undef) rfl rfl (by kernel_rfl) (by kernel_rfl) (by kernel_rfl) (fun _ _ _ h => h) (Or.inr ⟨by rfl, rfl⟩) hHeld.out ?_
            try simp only [Act.put, List.setIfInBounds_toArray, List.set_cons_zero, List.set_cons_succ]
            refine wpAnyH_takeD (i := 30) (d := 56) (v := undef) rfl rfl (by kernel_rfl) (by kernel_rfl) (by kernel_rfl) (fun _ _ _ h => h) (Or.inr ⟨by rfl, rfl⟩) hHeld.out ?_
            try simp only [Act.put, List.setIfInBounds_toArray, List.set_cons_zero, List.set_cons_succ]
            refine wpAnyH_takeD (i := 31) (d := 57) (v := undef) rfl rfl (by kernel_rfl) (by kernel_rfl) (by kernel_rfl) (fun _ _ _ h => h) (Or.inr ⟨by rfl, rfl⟩) hHeld.out ?_
            try simp only [Act.put, List.setIfInBounds_toArray, List.set_cons_zero, List.set_cons_succ]
            refine wpAnyH_takeD (i := 32) (d := 58) (v := undef) rfl rfl (by kernel_rfl) (by kernel_rfl) (by kernel_rfl) (fun _ _ _ h => h) (Or.inr ⟨by rfl, rfl⟩) hHeld.out ?_
            try simp only [Act.put, List.setIfInBounds_toArray, List.set_cons_zero, List.set_cons_succ]
            refine wpAnyH_takeD (i := 33) (d := 59) (v := undef) rfl rfl (by kernel_rfl) (by kernel_rfl) (by kernel_rfl) (fun _ _ _ h => h) (Or.inr ⟨by rfl, rfl⟩) hHeld.out ?_
            try simp only [Act.put, List.setIfInBounds_toArray, List.set_cons_zero, List.set_cons_succ]
            refine wpAnyH_takeD (i := 34) (d := 60) (v := undef) rfl rfl (by kernel_rfl) (by kernel_rfl) (by kernel_rfl) (fun _ _ _ h => h) (Or.inr ⟨by rfl, rfl⟩) hHeld.out ?_
            try simp only [Act.put, List.setIfInBounds_toArray, List.set_cons_zero, List.set_cons_succ]
            refine wpAnyH_takeD (i := 35) (d := 61) (v := undef) rfl rfl (by kernel_rfl) (by kernel_rfl) (by kernel_rfl) (fun _ _ _ h => h) (Or.inr ⟨by rfl, rfl⟩) hHeld.out ?_
            try simp only [Act.put, List.setIfInBounds_toArray, List.set_cons_zero, List.set_cons_succ]
            refine wpAnyH_takeD (i := 36) (d := 62) (v := undef) rfl rfl (by kernel_rfl) (by kernel_rfl) (by kernel_rfl) (fun _ _ _ h => h) (Or.inr ⟨by rfl, rfl⟩) hHeld.out ?_
            try simp only [Act.put, List.setIfInBounds_toArray, List.set_cons_zero, List.set_cons_succ]
            refine wpAnyH_takeD (i := 37) (d := 63) (v := ?_) rfl rfl (by kernel_rfl) (by kernel_rfl) (by kernel_rfl) (fun _ _ _ h => h) (Or.inl ⟨by rfl, ?_⟩) hHeld.out ?_
            rotate_left
            · intro wv hSw
              replace hSw : Hid (Grew wc wv) := Lib.hid hSw
              go_simp
              try with_reducible rfl
            try simp only [Act.put, List.setIfInBounds_toArray, List.set_cons_zero, List.set_cons_succ]
            refine wpAnyH_takeD (i := 38) (d := 4) (v := ?_) rfl rfl (by kernel_rfl) (by kernel_rfl) (by kernel_rfl) (fun _ _ _ h => h) (Or.inl ⟨by rfl, ?_⟩) hHeld.out ?_
            rotate_left
            · intro wv hSw
              replace hSw : Hid (Grew wc wv) := Lib.hid hSw
              go_simp
              try with_reducible rfl
            try simp only [Act.put, List.setIfInBounds_toArray, List.set_cons_zero, List.set_cons_succ]
            refine wpAnyH_done (by kernel_rfl) ?_ _
            go_wp2_with fail
            go_ret
            exact ⟨by rw [ee.out]; rfl, G0.out.trans hHeld.out⟩
          · have y3 : (t3 == 0) = false := by simpa using z3
            have y3' : (t3 != 0) = true := by simpa using z3
            by_cases z4 : t4 = 0
            · subst z4
              have ee := Lib.hid (show false = ML by rw [← hM1.out]; simp)
              clear hM1
              refine wp_region_held_drew (S := fun wv => Grew wc wv) (by kernel_rfl) ((Grew.refl wc).drew) (fun hHeld => ?_)
              replace hHeld := Lib.hid hHeld
              try simp only [Act.put, List.setIfInBounds_toArray, List.set_cons_zero, List.set_cons_succ]
              refine wpAnyH_takeD (i := 0) (d := 26) (v := ?_) rfl rfl (by kernel_rfl) (by kernel_rfl) (by kernel_rfl) (fun _ _ _ h => h) (Or.inl ⟨by rfl, ?_⟩) hHeld.out ?_
              rotate_left
              · intro wv hSw
                replace hSw : Hid (Grew wc wv) := Lib.hid hSw
                go_simp
                try with_reducible rfl
              try simp only [Act.put, List.setIfInBounds_toArray, List.set_cons_zero, List.set_cons_succ]
              refine wpAnyH_takeD (i := 1) (d := 27) (v := ?_) rfl rfl (by kernel_rfl) (by kernel_rfl) (by kernel_rfl) (fun _ _ _ h => h) (Or.inl ⟨by rfl, ?_⟩) hHeld.out ?_
              rotate_left
              · intro wv hSw
                replace hSw : Hid (Grew wc wv) := Lib.hid hSw
                go_simp
                try with_reducible rfl
              try simp only [Act.put, List.setIfInBounds_toArray, List.set_cons_zero, List.set_cons_succ]
              refine wpAnyH_takeD (i := 2) (d := 28) (v := ?_) rfl rfl (by kernel_rfl) (by kernel_rfl) (by kernel_rfl) (fun _ _ _ h => h) (Or.inl ⟨by rfl, ?_⟩) hHeld.out ?_
              rotate_left
              · intro wv hSw
                replace hSw : Hid (Grew wc wv) := Lib.hid hSw
                have t0 := hSw.out.cell e0.out
                have t1 := hSw.out.cell e1.out
                have t2 := hSw.out.cell e2.out
                have t3 := hSw.out.cell e3.out
                have t4 := hSw.out.cell e4.out
                have t5 := hSw.out.cell e5.out
                go_simp
                try with_reducible rfl
              try simp only [Act.put, List.setIfInBounds_toArray, List.set_cons_zero, List.set_cons_succ]
              refine wpAnyH_takeD (i := 3) (d := 29) (v := ?_) rfl rfl (by kernel_rfl) (by kernel_rfl) (by kernel_rfl) (fun _ _ _ h => h) (Or.inl ⟨by rfl, ?_⟩) hHeld.out ?_
              rotate_left
              · intro wv hSw
                replace hSw : Hid (Grew wc wv) := Lib.hid hSw
                go_simp
                try with_reducible rfl
              try simp only [Act.put, List.setIfInBounds_toArray, List.set_cons_zero, List.set_cons_succ]
              refine wpAnyH_takeD (i := 4) (d := 30) (v := ?_) rfl rfl (by kernel_rfl) (by kernel_rfl) (by kernel_rfl) (fun _ _ _ h => h) (Or.inl ⟨by rfl, ?_⟩) hHeld.out ?_
              rotate_left
              · intro wv hSw
                replace hSw : Hid (Grew wc wv) := Lib.hid hSw
                have t0 := hSw.out.cell P.out.p0
                have t1 := hSw.out.cell P.out.p1
                go_simp
                try with_reducible rfl
              try simp only [Act.put, List.setIfInBounds_toArray, List.set_cons_zero, List.set_cons_succ]
              refine wpAnyH_ready (rs := [5]) (by kernel_rfl) (by simp) ?_
              refine AllReadyH.cons rfl (fun KK hKK => ?_) AllReadyH.nil
              go_simp
              refine (rat5_any ax ay _ ra.out.1 ra.out.2.1 ra.out.2.2.1 ra.out.2.2.2).mono ?_
              rintro e wk1 ⟨V, rfl, hV, g⟩
              have gk := hHeld.out.trans g
              have hV := Lib.hid (((hV.d qa.out qa2.out).2).mono (show 2 ≤ 7 by omega))
              clear hHeld
              try dsimp only
              refine hKK.out _ _ gk (fun hHeld => ?_)
              clear gk hKK KK
              replace hHeld := Lib.hid (show Grew wc wk1 from hHeld)
              try simp only [Act.put, List.setIfInBounds_toArray, List.set_cons_zero, List.set_cons_succ]
              refine wpAnyH_ready (rs := [6]) (by kernel_rfl) (by simp) ?_
              refine AllReadyH.cons rfl (fun KK hKK => ?_) AllReadyH.nil
              go_simp
              refine (rscmp_any _ _ X Y (ax : Rat) (ay : Rat) 7 _ (SpotR.kept S1.out hHeld.out.keeps) hV.out (by omega) (by omega)).mono ?_
              rintro e wk2 ⟨rfl, g⟩
              have gk := hHeld.out.trans g
              rw [j1.out]
              clear hV
              clear hHeld
              try dsimp only
              refine hKK.out _ _ gk (fun hHeld => ?_)
              clear gk hKK KK
              replace hHeld := Lib.hid (show Grew wc wk2 from hHeld)
              try simp only [Act.put, List.setIfInBounds_toArray, List.set_cons_zero, List.set_cons_succ]
              refine wpAnyH_takeD (i := 7) (d := 33) (v := ?_) rfl rfl (by kernel_rfl) (by kernel_rfl) (by kernel_rfl) (fun _ _ _ h => h) (Or.inl ⟨by rfl, ?_⟩) hHeld.out ?_
              rotate_left
              · intro wv hSw
                replace hSw : Hid (Grew wc wv) := Lib.hid hSw
                go_simp
                try with_reducible rfl
              try simp only [Act.put, List.setIfInBounds_toArray, List.set_cons_zero, List.set_cons_succ]
              refine wpAnyH_takeD (i := 8) (d := 34) (v := ?_) rfl rfl (by kernel_rfl) (by kernel_rfl) (by kernel_rfl) (fun _ _ _ h => h) (Or.inl ⟨by rfl, ?_⟩) hHeld.out ?_
              rotate_left
              · intro wv hSw
                replace hSw : Hid (Grew wc wv) := Lib.hid hSw
                go_simp
                try with_reducible rfl
              try simp only [Act.put, List.setIfInBounds_toArray, List.set_cons_zero, List.set_cons_succ]
              refine wpAnyH_takeD (i := 9) (d := 35) (v := ?_) rfl rfl (by kernel_rfl) (by kernel_rfl) (by kernel_rfl) (fun _ _ _ h => h) (Or.inl ⟨by rfl, ?_⟩) hHeld.out ?_
              rotate_left
              · intro wv hSw
                replace hSw : Hid (Grew wc wv) := Lib.hid hSw
                go_simp
                try with_reducible rfl
              try simp only [Act.put, List.setIfInBounds_toArray, List.set_cons_zero, List.set_cons_succ]
              refine wpAnyH_takeD (i := 10) (d := 36) (v := ?_) rfl rfl (by kernel_rfl) (by kernel_rfl) (by kernel_rfl) (fun _ _ _ h => h) (Or.inl ⟨by rfl, ?_⟩) hHeld.out ?_
              rotate_left
              · intro wv hSw
                replace hSw : Hid (Grew wc wv) := Lib.hid hSw
                go_simp
                try with_reducible rfl
              try simp only [Act.put, List.setIfInBounds_toArray, List.set_cons_zero, List.set_cons_succ]
              refine wpAnyH_takeD (i := 11) (d := 37) (v := ?_) rfl rfl (by kernel_rfl) (by kernel_rfl) (by kernel_rfl) (fun _ _ _ h => h) (Or.inl ⟨by rfl, ?_⟩) hHeld.out ?_
              rotate_left
              · intro wv hSw
                replace hSw : Hid (Grew wc wv) := Lib.hid hSw
                have t0 := hSw.out.cell e0.out
                have t1 := hSw.out.cell e1.out
                have t2 := hSw.out.cell e2.out
                have t3 := hSw.out.cell e3.out
                have t4 := hSw.out.cell e4.out
                have t5 := hSw.out.cell e5.out
                go_simp
                try with_reducible rfl
              try simp only [Act.put, List.setIfInBounds_toArray, List.set_cons_zero, List.set_cons_succ]
              refine wpAnyH_takeD (i := 12) (d := 38) (v := ?_) rfl rfl (by kernel_rfl) (by kernel_rfl) (by kernel_rfl) (fun _ _ _ h => h) (Or.inl ⟨by rfl, ?_⟩) hHeld.out ?_
              rotate_left
              · intro wv hSw
                replace hSw : Hid (Grew wc wv) := Lib.hid hSw
                go_simp
                try with_reducible rfl
              try simp only [Act.put, List.setIfInBounds_toArray, List.set_cons_zero, List.set_cons_succ]
              refine wpAnyH_takeD (i := 13) (d := 39) (v := ?_) rfl rfl (by kernel_rfl) (by kernel_rfl) (by kernel_rfl) (fun _ _ _ h => h) (Or.inl ⟨by rfl, ?_⟩) hHeld.out ?_
              rotate_left
              · intro wv hSw
                replace hSw : Hid (Grew wc wv) := Lib.hid hSw
                have t0 := hSw.out.cell P.out.p2
                have t1 := hSw.out.cell P.out.p3
                go_simp
                try with_reducible rfl
              try simp only [Act.put, List.setIfInBounds_toArray, List.set_cons_zero, List.set_cons_succ]
              refine wpAnyH_ready (rs := [14]) (by kernel_rfl) (by simp) ?_
              refine AllReadyH.cons rfl (fun KK hKK => ?_) AllReadyH.nil
              go_simp
              refine (rat5_any bx b_y _ rb.out.1 rb.out.2.1 rb.out.2.2.1 rb.out.2.2.2).mono ?_
              rintro e wk3 ⟨V, rfl, hV, g⟩
              have gk := hHeld.out.trans g
              have hV := Lib.hid (((hV.d qb.out qb2.out).2).mono (show 2 ≤ 7 by omega))
              clear hHeld
              try dsimp only
              refine hKK.out _ _ gk (fun hHeld => ?_)
              clear gk hKK KK
              replace hHeld := Lib.hid (show Grew wc wk3 from hHeld)
              try simp only [Act.put, List.setIfInBounds_toArray, List.set_cons_zero, List.set_cons_succ]
              refine wpAnyH_ready (rs := [15]) (by kernel_rfl) (by simp) ?_
              refine AllReadyH.cons rfl (fun KK hKK => ?_) AllReadyH.nil
              go_simp
              refine (rscmp_any _ _ X Y (bx : Rat) (b_y : Rat) 7 _ (SpotR.kept S1.out hHeld.out.keeps) hV.out (by omega) (by omega)).mono ?_
              rintro e wk4 ⟨rfl, g⟩
              have gk := hHeld.out.trans g
              rw [j2.out]
              clear hV
              clear hHeld
              try dsimp only
              refine hKK.out _ _ gk (fun hHeld => ?_)
              clear gk hKK KK
              replace hHeld := Lib.hid (show Grew wc wk4 from hHeld)
              try simp only [Act.put, List.setIfInBounds_toArray, List.set_cons_zero, List.set_cons_succ]
              refine wpAnyH_takeD (i := 16) (d := 42) (v := ?_) rfl rfl (by kernel_rfl) (by kernel_rfl) (by kernel_rfl) (fun _ _ _ h => h) (Or.inl ⟨by rfl, ?_⟩) hHeld.out ?_
              rotate_left
              · intro wv hSw
                replace hSw : Hid (Grew wc wv) := Lib.hid hSw
                go_simp
                try with_reducible rfl
              try simp only [Act.put, List.setIfInBounds_toArray, List.set_cons_zero, List.set_cons_succ]
              refine wpAnyH_takeD (i := 17) (d := 43) (v := ?_) rfl rfl (by kernel_rfl) (by kernel_rfl) (by kernel_rfl) (fun _ _ _ h => h) (Or.inl ⟨by rfl, ?_⟩) hHeld.out ?_
              rotate_left
              · intro wv hSw
                replace hSw : Hid (Grew wc wv) := Lib.hid hSw
                go_simp
                try with_reducible rfl
              try simp only [Act.put, List.setIfInBounds_toArray, List.set_cons_zero, List.set_cons_succ]
              refine wpAnyH_takeD (i := 18) (d := 44) (v := ?_) rfl rfl (by kernel_rfl) (by kernel_rfl) (by kernel_rfl) (fun _ _ _ h => h) (Or.inl ⟨by rfl, ?_⟩) hHeld.out ?_
              rotate_left
              · intro wv hSw
                replace hSw : Hid (Grew wc wv) := Lib.hid hSw
                go_simp
                try with_reducible rfl
              try simp only [Act.put, List.setIfInBounds_toArray, List.set_cons_zero, List.set_cons_succ]
              refine wpAnyH_takeD (i := 19) (d := 45) (v := ?_) rfl rfl (by kernel_rfl) (by kernel_rfl) (by kernel_rfl) (fun _ _ _ h => h) (Or.inl ⟨by rfl, ?_⟩) hHeld.out ?_
              rotate_left
              · intro wv hSw
                replace hSw : Hid (Grew wc wv) := Lib.hid hSw
                go_simp
                try with_reducible rfl
              try simp only [Act.put, List.setIfInBounds_toArray, List.set_cons_zero, List.set_cons_succ]
              refine wpAnyH_takeD (i := 20) (d := 46) (v := ?_) rfl rfl (by kernel_rfl) (by kernel_rfl) (by kernel_rfl) (fun _ _ _ h => h) (Or.inl ⟨by rfl, ?_⟩) hHeld.out ?_
              rotate_left
              · intro wv hSw
                replace hSw : Hid (Grew wc wv) := Lib.hid hSw
                go_simp
                try with_reducible rfl
              try simp only [Act.put, List.setIfInBounds_toArray, List.set_cons_zero, List.set_cons_succ]
              refine wpAnyH_takeD (i := 21) (d := 47) (v := ?_) rfl rfl (by kernel_rfl) (by kernel_rfl) (by kernel_rfl) (fun _ _ _ h => h) (Or.inl ⟨by rfl, ?_⟩) hHeld.out ?_
              rotate_left
              · intro wv hSw
                replace hSw : Hid (Grew wc wv) := Lib.hid hSw
                have t0 := hSw.out.cell e0.out
                have t1 := hSw.out.cell e1.out
                have t2 := hSw.out.cell e2.out
                have t3 := hSw.out.cell e3.out
                have t4 := hSw.out.cell e4.out
                have t5 := hSw.out.cell e5.out
                go_simp
                try with_reducible rfl
              try simp only [Act.put, List.setIfInBounds_toArray, List.set_cons_zero, List.set_cons_succ]
              refine wpAnyH_takeD (i := 22) (d := 48) (v := ?_) rfl rfl (by kernel_rfl) (by kernel_rfl) (by kernel_rfl) (fun _ _ _ h => h) (Or.inl ⟨by rfl, ?_⟩) hHeld.out ?_
              rotate_left
              · intro wv hSw
                replace hSw : Hid (Grew wc wv) := Lib.hid hSw
                go_simp
                try with_reducible rfl
              try simp only [Act.put, List.setIfInBounds_toArray, List.set_cons_zero, List.set_cons_succ]
              refine wpAnyH_takeD (i := 23) (d := 49) (v := ?_) rfl rfl (by kernel_rfl) (by kernel_rfl) (by kernel_rfl) (fun _ _ _ h => h) (Or.inl ⟨by rfl, ?_⟩) hHeld.out ?_
              rotate_left
              · intro wv hSw
                replace hSw : Hid (Grew wc wv) := Lib.hid hSw
                have t0 := hSw.out.cell Q.out.p0
                have t1 := hSw.out.cell Q.out.p1
                go_simp
                try with_reducible rfl
              try simp only [Act.put, List.setIfInBounds_toArray, List.set_cons_zero, List.set_cons_succ]
              refine wpAnyH_ready (rs := [24]) (by kernel_rfl) (by simp) ?_
              refine AllReadyH.cons rfl (fun KK hKK => ?_) AllReadyH.nil
              go_simp
              refine (rat5_any cx cy _ rc.out.1 rc.out.2.1 rc.out.2.2.1 rc.out.2.2.2).mono ?_
              rintro e wk5 ⟨V, rfl, hV, g⟩
              have gk := hHeld.out.trans g
              have hV := Lib.hid (((hV.d qc.out qc2.out).2).mono (show 2 ≤ 7 by omega))
              clear hHeld
              try dsimp only
              refine hKK.out _ _ gk (fun hHeld => ?_)
              clear gk hKK KK
              replace hHeld := Lib.hid (show Grew wc wk5 from hHeld)
              try simp only [Act.put, List.setIfInBounds_toArray, List.set_cons_zero, List.set_cons_succ]
              refine wpAnyH_ready (rs := [25]) (by kernel_rfl) (by simp) ?_
              refine AllReadyH.cons rfl (fun KK hKK => ?_) AllReadyH.nil
              go_simp
              refine (rscmp_any _ _ X Y (cx : Rat) (cy : Rat) 7 _ (SpotR.kept S1.out hHeld.out.keeps) hV.out (by omega) (by omega)).mono ?_
              rintro e wk6 ⟨rfl, g⟩
              have gk := hHeld.out.trans g
              rw [j3.out]
              clear hV
              clear hHeld
              try dsimp only
              refine hKK.out _ _ gk (fun hHeld => ?_)
              clear gk hKK KK
              replace hHeld := Lib.hid (show Grew wc wk6 from hHeld)
              try simp only [Act.put, List.setIfInBounds_toArray, List.set_cons_zero, List.set_cons_succ]
              refine wpAnyH_takeD (i := 26) (d := 52) (v := ?_) rfl rfl (by kernel_rfl) (by kernel_rfl) (by kernel_rfl) (fun _ _ _ h => h) (Or.inl ⟨by rfl, ?_⟩) hHeld.out ?_
              rotate_left
              · intro wv hSw
                replace hSw : Hid (Grew wc wv) := Lib.hid hSw
                go_simp
                try with_reducible rfl
              try simp only [Act.put, List.setIfInBounds_toArray, List.set_cons_zero, List.set_cons_succ]
              refine wpAnyH_takeD (i := 27) (d := 53) (v := ?_) rfl rfl (by kernel_rfl) (by kernel_rfl) (by kernel_rfl) (fun _ _ _ h => h) (Or.inl ⟨by rfl, ?_⟩) hHeld.out ?_
              rotate_left
              · intro wv hSw
                replace hSw : Hid (Grew wc wv) := Lib.hid hSw
                go_simp
                try with_reducible rfl
              try simp only [Act.put, List.setIfInBounds_toArray, List.set_cons_zero, List.set_cons_succ]
              refine wpAnyH_takeD (i := 28) (d := 54) (v := ?_) rfl rfl (by kernel_rfl) (by kernel_rfl) (by kernel_rfl) (fun _ _ _ h => h) (Or.inl ⟨by rfl, ?_⟩) hHeld.out ?_
              rotate_left
              · intro wv hSw
                replace hSw : Hid (Grew wc wv) := Lib.hid hSw
                go_simp
                try with_reducible rfl
              try simp only [Act.put, List.setIfInBounds_toArray, List.set_cons_zero, List.set_cons_succ]
              refine wpAnyH_takeD (i := 29) (d := 55) (v := ?_) rfl rfl (by kernel_rfl) (by kernel_rfl) (by kernel_rfl) (fun _ _ _ h => h) (Or.inl ⟨by rfl, ?_⟩) hHeld.out ?_
              rotate_left
              · intro wv hSw
                replace hSw : Hid (Grew wc wv) := Lib.hid hSw
                go_simp
                try with_reducible rfl
              try simp only [Act.put, List.setIfInBounds_toArray, List.set_cons_zero, List.set_cons_succ]
              refine wpAnyH_takeD (i := 30) (d := 56) (v := ?_) rfl rfl (by kernel_rfl) (by kernel_rfl) (by kernel_rfl) (fun _ _ _ h => h) (Or.inl ⟨by rfl, ?_⟩) hHeld.out ?_
              rotate_left
              · intro wv hSw
                replace hSw : Hid (Grew wc wv) := Lib.hid hSw
                go_simp
                try with_reducible rfl
              try simp only [Act.put, List.setIfInBounds_toArray, List.set_cons_zero, List.set_cons_succ]
              refine wpAnyH_takeD (i := 31) (d := 57) (v := ?_) rfl rfl (by kernel_rfl) (by kernel_rfl) (by kernel_rfl) (fun _ _ _ h => h) (Or.inl ⟨by rfl, ?_⟩) hHeld.out ?_
              rotate_left
              · intro wv hSw
                replace hSw : Hid (Grew wc wv) := Lib.hid hSw
                have t0 := hSw.out.cell e0.out
                have t1 := hSw.out.cell e1.out
                have t2 := hSw.out.cell e2.out
                have t3 := hSw.out.cell e3.out
                have t4 := hSw.out.cell e4.out
                have t5 := hSw.out.cell e5.out
                go_simp
                try with_reducible rfl
              try simp only [Act.put, List.setIfInBounds_toArray, List.set_cons_zero, List.set_cons_succ]
              refine wpAnyH_takeD (i := 32) (d := 58) (v := ?_) rfl rfl (by kernel_rfl) (by kernel_rfl) (by kernel_rfl) (fun _ _ _ h => h) (Or.inl ⟨by rfl, ?_⟩) hHeld.out ?_
              rotate_left
              · intro wv hSw
                replace hSw : Hid (Grew wc wv) := Lib.hid hSw
                go_simp
                try with_reducible rfl
              try simp only [Act.put, List.setIfInBounds_toArray, List.set_cons_zero, List.set_cons_succ]
              refine wpAnyH_takeD (i := 33) (d := 59) (v := ?_) rfl rfl (by kernel_rfl) (by kernel_rfl) (by kernel_rfl) (fun _ _ _ h => h) (Or.inl ⟨by rfl, ?_⟩) hHeld.out ?_
              rotate_left
              · intro wv hSw
                replace hSw : Hid (Grew wc wv) := Lib.hid hSw
                have t0 := hSw.out.cell Q.out.p2
                have t1 := hSw.out.cell Q.out.p3
                go_simp
                try with_reducible rfl
              try simp only [Act.put, List.setIfInBounds_toArray, List.set_cons_zero, List.set_cons_succ]
              refine wpAnyH_ready (rs := [34]) (by kernel_rfl) (by simp) ?_
              refine AllReadyH.cons rfl (fun KK hKK => ?_) AllReadyH.nil
              go_simp
              refine (rat5_any dx dy _ rd.out.1 rd.out.2.1 rd.out.2.2.1 rd.out.2.2.2).mono ?_
              rintro e wk7 ⟨V, rfl, hV, g⟩
              have gk := hHeld.out.trans g
              have hV := Lib.hid (((hV.d qd.out qd2.out).2).mono (show 2 ≤ 7 by omega))
              clear hHeld
              try dsimp only
              refine hKK.out _ _ gk (fun hHeld => ?_)
              clear gk hKK KK
              replace hHeld := Lib.hid (show Grew wc wk7 from hHeld)
              try simp only [Act.put, List.setIfInBounds_toArray, List.set_cons_zero, List.set_cons_succ]
              refine wpAnyH_ready (rs := [35]) (by kernel_rfl) (by simp) ?_
              refine AllReadyH.cons rfl (fun KK hKK => ?_) AllReadyH.nil
              go_simp
              refine (rscmp_any _ _ X Y (dx : Rat) (dy : Rat) 7 _ (SpotR.kept S1.out hHeld.out.keeps) hV.out (by omega) (by omega)).mono ?_
              rintro e wk8 ⟨rfl, g⟩
              have gk := hHeld.out.trans g
              rw [j4.out]
              clear hV
              clear hHeld
              try dsimp only
              refine hKK.out _ _ gk (fun hHeld => ?_)
              clear gk hKK KK
              replace hHeld := Lib.hid (show Grew wc wk8 from hHeld)
              try simp only [Act.put, List.setIfInBounds_toArray, List.set_cons_zero, List.set_cons_succ]
              refine wpAnyH_takeD (i := 36) (d := 62) (v := ?_) rfl rfl (by kernel_rfl) (by kernel_rfl) (by kernel_rfl) (fun _ _ _ h => h) (Or.inl ⟨by rfl, ?_⟩) hHeld.out ?_
              rotate_left
              · intro wv hSw
                replace hSw : Hid (Grew wc wv) := Lib.hid hSw
                go_simp
                try with_reducible rfl
              try simp only [Act.put, List.setIfInBounds_toArray, List.set_cons_zero, List.set_cons_succ]
              refine wpAnyH_takeD (i := 37) (d := 63) (v := ?_) rfl rfl (by kernel_rfl) (by kernel_rfl) (by kernel_rfl) (fun _ _ _ h => h) (Or.inl ⟨by rfl, ?_⟩) hHeld.out ?_
              rotate_left
              · intro wv hSw
                replace hSw : Hid (Grew wc wv) := Lib.hid hSw
                go_simp
                try with_reducible rfl
              try simp only [Act.put, List.setIfInBounds_toArray, List.set_cons_zero, List.set_cons_succ]
              refine wpAnyH_takeD (i := 38) (d := 4) (v := ?_) rfl rfl (by kernel_rfl) (by kernel_rfl) (by kernel_rfl) (fun _ _ _ h => h) (Or.inl ⟨by rfl, ?_⟩) hHeld.out ?_
              rotate_left
              · intro wv hSw
                replace hSw : Hid (Grew wc wv) := Lib.hid hSw
                go_simp
                try with_reducible rfl
              try simp only [Act.put, List.setIfInBounds_toArray, List.set_cons_zero, List.set_cons_succ]
              refine wpAnyH_done (by kernel_rfl) ?_ _
              go_wp2_with fail
              go_ret
              exact ⟨by rw [ee.out]; rfl, G0.out.trans hHeld.out⟩
            · have y4 : (t4 == 0) = false := by simpa using z4
              have y4' : (t4 != 0) = true := by simpa using z4
              have ee := Lib.hid (show true = ML by rw [← hM1.out]; simp [z1, z2, z3, z4])
              clear hM1
              refine wp_region_held_drew (S := fun wv => Grew wc wv) (by kernel_rfl) ((Grew.refl wc).drew) (fun hHeld => ?_)
              replace hHeld := Lib.hid hHeld
              try simp only [Act.put, List.setIfInBounds_toArray, List.set_cons_zero, List.set_cons_succ]
              refine wpAnyH_takeD (i := 0) (d := 26) (v := ?_) rfl rfl (by kernel_rfl) (by kernel_rfl) (by kernel_rfl) (fun _ _ _ h => h) (Or.inl ⟨by rfl, ?_⟩) hHeld.out ?_
              rotate_left
              · intro wv hSw
                replace hSw : Hid (Grew wc wv) := Lib.hid hSw
                go_simp
                try with_reducible rfl
              try simp only [Act.put, List.setIfInBounds_toArray, List.set_cons_zero, List.set_cons_succ]
              refine wpAnyH_takeD (i := 1) (d := 27) (v := ?_) rfl rfl (by kernel_rfl) (by kernel_rfl) (by kernel_rfl) (fun _ _ _ h => h) (Or.inl ⟨by rfl, ?_⟩) hHeld.out ?_
              rotate_left
              · intro wv hSw
                replace hSw : Hid (Grew wc wv) := Lib.hid hSw
                go_simp
                try with_reducible rfl
              try simp only [Act.put, List.setIfInBounds_toArray, List.set_cons_zero, List.set_cons_succ]
              refine wpAnyH_takeD (i := 2) (d := 28) (v := ?_) rfl rfl (by kernel_rfl) (by kernel_rfl) (by kernel_rfl) (fun _ _ _ h => h) (Or.inl ⟨by rfl, ?_⟩) hHeld.out ?_
              rotate_left
              · intro wv hSw
                replace hSw : Hid (Grew wc wv) := Lib.hid hSw
                have t0 := hSw.out.cell e0.out
                have t1 := hSw.out.cell e1.out
                have t2 := hSw.out.cell e2.out
                have t3 := hSw.out.cell e3.out
                have t4 := hSw.out.cell e4.out
                have t5 := hSw.out.cell e5.out
                go_simp
                try with_reducible rfl
              try simp only [Act.put, List.setIfInBounds_toArray, List.set_cons_zero, List.set_cons_succ]
              refine wpAnyH_takeD (i := 3) (d := 29) (v := ?_) rfl rfl (by kernel_rfl) (by kernel_rfl) (by kernel_rfl) (fun _ _ _ h => h) (Or.inl ⟨by rfl, ?_⟩) hHeld.out ?_
              rotate_left
              · intro wv hSw
                replace hSw : Hid (Grew wc wv) := Lib.hid hSw
                go_simp
                try with_reducible rfl
              try simp only [Act.put, List.setIfInBounds_toArray, List.set_cons_zero, List.set_cons_succ]
              refine wpAnyH_takeD (i := 4) (d := 30) (v := ?_) rfl rfl (by kernel_rfl) (by kernel_rfl) (by kernel_rfl) (fun _ _ _ h => h) (Or.inl ⟨by rfl, ?_⟩) hHeld.out ?_
              rotate_left
              · intro wv hSw
                replace hSw : Hid (Grew wc wv) := Lib.hid hSw
                have t0 := hSw.out.cell P.out.p0
                have t1 := hSw.out.cell P.out.p1
                go_simp
                try with_reducible rfl
              try simp only [Act.put, List.setIfInBounds_toArray, List.set_cons_zero, List.set_cons_succ]
              refine wpAnyH_ready (rs := [5]) (by kernel_rfl) (by simp) ?_
              refine AllReadyH.cons rfl (fun KK hKK => ?_) AllReadyH.nil
              go_simp
              refine (rat5_any ax ay _ ra.out.1 ra.out.2.1 ra.out.2.2.1 ra.out.2.2.2).mono ?_
              rintro e wk1 ⟨V, rfl, hV, g⟩
              have gk := hHeld.out.trans g
              have hV := Lib.hid (((hV.d qa.out qa2.out).2).mono (show 2 ≤ 7 by omega))
              clear hHeld
              try dsimp only
              refine hKK.out _ _ gk (fun hHeld => ?_)
              clear gk hKK KK
              replace hHeld := Lib.hid (show Grew wc wk1 from hHeld)
              try simp only [Act.put, List.setIfInBounds_toArray, List.set_cons_zero, List.set_cons_succ]
              refine wpAnyH_ready (rs := [6]) (by kernel_rfl) (by simp) ?_
              refine AllReadyH.cons rfl (fun KK hKK => ?_) AllReadyH.nil
              go_simp
              refine (rscmp_any _ _ X Y (ax : Rat) (ay : Rat) 7 _ (SpotR.kept S1.out hHeld.out.keeps) hV.out (by omega) (by omega)).mono ?_
              rintro e wk2 ⟨rfl, g⟩
              have gk := hHeld.out.trans g
              rw [j1.out]
              clear hV
              clear hHeld
              try dsimp only
              refine hKK.out _ _ gk (fun hHeld => ?_)
              clear gk hKK KK
              replace hHeld := Lib.hid (show Grew wc wk2 from hHeld)
              try simp only [Act.put, List.setIfInBounds_toArray, List.set_cons_zero, List.set_cons_succ]
              refine wpAnyH_takeD (i := 7) (d := 33) (v := ?_) rfl rfl (by kernel_rfl) (by kernel_rfl) (by kernel_rfl) (fun _ _ _ h => h) (Or.inl ⟨by rfl, ?_⟩) hHeld.out ?_
              rotate_left
              · intro wv hSw
                replace hSw : Hid (Grew wc wv) := Lib.hid hSw
                go_simp
                try with_reducible rfl
              try simp only [Act.put, List.setIfInBounds_toArray, List.set_cons_zero, List.set_cons_succ]
              refine wpAnyH_takeD (i := 8) (d := 34) (v := ?_) rfl rfl (by kernel_rfl) (by kernel_rfl) (by kernel_rfl) (fun _ _ _ h => h) (Or.inl ⟨by rfl, ?_⟩) hHeld.out ?_
              rotate_left
              · intro wv hSw
                replace hSw : Hid (Grew wc wv) := Lib.hid hSw
                go_simp
                try with_reducible rfl
              try simp only [Act.put, List.setIfInBounds_toArray, List.set_cons_zero, List.set_cons_succ]
              refine wpAnyH_takeD (i := 9) (d := 35) (v := ?_) rfl rfl (by kernel_rfl) (by kernel_rfl) (by kernel_rfl) (fun _ _ _ h => h) (Or.inl ⟨by rfl, ?_⟩) hHeld.out ?_
              rotate_left
              · intro wv hSw
                replace hSw : Hid (Grew wc wv) := Lib.hid hSw
                go_simp
                try with_reducible rfl
              try simp only [Act.put, List.setIfInBounds_toArray, List.set_cons_zero, List.set_cons_succ]
              refine wpAnyH_takeD (i := 10) (d := 36) (v := ?_) rfl rfl (by kernel_rfl) (by kernel_rfl) (by kernel_rfl) (fun _ _ _ h => h) (Or.inl ⟨by rfl, ?_⟩) hHeld.out ?_
              rotate_left
              · intro wv hSw
                replace hSw : Hid (Grew wc wv) := Lib.hid hSw
                go_simp
                try with_reducible rfl
              try simp only [Act.put, List.setIfInBounds_toArray, List.set_cons_zero, List.set_cons_succ]
              refine wpAnyH_takeD (i := 11) (d := 37) (v := ?_) rfl rfl (by kernel_rfl) (by kernel_rfl) (by kernel_rfl) (fun _ _ _ h => h) (Or.inl ⟨by rfl, ?_⟩) hHeld.out ?_
              rotate_left
              · intro wv hSw
                replace hSw : Hid (Grew wc wv) := Lib.hid hSw
                have t0 := hSw.out.cell e0.out
                have t1 := hSw.out.cell e1.out
                have t2 := hSw.out.cell e2.out
                have t3 := hSw.out.cell e3.out
                have t4 := hSw.out.cell e4.out
                have t5 := hSw.out.cell e5.out
                go_simp
                try with_reducible rfl
              try simp only [Act.put, List.setIfInBounds_toArray, List.set_cons_zero, List.set_cons_succ]
              refine wpAnyH_takeD (i := 12) (d := 38) (v := ?_) rfl rfl (by kernel_rfl) (by kernel_rfl) (by kernel_rfl) (fun _ _ _ h => h) (Or.inl ⟨by rfl, ?_⟩) hHeld.out ?_
              rotate_left
              · intro wv hSw
                replace hSw : Hid (Grew wc wv) := Lib.hid hSw
                go_simp
                try with_reducible rfl
              try simp only [Act.put, List.setIfInBounds_toArray, List.set_cons_zero, List.set_cons_succ]
              refine wpAnyH_takeD (i := 13) (d := 39) (v := ?_) rfl rfl (by kernel_rfl) (by kernel_rfl) (by kernel_rfl) (fun _ _ _ h => h) (Or.inl ⟨by rfl, ?_⟩) hHeld.out ?_
              rotate_left
              · intro wv hSw
                replace hSw : Hid (Grew wc wv) := Lib.hid hSw
                have t0 := hSw.out.cell P.out.p2
                have t1 := hSw.out.cell P.out.p3
                go_simp
                try with_reducible rfl
              try simp only [Act.put, List.setIfInBounds_toArray, List.set_cons_zero, List.set_cons_succ]
              refine wpAnyH_ready (rs := [14]) (by kernel_rfl) (by simp) ?_
              refine AllReadyH.cons rfl (fun KK hKK => ?_) AllReadyH.nil
              go_simp
              refine (rat5_any bx b_y _ rb.out.1 rb.out.2.1 rb.out.2.2.1 rb.out.2.2.2).mono ?_
              rintro e wk3 ⟨V, rfl, hV, g⟩
              have gk := hHeld.out.trans g
              have hV := Lib.hid (((hV.d qb.out qb2.out).2).mono (show 2 ≤ 7 by omega))
              clear hHeld
              try dsimp only
              refine hKK.out _ _ gk (fun hHeld => ?_)
              clear gk hKK KK
              replace hHeld := Lib.hid (show Grew wc wk3 from hHeld)
              try simp only [Act.put, List.setIfInBounds_toArray, List.set_cons_zero, List.set_cons_succ]
              refine wpAnyH_ready (rs := [15]) (by kernel_rfl) (by simp) ?_
              refine AllReadyH.cons rfl (fun KK hKK => ?_) AllReadyH.nil
              go_simp
              refine (rscmp_any _ _ X Y (bx : Rat) (b_y : Rat) 7 _ (SpotR.kept S1.out hHeld.out.keeps) hV.out (by omega) (by omega)).mono ?_
              rintro e wk4 ⟨rfl, g⟩
              have gk := hHeld.out.trans g
              rw [j2.out]
              clear hV
              clear hHeld
              try dsimp only
              refine hKK.out _ _ gk (fun hHeld => ?_)
              clear gk hKK KK
              replace hHeld := Lib.hid (show Grew wc wk4 from hHeld)
              try simp only [Act.put, List.setIfInBounds_toArray, List.set_cons_zero, List.set_cons_succ]
              refine wpAnyH_takeD (i := 16) (d := 42) (v := ?_) rfl rfl (by kernel_rfl) (by kernel_rfl) (by kernel_rfl) (fun _ _ _ h => h) (Or.inl ⟨by rfl, ?_⟩) hHeld.out ?_
              rotate_left
              · intro wv hSw
                replace hSw : Hid (Grew wc wv) := Lib.hid hSw
                go_simp
                try with_reducible rfl
              try simp only [Act.put, List.setIfInBounds_toArray, List.set_cons_zero, List.set_cons_succ]
              refine wpAnyH_takeD (i := 17) (d := 43) (v := ?_) rfl rfl (by kernel_rfl) (by kernel_rfl) (by kernel_rfl) (fun _ _ _ h => h) (Or.inl ⟨by rfl, ?_⟩) hHeld.out ?_
              rotate_left
              · intro wv hSw
                replace hSw : Hid (Grew wc wv) := Lib.hid hSw
                go_simp
                try with_reducible rfl
              try simp only [Act.put, List.setIfInBounds_toArray, List.set_cons_zero, List.set_cons_succ]
              refine wpAnyH_takeD (i := 18) (d := 44) (v := ?_) rfl rfl (by kernel_rfl) (by kernel_rfl) (by kernel_rfl) (fun _ _ _ h => h) (Or.inl ⟨by rfl, ?_⟩) hHeld.out ?_
              rotate_left
              · intro wv hSw
                replace hSw : Hid (Grew wc wv) := Lib.hid hSw
                go_simp
                try with_reducible rfl
              try simp only [Act.put, List.setIfInBounds_toArray, List.set_cons_zero, List.set_cons_succ]
              refine wpAnyH_takeD (i := 19) (d := 45) (v := ?_) rfl rfl (by kernel_rfl) (by kernel_rfl) (by kernel_rfl) (fun _ _ _ h => h) (Or.inl ⟨by rfl, ?_⟩) hHeld.out ?_
              rotate_left
              · intro wv hSw
                replace hSw : Hid (Grew wc wv) := Lib.hid hSw
                go_simp
                try with_reducible rfl
              try simp only [Act.put, List.setIfInBounds_toArray, List.set_cons_zero, List.set_cons_succ]
              refine wpAnyH_takeD (i := 20) (d := 46) (v := ?_) rfl rfl (by kernel_rfl) (by kernel_rfl) (by kernel_rfl) (fun _ _ _ h => h) (Or.inl ⟨by rfl, ?_⟩) hHeld.out ?_
              rotate_left
              · intro wv hSw
                replace hSw : Hid (Grew wc wv) := Lib.hid hSw
                go_simp
                try with_reducible rfl
              try simp only [Act.put, List.setIfInBounds_toArray, List.set_cons_zero, List.set_cons_succ]
              refine wpAnyH_takeD (i := 21) (d := 47) (v := ?_) rfl rfl (by kernel_rfl) (by kernel_rfl) (by kernel_rfl) (fun _ _ _ h => h) (Or.inl ⟨by rfl, ?_⟩) hHeld.out ?_
              rotate_left
              · intro wv hSw
                replace hSw : Hid (Grew wc wv) := Lib.hid hSw
                have t0 := hSw.out.cell e0.out
                have t1 := hSw.out.cell e1.out
                have t2 := hSw.out.cell e2.out
                have t3 := hSw.out.cell e3.out
                have t4 := hSw.out.cell e4.out
                have t5 := hSw.out.cell e5.out
                go_simp
                try with_reducible rfl
              try simp only [Act.put, List.setIfInBounds_toArray, List.set_cons_zero, List.set_cons_succ]
              refine wpAnyH_takeD (i := 22) (d := 48) (v := ?_) rfl rfl (by kernel_rfl) (by kernel_rfl) (by kernel_rfl) (fun _ _ _ h => h) (Or.inl ⟨by rfl, ?_⟩) hHeld.out ?_
              rotate_left
              · intro wv hSw
                replace hSw : Hid (Grew wc wv) := Lib.hid hSw
                go_simp
                try with_reducible rfl
              try simp only [Act.put, List.setIfInBounds_toArray, List.set_cons_zero, List.set_cons_succ]
              refine wpAnyH_takeD (i := 23) (d := 49) (v := ?_) rfl rfl (by kernel_rfl) (by kernel_rfl) (by kernel_rfl) (fun _ _ _ h => h) (Or.inl ⟨by rfl, ?_⟩) hHeld.out ?_
              rotate_left
              · intro wv hSw
                replace hSw : Hid (Grew wc wv) := Lib.hid hSw
                have t0 := hSw.out.cell Q.out.p0
                have t1 := hSw.out.cell Q.out.p1
                go_simp
                try with_reducible rfl
              try simp only [Act.put, List.setIfInBounds_toArray, List.set_cons_zero, List.set_cons_succ]
              refine wpAnyH_ready (rs := [24]) (by kernel_rfl) (by simp) ?_
              refine AllReadyH.cons rfl (fun KK hKK => ?_) AllReadyH.nil
              go_simp
              refine (rat5_any cx cy _ rc.out.1 rc.out.2.1 rc.out.2.2.1 rc.out.2.2.2).mono ?_
              rintro e wk5 ⟨V, rfl, hV, g⟩
              have gk := hHeld.out.trans g
              have hV := Lib.hid (((hV.d qc.out qc2.out).2).mono (show 2 ≤ 7 by omega))
              clear hHeld
              try dsimp only
              refine hKK.out _ _ gk (fun hHeld => ?_)
              clear gk hKK KK
              replace hHeld := Lib.hid (show Grew wc wk5 from hHeld)
              try simp only [Act.put, List.setIfInBounds_toArray, List.set_cons_zero, List.set_cons_succ]
              refine wpAnyH_ready (rs := [25]) (by kernel_rfl) (by simp) ?_
              refine AllReadyH.cons rfl (fun KK hKK => ?_) AllReadyH.nil
              go_simp
              refine (rscmp_any _ _ X Y (cx : Rat) (cy : Rat) 7 _ (SpotR.kept S1.out hHeld.out.keeps) hV.out (by omega) (by omega)).mono ?_
              rintro e wk6 ⟨rfl, g⟩
              have gk := hHeld.out.trans g
              rw [j3.out]
              clear hV
              clear hHeld
              try dsimp only
              refine hKK.out _ _ gk (fun hHeld => ?_)
              clear gk hKK KK
              replace hHeld := Lib.hid (show Grew wc wk6 from hHeld)
              try simp only [Act.put, List.setIfInBounds_toArray, List.set_cons_zero, List.set_cons_succ]
              refine wpAnyH_takeD (i := 26) (d := 52) (v := ?_) rfl rfl (by kernel_rfl) (by kernel_rfl) (by kernel_rfl) (fun _ _ _ h => h) (Or.inl ⟨by rfl, ?_⟩) hHeld.out ?_
              rotate_left
              · intro wv hSw
                replace hSw : Hid (Grew wc wv) := Lib.hid hSw
                go_simp
                try with_reducible rfl
              try simp only [Act.put, List.setIfInBounds_toArray, List.set_cons_zero, List.set_cons_succ]
              refine wpAnyH_takeD (i := 27) (d := 53) (v := ?_) rfl rfl (by kernel_rfl) (by kernel_rfl) (by kernel_rfl) (fun _ _ _ h => h) (Or.inl ⟨by rfl, ?_⟩) hHeld.out ?_
              rotate_left
              · intro wv hSw
                replace hSw : Hid (Grew wc wv) := Lib.hid hSw
                go_simp
                try with_reducible rfl
              try simp only [Act.put, List.setIfInBounds_toArray, List.set_cons_zero, List.set_cons_succ]
              refine wpAnyH_takeD (i := 28) (d := 54) (v := ?_) rfl rfl (by kernel_rfl) (by kernel_rfl) (by kernel_rfl) (fun _ _ _ h => h) (Or.inl ⟨by rfl, ?_⟩) hHeld.out ?_
              rotate_left
              · intro wv hSw
                replace hSw : Hid (Grew wc wv) := Lib.hid hSw
                go_simp
                try with_reducible rfl
              try simp only [Act.put, List.setIfInBounds_toArray, List.set_cons_zero, List.set_cons_succ]
              refine wpAnyH_takeD (i := 29) (d := 55) (v := ?_) rfl rfl (by kernel_rfl) (by kernel_rfl) (by kernel_rfl) (fun _ _ _ h => h) (Or.inl ⟨by rfl, ?_⟩) hHeld.out ?_
              rotate_left
              · intro wv hSw
                replace hSw : Hid (Grew wc wv) := Lib.hid hSw
                go_simp
                try with_reducible rfl
              try simp only [Act.put, List.setIfInBounds_toArray, List.set_cons_zero, List.set_cons_succ]
              refine wpAnyH_takeD (i := 30) (d := 56) (v := ?_) rfl rfl (by kernel_rfl) (by kernel_rfl) (by kernel_rfl) (fun _ _ _ h => h) (Or.inl ⟨by rfl, ?_⟩) hHeld.out ?_
              rotate_left
              · intro wv hSw
                replace hSw : Hid (Grew wc wv) := Lib.hid hSw
                go_simp
                try with_reducible rfl
              try simp only [Act.put, List.setIfInBounds_toArray, List.set_cons_zero, List.set_cons_succ]
              refine wpAnyH_takeD (i := 31) (d := 57) (v := ?_) rfl rfl (by kernel_rfl) (by kernel_rfl) (by kernel_rfl) (fun _ _ _ h => h) (Or.inl ⟨by rfl, ?_⟩) hHeld.out ?_
              rotate_left
              · intro wv hSw
                replace hSw : Hid (Grew wc wv) := Lib.hid hSw
                have t0 := hSw.out.cell e0.out
                have t1 := hSw.out.cell e1.out
                have t2 := hSw.out.cell e2.out
                have t3 := hSw.out.cell e3.out
                have t4 := hSw.out.cell e4.out
                have t5 := hSw.out.cell e5.out
                go_simp
                try with_reducible rfl
              try simp only [Act.put, List.setIfInBounds_toArray, List.set_cons_zero, List.set_cons_succ]
              refine wpAnyH_takeD (i := 32) (d := 58) (v := ?_) rfl rfl (by kernel_rfl) (by kernel_rfl) (by kernel_rfl) (fun _ _ _ h => h) (Or.inl ⟨by rfl, ?_⟩) hHeld.out ?_
              rotate_left
              · intro wv hSw
                replace hSw : Hid (Grew wc wv) := Lib.hid hSw
                go_simp
                try with_reducible rfl
              try simp only [Act.put, List.setIfInBounds_toArray, List.set_cons_zero, List.set_cons_succ]
              refine wpAnyH_takeD (i := 33) (d := 59) (v := ?_) rfl rfl (by kernel_rfl) (by kernel_rfl) (by kernel_rfl) (fun _ _ _ h => h) (Or.inl ⟨by rfl, ?_⟩) hHeld.out ?_
              rotate_left
              · intro wv hSw
                replace hSw : Hid (Grew wc wv) := Lib.hid hSw
                have t0 := hSw.out.cell Q.out.p2
                have t1 := hSw.out.cell Q.out.p3
                go_simp
                try with_reducible rfl
              try simp only [Act.put, List.setIfInBounds_toArray, List.set_cons_zero, List.set_cons_succ]
              refine wpAnyH_ready (rs := [34]) (by kernel_rfl) (by simp) ?_
              refine AllReadyH.cons rfl (fun KK hKK => ?_) AllReadyH.nil
              go_simp
              refine (rat5_any dx dy _ rd.out.1 rd.out.2.1 rd.out.2.2.1 rd.out.2.2.2).mono ?_
              rintro e wk7 ⟨V, rfl, hV, g⟩
              have gk := hHeld.out.trans g
              have hV := Lib.hid (((hV.d qd.out qd2.out).2).mono (show 2 ≤ 7 by omega))
              clear hHeld
              try dsimp only
              refine hKK.out _ _ gk (fun hHeld => ?_)
              clear gk hKK KK
              replace hHeld := Lib.hid (show Grew wc wk7 from hHeld)
              try simp only [Act.put, List.setIfInBounds_toArray, List.set_cons_zero, List.set_cons_succ]
              refine wpAnyH_ready (rs := [35]) (by kernel_rfl) (by simp) ?_
              refine AllReadyH.cons rfl (fun KK hKK => ?_) AllReadyH.nil
              go_simp
              refine (rscmp_any _ _ X Y (dx : Rat) (dy : Rat) 7 _ (SpotR.kept S1.out hHeld.out.keeps) hV.out (by omega) (by omega)).mono ?_
              rintro e wk8 ⟨rfl, g⟩
              have gk := hHeld.out.trans g
              rw [j4.out]
              clear hV
              clear hHeld
              try dsimp only
              refine hKK.out _ _ gk (fun hHeld => ?_)
              clear gk hKK KK
              replace hHeld := Lib.hid (show Grew wc wk8 from hHeld)
              try simp only [Act.put, List.setIfInBounds_toArray, List.set_cons_zero, List.set_cons_succ]
              refine wpAnyH_takeD (i := 36) (d := 62) (v := ?_) rfl rfl (by kernel_rfl) (by kernel_rfl) (by kernel_rfl) (fun _ _ _ h => h) (Or.inl ⟨by rfl, ?_⟩) hHeld.out ?_
              rotate_left
              · intro wv hSw
                replace hSw : Hid (Grew wc wv) := Lib.hid hSw
                go_simp
                try with_reducible rfl
              try simp only [Act.put, List.setIfInBounds_toArray, List.set_cons_zero, List.set_cons_succ]
              refine wpAnyH_takeD (i := 37) (d := 63) (v := ?_) rfl rfl (by kernel_rfl) (by kernel_rfl) (by kernel_rfl) (fun _ _ _ h => h) (Or.inl ⟨by rfl, ?_⟩) hHeld.out ?_
              rotate_left
              · intro wv hSw
                replace hSw : Hid (Grew wc wv) := Lib.hid hSw
                go_simp
                try with_reducible rfl
              try simp only [Act.put, List.setIfInBounds_toArray, List.set_cons_zero, List.set_cons_succ]
              refine wpAnyH_takeD (i := 38) (d := 4) (v := ?_) rfl rfl (by kernel_rfl) (by kernel_rfl) (by kernel_rfl) (fun _ _ _ h => h) (Or.inl ⟨by rfl, ?_⟩) hHeld.out ?_
              rotate_left
              · intro wv hSw
                replace hSw : Hid (Grew wc wv) := Lib.hid hSw
                go_simp
                try with_reducible rfl
              try simp only [Act.put, List.setIfInBounds_toArray, List.set_cons_zero, List.set_cons_succ]
              refine wpAnyH_done (by kernel_rfl) ?_ _
              go_wp2_with fail
              go_ret
              exact ⟨by rw [ee.out]; rfl, G0.out.trans hHeld.out⟩
    · have ee := Lib.hid (show false = ML by rw [← hM.out]; simp)
      clear hM
      go_wp2_with fail
      go_ret
      exact ⟨by rw [ee.out]; rfl, G0.out⟩
end Go.Proofs.YthhgogpglocjdaaGreat
