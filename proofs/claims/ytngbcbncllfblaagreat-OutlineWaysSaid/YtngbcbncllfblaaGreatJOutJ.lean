/- r25.ahead. Condition: none. -/
import Derived.Test.YtngbcbncllfblaaGreatJOutM
namespace Go.Proofs.YtngbcbncllfblaaGreat
open Go.RowKit

/-- The first that is not alike tells. -/
def lexL : List Int → List Int → Bool
  | a :: X, b :: Y => if a = b then lexL X Y else decide (a < b)
  | _, _ => false
theorem lex_at : ∀ (i : Nat) (X Y : List Int) {z z' : Int}, (∀ j u u', j < i → X[j]? = some u → Y[j]? = some u' → u = u') → X[i]? = some z → Y[i]? = some z' → z ≠ z' → lexL X Y = decide (z < z')
  | 0, a :: X, b :: Y, z, z', _, h1, h2, h3 => by
    simp only [List.getElem?_cons_zero, Option.some.injEq] at h1 h2
    subst h1; subst h2
    exact if_neg h3
  | i + 1, a :: X, b :: Y, z, z', h, h1, h2, h3 => by
    have e := h 0 a b (by omega) rfl rfl
    unfold lexL
    rw [if_pos e]
    exact lex_at i X Y (fun j u u' hj hu hu' => h (j + 1) u u' (by omega) (by simpa using hu) (by simpa using hu')) (by simpa using h1) (by simpa using h2) h3
  | _, [], _, _, _, _, h1, _, _ => by simp at h1
  | _, _ :: _, [], _, _, _, _, h2, _ => by simp at h2
theorem lex_no : ∀ (n : Nat) (X Y : List Int), X.length ≤ n → (∀ j u u', j < n → X[j]? = some u → Y[j]? = some u' → u = u') → lexL X Y = false
  | _, [], _, _, _ => by simp [lexL]
  | _, _ :: _, [], _, _ => by simp [lexL]
  | 0, _ :: _, _ :: _, h, _ => by simp at h
  | n + 1, a :: X, b :: Y, h, k => by
    have e := k 0 a b (by omega) rfl rfl
    unfold lexL
    rw [if_pos e]
    exact lex_no n X Y (by simp at h; omega) (fun j u u' hj hu hu' => k (j + 1) u u' (by omega) (by simpa using hu) (by simpa using hu'))
def keyS (s : SegZ) : List Int := if 2 < dirZ s then [1, s.1.1, s.1.2, s.2.2] else [0, s.1.2, s.1.1, s.2.1]
theorem keyS_len (s : SegZ) : (keyS s).length = 4 := by unfold keyS; split <;> rfl
def aheadZ (x y : SegZ) : Bool := lexL (keyS x) (keyS y)
theorem four_cells {w : World} {g : Nat} {a b c d : Int} (h0 : w.cell? ⟨g, 0, none⟩ = some (.int .i64 a)) (h1 : w.cell? ⟨g, 1, none⟩ = some (.int .i64 b)) (h2 : w.cell? ⟨g, 2, none⟩ = some (.int .i64 c)) (h3 : w.cell? ⟨g, 3, none⟩ = some (.int .i64 d)) :
    ∀ (i : Nat) (z : Int), [a, b, c, d][i]? = some z → w.cell? ⟨g, i, none⟩ = some (.int .i64 z) := by
  intro i z hz
  have hi := (List.getElem?_eq_some_iff.1 hz).1
  rcases (show i = 0 ∨ i = 1 ∨ i = 2 ∨ i = 3 by simp at hi; omega) with rfl | rfl | rfl | rfl
  · simp at hz; subst hz; exact h0
  · simp at hz; subst hz; exact h1
  · simp at hz; subst hz; exact h2
  · simp at hz; subst hz; exact h3
theorem aheadZ_run {x y : Rn} (hx : 1 ≤ x.d ∧ x.d ≤ 4) (hy : 1 ≤ y.d ∧ y.d ≤ 4) (fx : x.f < x.t) (fy : y.f < y.t) : aheadZ (segOf x) (segOf y) = true ↔ aheadR x y := by
  unfold aheadZ keyS
  rw [dirZ_run hx fx, dirZ_run hy fy]
  unfold segOf aheadR Rn.a Rn.b
  rcases (show x.d = 1 ∨ x.d = 2 ∨ x.d = 3 ∨ x.d = 4 by omega) with e | e | e | e <;> rcases (show y.d = 1 ∨ y.d = 2 ∨ y.d = 3 ∨ y.d = 4 by omega) with e' | e' | e' | e' <;> simp [e, e', lexL] <;> (repeat' split) <;> first | omega | (simp; omega)

set_option maxRecDepth 100000 in
set_option maxHeartbeats 16000000 in
theorem ahead25_any (x y : SegZ) (w : World) : Calls Tryz.prog 49 #[segV x.1.1 x.1.2 x.2.1 x.2.2, segV y.1.1 y.1.2 y.2.1 y.2.2] w fun e w' => e = .returned (.bool (aheadZ x y)) ∧ Grew w w' := by
  by_cases hx : 2 < dirZ x
  · by_cases hy : 2 < dirZ y
    · skip
      have ekx := Lib.hid (show keyS x = [1, x.1.1, x.1.2, x.2.2] from if_pos hx)
      have eky := Lib.hid (show keyS y = [1, y.1.1, y.1.2, y.2.2] from if_pos hy)
      go_enter Tryz.func49, Tryz.ntmps49
      go_upto_region 1 with fail
      refine gen_wp ?_
      intro W1 hW1
      have p0 : W1.cell? ⟨w.heap.size, 0, none⟩ = some (.int .i64 x.1.1) := by rw [hW1]; simp [go_sem]
      have p1 : W1.cell? ⟨w.heap.size, 1, none⟩ = some (.int .i64 x.1.2) := by rw [hW1]; simp [go_sem]
      have p2 : W1.cell? ⟨w.heap.size, 2, none⟩ = some (.int .i64 x.2.1) := by rw [hW1]; simp [go_sem]
      have p3 : W1.cell? ⟨w.heap.size, 3, none⟩ = some (.int .i64 x.2.2) := by rw [hW1]; simp [go_sem]
      have q0 : W1.cell? ⟨w.heap.size + 1, 0, none⟩ = some (.int .i64 y.1.1) := by rw [hW1]; simp [go_sem]
      have q1 : W1.cell? ⟨w.heap.size + 1, 1, none⟩ = some (.int .i64 y.1.2) := by rw [hW1]; simp [go_sem]
      have q2 : W1.cell? ⟨w.heap.size + 1, 2, none⟩ = some (.int .i64 y.2.1) := by rw [hW1]; simp [go_sem]
      have q3 : W1.cell? ⟨w.heap.size + 1, 3, none⟩ = some (.int .i64 y.2.2) := by rw [hW1]; simp [go_sem]
      have G1 := Lib.hid (show Grew w W1 by rw [hW1]; exact ((Grew.refl _).alloc _).alloc _)
      clear hW1
      obtain ⟨WA, hWA⟩ : ∃ WA, W1.alloc (.cells #[.int .i64 0, .int .i64 x.1.2, .int .i64 x.1.1, .int .i64 x.2.1] 3) = WA := ⟨_, rfl⟩
      have gA : Grew W1 WA := by rw [← hWA]; exact (Grew.refl _).alloc _
      obtain ⟨WB, hWB⟩ : ∃ WB, WA.alloc (.cells #[.int .i64 0, .int .i64 y.1.2, .int .i64 y.1.1, .int .i64 y.2.1] 3) = WB := ⟨_, rfl⟩
      have gB : Grew WA WB := by rw [← hWB]; exact (Grew.refl _).alloc _
      have a0 : WB.cell? ⟨W1.heap.size, 0, none⟩ = some (.int .i64 0) := gB.cell (by rw [← hWA]; simp [go_sem])
      have a1 : WB.cell? ⟨W1.heap.size, 1, none⟩ = some (.int .i64 x.1.2) := gB.cell (by rw [← hWA]; simp [go_sem])
      have a2 : WB.cell? ⟨W1.heap.size, 2, none⟩ = some (.int .i64 x.1.1) := gB.cell (by rw [← hWA]; simp [go_sem])
      have a3 : WB.cell? ⟨W1.heap.size, 3, none⟩ = some (.int .i64 x.2.1) := gB.cell (by rw [← hWA]; simp [go_sem])
      have b0 : WB.cell? ⟨WA.heap.size, 0, none⟩ = some (.int .i64 0) := by rw [← hWB]; simp [go_sem]
      have b1 : WB.cell? ⟨WA.heap.size, 1, none⟩ = some (.int .i64 y.1.2) := by rw [← hWB]; simp [go_sem]
      have b2 : WB.cell? ⟨WA.heap.size, 2, none⟩ = some (.int .i64 y.1.1) := by rw [← hWB]; simp [go_sem]
      have b3 : WB.cell? ⟨WA.heap.size, 3, none⟩ = some (.int .i64 y.2.1) := by rw [← hWB]; simp [go_sem]
      have r0 := gA.cell q0
      have t0 := gB.cell r0
      have u0 := gB.cell (gA.cell p0)
      have r1 := gA.cell q1
      have t1 := gB.cell r1
      have u1 := gB.cell (gA.cell p1)
      have r2 := gA.cell q2
      have t2 := gB.cell r2
      have u2 := gB.cell (gA.cell p2)
      have r3 := gA.cell q3
      have t3 := gB.cell r3
      have u3 := gB.cell (gA.cell p3)
      go_wp2_with fail
      refine (dir_any x _).mono ?_
      rintro e w3 ⟨rfl, g3⟩
      replace a0 := g3.cell a0
      replace b0 := g3.cell b0
      replace a1 := g3.cell a1
      replace b1 := g3.cell b1
      replace a2 := g3.cell a2
      replace b2 := g3.cell b2
      replace a3 := g3.cell a3
      replace b3 := g3.cell b3
      have g3' : Grew W1 w3 := (gA.trans gB).trans g3
      clear gA gB r0 r1 r2 r3 t0 t1 t2 t3 u0 u1 u2 u3 hWA hWB
      replace G1 := Lib.hid (G1.out.trans g3')
      replace p0 := g3'.cell p0
      replace q0 := g3'.cell q0
      replace p1 := g3'.cell p1
      replace q1 := g3'.cell q1
      replace p2 := g3'.cell p2
      replace q2 := g3'.cell q2
      replace p3 := g3'.cell p3
      replace q3 := g3'.cell q3
      clear g3 g3'
      obtain ⟨WC, hWC⟩ : ∃ WC, w3.alloc (.cells #[.int .i64 1, .int .i64 x.1.1, .int .i64 x.1.2, .int .i64 x.2.2] 3) = WC := ⟨_, rfl⟩
      have gC : Grew w3 WC := by rw [← hWC]; exact (Grew.refl _).alloc _
      have c0 : WC.cell? ⟨w3.heap.size, 0, none⟩ = some (.int .i64 1) := by rw [← hWC]; simp [go_sem]
      have c1 : WC.cell? ⟨w3.heap.size, 1, none⟩ = some (.int .i64 x.1.1) := by rw [← hWC]; simp [go_sem]
      have c2 : WC.cell? ⟨w3.heap.size, 2, none⟩ = some (.int .i64 x.1.2) := by rw [← hWC]; simp [go_sem]
      have c3 : WC.cell? ⟨w3.heap.size, 3, none⟩ = some (.int .i64 x.2.2) := by rw [← hWC]; simp [go_sem]
      have r0 := gC.cell q0
      have r1 := gC.cell q1
      have r2 := gC.cell q2
      have r3 := gC.cell q3
      go_wp2_with fail
      refine (dir_any y _).mono ?_
      rintro e w5 ⟨rfl, g5⟩
      replace c0 := g5.cell c0
      replace c1 := g5.cell c1
      replace c2 := g5.cell c2
      replace c3 := g5.cell c3
      have g5' : Grew w3 w5 := gC.trans g5
      clear gC r0 r1 r2 r3 hWC
      replace b0 := g5'.cell b0
      replace q0 := g5'.cell q0
      replace b1 := g5'.cell b1
      replace q1 := g5'.cell q1
      replace b2 := g5'.cell b2
      replace q2 := g5'.cell q2
      replace b3 := g5'.cell b3
      replace q3 := g5'.cell q3
      replace G1 := Lib.hid (G1.out.trans g5')
      obtain ⟨WZ, hWZ⟩ : ∃ WZ, w5.alloc (.cells #[.int .i64 1, .int .i64 y.1.1, .int .i64 y.1.2, .int .i64 y.2.2] 3) = WZ := ⟨_, rfl⟩
      have g7 : Grew w5 WZ := by rw [← hWZ]; exact (Grew.refl _).alloc _
      have d0 : WZ.cell? ⟨w5.heap.size, 0, none⟩ = some (.int .i64 1) := by rw [← hWZ]; simp [go_sem]
      have d1 : WZ.cell? ⟨w5.heap.size, 1, none⟩ = some (.int .i64 y.1.1) := by rw [← hWZ]; simp [go_sem]
      have d2 : WZ.cell? ⟨w5.heap.size, 2, none⟩ = some (.int .i64 y.1.2) := by rw [← hWZ]; simp [go_sem]
      have d3 : WZ.cell? ⟨w5.heap.size, 3, none⟩ = some (.int .i64 y.2.2) := by rw [← hWZ]; simp [go_sem]
      replace c0 := g7.cell c0
      replace c1 := g7.cell c1
      replace c2 := g7.cell c2
      replace c3 := g7.cell c3
      have GZ := Lib.hid (G1.out.trans g7)
      have kx : ∀ i z, (keyS x)[i]? = some z → WZ.cell? ⟨w3.heap.size, i, none⟩ = some (.int .i64 z) := by rw [ekx.out]; exact four_cells c0 c1 c2 c3
      have ky : ∀ i z, (keyS y)[i]? = some z → WZ.cell? ⟨w5.heap.size, i, none⟩ = some (.int .i64 z) := by rw [eky.out]; exact four_cells d0 d1 d2 d3
      clear g5 g5' g7
      replace kx := Lib.hid kx
      replace ky := Lib.hid ky
      go_wp2_with fail
      try rw [hWZ]
      go_loopg [7] 4 (fun gk s7 wr => ∃ i : Nat, gk + i = 4 ∧ s7 = .int .i64 i ∧ Hid (∀ j z z', j < i → (keyS x)[j]? = some z → (keyS y)[j]? = some z' → z = z') ∧ Grew WZ wr)
      case atStart => exact ⟨0, rfl, rfl, Lib.hid (fun j z z' h => by omega), Grew.refl _⟩
      case round =>
        obtain ⟨i, hi, rfl, hz, hG⟩ := hrel
        by_cases hlt : i < 4
        · obtain ⟨z, hzx⟩ : ∃ z, (keyS x)[i]? = some z := ⟨(keyS x)[i]'(by rw [keyS_len]; exact hlt), List.getElem?_eq_getElem _⟩
          obtain ⟨z', hzy⟩ : ∃ z', (keyS y)[i]? = some z' := ⟨(keyS y)[i]'(by rw [keyS_len]; exact hlt), List.getElem?_eq_getElem _⟩
          have cx := Lib.hid (hG.cell (kx.out i z hzx))
          have cy := Lib.hid (hG.cell (ky.out i z' hzy))
          have hil : (i : Int) < 4 := by omega
          have hG' := Lib.hid hG
          replace hzx := Lib.hid hzx
          replace hzy := Lib.hid hzy
          clear hG
          by_cases hne : z = z'
          · have hz2 := Lib.hid (show ∀ j u u', j < i + 1 → (keyS x)[j]? = some u → (keyS y)[j]? = some u' → u = u' from fun j u u' hj hu hu' => by
              by_cases h : j = i
              · subst h; rw [hzx.out] at hu; rw [hzy.out] at hu'; injection hu with hu; injection hu' with hu'; rw [← hu, ← hu']; exact hne
              · exact hz.out j u u' (by omega) hu hu')
            subst hne
            go_wp2_with fail
            refine wp_region_held_drew (S := fun wv => Grew wr wv) (by kernel_rfl) ((Grew.refl wr).drew) (fun hHeld => ?_)
            replace hHeld := Lib.hid hHeld
            try simp only [Act.put, List.setIfInBounds_toArray, List.set_cons_zero, List.set_cons_succ]
            refine wpAnyH_takeD (i := 0) (d := 58) (v := ?_) rfl rfl (by kernel_rfl) (by kernel_rfl) (by kernel_rfl) (fun _ _ _ h => h) (Or.inl ⟨by rfl, ?_⟩) hHeld.out ?_
            rotate_left
            · intro wv hSw
              replace hSw : Hid (Grew wr wv) := Lib.hid hSw
              go_simp
              try with_reducible rfl
            try simp only [Act.put, List.setIfInBounds_toArray, List.set_cons_zero, List.set_cons_succ]
            refine wpAnyH_takeD (i := 1) (d := 59) (v := ?_) rfl rfl (by kernel_rfl) (by kernel_rfl) (by kernel_rfl) (fun _ _ _ h => h) (Or.inl ⟨by rfl, ?_⟩) hHeld.out ?_
            rotate_left
            · intro wv hSw
              replace hSw : Hid (Grew wr wv) := Lib.hid hSw
              go_simp
              try with_reducible rfl
            try simp only [Act.put, List.setIfInBounds_toArray, List.set_cons_zero, List.set_cons_succ]
            refine wpAnyH_takeD (i := 2) (d := 60) (v := ?_) rfl rfl (by kernel_rfl) (by kernel_rfl) (by kernel_rfl) (fun _ _ _ h => h) (Or.inl ⟨by rfl, ?_⟩) hHeld.out ?_
            rotate_left
            · intro wv hSw
              replace hSw : Hid (Grew wr wv) := Lib.hid hSw
              go_simp
              try with_reducible rfl
            try simp only [Act.put, List.setIfInBounds_toArray, List.set_cons_zero, List.set_cons_succ]
            refine wpAnyH_takeD (i := 3) (d := 61) (v := ?_) rfl rfl (by kernel_rfl) (by kernel_rfl) (by kernel_rfl) (fun _ _ _ h => h) (Or.inl ⟨by rfl, ?_⟩) hHeld.out ?_
            rotate_left
            · intro wv hSw
              replace hSw : Hid (Grew wr wv) := Lib.hid hSw
              have t0 := hSw.out.cell cx.out
              go_simp
              try with_reducible rfl
            try simp only [Act.put, List.setIfInBounds_toArray, List.set_cons_zero, List.set_cons_succ]
            refine wpAnyH_takeD (i := 4) (d := 62) (v := ?_) rfl rfl (by kernel_rfl) (by kernel_rfl) (by kernel_rfl) (fun _ _ _ h => h) (Or.inl ⟨by rfl, ?_⟩) hHeld.out ?_
            rotate_left
            · intro wv hSw
              replace hSw : Hid (Grew wr wv) := Lib.hid hSw
              go_simp
              try with_reducible rfl
            try simp only [Act.put, List.setIfInBounds_toArray, List.set_cons_zero, List.set_cons_succ]
            refine wpAnyH_takeD (i := 5) (d := 63) (v := ?_) rfl rfl (by kernel_rfl) (by kernel_rfl) (by kernel_rfl) (fun _ _ _ h => h) (Or.inl ⟨by rfl, ?_⟩) hHeld.out ?_
            rotate_left
            · intro wv hSw
              replace hSw : Hid (Grew wr wv) := Lib.hid hSw
              go_simp
              try with_reducible rfl
            try simp only [Act.put, List.setIfInBounds_toArray, List.set_cons_zero, List.set_cons_succ]
            refine wpAnyH_takeD (i := 6) (d := 64) (v := ?_) rfl rfl (by kernel_rfl) (by kernel_rfl) (by kernel_rfl) (fun _ _ _ h => h) (Or.inl ⟨by rfl, ?_⟩) hHeld.out ?_
            rotate_left
            · intro wv hSw
              replace hSw : Hid (Grew wr wv) := Lib.hid hSw
              go_simp
              try with_reducible rfl
            try simp only [Act.put, List.setIfInBounds_toArray, List.set_cons_zero, List.set_cons_succ]
            refine wpAnyH_takeD (i := 7) (d := 65) (v := ?_) rfl rfl (by kernel_rfl) (by kernel_rfl) (by kernel_rfl) (fun _ _ _ h => h) (Or.inl ⟨by rfl, ?_⟩) hHeld.out ?_
            rotate_left
            · intro wv hSw
              replace hSw : Hid (Grew wr wv) := Lib.hid hSw
              have t0 := hSw.out.cell cy.out
              go_simp
              try with_reducible rfl
            try simp only [Act.put, List.setIfInBounds_toArray, List.set_cons_zero, List.set_cons_succ]
            refine wpAnyH_takeD (i := 8) (d := 66) (v := ?_) rfl rfl (by kernel_rfl) (by kernel_rfl) (by kernel_rfl) (fun _ _ _ h => h) (Or.inl ⟨by rfl, ?_⟩) hHeld.out ?_
            rotate_left
            · intro wv hSw
              replace hSw : Hid (Grew wr wv) := Lib.hid hSw
              go_simp
              try with_reducible rfl
            try simp only [Act.put, List.setIfInBounds_toArray, List.set_cons_zero, List.set_cons_succ]
            refine wpAnyH_done (by kernel_rfl) ?_ _
            go_wp2_with fail
            go_roundg (gk - 1)
            case rel => exact ⟨i + 1, by omega, by go_num, hz2, hG'.out.trans hHeld.out⟩
            case measure => omega
          · have e := Lib.hid (show aheadZ x y = decide (z < z') from lex_at i _ _ hz.out hzx.out hzy.out hne)
            have hneb := Lib.hid (show (z != z') = true by simp [hne])
            go_wp2_with fail
            refine wp_region_held_drew (S := fun wv => Grew wr wv) (by kernel_rfl) ((Grew.refl wr).drew) (fun hHeld => ?_)
            replace hHeld := Lib.hid hHeld
            try simp only [Act.put, List.setIfInBounds_toArray, List.set_cons_zero, List.set_cons_succ]
            refine wpAnyH_takeD (i := 0) (d := 58) (v := ?_) rfl rfl (by kernel_rfl) (by kernel_rfl) (by kernel_rfl) (fun _ _ _ h => h) (Or.inl ⟨by rfl, ?_⟩) hHeld.out ?_
            rotate_left
            · intro wv hSw
              replace hSw : Hid (Grew wr wv) := Lib.hid hSw
              go_simp
              try with_reducible rfl
            try simp only [Act.put, List.setIfInBounds_toArray, List.set_cons_zero, List.set_cons_succ]
            refine wpAnyH_takeD (i := 1) (d := 59) (v := ?_) rfl rfl (by kernel_rfl) (by kernel_rfl) (by kernel_rfl) (fun _ _ _ h => h) (Or.inl ⟨by rfl, ?_⟩) hHeld.out ?_
            rotate_left
            · intro wv hSw
              replace hSw : Hid (Grew wr wv) := Lib.hid hSw
              go_simp
              try with_reducible rfl
            try simp only [Act.put, List.setIfInBounds_toArray, List.set_cons_zero, List.set_cons_succ]
            refine wpAnyH_takeD (i := 2) (d := 60) (v := ?_) rfl rfl (by kernel_rfl) (by kernel_rfl) (by kernel_rfl) (fun _ _ _ h => h) (Or.inl ⟨by rfl, ?_⟩) hHeld.out ?_
            rotate_left
            · intro wv hSw
              replace hSw : Hid (Grew wr wv) := Lib.hid hSw
              go_simp
              try with_reducible rfl
            try simp only [Act.put, List.setIfInBounds_toArray, List.set_cons_zero, List.set_cons_succ]
            refine wpAnyH_takeD (i := 3) (d := 61) (v := ?_) rfl rfl (by kernel_rfl) (by kernel_rfl) (by kernel_rfl) (fun _ _ _ h => h) (Or.inl ⟨by rfl, ?_⟩) hHeld.out ?_
            rotate_left
            · intro wv hSw
              replace hSw : Hid (Grew wr wv) := Lib.hid hSw
              have t0 := hSw.out.cell cx.out
              go_simp
              try with_reducible rfl
            try simp only [Act.put, List.setIfInBounds_toArray, List.set_cons_zero, List.set_cons_succ]
            refine wpAnyH_takeD (i := 4) (d := 62) (v := ?_) rfl rfl (by kernel_rfl) (by kernel_rfl) (by kernel_rfl) (fun _ _ _ h => h) (Or.inl ⟨by rfl, ?_⟩) hHeld.out ?_
            rotate_left
            · intro wv hSw
              replace hSw : Hid (Grew wr wv) := Lib.hid hSw
              go_simp
              try with_reducible rfl
            try simp only [Act.put, List.setIfInBounds_toArray, List.set_cons_zero, List.set_cons_succ]
            refine wpAnyH_takeD (i := 5) (d := 63) (v := ?_) rfl rfl (by kernel_rfl) (by kernel_rfl) (by kernel_rfl) (fun _ _ _ h => h) (Or.inl ⟨by rfl, ?_⟩) hHeld.out ?_
            rotate_left
            · intro wv hSw
              replace hSw : Hid (Grew wr wv) := Lib.hid hSw
              go_simp
              try with_reducible rfl
            try simp only [Act.put, List.setIfInBounds_toArray, List.set_cons_zero, List.set_cons_succ]
            refine wpAnyH_takeD (i := 6) (d := 64) (v := ?_) rfl rfl (by kernel_rfl) (by kernel_rfl) (by kernel_rfl) (fun _ _ _ h => h) (Or.inl ⟨by rfl, ?_⟩) hHeld.out ?_
            rotate_left
            · intro wv hSw
              replace hSw : Hid (Grew wr wv) := Lib.hid hSw
              go_simp
              try with_reducible rfl
            try simp only [Act.put, List.setIfInBounds_toArray, List.set_cons_zero, List.set_cons_succ]
            refine wpAnyH_takeD (i := 7) (d := 65) (v := ?_) rfl rfl (by kernel_rfl) (by kernel_rfl) (by kernel_rfl) (fun _ _ _ h => h) (Or.inl ⟨by rfl, ?_⟩) hHeld.out ?_
            rotate_left
            · intro wv hSw
              replace hSw : Hid (Grew wr wv) := Lib.hid hSw
              have t0 := hSw.out.cell cy.out
              go_simp
              try with_reducible rfl
            try simp only [Act.put, List.setIfInBounds_toArray, List.set_cons_zero, List.set_cons_succ]
            refine wpAnyH_takeD (i := 8) (d := 66) (v := ?_) rfl rfl (by kernel_rfl) (by kernel_rfl) (by kernel_rfl) (fun _ _ _ h => h) (Or.inl ⟨by rfl, ?_⟩) hHeld.out ?_
            rotate_left
            · intro wv hSw
              replace hSw : Hid (Grew wr wv) := Lib.hid hSw
              have t9 := hneb.out
              go_simp
              try with_reducible rfl
            try simp only [Act.put, List.setIfInBounds_toArray, List.set_cons_zero, List.set_cons_succ]
            refine wpAnyH_done (by kernel_rfl) ?_ _
            have cx2 := Lib.hid (hHeld.out.cell cx.out)
            have cy2 := Lib.hid (hHeld.out.cell cy.out)
            have hG2 := Lib.hid (hG'.out.trans hHeld.out)
            clear hHeld cx cy
            go_wp2_with fail
            refine wp_region_held_drew (S := fun wv => Grew wr.drew wv) (by kernel_rfl) ((Grew.refl wr.drew).drew) (fun hHeld => ?_)
            replace hHeld := Lib.hid hHeld
            try simp only [Act.put, List.setIfInBounds_toArray, List.set_cons_zero, List.set_cons_succ]
            refine wpAnyH_takeD (i := 0) (d := 67) (v := ?_) rfl rfl (by kernel_rfl) (by kernel_rfl) (by kernel_rfl) (fun _ _ _ h => h) (Or.inl ⟨by rfl, ?_⟩) hHeld.out ?_
            rotate_left
            · intro wv hSw
              replace hSw : Hid (Grew wr.drew wv) := Lib.hid hSw
              go_simp
              try with_reducible rfl
            try simp only [Act.put, List.setIfInBounds_toArray, List.set_cons_zero, List.set_cons_succ]
            refine wpAnyH_takeD (i := 1) (d := 68) (v := ?_) rfl rfl (by kernel_rfl) (by kernel_rfl) (by kernel_rfl) (fun _ _ _ h => h) (Or.inl ⟨by rfl, ?_⟩) hHeld.out ?_
            rotate_left
            · intro wv hSw
              replace hSw : Hid (Grew wr.drew wv) := Lib.hid hSw
              go_simp
              try with_reducible rfl
            try simp only [Act.put, List.setIfInBounds_toArray, List.set_cons_zero, List.set_cons_succ]
            refine wpAnyH_takeD (i := 2) (d := 69) (v := ?_) rfl rfl (by kernel_rfl) (by kernel_rfl) (by kernel_rfl) (fun _ _ _ h => h) (Or.inl ⟨by rfl, ?_⟩) hHeld.out ?_
            rotate_left
            · intro wv hSw
              replace hSw : Hid (Grew wr.drew wv) := Lib.hid hSw
              go_simp
              try with_reducible rfl
            try simp only [Act.put, List.setIfInBounds_toArray, List.set_cons_zero, List.set_cons_succ]
            refine wpAnyH_takeD (i := 3) (d := 70) (v := ?_) rfl rfl (by kernel_rfl) (by kernel_rfl) (by kernel_rfl) (fun _ _ _ h => h) (Or.inl ⟨by rfl, ?_⟩) hHeld.out ?_
            rotate_left
            · intro wv hSw
              replace hSw : Hid (Grew wr.drew wv) := Lib.hid hSw
              have t0 := hSw.out.cell cx2.out
              go_simp
              try with_reducible rfl
            try simp only [Act.put, List.setIfInBounds_toArray, List.set_cons_zero, List.set_cons_succ]
            refine wpAnyH_takeD (i := 4) (d := 71) (v := ?_) rfl rfl (by kernel_rfl) (by kernel_rfl) (by kernel_rfl) (fun _ _ _ h => h) (Or.inl ⟨by rfl, ?_⟩) hHeld.out ?_
            rotate_left
            · intro wv hSw
              replace hSw : Hid (Grew wr.drew wv) := Lib.hid hSw
              go_simp
              try with_reducible rfl
            try simp only [Act.put, List.setIfInBounds_toArray, List.set_cons_zero, List.set_cons_succ]
            refine wpAnyH_takeD (i := 5) (d := 72) (v := ?_) rfl rfl (by kernel_rfl) (by kernel_rfl) (by kernel_rfl) (fun _ _ _ h => h) (Or.inl ⟨by rfl, ?_⟩) hHeld.out ?_
            rotate_left
            · intro wv hSw
              replace hSw : Hid (Grew wr.drew wv) := Lib.hid hSw
              go_simp
              try with_reducible rfl
            try simp only [Act.put, List.setIfInBounds_toArray, List.set_cons_zero, List.set_cons_succ]
            refine wpAnyH_takeD (i := 6) (d := 73) (v := ?_) rfl rfl (by kernel_rfl) (by kernel_rfl) (by kernel_rfl) (fun _ _ _ h => h) (Or.inl ⟨by rfl, ?_⟩) hHeld.out ?_
            rotate_left
            · intro wv hSw
              replace hSw : Hid (Grew wr.drew wv) := Lib.hid hSw
              go_simp
              try with_reducible rfl
            try simp only [Act.put, List.setIfInBounds_toArray, List.set_cons_zero, List.set_cons_succ]
            refine wpAnyH_takeD (i := 7) (d := 74) (v := ?_) rfl rfl (by kernel_rfl) (by kernel_rfl) (by kernel_rfl) (fun _ _ _ h => h) (Or.inl ⟨by rfl, ?_⟩) hHeld.out ?_
            rotate_left
            · intro wv hSw
              replace hSw : Hid (Grew wr.drew wv) := Lib.hid hSw
              have t0 := hSw.out.cell cy2.out
              go_simp
              try with_reducible rfl
            try simp only [Act.put, List.setIfInBounds_toArray, List.set_cons_zero, List.set_cons_succ]
            refine wpAnyH_takeD (i := 8) (d := 75) (v := ?_) rfl rfl (by kernel_rfl) (by kernel_rfl) (by kernel_rfl) (fun _ _ _ h => h) (Or.inl ⟨by rfl, ?_⟩) hHeld.out ?_
            rotate_left
            · intro wv hSw
              replace hSw : Hid (Grew wr.drew wv) := Lib.hid hSw
              go_simp
              try with_reducible rfl
            try simp only [Act.put, List.setIfInBounds_toArray, List.set_cons_zero, List.set_cons_succ]
            refine wpAnyH_takeD (i := 9) (d := 4) (v := ?_) rfl rfl (by kernel_rfl) (by kernel_rfl) (by kernel_rfl) (fun _ _ _ h => h) (Or.inl ⟨by rfl, ?_⟩) hHeld.out ?_
            rotate_left
            · intro wv hSw
              replace hSw : Hid (Grew wr.drew wv) := Lib.hid hSw
              go_simp
              try with_reducible rfl
            try simp only [Act.put, List.setIfInBounds_toArray, List.set_cons_zero, List.set_cons_succ]
            refine wpAnyH_done (by kernel_rfl) ?_ _
            go_wp2_with fail
            go_ret
            exact ⟨by rw [e.out]; rfl, GZ.out.trans (hG2.out.trans hHeld.out)⟩
        · obtain rfl : i = 4 := by omega
          have e := Lib.hid (show aheadZ x y = false from lex_no 4 _ _ (by rw [keyS_len]; omega) hz.out)
          have hG' := Lib.hid hG
          clear hG hz
          go_wp2_with fail
          go_ret
          exact ⟨by rw [e.out]; rfl, GZ.out.trans hG'.out⟩
    · skip
      have ekx := Lib.hid (show keyS x = [1, x.1.1, x.1.2, x.2.2] from if_pos hx)
      have eky := Lib.hid (show keyS y = [0, y.1.2, y.1.1, y.2.1] from if_neg hy)
      go_enter Tryz.func49, Tryz.ntmps49
      go_upto_region 1 with fail
      refine gen_wp ?_
      intro W1 hW1
      have p0 : W1.cell? ⟨w.heap.size, 0, none⟩ = some (.int .i64 x.1.1) := by rw [hW1]; simp [go_sem]
      have p1 : W1.cell? ⟨w.heap.size, 1, none⟩ = some (.int .i64 x.1.2) := by rw [hW1]; simp [go_sem]
      have p2 : W1.cell? ⟨w.heap.size, 2, none⟩ = some (.int .i64 x.2.1) := by rw [hW1]; simp [go_sem]
      have p3 : W1.cell? ⟨w.heap.size, 3, none⟩ = some (.int .i64 x.2.2) := by rw [hW1]; simp [go_sem]
      have q0 : W1.cell? ⟨w.heap.size + 1, 0, none⟩ = some (.int .i64 y.1.1) := by rw [hW1]; simp [go_sem]
      have q1 : W1.cell? ⟨w.heap.size + 1, 1, none⟩ = some (.int .i64 y.1.2) := by rw [hW1]; simp [go_sem]
      have q2 : W1.cell? ⟨w.heap.size + 1, 2, none⟩ = some (.int .i64 y.2.1) := by rw [hW1]; simp [go_sem]
      have q3 : W1.cell? ⟨w.heap.size + 1, 3, none⟩ = some (.int .i64 y.2.2) := by rw [hW1]; simp [go_sem]
      have G1 := Lib.hid (show Grew w W1 by rw [hW1]; exact ((Grew.refl _).alloc _).alloc _)
      clear hW1
      obtain ⟨WA, hWA⟩ : ∃ WA, W1.alloc (.cells #[.int .i64 0, .int .i64 x.1.2, .int .i64 x.1.1, .int .i64 x.2.1] 3) = WA := ⟨_, rfl⟩
      have gA : Grew W1 WA := by rw [← hWA]; exact (Grew.refl _).alloc _
      obtain ⟨WB, hWB⟩ : ∃ WB, WA.alloc (.cells #[.int .i64 0, .int .i64 y.1.2, .int .i64 y.1.1, .int .i64 y.2.1] 3) = WB := ⟨_, rfl⟩
      have gB : Grew WA WB := by rw [← hWB]; exact (Grew.refl _).alloc _
      have a0 : WB.cell? ⟨W1.heap.size, 0, none⟩ = some (.int .i64 0) := gB.cell (by rw [← hWA]; simp [go_sem])
      have a1 : WB.cell? ⟨W1.heap.size, 1, none⟩ = some (.int .i64 x.1.2) := gB.cell (by rw [← hWA]; simp [go_sem])
      have a2 : WB.cell? ⟨W1.heap.size, 2, none⟩ = some (.int .i64 x.1.1) := gB.cell (by rw [← hWA]; simp [go_sem])
      have a3 : WB.cell? ⟨W1.heap.size, 3, none⟩ = some (.int .i64 x.2.1) := gB.cell (by rw [← hWA]; simp [go_sem])
      have b0 : WB.cell? ⟨WA.heap.size, 0, none⟩ = some (.int .i64 0) := by rw [← hWB]; simp [go_sem]
      have b1 : WB.cell? ⟨WA.heap.size, 1, none⟩ = some (.int .i64 y.1.2) := by rw [← hWB]; simp [go_sem]
      have b2 : WB.cell? ⟨WA.heap.size, 2, none⟩ = some (.int .i64 y.1.1) := by rw [← hWB]; simp [go_sem]
      have b3 : WB.cell? ⟨WA.heap.size, 3, none⟩ = some (.int .i64 y.2.1) := by rw [← hWB]; simp [go_sem]
      have r0 := gA.cell q0
      have t0 := gB.cell r0
      have u0 := gB.cell (gA.cell p0)
      have r1 := gA.cell q1
      have t1 := gB.cell r1
      have u1 := gB.cell (gA.cell p1)
      have r2 := gA.cell q2
      have t2 := gB.cell r2
      have u2 := gB.cell (gA.cell p2)
      have r3 := gA.cell q3
      have t3 := gB.cell r3
      have u3 := gB.cell (gA.cell p3)
      go_wp2_with fail
      refine (dir_any x _).mono ?_
      rintro e w3 ⟨rfl, g3⟩
      replace a0 := g3.cell a0
      replace b0 := g3.cell b0
      replace a1 := g3.cell a1
      replace b1 := g3.cell b1
      replace a2 := g3.cell a2
      replace b2 := g3.cell b2
      replace a3 := g3.cell a3
      replace b3 := g3.cell b3
      have g3' : Grew W1 w3 := (gA.trans gB).trans g3
      clear gA gB r0 r1 r2 r3 t0 t1 t2 t3 u0 u1 u2 u3 hWA hWB
      replace G1 := Lib.hid (G1.out.trans g3')
      replace p0 := g3'.cell p0
      replace q0 := g3'.cell q0
      replace p1 := g3'.cell p1
      replace q1 := g3'.cell q1
      replace p2 := g3'.cell p2
      replace q2 := g3'.cell q2
      replace p3 := g3'.cell p3
      replace q3 := g3'.cell q3
      clear g3 g3'
      obtain ⟨WC, hWC⟩ : ∃ WC, w3.alloc (.cells #[.int .i64 1, .int .i64 x.1.1, .int .i64 x.1.2, .int .i64 x.2.2] 3) = WC := ⟨_, rfl⟩
      have gC : Grew w3 WC := by rw [← hWC]; exact (Grew.refl _).alloc _
      have c0 : WC.cell? ⟨w3.heap.size, 0, none⟩ = some (.int .i64 1) := by rw [← hWC]; simp [go_sem]
      have c1 : WC.cell? ⟨w3.heap.size, 1, none⟩ = some (.int .i64 x.1.1) := by rw [← hWC]; simp [go_sem]
      have c2 : WC.cell? ⟨w3.heap.size, 2, none⟩ = some (.int .i64 x.1.2) := by rw [← hWC]; simp [go_sem]
      have c3 : WC.cell? ⟨w3.heap.size, 3, none⟩ = some (.int .i64 x.2.2) := by rw [← hWC]; simp [go_sem]
      have r0 := gC.cell q0
      have r1 := gC.cell q1
      have r2 := gC.cell q2
      have r3 := gC.cell q3
      go_wp2_with fail
      refine (dir_any y _).mono ?_
      rintro e w5 ⟨rfl, g5⟩
      replace c0 := g5.cell c0
      replace c1 := g5.cell c1
      replace c2 := g5.cell c2
      replace c3 := g5.cell c3
      have g5' : Grew w3 w5 := gC.trans g5
      clear gC r0 r1 r2 r3 hWC
      replace b0 := g5'.cell b0
      replace q0 := g5'.cell q0
      replace b1 := g5'.cell b1
      replace q1 := g5'.cell q1
      replace b2 := g5'.cell b2
      replace q2 := g5'.cell q2
      replace b3 := g5'.cell b3
      replace q3 := g5'.cell q3
      replace G1 := Lib.hid (G1.out.trans g5')
      obtain ⟨WZ, rfl⟩ : ∃ WZ, WZ = w5 := ⟨_, rfl⟩
      have GZ := Lib.hid G1.out
      have kx : ∀ i z, (keyS x)[i]? = some z → WZ.cell? ⟨w3.heap.size, i, none⟩ = some (.int .i64 z) := by rw [ekx.out]; exact four_cells c0 c1 c2 c3
      have ky : ∀ i z, (keyS y)[i]? = some z → WZ.cell? ⟨WA.heap.size, i, none⟩ = some (.int .i64 z) := by rw [eky.out]; exact four_cells b0 b1 b2 b3
      clear g5 g5'
      replace kx := Lib.hid kx
      replace ky := Lib.hid ky
      go_wp2_with fail
      go_loopg [7] 4 (fun gk s7 wr => ∃ i : Nat, gk + i = 4 ∧ s7 = .int .i64 i ∧ Hid (∀ j z z', j < i → (keyS x)[j]? = some z → (keyS y)[j]? = some z' → z = z') ∧ Grew WZ wr)
      case atStart => exact ⟨0, rfl, rfl, Lib.hid (fun j z z' h => by omega), Grew.refl _⟩
      case round =>
        obtain ⟨i, hi, rfl, hz, hG⟩ := hrel
        by_cases hlt : i < 4
        · obtain ⟨z, hzx⟩ : ∃ z, (keyS x)[i]? = some z := ⟨(keyS x)[i]'(by rw [keyS_len]; exact hlt), List.getElem?_eq_getElem _⟩
          obtain ⟨z', hzy⟩ : ∃ z', (keyS y)[i]? = some z' := ⟨(keyS y)[i]'(by rw [keyS_len]; exact hlt), List.getElem?_eq_getElem _⟩
          have cx := Lib.hid (hG.cell (kx.out i z hzx))
          have cy := Lib.hid (hG.cell (ky.out i z' hzy))
          have hil : (i : Int) < 4 := by omega
          have hG' := Lib.hid hG
          replace hzx := Lib.hid hzx
          replace hzy := Lib.hid hzy
          clear hG
          by_cases hne : z = z'
          · have hz2 := Lib.hid (show ∀ j u u', j < i + 1 → (keyS x)[j]? = some u → (keyS y)[j]? = some u' → u = u' from fun j u u' hj hu hu' => by
              by_cases h : j = i
              · subst h; rw [hzx.out] at hu; rw [hzy.out] at hu'; injection hu with hu; injection hu' with hu'; rw [← hu, ← hu']; exact hne
              · exact hz.out j u u' (by omega) hu hu')
            subst hne
            go_wp2_with fail
            refine wp_region_held_drew (S := fun wv => Grew wr wv) (by kernel_rfl) ((Grew.refl wr).drew) (fun hHeld => ?_)
            replace hHeld := Lib.hid hHeld
            try simp only [Act.put, List.setIfInBounds_toArray, List.set_cons_zero, List.set_cons_succ]
            refine wpAnyH_takeD (i := 0) (d := 58) (v := ?_) rfl rfl (by kernel_rfl) (by kernel_rfl) (by kernel_rfl) (fun _ _ _ h => h) (Or.inl ⟨by rfl, ?_⟩) hHeld.out ?_
            rotate_left
            · intro wv hSw
              replace hSw : Hid (Grew wr wv) := Lib.hid hSw
              go_simp
              try with_reducible rfl
            try simp only [Act.put, List.setIfInBounds_toArray, List.set_cons_zero, List.set_cons_succ]
            refine wpAnyH_takeD (i := 1) (d := 59) (v := ?_) rfl rfl (by kernel_rfl) (by kernel_rfl) (by kernel_rfl) (fun _ _ _ h => h) (Or.inl ⟨by rfl, ?_⟩) hHeld.out ?_
            rotate_left
            · intro wv hSw
              replace hSw : Hid (Grew wr wv) := Lib.hid hSw
              go_simp
              try with_reducible rfl
            try simp only [Act.put, List.setIfInBounds_toArray, List.set_cons_zero, List.set_cons_succ]
            refine wpAnyH_takeD (i := 2) (d := 60) (v := ?_) rfl rfl (by kernel_rfl) (by kernel_rfl) (by kernel_rfl) (fun _ _ _ h => h) (Or.inl ⟨by rfl, ?_⟩) hHeld.out ?_
            rotate_left
            · intro wv hSw
              replace hSw : Hid (Grew wr wv) := Lib.hid hSw
              go_simp
              try with_reducible rfl
            try simp only [Act.put, List.setIfInBounds_toArray, List.set_cons_zero, List.set_cons_succ]
            refine wpAnyH_takeD (i := 3) (d := 61) (v := ?_) rfl rfl (by kernel_rfl) (by kernel_rfl) (by kernel_rfl) (fun _ _ _ h => h) (Or.inl ⟨by rfl, ?_⟩) hHeld.out ?_
            rotate_left
            · intro wv hSw
              replace hSw : Hid (Grew wr wv) := Lib.hid hSw
              have t0 := hSw.out.cell cx.out
              go_simp
              try with_reducible rfl
            try simp only [Act.put, List.setIfInBounds_toArray, List.set_cons_zero, List.set_cons_succ]
            refine wpAnyH_takeD (i := 4) (d := 62) (v := ?_) rfl rfl (by kernel_rfl) (by kernel_rfl) (by kernel_rfl) (fun _ _ _ h => h) (Or.inl ⟨by rfl, ?_⟩) hHeld.out ?_
            rotate_left
            · intro wv hSw
              replace hSw : Hid (Grew wr wv) := Lib.hid hSw
              go_simp
              try with_reducible rfl
            try simp only [Act.put, List.setIfInBounds_toArray, List.set_cons_zero, List.set_cons_succ]
            refine wpAnyH_takeD (i := 5) (d := 63) (v := ?_) rfl rfl (by kernel_rfl) (by kernel_rfl) (by kernel_rfl) (fun _ _ _ h => h) (Or.inl ⟨by rfl, ?_⟩) hHeld.out ?_
            rotate_left
            · intro wv hSw
              replace hSw : Hid (Grew wr wv) := Lib.hid hSw
              go_simp
              try with_reducible rfl
            try simp only [Act.put, List.setIfInBounds_toArray, List.set_cons_zero, List.set_cons_succ]
            refine wpAnyH_takeD (i := 6) (d := 64) (v := ?_) rfl rfl (by kernel_rfl) (by kernel_rfl) (by kernel_rfl) (fun _ _ _ h => h) (Or.inl ⟨by rfl, ?_⟩) hHeld.out ?_
            rotate_left
            · intro wv hSw
              replace hSw : Hid (Grew wr wv) := Lib.hid hSw
              go_simp
              try with_reducible rfl
            try simp only [Act.put, List.setIfInBounds_toArray, List.set_cons_zero, List.set_cons_succ]
            refine wpAnyH_takeD (i := 7) (d := 65) (v := ?_) rfl rfl (by kernel_rfl) (by kernel_rfl) (by kernel_rfl) (fun _ _ _ h => h) (Or.inl ⟨by rfl, ?_⟩) hHeld.out ?_
            rotate_left
            · intro wv hSw
              replace hSw : Hid (Grew wr wv) := Lib.hid hSw
              have t0 := hSw.out.cell cy.out
              go_simp
              try with_reducible rfl
            try simp only [Act.put, List.setIfInBounds_toArray, List.set_cons_zero, List.set_cons_succ]
            refine wpAnyH_takeD (i := 8) (d := 66) (v := ?_) rfl rfl (by kernel_rfl) (by kernel_rfl) (by kernel_rfl) (fun _ _ _ h => h) (Or.inl ⟨by rfl, ?_⟩) hHeld.out ?_
            rotate_left
            · intro wv hSw
              replace hSw : Hid (Grew wr wv) := Lib.hid hSw
              go_simp
              try with_reducible rfl
            try simp only [Act.put, List.setIfInBounds_toArray, List.set_cons_zero, List.set_cons_succ]
            refine wpAnyH_done (by kernel_rfl) ?_ _
            go_wp2_with fail
            go_roundg (gk - 1)
            case rel => exact ⟨i + 1, by omega, by go_num, hz2, hG'.out.trans hHeld.out⟩
            case measure => omega
          · have e := Lib.hid (show aheadZ x y = decide (z < z') from lex_at i _ _ hz.out hzx.out hzy.out hne)
            have hneb := Lib.hid (show (z != z') = true by simp [hne])
            go_wp2_with fail
            refine wp_region_held_drew (S := fun wv => Grew wr wv) (by kernel_rfl) ((Grew.refl wr).drew) (fun hHeld => ?_)
            replace hHeld := Lib.hid hHeld
            try simp only [Act.put, List.setIfInBounds_toArray, List.set_cons_zero, List.set_cons_succ]
            refine wpAnyH_takeD (i := 0) (d := 58) (v := ?_) rfl rfl (by kernel_rfl) (by kernel_rfl) (by kernel_rfl) (fun _ _ _ h => h) (Or.inl ⟨by rfl, ?_⟩) hHeld.out ?_
            rotate_left
            · intro wv hSw
              replace hSw : Hid (Grew wr wv) := Lib.hid hSw
              go_simp
              try with_reducible rfl
            try simp only [Act.put, List.setIfInBounds_toArray, List.set_cons_zero, List.set_cons_succ]
            refine wpAnyH_takeD (i := 1) (d := 59) (v := ?_) rfl rfl (by kernel_rfl) (by kernel_rfl) (by kernel_rfl) (fun _ _ _ h => h) (Or.inl ⟨by rfl, ?_⟩) hHeld.out ?_
            rotate_left
            · intro wv hSw
              replace hSw : Hid (Grew wr wv) := Lib.hid hSw
              go_simp
              try with_reducible rfl
            try simp only [Act.put, List.setIfInBounds_toArray, List.set_cons_zero, List.set_cons_succ]
            refine wpAnyH_takeD (i := 2) (d := 60) (v := ?_) rfl rfl (by kernel_rfl) (by kernel_rfl) (by kernel_rfl) (fun _ _ _ h => h) (Or.inl ⟨by rfl, ?_⟩) hHeld.out ?_
            rotate_left
            · intro wv hSw
              replace hSw : Hid (Grew wr wv) := Lib.hid hSw
              go_simp
              try with_reducible rfl
            try simp only [Act.put, List.setIfInBounds_toArray, List.set_cons_zero, List.set_cons_succ]
            refine wpAnyH_takeD (i := 3) (d := 61) (v := ?_) rfl rfl (by kernel_rfl) (by kernel_rfl) (by kernel_rfl) (fun _ _ _ h => h) (Or.inl ⟨by rfl, ?_⟩) hHeld.out ?_
            rotate_left
            · intro wv hSw
              replace hSw : Hid (Grew wr wv) := Lib.hid hSw
              have t0 := hSw.out.cell cx.out
              go_simp
              try with_reducible rfl
            try simp only [Act.put, List.setIfInBounds_toArray, List.set_cons_zero, List.set_cons_succ]
            refine wpAnyH_takeD (i := 4) (d := 62) (v := ?_) rfl rfl (by kernel_rfl) (by kernel_rfl) (by kernel_rfl) (fun _ _ _ h => h) (Or.inl ⟨by rfl, ?_⟩) hHeld.out ?_
            rotate_left
            · intro wv hSw
              replace hSw : Hid (Grew wr wv) := Lib.hid hSw
              go_simp
              try with_reducible rfl
            try simp only [Act.put, List.setIfInBounds_toArray, List.set_cons_zero, List.set_cons_succ]
            refine wpAnyH_takeD (i := 5) (d := 63) (v := ?_) rfl rfl (by kernel_rfl) (by kernel_rfl) (by kernel_rfl) (fun _ _ _ h => h) (Or.inl ⟨by rfl, ?_⟩) hHeld.out ?_
            rotate_left
            · intro wv hSw
              replace hSw : Hid (Grew wr wv) := Lib.hid hSw
              go_simp
              try with_reducible rfl
            try simp only [Act.put, List.setIfInBounds_toArray, List.set_cons_zero, List.set_cons_succ]
            refine wpAnyH_takeD (i := 6) (d := 64) (v := ?_) rfl rfl (by kernel_rfl) (by kernel_rfl) (by kernel_rfl) (fun _ _ _ h => h) (Or.inl ⟨by rfl, ?_⟩) hHeld.out ?_
            rotate_left
            · intro wv hSw
              replace hSw : Hid (Grew wr wv) := Lib.hid hSw
              go_simp
              try with_reducible rfl
            try simp only [Act.put, List.setIfInBounds_toArray, List.set_cons_zero, List.set_cons_succ]
            refine wpAnyH_takeD (i := 7) (d := 65) (v := ?_) rfl rfl (by kernel_rfl) (by kernel_rfl) (by kernel_rfl) (fun _ _ _ h => h) (Or.inl ⟨by rfl, ?_⟩) hHeld.out ?_
            rotate_left
            · intro wv hSw
              replace hSw : Hid (Grew wr wv) := Lib.hid hSw
              have t0 := hSw.out.cell cy.out
              go_simp
              try with_reducible rfl
            try simp only [Act.put, List.setIfInBounds_toArray, List.set_cons_zero, List.set_cons_succ]
            refine wpAnyH_takeD (i := 8) (d := 66) (v := ?_) rfl rfl (by kernel_rfl) (by kernel_rfl) (by kernel_rfl) (fun _ _ _ h => h) (Or.inl ⟨by rfl, ?_⟩) hHeld.out ?_
            rotate_left
            · intro wv hSw
              replace hSw : Hid (Grew wr wv) := Lib.hid hSw
              have t9 := hneb.out
              go_simp
              try with_reducible rfl
            try simp only [Act.put, List.setIfInBounds_toArray, List.set_cons_zero, List.set_cons_succ]
            refine wpAnyH_done (by kernel_rfl) ?_ _
            have cx2 := Lib.hid (hHeld.out.cell cx.out)
            have cy2 := Lib.hid (hHeld.out.cell cy.out)
            have hG2 := Lib.hid (hG'.out.trans hHeld.out)
            clear hHeld cx cy
            go_wp2_with fail
            refine wp_region_held_drew (S := fun wv => Grew wr.drew wv) (by kernel_rfl) ((Grew.refl wr.drew).drew) (fun hHeld => ?_)
            replace hHeld := Lib.hid hHeld
            try simp only [Act.put, List.setIfInBounds_toArray, List.set_cons_zero, List.set_cons_succ]
            refine wpAnyH_takeD (i := 0) (d := 67) (v := ?_) rfl rfl (by kernel_rfl) (by kernel_rfl) (by kernel_rfl) (fun _ _ _ h => h) (Or.inl ⟨by rfl, ?_⟩) hHeld.out ?_
            rotate_left
            · intro wv hSw
              replace hSw : Hid (Grew wr.drew wv) := Lib.hid hSw
              go_simp
              try with_reducible rfl
            try simp only [Act.put, List.setIfInBounds_toArray, List.set_cons_zero, List.set_cons_succ]
            refine wpAnyH_takeD (i := 1) (d := 68) (v := ?_) rfl rfl (by kernel_rfl) (by kernel_rfl) (by kernel_rfl) (fun _ _ _ h => h) (Or.inl ⟨by rfl, ?_⟩) hHeld.out ?_
            rotate_left
            · intro wv hSw
              replace hSw : Hid (Grew wr.drew wv) := Lib.hid hSw
              go_simp
              try with_reducible rfl
            try simp only [Act.put, List.setIfInBounds_toArray, List.set_cons_zero, List.set_cons_succ]
            refine wpAnyH_takeD (i := 2) (d := 69) (v := ?_) rfl rfl (by kernel_rfl) (by kernel_rfl) (by kernel_rfl) (fun _ _ _ h => h) (Or.inl ⟨by rfl, ?_⟩) hHeld.out ?_
            rotate_left
            · intro wv hSw
              replace hSw : Hid (Grew wr.drew wv) := Lib.hid hSw
              go_simp
              try with_reducible rfl
            try simp only [Act.put, List.setIfInBounds_toArray, List.set_cons_zero, List.set_cons_succ]
            refine wpAnyH_takeD (i := 3) (d := 70) (v := ?_) rfl rfl (by kernel_rfl) (by kernel_rfl) (by kernel_rfl) (fun _ _ _ h => h) (Or.inl ⟨by rfl, ?_⟩) hHeld.out ?_
            rotate_left
            · intro wv hSw
              replace hSw : Hid (Grew wr.drew wv) := Lib.hid hSw
              have t0 := hSw.out.cell cx2.out
              go_simp
              try with_reducible rfl
            try simp only [Act.put, List.setIfInBounds_toArray, List.set_cons_zero, List.set_cons_succ]
            refine wpAnyH_takeD (i := 4) (d := 71) (v := ?_) rfl rfl (by kernel_rfl) (by kernel_rfl) (by kernel_rfl) (fun _ _ _ h => h) (Or.inl ⟨by rfl, ?_⟩) hHeld.out ?_
            rotate_left
            · intro wv hSw
              replace hSw : Hid (Grew wr.drew wv) := Lib.hid hSw
              go_simp
              try with_reducible rfl
            try simp only [Act.put, List.setIfInBounds_toArray, List.set_cons_zero, List.set_cons_succ]
            refine wpAnyH_takeD (i := 5) (d := 72) (v := ?_) rfl rfl (by kernel_rfl) (by kernel_rfl) (by kernel_rfl) (fun _ _ _ h => h) (Or.inl ⟨by rfl, ?_⟩) hHeld.out ?_
            rotate_left
            · intro wv hSw
              replace hSw : Hid (Grew wr.drew wv) := Lib.hid hSw
              go_simp
              try with_reducible rfl
            try simp only [Act.put, List.setIfInBounds_toArray, List.set_cons_zero, List.set_cons_succ]
            refine wpAnyH_takeD (i := 6) (d := 73) (v := ?_) rfl rfl (by kernel_rfl) (by kernel_rfl) (by kernel_rfl) (fun _ _ _ h => h) (Or.inl ⟨by rfl, ?_⟩) hHeld.out ?_
            rotate_left
            · intro wv hSw
              replace hSw : Hid (Grew wr.drew wv) := Lib.hid hSw
              go_simp
              try with_reducible rfl
            try simp only [Act.put, List.setIfInBounds_toArray, List.set_cons_zero, List.set_cons_succ]
            refine wpAnyH_takeD (i := 7) (d := 74) (v := ?_) rfl rfl (by kernel_rfl) (by kernel_rfl) (by kernel_rfl) (fun _ _ _ h => h) (Or.inl ⟨by rfl, ?_⟩) hHeld.out ?_
            rotate_left
            · intro wv hSw
              replace hSw : Hid (Grew wr.drew wv) := Lib.hid hSw
              have t0 := hSw.out.cell cy2.out
              go_simp
              try with_reducible rfl
            try simp only [Act.put, List.setIfInBounds_toArray, List.set_cons_zero, List.set_cons_succ]
            refine wpAnyH_takeD (i := 8) (d := 75) (v := ?_) rfl rfl (by kernel_rfl) (by kernel_rfl) (by kernel_rfl) (fun _ _ _ h => h) (Or.inl ⟨by rfl, ?_⟩) hHeld.out ?_
            rotate_left
            · intro wv hSw
              replace hSw : Hid (Grew wr.drew wv) := Lib.hid hSw
              go_simp
              try with_reducible rfl
            try simp only [Act.put, List.setIfInBounds_toArray, List.set_cons_zero, List.set_cons_succ]
            refine wpAnyH_takeD (i := 9) (d := 4) (v := ?_) rfl rfl (by kernel_rfl) (by kernel_rfl) (by kernel_rfl) (fun _ _ _ h => h) (Or.inl ⟨by rfl, ?_⟩) hHeld.out ?_
            rotate_left
            · intro wv hSw
              replace hSw : Hid (Grew wr.drew wv) := Lib.hid hSw
              go_simp
              try with_reducible rfl
            try simp only [Act.put, List.setIfInBounds_toArray, List.set_cons_zero, List.set_cons_succ]
            refine wpAnyH_done (by kernel_rfl) ?_ _
            go_wp2_with fail
            go_ret
            exact ⟨by rw [e.out]; rfl, GZ.out.trans (hG2.out.trans hHeld.out)⟩
        · obtain rfl : i = 4 := by omega
          have e := Lib.hid (show aheadZ x y = false from lex_no 4 _ _ (by rw [keyS_len]; omega) hz.out)
          have hG' := Lib.hid hG
          clear hG hz
          go_wp2_with fail
          go_ret
          exact ⟨by rw [e.out]; rfl, GZ.out.trans hG'.out⟩
  · by_cases hy : 2 < dirZ y
    · skip
      have ekx := Lib.hid (show keyS x = [0, x.1.2, x.1.1, x.2.1] from if_neg hx)
      have eky := Lib.hid (show keyS y = [1, y.1.1, y.1.2, y.2.2] from if_pos hy)
      go_enter Tryz.func49, Tryz.ntmps49
      go_upto_region 1 with fail
      refine gen_wp ?_
      intro W1 hW1
      have p0 : W1.cell? ⟨w.heap.size, 0, none⟩ = some (.int .i64 x.1.1) := by rw [hW1]; simp [go_sem]
      have p1 : W1.cell? ⟨w.heap.size, 1, none⟩ = some (.int .i64 x.1.2) := by rw [hW1]; simp [go_sem]
      have p2 : W1.cell? ⟨w.heap.size, 2, none⟩ = some (.int .i64 x.2.1) := by rw [hW1]; simp [go_sem]
      have p3 : W1.cell? ⟨w.heap.size, 3, none⟩ = some (.int .i64 x.2.2) := by rw [hW1]; simp [go_sem]
      have q0 : W1.cell? ⟨w.heap.size + 1, 0, none⟩ = some (.int .i64 y.1.1) := by rw [hW1]; simp [go_sem]
      have q1 : W1.cell? ⟨w.heap.size + 1, 1, none⟩ = some (.int .i64 y.1.2) := by rw [hW1]; simp [go_sem]
      have q2 : W1.cell? ⟨w.heap.size + 1, 2, none⟩ = some (.int .i64 y.2.1) := by rw [hW1]; simp [go_sem]
      have q3 : W1.cell? ⟨w.heap.size + 1, 3, none⟩ = some (.int .i64 y.2.2) := by rw [hW1]; simp [go_sem]
      have G1 := Lib.hid (show Grew w W1 by rw [hW1]; exact ((Grew.refl _).alloc _).alloc _)
      clear hW1
      obtain ⟨WA, hWA⟩ : ∃ WA, W1.alloc (.cells #[.int .i64 0, .int .i64 x.1.2, .int .i64 x.1.1, .int .i64 x.2.1] 3) = WA := ⟨_, rfl⟩
      have gA : Grew W1 WA := by rw [← hWA]; exact (Grew.refl _).alloc _
      obtain ⟨WB, hWB⟩ : ∃ WB, WA.alloc (.cells #[.int .i64 0, .int .i64 y.1.2, .int .i64 y.1.1, .int .i64 y.2.1] 3) = WB := ⟨_, rfl⟩
      have gB : Grew WA WB := by rw [← hWB]; exact (Grew.refl _).alloc _
      have a0 : WB.cell? ⟨W1.heap.size, 0, none⟩ = some (.int .i64 0) := gB.cell (by rw [← hWA]; simp [go_sem])
      have a1 : WB.cell? ⟨W1.heap.size, 1, none⟩ = some (.int .i64 x.1.2) := gB.cell (by rw [← hWA]; simp [go_sem])
      have a2 : WB.cell? ⟨W1.heap.size, 2, none⟩ = some (.int .i64 x.1.1) := gB.cell (by rw [← hWA]; simp [go_sem])
      have a3 : WB.cell? ⟨W1.heap.size, 3, none⟩ = some (.int .i64 x.2.1) := gB.cell (by rw [← hWA]; simp [go_sem])
      have b0 : WB.cell? ⟨WA.heap.size, 0, none⟩ = some (.int .i64 0) := by rw [← hWB]; simp [go_sem]
      have b1 : WB.cell? ⟨WA.heap.size, 1, none⟩ = some (.int .i64 y.1.2) := by rw [← hWB]; simp [go_sem]
      have b2 : WB.cell? ⟨WA.heap.size, 2, none⟩ = some (.int .i64 y.1.1) := by rw [← hWB]; simp [go_sem]
      have b3 : WB.cell? ⟨WA.heap.size, 3, none⟩ = some (.int .i64 y.2.1) := by rw [← hWB]; simp [go_sem]
      have r0 := gA.cell q0
      have t0 := gB.cell r0
      have u0 := gB.cell (gA.cell p0)
      have r1 := gA.cell q1
      have t1 := gB.cell r1
      have u1 := gB.cell (gA.cell p1)
      have r2 := gA.cell q2
      have t2 := gB.cell r2
      have u2 := gB.cell (gA.cell p2)
      have r3 := gA.cell q3
      have t3 := gB.cell r3
      have u3 := gB.cell (gA.cell p3)
      go_wp2_with fail
      refine (dir_any x _).mono ?_
      rintro e w3 ⟨rfl, g3⟩
      replace a0 := g3.cell a0
      replace b0 := g3.cell b0
      replace a1 := g3.cell a1
      replace b1 := g3.cell b1
      replace a2 := g3.cell a2
      replace b2 := g3.cell b2
      replace a3 := g3.cell a3
      replace b3 := g3.cell b3
      have g3' : Grew W1 w3 := (gA.trans gB).trans g3
      clear gA gB r0 r1 r2 r3 t0 t1 t2 t3 u0 u1 u2 u3 hWA hWB
      replace G1 := Lib.hid (G1.out.trans g3')
      replace p0 := g3'.cell p0
      replace q0 := g3'.cell q0
      replace p1 := g3'.cell p1
      replace q1 := g3'.cell q1
      replace p2 := g3'.cell p2
      replace q2 := g3'.cell q2
      replace p3 := g3'.cell p3
      replace q3 := g3'.cell q3
      clear g3 g3'
      go_wp2_with fail
      refine (dir_any y _).mono ?_
      rintro e w5 ⟨rfl, g5⟩
      have g5' : Grew w3 w5 := g5
      replace a0 := g5'.cell a0
      replace a1 := g5'.cell a1
      replace a2 := g5'.cell a2
      replace a3 := g5'.cell a3
      replace b0 := g5'.cell b0
      replace q0 := g5'.cell q0
      replace b1 := g5'.cell b1
      replace q1 := g5'.cell q1
      replace b2 := g5'.cell b2
      replace q2 := g5'.cell q2
      replace b3 := g5'.cell b3
      replace q3 := g5'.cell q3
      replace G1 := Lib.hid (G1.out.trans g5')
      obtain ⟨WZ, hWZ⟩ : ∃ WZ, w5.alloc (.cells #[.int .i64 1, .int .i64 y.1.1, .int .i64 y.1.2, .int .i64 y.2.2] 3) = WZ := ⟨_, rfl⟩
      have g7 : Grew w5 WZ := by rw [← hWZ]; exact (Grew.refl _).alloc _
      have d0 : WZ.cell? ⟨w5.heap.size, 0, none⟩ = some (.int .i64 1) := by rw [← hWZ]; simp [go_sem]
      have d1 : WZ.cell? ⟨w5.heap.size, 1, none⟩ = some (.int .i64 y.1.1) := by rw [← hWZ]; simp [go_sem]
      have d2 : WZ.cell? ⟨w5.heap.size, 2, none⟩ = some (.int .i64 y.1.2) := by rw [← hWZ]; simp [go_sem]
      have d3 : WZ.cell? ⟨w5.heap.size, 3, none⟩ = some (.int .i64 y.2.2) := by rw [← hWZ]; simp [go_sem]
      replace a0 := g7.cell a0
      replace a1 := g7.cell a1
      replace a2 := g7.cell a2
      replace a3 := g7.cell a3
      have GZ := Lib.hid (G1.out.trans g7)
      have kx : ∀ i z, (keyS x)[i]? = some z → WZ.cell? ⟨W1.heap.size, i, none⟩ = some (.int .i64 z) := by rw [ekx.out]; exact four_cells a0 a1 a2 a3
      have ky : ∀ i z, (keyS y)[i]? = some z → WZ.cell? ⟨w5.heap.size, i, none⟩ = some (.int .i64 z) := by rw [eky.out]; exact four_cells d0 d1 d2 d3
      clear g5 g5' g7
      replace kx := Lib.hid kx
      replace ky := Lib.hid ky
      go_wp2_with fail
      try rw [hWZ]
      go_loopg [7] 4 (fun gk s7 wr => ∃ i : Nat, gk + i = 4 ∧ s7 = .int .i64 i ∧ Hid (∀ j z z', j < i → (keyS x)[j]? = some z → (keyS y)[j]? = some z' → z = z') ∧ Grew WZ wr)
      case atStart => exact ⟨0, rfl, rfl, Lib.hid (fun j z z' h => by omega), Grew.refl _⟩
      case round =>
        obtain ⟨i, hi, rfl, hz, hG⟩ := hrel
        by_cases hlt : i < 4
        · obtain ⟨z, hzx⟩ : ∃ z, (keyS x)[i]? = some z := ⟨(keyS x)[i]'(by rw [keyS_len]; exact hlt), List.getElem?_eq_getElem _⟩
          obtain ⟨z', hzy⟩ : ∃ z', (keyS y)[i]? = some z' := ⟨(keyS y)[i]'(by rw [keyS_len]; exact hlt), List.getElem?_eq_getElem _⟩
          have cx := Lib.hid (hG.cell (kx.out i z hzx))
          have cy := Lib.hid (hG.cell (ky.out i z' hzy))
          have hil : (i : Int) < 4 := by omega
          have hG' := Lib.hid hG
          replace hzx := Lib.hid hzx
          replace hzy := Lib.hid hzy
          clear hG
          by_cases hne : z = z'
          · have hz2 := Lib.hid (show ∀ j u u', j < i + 1 → (keyS x)[j]? = some u → (keyS y)[j]? = some u' → u = u' from fun j u u' hj hu hu' => by
              by_cases h : j = i
              · subst h; rw [hzx.out] at hu; rw [hzy.out] at hu'; injection hu with hu; injection hu' with hu'; rw [← hu, ← hu']; exact hne
              · exact hz.out j u u' (by omega) hu hu')
            subst hne
            go_wp2_with fail
            refine wp_region_held_drew (S := fun wv => Grew wr wv) (by kernel_rfl) ((Grew.refl wr).drew) (fun hHeld => ?_)
            replace hHeld := Lib.hid hHeld
            try simp only [Act.put, List.setIfInBounds_toArray, List.set_cons_zero, List.set_cons_succ]
            refine wpAnyH_takeD (i := 0) (d := 58) (v := ?_) rfl rfl (by kernel_rfl) (by kernel_rfl) (by kernel_rfl) (fun _ _ _ h => h) (Or.inl ⟨by rfl, ?_⟩) hHeld.out ?_
            rotate_left
            · intro wv hSw
              replace hSw : Hid (Grew wr wv) := Lib.hid hSw
              go_simp
              try with_reducible rfl
            try simp only [Act.put, List.setIfInBounds_toArray, List.set_cons_zero, List.set_cons_succ]
            refine wpAnyH_takeD (i := 1) (d := 59) (v := ?_) rfl rfl (by kernel_rfl) (by kernel_rfl) (by kernel_rfl) (fun _ _ _ h => h) (Or.inl ⟨by rfl, ?_⟩) hHeld.out ?_
            rotate_left
            · intro wv hSw
              replace hSw : Hid (Grew wr wv) := Lib.hid hSw
              go_simp
              try with_reducible rfl
            try simp only [Act.put, List.setIfInBounds_toArray, List.set_cons_zero, List.set_cons_succ]
            refine wpAnyH_takeD (i := 2) (d := 60) (v := ?_) rfl rfl (by kernel_rfl) (by kernel_rfl) (by kernel_rfl) (fun _ _ _ h => h) (Or.inl ⟨by rfl, ?_⟩) hHeld.out ?_
            rotate_left
            · intro wv hSw
              replace hSw : Hid (Grew wr wv) := Lib.hid hSw
              go_simp
              try with_reducible rfl
            try simp only [Act.put, List.setIfInBounds_toArray, List.set_cons_zero, List.set_cons_succ]
            refine wpAnyH_takeD (i := 3) (d := 61) (v := ?_) rfl rfl (by kernel_rfl) (by kernel_rfl) (by kernel_rfl) (fun _ _ _ h => h) (Or.inl ⟨by rfl, ?_⟩) hHeld.out ?_
            rotate_left
            · intro wv hSw
              replace hSw : Hid (Grew wr wv) := Lib.hid hSw
              have t0 := hSw.out.cell cx.out
              go_simp
              try with_reducible rfl
            try simp only [Act.put, List.setIfInBounds_toArray, List.set_cons_zero, List.set_cons_succ]
            refine wpAnyH_takeD (i := 4) (d := 62) (v := ?_) rfl rfl (by kernel_rfl) (by kernel_rfl) (by kernel_rfl) (fun _ _ _ h => h) (Or.inl ⟨by rfl, ?_⟩) hHeld.out ?_
            rotate_left
            · intro wv hSw
              replace hSw : Hid (Grew wr wv) := Lib.hid hSw
              go_simp
              try with_reducible rfl
            try simp only [Act.put, List.setIfInBounds_toArray, List.set_cons_zero, List.set_cons_succ]
            refine wpAnyH_takeD (i := 5) (d := 63) (v := ?_) rfl rfl (by kernel_rfl) (by kernel_rfl) (by kernel_rfl) (fun _ _ _ h => h) (Or.inl ⟨by rfl, ?_⟩) hHeld.out ?_
            rotate_left
            · intro wv hSw
              replace hSw : Hid (Grew wr wv) := Lib.hid hSw
              go_simp
              try with_reducible rfl
            try simp only [Act.put, List.setIfInBounds_toArray, List.set_cons_zero, List.set_cons_succ]
            refine wpAnyH_takeD (i := 6) (d := 64) (v := ?_) rfl rfl (by kernel_rfl) (by kernel_rfl) (by kernel_rfl) (fun _ _ _ h => h) (Or.inl ⟨by rfl, ?_⟩) hHeld.out ?_
            rotate_left
            · intro wv hSw
              replace hSw : Hid (Grew wr wv) := Lib.hid hSw
              go_simp
              try with_reducible rfl
            try simp only [Act.put, List.setIfInBounds_toArray, List.set_cons_zero, List.set_cons_succ]
            refine wpAnyH_takeD (i := 7) (d := 65) (v := ?_) rfl rfl (by kernel_rfl) (by kernel_rfl) (by kernel_rfl) (fun _ _ _ h => h) (Or.inl ⟨by rfl, ?_⟩) hHeld.out ?_
            rotate_left
            · intro wv hSw
              replace hSw : Hid (Grew wr wv) := Lib.hid hSw
              have t0 := hSw.out.cell cy.out
              go_simp
              try with_reducible rfl
            try simp only [Act.put, List.setIfInBounds_toArray, List.set_cons_zero, List.set_cons_succ]
            refine wpAnyH_takeD (i := 8) (d := 66) (v := ?_) rfl rfl (by kernel_rfl) (by kernel_rfl) (by kernel_rfl) (fun _ _ _ h => h) (Or.inl ⟨by rfl, ?_⟩) hHeld.out ?_
            rotate_left
            · intro wv hSw
              replace hSw : Hid (Grew wr wv) := Lib.hid hSw
              go_simp
              try with_reducible rfl
            try simp only [Act.put, List.setIfInBounds_toArray, List.set_cons_zero, List.set_cons_succ]
            refine wpAnyH_done (by kernel_rfl) ?_ _
            go_wp2_with fail
            go_roundg (gk - 1)
            case rel => exact ⟨i + 1, by omega, by go_num, hz2, hG'.out.trans hHeld.out⟩
            case measure => omega
          · have e := Lib.hid (show aheadZ x y = decide (z < z') from lex_at i _ _ hz.out hzx.out hzy.out hne)
            have hneb := Lib.hid (show (z != z') = true by simp [hne])
            go_wp2_with fail
            refine wp_region_held_drew (S := fun wv => Grew wr wv) (by kernel_rfl) ((Grew.refl wr).drew) (fun hHeld => ?_)
            replace hHeld := Lib.hid hHeld
            try simp only [Act.put, List.setIfInBounds_toArray, List.set_cons_zero, List.set_cons_succ]
            refine wpAnyH_takeD (i := 0) (d := 58) (v := ?_) rfl rfl (by kernel_rfl) (by kernel_rfl) (by kernel_rfl) (fun _ _ _ h => h) (Or.inl ⟨by rfl, ?_⟩) hHeld.out ?_
            rotate_left
            · intro wv hSw
              replace hSw : Hid (Grew wr wv) := Lib.hid hSw
              go_simp
              try with_reducible rfl
            try simp only [Act.put, List.setIfInBounds_toArray, List.set_cons_zero, List.set_cons_succ]
            refine wpAnyH_takeD (i := 1) (d := 59) (v := ?_) rfl rfl (by kernel_rfl) (by kernel_rfl) (by kernel_rfl) (fun _ _ _ h => h) (Or.inl ⟨by rfl, ?_⟩) hHeld.out ?_
            rotate_left
            · intro wv hSw
              replace hSw : Hid (Grew wr wv) := Lib.hid hSw
              go_simp
              try with_reducible rfl
            try simp only [Act.put, List.setIfInBounds_toArray, List.set_cons_zero, List.set_cons_succ]
            refine wpAnyH_takeD (i := 2) (d := 60) (v := ?_) rfl rfl (by kernel_rfl) (by kernel_rfl) (by kernel_rfl) (fun _ _ _ h => h) (Or.inl ⟨by rfl, ?_⟩) hHeld.out ?_
            rotate_left
            · intro wv hSw
              replace hSw : Hid (Grew wr wv) := Lib.hid hSw
              go_simp
              try with_reducible rfl
            try simp only [Act.put, List.setIfInBounds_toArray, List.set_cons_zero, List.set_cons_succ]
            refine wpAnyH_takeD (i := 3) (d := 61) (v := ?_) rfl rfl (by kernel_rfl) (by kernel_rfl) (by kernel_rfl) (fun _ _ _ h => h) (Or.inl ⟨by rfl, ?_⟩) hHeld.out ?_
            rotate_left
            · intro wv hSw
              replace hSw : Hid (Grew wr wv) := Lib.hid hSw
              have t0 := hSw.out.cell cx.out
              go_simp
              try with_reducible rfl
            try simp only [Act.put, List.setIfInBounds_toArray, List.set_cons_zero, List.set_cons_succ]
            refine wpAnyH_takeD (i := 4) (d := 62) (v := ?_) rfl rfl (by kernel_rfl) (by kernel_rfl) (by kernel_rfl) (fun _ _ _ h => h) (Or.inl ⟨by rfl, ?_⟩) hHeld.out ?_
            rotate_left
            · intro wv hSw
              replace hSw : Hid (Grew wr wv) := Lib.hid hSw
              go_simp
              try with_reducible rfl
            try simp only [Act.put, List.setIfInBounds_toArray, List.set_cons_zero, List.set_cons_succ]
            refine wpAnyH_takeD (i := 5) (d := 63) (v := ?_) rfl rfl (by kernel_rfl) (by kernel_rfl) (by kernel_rfl) (fun _ _ _ h => h) (Or.inl ⟨by rfl, ?_⟩) hHeld.out ?_
            rotate_left
            · intro wv hSw
              replace hSw : Hid (Grew wr wv) := Lib.hid hSw
              go_simp
              try with_reducible rfl
            try simp only [Act.put, List.setIfInBounds_toArray, List.set_cons_zero, List.set_cons_succ]
            refine wpAnyH_takeD (i := 6) (d := 64) (v := ?_) rfl rfl (by kernel_rfl) (by kernel_rfl) (by kernel_rfl) (fun _ _ _ h => h) (Or.inl ⟨by rfl, ?_⟩) hHeld.out ?_
            rotate_left
            · intro wv hSw
              replace hSw : Hid (Grew wr wv) := Lib.hid hSw
              go_simp
              try with_reducible rfl
            try simp only [Act.put, List.setIfInBounds_toArray, List.set_cons_zero, List.set_cons_succ]
            refine wpAnyH_takeD (i := 7) (d := 65) (v := ?_) rfl rfl (by kernel_rfl) (by kernel_rfl) (by kernel_rfl) (fun _ _ _ h => h) (Or.inl ⟨by rfl, ?_⟩) hHeld.out ?_
            rotate_left
            · intro wv hSw
              replace hSw : Hid (Grew wr wv) := Lib.hid hSw
              have t0 := hSw.out.cell cy.out
              go_simp
              try with_reducible rfl
            try simp only [Act.put, List.setIfInBounds_toArray, List.set_cons_zero, List.set_cons_succ]
            refine wpAnyH_takeD (i := 8) (d := 66) (v := ?_) rfl rfl (by kernel_rfl) (by kernel_rfl) (by kernel_rfl) (fun _ _ _ h => h) (Or.inl ⟨by rfl, ?_⟩) hHeld.out ?_
            rotate_left
            · intro wv hSw
              replace hSw : Hid (Grew wr wv) := Lib.hid hSw
              have t9 := hneb.out
              go_simp
              try with_reducible rfl
            try simp only [Act.put, List.setIfInBounds_toArray, List.set_cons_zero, List.set_cons_succ]
            refine wpAnyH_done (by kernel_rfl) ?_ _
            have cx2 := Lib.hid (hHeld.out.cell cx.out)
            have cy2 := Lib.hid (hHeld.out.cell cy.out)
            have hG2 := Lib.hid (hG'.out.trans hHeld.out)
            clear hHeld cx cy
            go_wp2_with fail
            refine wp_region_held_drew (S := fun wv => Grew wr.drew wv) (by kernel_rfl) ((Grew.refl wr.drew).drew) (fun hHeld => ?_)
            replace hHeld := Lib.hid hHeld
            try simp only [Act.put, List.setIfInBounds_toArray, List.set_cons_zero, List.set_cons_succ]
            refine wpAnyH_takeD (i := 0) (d := 67) (v := ?_) rfl rfl (by kernel_rfl) (by kernel_rfl) (by kernel_rfl) (fun _ _ _ h => h) (Or.inl ⟨by rfl, ?_⟩) hHeld.out ?_
            rotate_left
            · intro wv hSw
              replace hSw : Hid (Grew wr.drew wv) := Lib.hid hSw
              go_simp
              try with_reducible rfl
            try simp only [Act.put, List.setIfInBounds_toArray, List.set_cons_zero, List.set_cons_succ]
            refine wpAnyH_takeD (i := 1) (d := 68) (v := ?_) rfl rfl (by kernel_rfl) (by kernel_rfl) (by kernel_rfl) (fun _ _ _ h => h) (Or.inl ⟨by rfl, ?_⟩) hHeld.out ?_
            rotate_left
            · intro wv hSw
              replace hSw : Hid (Grew wr.drew wv) := Lib.hid hSw
              go_simp
              try with_reducible rfl
            try simp only [Act.put, List.setIfInBounds_toArray, List.set_cons_zero, List.set_cons_succ]
            refine wpAnyH_takeD (i := 2) (d := 69) (v := ?_) rfl rfl (by kernel_rfl) (by kernel_rfl) (by kernel_rfl) (fun _ _ _ h => h) (Or.inl ⟨by rfl, ?_⟩) hHeld.out ?_
            rotate_left
            · intro wv hSw
              replace hSw : Hid (Grew wr.drew wv) := Lib.hid hSw
              go_simp
              try with_reducible rfl
            try simp only [Act.put, List.setIfInBounds_toArray, List.set_cons_zero, List.set_cons_succ]
            refine wpAnyH_takeD (i := 3) (d := 70) (v := ?_) rfl rfl (by kernel_rfl) (by kernel_rfl) (by kernel_rfl) (fun _ _ _ h => h) (Or.inl ⟨by rfl, ?_⟩) hHeld.out ?_
            rotate_left
            · intro wv hSw
              replace hSw : Hid (Grew wr.drew wv) := Lib.hid hSw
              have t0 := hSw.out.cell cx2.out
              go_simp
              try with_reducible rfl
            try simp only [Act.put, List.setIfInBounds_toArray, List.set_cons_zero, List.set_cons_succ]
            refine wpAnyH_takeD (i := 4) (d := 71) (v := ?_) rfl rfl (by kernel_rfl) (by kernel_rfl) (by kernel_rfl) (fun _ _ _ h => h) (Or.inl ⟨by rfl, ?_⟩) hHeld.out ?_
            rotate_left
            · intro wv hSw
              replace hSw : Hid (Grew wr.drew wv) := Lib.hid hSw
              go_simp
              try with_reducible rfl
            try simp only [Act.put, List.setIfInBounds_toArray, List.set_cons_zero, List.set_cons_succ]
            refine wpAnyH_takeD (i := 5) (d := 72) (v := ?_) rfl rfl (by kernel_rfl) (by kernel_rfl) (by kernel_rfl) (fun _ _ _ h => h) (Or.inl ⟨by rfl, ?_⟩) hHeld.out ?_
            rotate_left
            · intro wv hSw
              replace hSw : Hid (Grew wr.drew wv) := Lib.hid hSw
              go_simp
              try with_reducible rfl
            try simp only [Act.put, List.setIfInBounds_toArray, List.set_cons_zero, List.set_cons_succ]
            refine wpAnyH_takeD (i := 6) (d := 73) (v := ?_) rfl rfl (by kernel_rfl) (by kernel_rfl) (by kernel_rfl) (fun _ _ _ h => h) (Or.inl ⟨by rfl, ?_⟩) hHeld.out ?_
            rotate_left
            · intro wv hSw
              replace hSw : Hid (Grew wr.drew wv) := Lib.hid hSw
              go_simp
              try with_reducible rfl
            try simp only [Act.put, List.setIfInBounds_toArray, List.set_cons_zero, List.set_cons_succ]
            refine wpAnyH_takeD (i := 7) (d := 74) (v := ?_) rfl rfl (by kernel_rfl) (by kernel_rfl) (by kernel_rfl) (fun _ _ _ h => h) (Or.inl ⟨by rfl, ?_⟩) hHeld.out ?_
            rotate_left
            · intro wv hSw
              replace hSw : Hid (Grew wr.drew wv) := Lib.hid hSw
              have t0 := hSw.out.cell cy2.out
              go_simp
              try with_reducible rfl
            try simp only [Act.put, List.setIfInBounds_toArray, List.set_cons_zero, List.set_cons_succ]
            refine wpAnyH_takeD (i := 8) (d := 75) (v := ?_) rfl rfl (by kernel_rfl) (by kernel_rfl) (by kernel_rfl) (fun _ _ _ h => h) (Or.inl ⟨by rfl, ?_⟩) hHeld.out ?_
            rotate_left
            · intro wv hSw
              replace hSw : Hid (Grew wr.drew wv) := Lib.hid hSw
              go_simp
              try with_reducible rfl
            try simp only [Act.put, List.setIfInBounds_toArray, List.set_cons_zero, List.set_cons_succ]
            refine wpAnyH_takeD (i := 9) (d := 4) (v := ?_) rfl rfl (by kernel_rfl) (by kernel_rfl) (by kernel_rfl) (fun _ _ _ h => h) (Or.inl ⟨by rfl, ?_⟩) hHeld.out ?_
            rotate_left
            · intro wv hSw
              replace hSw : Hid (Grew wr.drew wv) := Lib.hid hSw
              go_simp
              try with_reducible rfl
            try simp only [Act.put, List.setIfInBounds_toArray, List.set_cons_zero, List.set_cons_succ]
            refine wpAnyH_done (by kernel_rfl) ?_ _
            go_wp2_with fail
            go_ret
            exact ⟨by rw [e.out]; rfl, GZ.out.trans (hG2.out.trans hHeld.out)⟩
        · obtain rfl : i = 4 := by omega
          have e := Lib.hid (show aheadZ x y = false from lex_no 4 _ _ (by rw [keyS_len]; omega) hz.out)
          have hG' := Lib.hid hG
          clear hG hz
          go_wp2_with fail
          go_ret
          exact ⟨by rw [e.out]; rfl, GZ.out.trans hG'.out⟩
    · skip
      have ekx := Lib.hid (show keyS x = [0, x.1.2, x.1.1, x.2.1] from if_neg hx)
      have eky := Lib.hid (show keyS y = [0, y.1.2, y.1.1, y.2.1] from if_neg hy)
      go_enter Tryz.func49, Tryz.ntmps49
      go_upto_region 1 with fail
      refine gen_wp ?_
      intro W1 hW1
      have p0 : W1.cell? ⟨w.heap.size, 0, none⟩ = some (.int .i64 x.1.1) := by rw [hW1]; simp [go_sem]
      have p1 : W1.cell? ⟨w.heap.size, 1, none⟩ = some (.int .i64 x.1.2) := by rw [hW1]; simp [go_sem]
      have p2 : W1.cell? ⟨w.heap.size, 2, none⟩ = some (.int .i64 x.2.1) := by rw [hW1]; simp [go_sem]
      have p3 : W1.cell? ⟨w.heap.size, 3, none⟩ = some (.int .i64 x.2.2) := by rw [hW1]; simp [go_sem]
      have q0 : W1.cell? ⟨w.heap.size + 1, 0, none⟩ = some (.int .i64 y.1.1) := by rw [hW1]; simp [go_sem]
      have q1 : W1.cell? ⟨w.heap.size + 1, 1, none⟩ = some (.int .i64 y.1.2) := by rw [hW1]; simp [go_sem]
      have q2 : W1.cell? ⟨w.heap.size + 1, 2, none⟩ = some (.int .i64 y.2.1) := by rw [hW1]; simp [go_sem]
      have q3 : W1.cell? ⟨w.heap.size + 1, 3, none⟩ = some (.int .i64 y.2.2) := by rw [hW1]; simp [go_sem]
      have G1 := Lib.hid (show Grew w W1 by rw [hW1]; exact ((Grew.refl _).alloc _).alloc _)
      clear hW1
      obtain ⟨WA, hWA⟩ : ∃ WA, W1.alloc (.cells #[.int .i64 0, .int .i64 x.1.2, .int .i64 x.1.1, .int .i64 x.2.1] 3) = WA := ⟨_, rfl⟩
      have gA : Grew W1 WA := by rw [← hWA]; exact (Grew.refl _).alloc _
      obtain ⟨WB, hWB⟩ : ∃ WB, WA.alloc (.cells #[.int .i64 0, .int .i64 y.1.2, .int .i64 y.1.1, .int .i64 y.2.1] 3) = WB := ⟨_, rfl⟩
      have gB : Grew WA WB := by rw [← hWB]; exact (Grew.refl _).alloc _
      have a0 : WB.cell? ⟨W1.heap.size, 0, none⟩ = some (.int .i64 0) := gB.cell (by rw [← hWA]; simp [go_sem])
      have a1 : WB.cell? ⟨W1.heap.size, 1, none⟩ = some (.int .i64 x.1.2) := gB.cell (by rw [← hWA]; simp [go_sem])
      have a2 : WB.cell? ⟨W1.heap.size, 2, none⟩ = some (.int .i64 x.1.1) := gB.cell (by rw [← hWA]; simp [go_sem])
      have a3 : WB.cell? ⟨W1.heap.size, 3, none⟩ = some (.int .i64 x.2.1) := gB.cell (by rw [← hWA]; simp [go_sem])
      have b0 : WB.cell? ⟨WA.heap.size, 0, none⟩ = some (.int .i64 0) := by rw [← hWB]; simp [go_sem]
      have b1 : WB.cell? ⟨WA.heap.size, 1, none⟩ = some (.int .i64 y.1.2) := by rw [← hWB]; simp [go_sem]
      have b2 : WB.cell? ⟨WA.heap.size, 2, none⟩ = some (.int .i64 y.1.1) := by rw [← hWB]; simp [go_sem]
      have b3 : WB.cell? ⟨WA.heap.size, 3, none⟩ = some (.int .i64 y.2.1) := by rw [← hWB]; simp [go_sem]
      have r0 := gA.cell q0
      have t0 := gB.cell r0
      have u0 := gB.cell (gA.cell p0)
      have r1 := gA.cell q1
      have t1 := gB.cell r1
      have u1 := gB.cell (gA.cell p1)
      have r2 := gA.cell q2
      have t2 := gB.cell r2
      have u2 := gB.cell (gA.cell p2)
      have r3 := gA.cell q3
      have t3 := gB.cell r3
      have u3 := gB.cell (gA.cell p3)
      go_wp2_with fail
      refine (dir_any x _).mono ?_
      rintro e w3 ⟨rfl, g3⟩
      replace a0 := g3.cell a0
      replace b0 := g3.cell b0
      replace a1 := g3.cell a1
      replace b1 := g3.cell b1
      replace a2 := g3.cell a2
      replace b2 := g3.cell b2
      replace a3 := g3.cell a3
      replace b3 := g3.cell b3
      have g3' : Grew W1 w3 := (gA.trans gB).trans g3
      clear gA gB r0 r1 r2 r3 t0 t1 t2 t3 u0 u1 u2 u3 hWA hWB
      replace G1 := Lib.hid (G1.out.trans g3')
      replace p0 := g3'.cell p0
      replace q0 := g3'.cell q0
      replace p1 := g3'.cell p1
      replace q1 := g3'.cell q1
      replace p2 := g3'.cell p2
      replace q2 := g3'.cell q2
      replace p3 := g3'.cell p3
      replace q3 := g3'.cell q3
      clear g3 g3'
      go_wp2_with fail
      refine (dir_any y _).mono ?_
      rintro e w5 ⟨rfl, g5⟩
      have g5' : Grew w3 w5 := g5
      replace a0 := g5'.cell a0
      replace a1 := g5'.cell a1
      replace a2 := g5'.cell a2
      replace a3 := g5'.cell a3
      replace b0 := g5'.cell b0
      replace q0 := g5'.cell q0
      replace b1 := g5'.cell b1
      replace q1 := g5'.cell q1
      replace b2 := g5'.cell b2
      replace q2 := g5'.cell q2
      replace b3 := g5'.cell b3
      replace q3 := g5'.cell q3
      replace G1 := Lib.hid (G1.out.trans g5')
      obtain ⟨WZ, rfl⟩ : ∃ WZ, WZ = w5 := ⟨_, rfl⟩
      have GZ := Lib.hid G1.out
      have kx : ∀ i z, (keyS x)[i]? = some z → WZ.cell? ⟨W1.heap.size, i, none⟩ = some (.int .i64 z) := by rw [ekx.out]; exact four_cells a0 a1 a2 a3
      have ky : ∀ i z, (keyS y)[i]? = some z → WZ.cell? ⟨WA.heap.size, i, none⟩ = some (.int .i64 z) := by rw [eky.out]; exact four_cells b0 b1 b2 b3
      clear g5 g5'
      replace kx := Lib.hid kx
      replace ky := Lib.hid ky
      go_wp2_with fail
      go_loopg [7] 4 (fun gk s7 wr => ∃ i : Nat, gk + i = 4 ∧ s7 = .int .i64 i ∧ Hid (∀ j z z', j < i → (keyS x)[j]? = some z → (keyS y)[j]? = some z' → z = z') ∧ Grew WZ wr)
      case atStart => exact ⟨0, rfl, rfl, Lib.hid (fun j z z' h => by omega), Grew.refl _⟩
      case round =>
        obtain ⟨i, hi, rfl, hz, hG⟩ := hrel
        by_cases hlt : i < 4
        · obtain ⟨z, hzx⟩ : ∃ z, (keyS x)[i]? = some z := ⟨(keyS x)[i]'(by rw [keyS_len]; exact hlt), List.getElem?_eq_getElem _⟩
          obtain ⟨z', hzy⟩ : ∃ z', (keyS y)[i]? = some z' := ⟨(keyS y)[i]'(by rw [keyS_len]; exact hlt), List.getElem?_eq_getElem _⟩
          have cx := Lib.hid (hG.cell (kx.out i z hzx))
          have cy := Lib.hid (hG.cell (ky.out i z' hzy))
          have hil : (i : Int) < 4 := by omega
          have hG' := Lib.hid hG
          replace hzx := Lib.hid hzx
          replace hzy := Lib.hid hzy
          clear hG
          by_cases hne : z = z'
          · have hz2 := Lib.hid (show ∀ j u u', j < i + 1 → (keyS x)[j]? = some u → (keyS y)[j]? = some u' → u = u' from fun j u u' hj hu hu' => by
              by_cases h : j = i
              · subst h; rw [hzx.out] at hu; rw [hzy.out] at hu'; injection hu with hu; injection hu' with hu'; rw [← hu, ← hu']; exact hne
              · exact hz.out j u u' (by omega) hu hu')
            subst hne
            go_wp2_with fail
            refine wp_region_held_drew (S := fun wv => Grew wr wv) (by kernel_rfl) ((Grew.refl wr).drew) (fun hHeld => ?_)
            replace hHeld := Lib.hid hHeld
            try simp only [Act.put, List.setIfInBounds_toArray, List.set_cons_zero, List.set_cons_succ]
            refine wpAnyH_takeD (i := 0) (d := 58) (v := ?_) rfl rfl (by kernel_rfl) (by kernel_rfl) (by kernel_rfl) (fun _ _ _ h => h) (Or.inl ⟨by rfl, ?_⟩) hHeld.out ?_
            rotate_left
            · intro wv hSw
              replace hSw : Hid (Grew wr wv) := Lib.hid hSw
              go_simp
              try with_reducible rfl
            try simp only [Act.put, List.setIfInBounds_toArray, List.set_cons_zero, List.set_cons_succ]
            refine wpAnyH_takeD (i := 1) (d := 59) (v := ?_) rfl rfl (by kernel_rfl) (by kernel_rfl) (by kernel_rfl) (fun _ _ _ h => h) (Or.inl ⟨by rfl, ?_⟩) hHeld.out ?_
            rotate_left
            · intro wv hSw
              replace hSw : Hid (Grew wr wv) := Lib.hid hSw
              go_simp
              try with_reducible rfl
            try simp only [Act.put, List.setIfInBounds_toArray, List.set_cons_zero, List.set_cons_succ]
            refine wpAnyH_takeD (i := 2) (d := 60) (v := ?_) rfl rfl (by kernel_rfl) (by kernel_rfl) (by kernel_rfl) (fun _ _ _ h => h) (Or.inl ⟨by rfl, ?_⟩) hHeld.out ?_
            rotate_left
            · intro wv hSw
              replace hSw : Hid (Grew wr wv) := Lib.hid hSw
              go_simp
              try with_reducible rfl
            try simp only [Act.put, List.setIfInBounds_toArray, List.set_cons_zero, List.set_cons_succ]
            refine wpAnyH_takeD (i := 3) (d := 61) (v := ?_) rfl rfl (by kernel_rfl) (by kernel_rfl) (by kernel_rfl) (fun _ _ _ h => h) (Or.inl ⟨by rfl, ?_⟩) hHeld.out ?_
            rotate_left
            · intro wv hSw
              replace hSw : Hid (Grew wr wv) := Lib.hid hSw
              have t0 := hSw.out.cell cx.out
              go_simp
              try with_reducible rfl
            try simp only [Act.put, List.setIfInBounds_toArray, List.set_cons_zero, List.set_cons_succ]
            refine wpAnyH_takeD (i := 4) (d := 62) (v := ?_) rfl rfl (by kernel_rfl) (by kernel_rfl) (by kernel_rfl) (fun _ _ _ h => h) (Or.inl ⟨by rfl, ?_⟩) hHeld.out ?_
            rotate_left
            · intro wv hSw
              replace hSw : Hid (Grew wr wv) := Lib.hid hSw
              go_simp
              try with_reducible rfl
            try simp only [Act.put, List.setIfInBounds_toArray, List.set_cons_zero, List.set_cons_succ]
            refine wpAnyH_takeD (i := 5) (d := 63) (v := ?_) rfl rfl (by kernel_rfl) (by kernel_rfl) (by kernel_rfl) (fun _ _ _ h => h) (Or.inl ⟨by rfl, ?_⟩) hHeld.out ?_
            rotate_left
            · intro wv hSw
              replace hSw : Hid (Grew wr wv) := Lib.hid hSw
              go_simp
              try with_reducible rfl
            try simp only [Act.put, List.setIfInBounds_toArray, List.set_cons_zero, List.set_cons_succ]
            refine wpAnyH_takeD (i := 6) (d := 64) (v := ?_) rfl rfl (by kernel_rfl) (by kernel_rfl) (by kernel_rfl) (fun _ _ _ h => h) (Or.inl ⟨by rfl, ?_⟩) hHeld.out ?_
            rotate_left
            · intro wv hSw
              replace hSw : Hid (Grew wr wv) := Lib.hid hSw
              go_simp
              try with_reducible rfl
            try simp only [Act.put, List.setIfInBounds_toArray, List.set_cons_zero, List.set_cons_succ]
            refine wpAnyH_takeD (i := 7) (d := 65) (v := ?_) rfl rfl (by kernel_rfl) (by kernel_rfl) (by kernel_rfl) (fun _ _ _ h => h) (Or.inl ⟨by rfl, ?_⟩) hHeld.out ?_
            rotate_left
            · intro wv hSw
              replace hSw : Hid (Grew wr wv) := Lib.hid hSw
              have t0 := hSw.out.cell cy.out
              go_simp
              try with_reducible rfl
            try simp only [Act.put, List.setIfInBounds_toArray, List.set_cons_zero, List.set_cons_succ]
            refine wpAnyH_takeD (i := 8) (d := 66) (v := ?_) rfl rfl (by kernel_rfl) (by kernel_rfl) (by kernel_rfl) (fun _ _ _ h => h) (Or.inl ⟨by rfl, ?_⟩) hHeld.out ?_
            rotate_left
            · intro wv hSw
              replace hSw : Hid (Grew wr wv) := Lib.hid hSw
              go_simp
              try with_reducible rfl
            try simp only [Act.put, List.setIfInBounds_toArray, List.set_cons_zero, List.set_cons_succ]
            refine wpAnyH_done (by kernel_rfl) ?_ _
            go_wp2_with fail
            go_roundg (gk - 1)
            case rel => exact ⟨i + 1, by omega, by go_num, hz2, hG'.out.trans hHeld.out⟩
            case measure => omega
          · have e := Lib.hid (show aheadZ x y = decide (z < z') from lex_at i _ _ hz.out hzx.out hzy.out hne)
            have hneb := Lib.hid (show (z != z') = true by simp [hne])
            go_wp2_with fail
            refine wp_region_held_drew (S := fun wv => Grew wr wv) (by kernel_rfl) ((Grew.refl wr).drew) (fun hHeld => ?_)
            replace hHeld := Lib.hid hHeld
            try simp only [Act.put, List.setIfInBounds_toArray, List.set_cons_zero, List.set_cons_succ]
            refine wpAnyH_takeD (i := 0) (d := 58) (v := ?_) rfl rfl (by kernel_rfl) (by kernel_rfl) (by kernel_rfl) (fun _ _ _ h => h) (Or.inl ⟨by rfl, ?_⟩) hHeld.out ?_
            rotate_left
            · intro wv hSw
              replace hSw : Hid (Grew wr wv) := Lib.hid hSw
              go_simp
              try with_reducible rfl
            try simp only [Act.put, List.setIfInBounds_toArray, List.set_cons_zero, List.set_cons_succ]
            refine wpAnyH_takeD (i := 1) (d := 59) (v := ?_) rfl rfl (by kernel_rfl) (by kernel_rfl) (by kernel_rfl) (fun _ _ _ h => h) (Or.inl ⟨by rfl, ?_⟩) hHeld.out ?_
            rotate_left
            · intro wv hSw
              replace hSw : Hid (Grew wr wv) := Lib.hid hSw
              go_simp
              try with_reducible rfl
            try simp only [Act.put, List.setIfInBounds_toArray, List.set_cons_zero, List.set_cons_succ]
            refine wpAnyH_takeD (i := 2) (d := 60) (v := ?_) rfl rfl (by kernel_rfl) (by kernel_rfl) (by kernel_rfl) (fun _ _ _ h => h) (Or.inl ⟨by rfl, ?_⟩) hHeld.out ?_
            rotate_left
            · intro wv hSw
              replace hSw : Hid (Grew wr wv) := Lib.hid hSw
              go_simp
              try with_reducible rfl
            try simp only [Act.put, List.setIfInBounds_toArray, List.set_cons_zero, List.set_cons_succ]
            refine wpAnyH_takeD (i := 3) (d := 61) (v := ?_) rfl rfl (by kernel_rfl) (by kernel_rfl) (by kernel_rfl) (fun _ _ _ h => h) (Or.inl ⟨by rfl, ?_⟩) hHeld.out ?_
            rotate_left
            · intro wv hSw
              replace hSw : Hid (Grew wr wv) := Lib.hid hSw
              have t0 := hSw.out.cell cx.out
              go_simp
              try with_reducible rfl
            try simp only [Act.put, List.setIfInBounds_toArray, List.set_cons_zero, List.set_cons_succ]
            refine wpAnyH_takeD (i := 4) (d := 62) (v := ?_) rfl rfl (by kernel_rfl) (by kernel_rfl) (by kernel_rfl) (fun _ _ _ h => h) (Or.inl ⟨by rfl, ?_⟩) hHeld.out ?_
            rotate_left
            · intro wv hSw
              replace hSw : Hid (Grew wr wv) := Lib.hid hSw
              go_simp
              try with_reducible rfl
            try simp only [Act.put, List.setIfInBounds_toArray, List.set_cons_zero, List.set_cons_succ]
            refine wpAnyH_takeD (i := 5) (d := 63) (v := ?_) rfl rfl (by kernel_rfl) (by kernel_rfl) (by kernel_rfl) (fun _ _ _ h => h) (Or.inl ⟨by rfl, ?_⟩) hHeld.out ?_
            rotate_left
            · intro wv hSw
              replace hSw : Hid (Grew wr wv) := Lib.hid hSw
              go_simp
              try with_reducible rfl
            try simp only [Act.put, List.setIfInBounds_toArray, List.set_cons_zero, List.set_cons_succ]
            refine wpAnyH_takeD (i := 6) (d := 64) (v := ?_) rfl rfl (by kernel_rfl) (by kernel_rfl) (by kernel_rfl) (fun _ _ _ h => h) (Or.inl ⟨by rfl, ?_⟩) hHeld.out ?_
            rotate_left
            · intro wv hSw
              replace hSw : Hid (Grew wr wv) := Lib.hid hSw
              go_simp
              try with_reducible rfl
            try simp only [Act.put, List.setIfInBounds_toArray, List.set_cons_zero, List.set_cons_succ]
            refine wpAnyH_takeD (i := 7) (d := 65) (v := ?_) rfl rfl (by kernel_rfl) (by kernel_rfl) (by kernel_rfl) (fun _ _ _ h => h) (Or.inl ⟨by rfl, ?_⟩) hHeld.out ?_
            rotate_left
            · intro wv hSw
              replace hSw : Hid (Grew wr wv) := Lib.hid hSw
              have t0 := hSw.out.cell cy.out
              go_simp
              try with_reducible rfl
            try simp only [Act.put, List.setIfInBounds_toArray, List.set_cons_zero, List.set_cons_succ]
            refine wpAnyH_takeD (i := 8) (d := 66) (v := ?_) rfl rfl (by kernel_rfl) (by kernel_rfl) (by kernel_rfl) (fun _ _ _ h => h) (Or.inl ⟨by rfl, ?_⟩) hHeld.out ?_
            rotate_left
            · intro wv hSw
              replace hSw : Hid (Grew wr wv) := Lib.hid hSw
              have t9 := hneb.out
              go_simp
              try with_reducible rfl
            try simp only [Act.put, List.setIfInBounds_toArray, List.set_cons_zero, List.set_cons_succ]
            refine wpAnyH_done (by kernel_rfl) ?_ _
            have cx2 := Lib.hid (hHeld.out.cell cx.out)
            have cy2 := Lib.hid (hHeld.out.cell cy.out)
            have hG2 := Lib.hid (hG'.out.trans hHeld.out)
            clear hHeld cx cy
            go_wp2_with fail
            refine wp_region_held_drew (S := fun wv => Grew wr.drew wv) (by kernel_rfl) ((Grew.refl wr.drew).drew) (fun hHeld => ?_)
            replace hHeld := Lib.hid hHeld
            try simp only [Act.put, List.setIfInBounds_toArray, List.set_cons_zero, List.set_cons_succ]
            refine wpAnyH_takeD (i := 0) (d := 67) (v := ?_) rfl rfl (by kernel_rfl) (by kernel_rfl) (by kernel_rfl) (fun _ _ _ h => h) (Or.inl ⟨by rfl, ?_⟩) hHeld.out ?_
            rotate_left
            · intro wv hSw
              replace hSw : Hid (Grew wr.drew wv) := Lib.hid hSw
              go_simp
              try with_reducible rfl
            try simp only [Act.put, List.setIfInBounds_toArray, List.set_cons_zero, List.set_cons_succ]
            refine wpAnyH_takeD (i := 1) (d := 68) (v := ?_) rfl rfl (by kernel_rfl) (by kernel_rfl) (by kernel_rfl) (fun _ _ _ h => h) (Or.inl ⟨by rfl, ?_⟩) hHeld.out ?_
            rotate_left
            · intro wv hSw
              replace hSw : Hid (Grew wr.drew wv) := Lib.hid hSw
              go_simp
              try with_reducible rfl
            try simp only [Act.put, List.setIfInBounds_toArray, List.set_cons_zero, List.set_cons_succ]
            refine wpAnyH_takeD (i := 2) (d := 69) (v := ?_) rfl rfl (by kernel_rfl) (by kernel_rfl) (by kernel_rfl) (fun _ _ _ h => h) (Or.inl ⟨by rfl, ?_⟩) hHeld.out ?_
            rotate_left
            · intro wv hSw
              replace hSw : Hid (Grew wr.drew wv) := Lib.hid hSw
              go_simp
              try with_reducible rfl
            try simp only [Act.put, List.setIfInBounds_toArray, List.set_cons_zero, List.set_cons_succ]
            refine wpAnyH_takeD (i := 3) (d := 70) (v := ?_) rfl rfl (by kernel_rfl) (by kernel_rfl) (by kernel_rfl) (fun _ _ _ h => h) (Or.inl ⟨by rfl, ?_⟩) hHeld.out ?_
            rotate_left
            · intro wv hSw
              replace hSw : Hid (Grew wr.drew wv) := Lib.hid hSw
              have t0 := hSw.out.cell cx2.out
              go_simp
              try with_reducible rfl
            try simp only [Act.put, List.setIfInBounds_toArray, List.set_cons_zero, List.set_cons_succ]
            refine wpAnyH_takeD (i := 4) (d := 71) (v := ?_) rfl rfl (by kernel_rfl) (by kernel_rfl) (by kernel_rfl) (fun _ _ _ h => h) (Or.inl ⟨by rfl, ?_⟩) hHeld.out ?_
            rotate_left
            · intro wv hSw
              replace hSw : Hid (Grew wr.drew wv) := Lib.hid hSw
              go_simp
              try with_reducible rfl
            try simp only [Act.put, List.setIfInBounds_toArray, List.set_cons_zero, List.set_cons_succ]
            refine wpAnyH_takeD (i := 5) (d := 72) (v := ?_) rfl rfl (by kernel_rfl) (by kernel_rfl) (by kernel_rfl) (fun _ _ _ h => h) (Or.inl ⟨by rfl, ?_⟩) hHeld.out ?_
            rotate_left
            · intro wv hSw
              replace hSw : Hid (Grew wr.drew wv) := Lib.hid hSw
              go_simp
              try with_reducible rfl
            try simp only [Act.put, List.setIfInBounds_toArray, List.set_cons_zero, List.set_cons_succ]
            refine wpAnyH_takeD (i := 6) (d := 73) (v := ?_) rfl rfl (by kernel_rfl) (by kernel_rfl) (by kernel_rfl) (fun _ _ _ h => h) (Or.inl ⟨by rfl, ?_⟩) hHeld.out ?_
            rotate_left
            · intro wv hSw
              replace hSw : Hid (Grew wr.drew wv) := Lib.hid hSw
              go_simp
              try with_reducible rfl
            try simp only [Act.put, List.setIfInBounds_toArray, List.set_cons_zero, List.set_cons_succ]
            refine wpAnyH_takeD (i := 7) (d := 74) (v := ?_) rfl rfl (by kernel_rfl) (by kernel_rfl) (by kernel_rfl) (fun _ _ _ h => h) (Or.inl ⟨by rfl, ?_⟩) hHeld.out ?_
            rotate_left
            · intro wv hSw
              replace hSw : Hid (Grew wr.drew wv) := Lib.hid hSw
              have t0 := hSw.out.cell cy2.out
              go_simp
              try with_reducible rfl
            try simp only [Act.put, List.setIfInBounds_toArray, List.set_cons_zero, List.set_cons_succ]
            refine wpAnyH_takeD (i := 8) (d := 75) (v := ?_) rfl rfl (by kernel_rfl) (by kernel_rfl) (by kernel_rfl) (fun _ _ _ h => h) (Or.inl ⟨by rfl, ?_⟩) hHeld.out ?_
            rotate_left
            · intro wv hSw
              replace hSw : Hid (Grew wr.drew wv) := Lib.hid hSw
              go_simp
              try with_reducible rfl
            try simp only [Act.put, List.setIfInBounds_toArray, List.set_cons_zero, List.set_cons_succ]
            refine wpAnyH_takeD (i := 9) (d := 4) (v := ?_) rfl rfl (by kernel_rfl) (by kernel_rfl) (by kernel_rfl) (fun _ _ _ h => h) (Or.inl ⟨by rfl, ?_⟩) hHeld.out ?_
            rotate_left
            · intro wv hSw
              replace hSw : Hid (Grew wr.drew wv) := Lib.hid hSw
              go_simp
              try with_reducible rfl
            try simp only [Act.put, List.setIfInBounds_toArray, List.set_cons_zero, List.set_cons_succ]
            refine wpAnyH_done (by kernel_rfl) ?_ _
            go_wp2_with fail
            go_ret
            exact ⟨by rw [e.out]; rfl, GZ.out.trans (hG2.out.trans hHeld.out)⟩
        · obtain rfl : i = 4 := by omega
          have e := Lib.hid (show aheadZ x y = false from lex_no 4 _ _ (by rw [keyS_len]; omega) hz.out)
          have hG' := Lib.hid hG
          clear hG hz
          go_wp2_with fail
          go_ret
          exact ⟨by rw [e.out]; rfl, GZ.out.trans hG'.out⟩
end Go.Proofs.YtngbcbncllfblaaGreat
