/- Locals of six cells. Conditions: none. affine.Fits, r10.Fits, cross.may, r17.May, cross.from, times, share. Condition: ints of no more than 64 bits. Locals of two ints. Conditions: none. cross.lie. Condition: points of the grid. -/
import Derived.Test.YtmommicmblfibaaGreatJGrid2
import Derived.Test.YtmommicmblfibaaGreatJRowP
import Derived.Test.YtmommicmblfibaaGreatJKit2
set_option maxRecDepth 100000
namespace Go.Proofs.YtmommicmblfibaaGreat
open Go.RowKit
def Res6 (w : World) (r : Nat) : Prop := Res3 w r 0 (.bool false) (.slice none 0 0) (.slice none 0 0) ∧ Res3 w r 3 (.bool false) (.slice none 0 0) (.slice none 0 0)
theorem Res6.grew {w w' : World} {r : Nat} (h : Res6 w r) (g : Grew w w') : Res6 w' r := ⟨h.1.grew g, h.2.grew g⟩
theorem Res6.lt {w : World} {r : Nat} (h : Res6 w r) : r < w.heap.size := h.1.lt
abbrev set6 (w : World) (r : Nat) (u0 u1 u2 u3 u4 u5 : Value) : World :=
 (((((w.setCell ⟨r, 0, none⟩ u0).setCell ⟨r, 1, none⟩ u1).setCell ⟨r, 2, none⟩ u2).setCell ⟨r, 3, none⟩ u3).setCell ⟨r, 4, none⟩ u4).setCell ⟨r, 5, none⟩ u5
theorem set6_all {w : World} {r : Nat} {u0 u1 u2 u3 u4 u5 : Value} (h : Res6 w r) :
  Box3 (set6 w r u0 u1 u2 u3 u4 u5) r 0 u0 u1 u2 ∧ Box3 (set6 w r u0 u1 u2 u3 u4 u5) r 3 u3 u4 u5 ∧ Keeps w (set6 w r u0 u1 u2 u3 u4 u5) ∧ (∀ b p, b ≠ r → (set6 w r u0 u1 u2 u3 u4 u5).cell? ⟨b, p, none⟩ = w.cell? ⟨b, p, none⟩) ∧
   (set6 w r u0 u1 u2 u3 u4 u5).heap.size = w.heap.size := by
 obtain ⟨⟨h0, h1, h2, -, -, -, -⟩, ⟨h3, h4, h5, -, -, -, -⟩⟩ := h
 obtain ⟨q0, q1, q2, qK, qf, qo, qs, -⟩ := store3 (o := 0) (u0 := u0) (u1 := u1) (u2 := u2) h0 h1 h2 rfl
 obtain ⟨q3, q4, q5, qK', qf', qo', qs', -⟩ := store3 (o := 3) (u0 := u3) (u1 := u4) (u2 := u5) ((qo _ (by omega)).trans h3) ((qo _ (by omega)).trans h4) ((qo _ (by omega)).trans h5) rfl
 exact ⟨⟨(qo' _ (by omega)).trans q0, (qo' _ (by omega)).trans q1, (qo' _ (by omega)).trans q2⟩, ⟨q3, q4, q5⟩, qK.trans qK', fun b p hb => (qf' b p hb).trans (qf b p hb), qs'.trans qs⟩
theorem Res6.store_far {w : World} {g h : Nat} {u0 u1 u2 u3 u4 u5 : Value} (a : Res6 w g) (r : Res6 w h) (hne : g ≠ h) : Res6 (set6 w h u0 u1 u2 u3 u4 u5) g := by
 obtain ⟨-, -, -, qf, qs⟩ := set6_all (u0 := u0) (u1 := u1) (u2 := u2) (u3 := u3) (u4 := u4) (u5 := u5) r
 obtain ⟨⟨a0, a1, a2, f0, f1, f2, s⟩, ⟨a3, a4, a5, f3, f4, f5, s'⟩⟩ := a
 exact ⟨⟨(qf _ _ hne).trans a0, (qf _ _ hne).trans a1, (qf _ _ hne).trans a2, by simp [f0], by simp [f1], by simp [f2], by rw [qs]; exact s⟩,
  ⟨(qf _ _ hne).trans a3, (qf _ _ hne).trans a4, (qf _ _ hne).trans a5, by simpa using f3, by simpa using f4, by simpa using f5, by rw [qs]; exact s⟩⟩
theorem Keeps.store6 {w X : World} {g : Nat} {u0 u1 u2 u3 u4 u5 : Value} (r : Res6 X g) (hk : Keeps w X) : Keeps w (set6 X g u0 u1 u2 u3 u4 u5) := hk.trans (set6_all r).2.2.1
def At6 (w : World) (g : Nat) (P : World → Value → Prop) : Prop := ∃ b A n c C m d b' A' n' c' C' m' d', Box3 w g 0 (.bool b) (.slice A n c) (.slice C m d) ∧ Box3 w g 3 (.bool b') (.slice A' n' c') (.slice C' m' d') ∧
 P w (.agg #[.bool b, .slice A n c, .slice C m d, .bool b', .slice A' n' c', .slice C' m' d']) ∧ g < w.heap.size
theorem At6.of_store {w X : World} {P : World → Value → Prop} (hP : Rd P) {b b' : Bool} {A C A' C' : Option Addr} {n c m d n' c' m' d' g : Nat} (r : Res6 X g) (hk : Keeps w X)
  (h : P w (.agg #[.bool b, .slice A n c, .slice C m d, .bool b', .slice A' n' c', .slice C' m' d'])) :
  At6 (set6 X g (.bool b) (.slice A n c) (.slice C m d) (.bool b') (.slice A' n' c') (.slice C' m' d')) g P := by
 obtain ⟨q1, q2, qK, -, qs⟩ := set6_all (u0 := .bool b) (u1 := .slice A n c) (u2 := .slice C m d) (u3 := .bool b') (u4 := .slice A' n' c') (u5 := .slice C' m' d') r
 exact ⟨b, A, n, c, C, m, d, b', A', n', c', C', m', d', q1, q2, hP _ _ _ h (hk.trans qK), by rw [qs]; exact r.lt⟩
theorem At6.store_far {w : World} {P : World → Value → Prop} (hP : Rd P) {g h : Nat} {u0 u1 u2 u3 u4 u5 : Value} (a : At6 w g P) (r : Res6 w h) (hne : g ≠ h) : At6 (set6 w h u0 u1 u2 u3 u4 u5) g P := by
 obtain ⟨-, -, qK, qf, qs⟩ := set6_all (u0 := u0) (u1 := u1) (u2 := u2) (u3 := u3) (u4 := u4) (u5 := u5) r
 obtain ⟨b, A, n, c, C, m, d, b', A', n', c', C', m', d', hB, hB', hp, hl⟩ := a
 exact ⟨b, A, n, c, C, m, d, b', A', n', c', C', m', d', hB.kept (fun p => qf g p hne), hB'.kept (fun p => qf g p hne), hP _ _ _ hp qK, by rw [qs]; exact hl⟩
theorem At6.grew {w w' : World} {P : World → Value → Prop} (hP : Rd P) {g : Nat} (a : At6 w g P) (k : Grew w w') : At6 w' g P := by
 obtain ⟨b, A, n, c, C, m, d, b', A', n', c', C', m', d', hB, hB', hp, hl⟩ := a
 exact ⟨b, A, n, c, C, m, d, b', A', n', c', C', m', d', hB.grew k, hB'.grew k, hP _ _ _ hp k.keeps, Nat.lt_of_lt_of_le hl k.size⟩
def SpotD (w : World) (V : Value) (x y : Rat) (k : Nat) : Prop := SpotC w V x y ∧ SpotR w V x y k
theorem Rd.spotD (x y : Rat) (k : Nat) : Rd (fun w V => SpotD w V x y k) := fun _ _ _ h g => ⟨SpotC.kept h.1 g, SpotR.kept h.2 g⟩
theorem SpotD.kept {w w' : World} {V : Value} {x y : Rat} {k : Nat} (h : SpotD w V x y k) (g : Keeps w w') : SpotD w' V x y k := ⟨h.1.kept g, h.2.kept g⟩
theorem SpotC.d {w : World} {V : Value} {x y : Rat} {k : Nat} (h : SpotC w V x y) (b1 : QB x k) (b2 : QB y k) : SpotD w V x y k := ⟨h, h.r b1 b2⟩
theorem res6_at (w : World) (t : TypeId) : Res6 (w.alloc (.cells #[.bool false, .slice none 0 0, .slice none 0 0, .bool false, .slice none 0 0, .slice none 0 0] t)) w.heap.size :=
 ⟨⟨by simp [go_sem], by simp [go_sem], by simp [go_sem], by simp [go_sem], by simp [go_sem], by simp [go_sem], by simp⟩, ⟨by simp [go_sem], by simp [go_sem], by simp [go_sem], by simp [go_sem], by simp [go_sem], by simp [go_sem], by simp⟩⟩
def inB (x : Int) : Bool := decide (-8388607 ≤ x ∧ x ≤ 8388607)
def fitB (x y : Int) : Bool := inB x && inB y
theorem fitB_iff (x y : Int) : fitB x y = true ↔ -8388607 ≤ x ∧ x ≤ 8388607 ∧ -8388607 ≤ y ∧ y ≤ 8388607 := by
 unfold fitB inB; simp only [Bool.and_eq_true, decide_eq_true_eq]; omega
set_option maxHeartbeats 2000000 in
theorem within8_any (x : Int) (w : World) : Calls Tryz.prog 70 #[.int .i64 x, .int .i64 8388607] w fun e w' => e = .returned (.bool (inB x)) ∧ Grew w w' := by
 by_cases h1 : -8388607 ≤ x
 ·by_cases h2 : x ≤ 8388607
  ·have e := hZ (show inB x = true from decide_eq_true ⟨h1, h2⟩)
   go_enter Tryz.func70, Tryz.ntmps70
   go_wp2_with fail
   go_ret
   exact ⟨by rw [e.out]; rfl, Grew.refl w⟩
  ·have e := hZ (show inB x = false from decide_eq_false (fun h => h2 h.2))
   go_enter Tryz.func70, Tryz.ntmps70
   go_wp2_with fail
   go_ret
   exact ⟨by rw [e.out]; rfl, Grew.refl w⟩
 ·have e := hZ (show inB x = false from decide_eq_false (fun h => h1 h.1))
  go_enter Tryz.func70, Tryz.ntmps70
  go_wp2_with fail
  go_ret
  exact ⟨by rw [e.out]; rfl, Grew.refl w⟩
set_option maxHeartbeats 2000000 in
theorem fits_any (x y : Int) (w : World) : Calls Tryz.prog 40 #[.agg #[.int .i64 x, .int .i64 y]] w fun e w' => e = .returned (.bool (fitB x y)) ∧ Grew w w' := by
 have e0 : fitB x y = (inB x && inB y) := rfl
 obtain ⟨a, ha⟩ : ∃ a, inB x = a := ⟨_, rfl⟩
 obtain ⟨b, hb⟩ : ∃ b, inB y = b := ⟨_, rfl⟩
 rw [ha, hb] at e0
 replace ha := hZ ha
 replace hb := hZ hb
 replace e0 := hZ e0
 go_enter Tryz.func40, Tryz.ntmps40
 go_wp2_with fail
 refine gen_calls ?_
 intro W0 hW0
 have G0 : Grew w W0 := by rw [hW0]; exact (Grew.refl w).alloc _
 have P : Box2 W0 (w.heap.size) 0 (.int .i64 x) (.int .i64 y) := by rw [hW0]; exact ⟨by simp [go_sem], by simp [go_sem]⟩
 replace P := hZ P
 have z0 : w.heap.size < W0.heap.size := by rw [hW0]; simp <;> omega
 replace z0 := hZ z0
 clear hW0
 replace G0 := hZ G0
 refine (within8_any x _).mono ?_
 rintro e w1 ⟨rfl, g1⟩
 replace P := hZ (P.out.grew g1)
 replace z0 := hZ (lt_grew z0.out g1)
 replace G0 := hZ (G0.out.trans g1)
 clear g1
 rw [ha.out]
 cases a
 ·
  go_wp2_with fail
  go_ret
  exact ⟨by rw [e0.out]; rfl, G0.out⟩
 ·
  obtain ⟨P0, P1⟩ := P.out
  go_wp2_with fail
  clear P0 P1
  refine (within8_any y _).mono ?_
  rintro e w2 ⟨rfl, g2⟩
  replace P := hZ (P.out.grew g2)
  replace z0 := hZ (lt_grew z0.out g2)
  replace G0 := hZ (G0.out.trans g2)
  clear g2
  rw [hb.out]
  go_wp2_with fail
  go_ret
  exact ⟨by rw [e0.out]; rfl, G0.out⟩
abbrev segV (ax ay bx b_y : Int) : Value := .agg #[.int .i64 ax, .int .i64 ay, .int .i64 bx, .int .i64 b_y]
abbrev ptV (x y : Int) : Value := .agg #[.int .i64 x, .int .i64 y]
set_option maxHeartbeats 2000000 in
theorem cmay_any (ax ay bx b_y : Int) (w : World) : Calls Tryz.prog 41 #[segV ax ay bx b_y] w fun e w' => e = .returned (.bool (fitB ax ay && fitB bx b_y)) ∧ Grew w w' := by
 obtain ⟨a, ha⟩ : ∃ a, fitB ax ay = a := ⟨_, rfl⟩
 obtain ⟨b, hb⟩ : ∃ b, fitB bx b_y = b := ⟨_, rfl⟩
 rw [ha, hb]
 replace ha := hZ ha
 replace hb := hZ hb
 go_enter Tryz.func41, Tryz.ntmps41
 go_wp2_with fail
 refine gen_calls ?_
 intro W0 hW0
 have G0 : Grew w W0 := by rw [hW0]; exact (Grew.refl w).alloc _
 have P : Box2 W0 (w.heap.size) 0 (.int .i64 ax) (.int .i64 ay) := by rw [hW0]; exact ⟨by simp [go_sem], by simp [go_sem]⟩
 replace P := hZ P
 have Q : Box2 W0 (w.heap.size) 2 (.int .i64 bx) (.int .i64 b_y) := by rw [hW0]; exact ⟨by simp [go_sem], by simp [go_sem]⟩
 replace Q := hZ Q
 have z0 : w.heap.size < W0.heap.size := by rw [hW0]; simp <;> omega
 replace z0 := hZ z0
 clear hW0
 replace G0 := hZ G0
 refine (fits_any ax ay _).mono ?_
 rintro e w1 ⟨rfl, g1⟩
 replace P := hZ (P.out.grew g1)
 replace Q := hZ (Q.out.grew g1)
 replace z0 := hZ (lt_grew z0.out g1)
 replace G0 := hZ (G0.out.trans g1)
 clear g1
 rw [ha.out]
 cases a
 ·
  go_wp2_with fail
  go_ret
  exact ⟨rfl, G0.out⟩
 ·
  obtain ⟨P0, P1⟩ := P.out
  obtain ⟨Q0, Q1⟩ := Q.out
  go_wp2_with fail
  clear P0 P1 Q0 Q1
  refine (fits_any bx b_y _).mono ?_
  rintro e w2 ⟨rfl, g2⟩
  replace P := hZ (P.out.grew g2)
  replace Q := hZ (Q.out.grew g2)
  replace z0 := hZ (lt_grew z0.out g2)
  replace G0 := hZ (G0.out.trans g2)
  clear g2
  rw [hb.out]
  go_wp2_with fail
  go_ret
  exact ⟨by cases b <;> rfl, G0.out⟩
set_option maxHeartbeats 2000000 in
theorem from_any (ax ay bx b_y : Int) (w : World) (h1 : -9223372036854775808 ≤ bx - ax ∧ bx - ax ≤ 9223372036854775807) (h2 : -9223372036854775808 ≤ b_y - ay ∧ b_y - ay ≤ 9223372036854775807) :
  Calls Tryz.prog 108 #[ptV ax ay, ptV bx b_y] w fun e w' => e = .returned (ptV (bx - ax) (b_y - ay)) ∧ Grew w w' := by
 obtain ⟨h1, h1'⟩ := h1
 obtain ⟨h2, h2'⟩ := h2
 go_enter Tryz.func108, Tryz.ntmps108
 go_wp2_with fail
 exact bodyPost_ret (v := .agg #[.int .i64 (bx - ax), .int .i64 (b_y - ay)]) (by simp [results, Tryz.results108, go_sem]) rfl ⟨rfl, by first | exact (((Grew.refl w).alloc _).alloc _).alloc _ | exact (((((Grew.refl w).alloc _).alloc _).alloc _).setCell (by simp <;> omega) _).setCell (by simp <;> omega) _⟩
set_option maxHeartbeats 2000000 in
theorem times_any (ux uy vx vy : Int) (w : World) (h1 : -9223372036854775808 ≤ ux * vy ∧ ux * vy ≤ 9223372036854775807) (h2 : -9223372036854775808 ≤ uy * vx ∧ uy * vx ≤ 9223372036854775807)
  (h3 : -9223372036854775808 ≤ ux * vy - uy * vx ∧ ux * vy - uy * vx ≤ 9223372036854775807) :
  Calls Tryz.prog 109 #[ptV ux uy, ptV vx vy] w fun e w' => e = .returned (.int .i64 (ux * vy - uy * vx)) ∧ Grew w w' := by
 obtain ⟨h1, h1'⟩ := h1
 obtain ⟨h2, h2'⟩ := h2
 obtain ⟨h3, h3'⟩ := h3
 go_enter Tryz.func109, Tryz.ntmps109
 go_wp2_with fail
 go_ret
 exact ⟨rfl, ((Grew.refl w).alloc _).alloc _⟩
def shareB (n d : Int) : Bool := if d < 0 then decide (0 ≤ -n) && decide (-n ≤ -d) else decide (0 ≤ n) && decide (n ≤ d)
set_option maxHeartbeats 2000000 in
theorem share_any (n d : Int) (w : World) (hn : -9223372036854775807 ≤ n ∧ n ≤ 9223372036854775807) (hd : -9223372036854775807 ≤ d ∧ d ≤ 9223372036854775807) :
  Calls Tryz.prog 110 #[.int .i64 n, .int .i64 d] w fun e w' => e = .returned (.bool (shareB n d)) ∧ Grew w w' := by
 obtain ⟨n0, n1⟩ := hn
 obtain ⟨d0, d1⟩ := hd
 by_cases h : d < 0
 ·by_cases h1 : 0 ≤ -n
  ·by_cases h2 : -n ≤ -d
   ·have e := hZ (show shareB n d = true by unfold shareB; rw [if_pos h, decide_eq_true h1, decide_eq_true h2]; rfl)
    go_enter Tryz.func110, Tryz.ntmps110
    go_wp2_with fail
    go_ret
    exact ⟨by rw [e.out]; rfl, Grew.refl w⟩
   ·have e := hZ (show shareB n d = false by unfold shareB; rw [if_pos h, decide_eq_false h2, Bool.and_false])
    go_enter Tryz.func110, Tryz.ntmps110
    go_wp2_with fail
    go_ret
    exact ⟨by rw [e.out]; rfl, Grew.refl w⟩
  ·have e := hZ (show shareB n d = false by unfold shareB; rw [if_pos h, decide_eq_false h1]; rfl)
   go_enter Tryz.func110, Tryz.ntmps110
   go_wp2_with fail
   go_ret
   exact ⟨by rw [e.out]; rfl, Grew.refl w⟩
 ·by_cases h1 : 0 ≤ n
  ·by_cases h2 : n ≤ d
   ·have e := hZ (show shareB n d = true by unfold shareB; rw [if_neg h, decide_eq_true h1, decide_eq_true h2]; rfl)
    go_enter Tryz.func110, Tryz.ntmps110
    go_wp2_with fail
    go_ret
    exact ⟨by rw [e.out]; rfl, Grew.refl w⟩
   ·have e := hZ (show shareB n d = false by unfold shareB; rw [if_neg h, decide_eq_false h2, Bool.and_false])
    go_enter Tryz.func110, Tryz.ntmps110
    go_wp2_with fail
    go_ret
    exact ⟨by rw [e.out]; rfl, Grew.refl w⟩
  ·have e := hZ (show shareB n d = false by unfold shareB; rw [if_neg h, decide_eq_false h1]; rfl)
   go_enter Tryz.func110, Tryz.ntmps110
   go_wp2_with fail
   go_ret
   exact ⟨by rw [e.out]; rfl, Grew.refl w⟩
def AtV (w : World) (g : Nat) (p : Int × Int) : Prop := Box2 w g 0 (.int .i64 p.1) (.int .i64 p.2) ∧ g < w.heap.size
def ResV (w : World) (g : Nat) : Prop := w.cell? ⟨g, 0, none⟩ = some (.int .i64 0) ∧ w.cell? ⟨g, 1, none⟩ = some (.int .i64 0) ∧ w.frozen? ⟨g, 0, none⟩ = false ∧ w.frozen? ⟨g, 1, none⟩ = false ∧ g < w.heap.size
theorem ResV.grew {w w' : World} {r : Nat} (h : ResV w r) (g : Grew w w') : ResV w' r := by
 obtain ⟨h0, h1, f0, f1, s⟩ := h
 exact ⟨g.cell h0, g.cell h1, (g.below.frozen (p := ⟨r, 0, none⟩) s).trans f0, (g.below.frozen (p := ⟨r, 1, none⟩) s).trans f1, Nat.lt_of_lt_of_le s g.size⟩
theorem ResV.lt {w : World} {r : Nat} (h : ResV w r) : r < w.heap.size := h.2.2.2.2
theorem AtV.of_alloc {X : World} {x y : Int} {g : Nat} {t : TypeId} (hg : X.heap.size = g) : AtV (X.alloc (.cells #[.int .i64 x, .int .i64 y] t)) g (x, y) := by
 subst hg
 exact ⟨⟨by simp [go_sem], by simp [go_sem]⟩, by simp⟩
theorem setV_cells {X : World} {g : Nat} {u0 u1 : Value} (r : ResV X g) :
  ((X.setCell ⟨g, 0, none⟩ u0).setCell ⟨g, 1, none⟩ u1).cell? ⟨g, 0, none⟩ = some u0 ∧ ((X.setCell ⟨g, 0, none⟩ u0).setCell ⟨g, 1, none⟩ u1).cell? ⟨g, 1, none⟩ = some u1 ∧
  (∀ b p, b ≠ g → ((X.setCell ⟨g, 0, none⟩ u0).setCell ⟨g, 1, none⟩ u1).cell? ⟨b, p, none⟩ = X.cell? ⟨b, p, none⟩) ∧ ((X.setCell ⟨g, 0, none⟩ u0).setCell ⟨g, 1, none⟩ u1).heap.size = X.heap.size := by
 obtain ⟨r0, r1, -, -, rs⟩ := r
 have e1 : (X.setCell ⟨g, 0, none⟩ u0).cell? ⟨g, 1, none⟩ = some (.int .i64 0) := by rw [World.cell?_setCell_other _ _ _ _ (by simp)]; exact r1
 refine ⟨?_, cell_set e1 u1, fun b p hb => ?_, by simp [World.setCell]⟩
 ·rw [World.cell?_setCell_other _ _ _ _ (by simp)]; exact cell_set r0 u0
 ·rw [World.cell?_setCell_other _ _ _ _ (by simp <;> omega), World.cell?_setCell_other _ _ _ _ (by simp <;> omega)]
theorem AtV.of_store {X : World} {x y : Int} {g : Nat} (r : ResV X g) : AtV ((X.setCell ⟨g, 0, none⟩ (.int .i64 x)).setCell ⟨g, 1, none⟩ (.int .i64 y)) g (x, y) := by
 obtain ⟨q0, q1, -, qs⟩ := setV_cells (u0 := .int .i64 x) (u1 := .int .i64 y) r
 exact ⟨⟨q0, q1⟩, by rw [qs]; exact r.lt⟩
theorem AtV.store_far {w : World} {g h : Nat} {p : Int × Int} {u0 u1 : Value} (a : AtV w g p) (r : ResV w h) (hne : g ≠ h) : AtV ((w.setCell ⟨h, 0, none⟩ u0).setCell ⟨h, 1, none⟩ u1) g p := by
 obtain ⟨-, -, qf, qs⟩ := setV_cells (u0 := u0) (u1 := u1) r
 obtain ⟨⟨h0, h1⟩, hl⟩ := a
 exact ⟨⟨(qf _ _ hne).trans h0, (qf _ _ hne).trans h1⟩, by rw [qs]; exact hl⟩
theorem AtV.grew {w w' : World} {g : Nat} {p : Int × Int} (a : AtV w g p) (k : Grew w w') : AtV w' g p := ⟨a.1.grew k, Nat.lt_of_lt_of_le a.2 k.size⟩
theorem ResV.store_far {w : World} {g h : Nat} {u0 u1 : Value} (a : ResV w g) (r : ResV w h) (hne : g ≠ h) : ResV ((w.setCell ⟨h, 0, none⟩ u0).setCell ⟨h, 1, none⟩ u1) g := by
 obtain ⟨-, -, qf, qs⟩ := setV_cells (u0 := u0) (u1 := u1) r
 obtain ⟨a0, a1, f0, f1, s⟩ := a
 exact ⟨(qf _ _ hne).trans a0, (qf _ _ hne).trans a1, by simp [f0], by simp [f1], by rw [qs]; exact s⟩
theorem resV_at (w : World) (t : TypeId) : ResV (w.alloc (.cells #[.int .i64 0, .int .i64 0] t)) w.heap.size := ⟨by simp [go_sem], by simp [go_sem], by simp [go_sem], by simp [go_sem], by simp⟩
theorem resV_new {w w' : World} {t : TypeId} (g : Grew (w.alloc (.cells #[.int .i64 0, .int .i64 0] t)) w') : ResV w' w.heap.size := (resV_at w t).grew g
theorem resV_newD {w w' : World} {t : TypeId} (g : Grew (w.alloc (.cells #[.int .i64 0, .int .i64 0] t)).drew w') : ResV w' w.heap.size := ((resV_at w t).grew ((Grew.refl _).drew)).grew g
theorem resV_two (w : World) (t s : TypeId) : ResV ((w.alloc (.cells #[.int .i64 0, .int .i64 0] t)).alloc (.cells #[.int .i64 0, .int .i64 0] s)) w.heap.size ∧ ResV ((w.alloc (.cells #[.int .i64 0, .int .i64 0] t)).alloc (.cells #[.int .i64 0, .int .i64 0] s)) (w.heap.size + 1) := by
 refine ⟨(resV_at w t).grew ((Grew.refl _).alloc _), ?_⟩
 have h := resV_at (w.alloc (.cells #[.int .i64 0, .int .i64 0] t)) s
 rwa [show (w.alloc (.cells #[.int .i64 0, .int .i64 0] t)).heap.size = w.heap.size + 1 by simp] at h
theorem resV_new2 {w w' : World} {t s : TypeId} (g : Grew ((w.alloc (.cells #[.int .i64 0, .int .i64 0] t)).alloc (.cells #[.int .i64 0, .int .i64 0] s)) w') : ResV w' w.heap.size ∧ ResV w' (w.heap.size + 1) :=
 ⟨(resV_two w t s).1.grew g, (resV_two w t s).2.grew g⟩
theorem resV_new2D {w w' : World} {t s : TypeId} (g : Grew ((w.alloc (.cells #[.int .i64 0, .int .i64 0] t)).alloc (.cells #[.int .i64 0, .int .i64 0] s)).drew w') : ResV w' w.heap.size ∧ ResV w' (w.heap.size + 1) :=
 ⟨((resV_two w t s).1.grew ((Grew.refl _).drew)).grew g, ((resV_two w t s).2.grew ((Grew.refl _).drew)).grew g⟩
def crossZ (ux uy vx vy : Int) : Int := ux * vy - uy * vx
def lieZ (ax ay bx b_y cx cy dx dy : Int) : Int × Int × Int :=
 let d := crossZ (bx - ax) (b_y - ay) (dx - cx) (dy - cy)
 if d = 0 then
  (if crossZ (if bx - ax = 0 ∧ b_y - ay = 0 then dx - cx else bx - ax) (if bx - ax = 0 ∧ b_y - ay = 0 then dy - cy else b_y - ay) (cx - ax) (cy - ay) = 0 then (2, 0, 0) else (0, 0, 0))
 else
  (let n := crossZ (cx - ax) (cy - ay) (dx - cx) (dy - cy)
   if shareB n d = true ∧ shareB (crossZ (cx - ax) (cy - ay) (bx - ax) (b_y - ay)) d = true then (1, n, d) else (0, 0, 0))
def In24 (x : Int) : Prop := -16777214 ≤ x ∧ x ≤ 16777214
theorem prod24 {u v : Int} (hu : In24 u) (hv : In24 v) : -281474909601796 ≤ u * v ∧ u * v ≤ 281474909601796 := by
 have h : (u * v).natAbs ≤ 16777214 * 16777214 := by
  rw [Int.natAbs_mul]; exact Nat.mul_le_mul (by unfold In24 at hu; omega) (by unfold In24 at hv; omega)
 omega
theorem cross24 {a b c d : Int} (ha : In24 a) (hb : In24 b) (hc : In24 c) (hd : In24 d) : -562949819203592 ≤ crossZ a b c d ∧ crossZ a b c d ≤ 562949819203592 := by
 have h1 := prod24 ha hd
 have h2 := prod24 hb hc
 unfold crossZ; omega
set_option maxHeartbeats 2000000 in
theorem timesg_any (a b c d : Int) (w : World) (ha : In24 a) (hb : In24 b) (hc : In24 c) (hd : In24 d) :
  Calls Tryz.prog 109 #[ptV a b, ptV c d] w fun e w' => e = .returned (.int .i64 (crossZ a b c d)) ∧ Grew w w' := by
 have h1 := prod24 ha hd
 have h2 := prod24 hb hc
 exact times_any a b c d w (by omega) (by omega) (by omega)
theorem fromg_any (ax ay bx b_y : Int) (w : World) (h1 : In24 (bx - ax)) (h2 : In24 (b_y - ay)) :
  Calls Tryz.prog 108 #[ptV ax ay, ptV bx b_y] w fun e w' => e = .returned (ptV (bx - ax) (b_y - ay)) ∧ Grew w w' :=
 from_any ax ay bx b_y w (by unfold In24 at h1; omega) (by unfold In24 at h2; omega)
set_option maxHeartbeats 8000000 in
theorem lie_any (ax ay bx b_y cx cy dx dy : Int) (w : World) (ha : fitB ax ay = true) (hb : fitB bx b_y = true) (hc : fitB cx cy = true) (hd : fitB dx dy = true) :
  Calls Tryz.prog 72 #[segV ax ay bx b_y, segV cx cy dx dy] w fun e w' => e = .returned (.tuple #[.int .i64 (lieZ ax ay bx b_y cx cy dx dy).1, .int .i64 (lieZ ax ay bx b_y cx cy dx dy).2.1, .int .i64 (lieZ ax ay bx b_y cx cy dx dy).2.2]) ∧ Grew w w' := by
 have i1 := (fitB_iff _ _).1 ha
 have i2 := (fitB_iff _ _).1 hb
 have i3 := (fitB_iff _ _).1 hc
 have i4 := (fitB_iff _ _).1 hd
 have r1 : In24 (bx - ax) := by unfold In24; omega
 have r2 : In24 (b_y - ay) := by unfold In24; omega
 have r3 : In24 (dx - cx) := by unfold In24; omega
 have r4 : In24 (dy - cy) := by unfold In24; omega
 have r5 : In24 (cx - ax) := by unfold In24; omega
 have r6 : In24 (cy - ay) := by unfold In24; omega
 have eL : lieZ ax ay bx b_y cx cy dx dy = lieZ ax ay bx b_y cx cy dx dy := rfl
 obtain ⟨L, hL⟩ : ∃ L, lieZ ax ay bx b_y cx cy dx dy = L := ⟨_, rfl⟩
 rw [hL]
 unfold lieZ at hL
 simp only at hL
 clear ha hb hc hd i1 i2 i3 i4 eL
 replace r1 := hZ r1
 replace r2 := hZ r2
 replace r3 := hZ r3
 replace r4 := hZ r4
 replace r5 := hZ r5
 replace r6 := hZ r6
 replace hL := hZ hL
 go_enter Tryz.func72, Tryz.ntmps72
 go_wp2_with fail
 refine gen_wp ?_
 intro W0 hW0
 have G0 : Grew w W0 := by rw [hW0]; exact ((Grew.refl w).alloc _).alloc _
 have P : Box2 W0 (w.heap.size) 0 (.int .i64 ax) (.int .i64 ay) := by rw [hW0]; exact ⟨by simp [go_sem], by simp [go_sem]⟩
 replace P := hZ P
 have Pb : Box2 W0 (w.heap.size) 2 (.int .i64 bx) (.int .i64 b_y) := by rw [hW0]; exact ⟨by simp [go_sem], by simp [go_sem]⟩
 replace Pb := hZ Pb
 have Q : Box2 W0 (w.heap.size + 1) 0 (.int .i64 cx) (.int .i64 cy) := by rw [hW0]; exact ⟨by simp [go_sem], by simp [go_sem]⟩
 replace Q := hZ Q
 have Qb : Box2 W0 (w.heap.size + 1) 2 (.int .i64 dx) (.int .i64 dy) := by rw [hW0]; exact ⟨by simp [go_sem], by simp [go_sem]⟩
 replace Qb := hZ Qb
 have z0 : w.heap.size < W0.heap.size := by rw [hW0]; simp <;> omega
 replace z0 := hZ z0
 have z1 : w.heap.size + 1 < W0.heap.size := by rw [hW0]; simp <;> omega
 replace z1 := hZ z1
 clear hW0
 replace G0 := hZ G0
 go_upto_region 1 with fail
 go_cut [7, 8] (fun s7 s8 wx => ∃ e7 e8 : Nat, s7 = .pointer (some ⟨e7, 0, none⟩) ∧ AtV wx e7 (bx - ax, b_y - ay) ∧ W0.heap.size ≤ e7 ∧ s8 = .pointer (some ⟨e8, 0, none⟩) ∧ AtV wx e8 (dx - cx, dy - cy) ∧ W0.heap.size ≤ e8 ∧ Grew W0 wx)
 ·have KS : ∀ X, Grew W0 X → (fun w' => w'.cell? ⟨w.heap.size, 0, none⟩ = some (.int .i64 ax) ∧ w'.cell? ⟨w.heap.size, 1, none⟩ = some (.int .i64 ay) ∧ w'.cell? ⟨w.heap.size, 2, none⟩ = some (.int .i64 bx) ∧ w'.cell? ⟨w.heap.size, 3, none⟩ = some (.int .i64 b_y) ∧ w'.cell? ⟨w.heap.size + 1, 0, none⟩ = some (.int .i64 cx) ∧ w'.cell? ⟨w.heap.size + 1, 1, none⟩ = some (.int .i64 cy) ∧ w'.cell? ⟨w.heap.size + 1, 2, none⟩ = some (.int .i64 dx) ∧ w'.cell? ⟨w.heap.size + 1, 3, none⟩ = some (.int .i64 dy)) X := fun X g => ⟨g.cell P.out.p0, g.cell P.out.p1, g.cell Pb.out.p0, g.cell Pb.out.p1, g.cell Q.out.p0, g.cell Q.out.p1, g.cell Qb.out.p0, g.cell Qb.out.p1⟩
  replace KS := hZ KS
  go_region_held3 (fun w' => w'.cell? ⟨w.heap.size, 0, none⟩ = some (.int .i64 ax) ∧ w'.cell? ⟨w.heap.size, 1, none⟩ = some (.int .i64 ay) ∧ w'.cell? ⟨w.heap.size, 2, none⟩ = some (.int .i64 bx) ∧ w'.cell? ⟨w.heap.size, 3, none⟩ = some (.int .i64 b_y) ∧ w'.cell? ⟨w.heap.size + 1, 0, none⟩ = some (.int .i64 cx) ∧ w'.cell? ⟨w.heap.size + 1, 1, none⟩ = some (.int .i64 cy) ∧ w'.cell? ⟨w.heap.size + 1, 2, none⟩ = some (.int .i64 dx) ∧ w'.cell? ⟨w.heap.size + 1, 3, none⟩ = some (.int .i64 dy))
   (first | (refine KS.out _ ?_; (repeat (first | with_reducible exact Grew.refl _ | with_reducible refine Grew.setCell ?_ (by simp <;> omega) _ | with_reducible refine Grew.alloc ?_ _ | with_reducible refine Grew.drew ?_ | with_reducible apply Grew.trans ?_ g2 | with_reducible apply Grew.trans ?_ g1 )); done))
   (first | (have chk := g1; clear chk; go_at_call 108; refine (fromg_any cx cy dx dy _ r3.out r4.out).mono ?_; rintro e w2 ⟨rfl, g2⟩; have zn2 : w1.heap.size ≤ w2.heap.size := (by have t := g2.size; (try simp at t); omega); (try replace h0_0 : ResV w2 (W0.heap.size) := h0_0.grew (by (repeat (first | with_reducible exact Grew.refl _ | with_reducible refine Grew.setCell ?_ (by simp <;> omega) _ | with_reducible refine Grew.alloc ?_ _ | with_reducible refine Grew.drew ?_ | with_reducible apply Grew.trans ?_ g2 )))); (try replace h0_1 : ResV w2 (W0.heap.size + 1) := h0_1.grew (by (repeat (first | with_reducible exact Grew.refl _ | with_reducible refine Grew.setCell ?_ (by simp <;> omega) _ | with_reducible refine Grew.alloc ?_ _ | with_reducible refine Grew.drew ?_ | with_reducible apply Grew.trans ?_ g2 )))); (first | (with_reducible have tt := resV_new2 g2; have h1_0 := tt.1; have h1_1 := tt.2; clear tt) | (with_reducible have tt := resV_new2D g2; have h1_0 := tt.1; have h1_1 := tt.2; clear tt) | (with_reducible have h1_0 := resV_new g2) | (with_reducible have h1_0 := resV_newD g2) | skip); (try (have uu := ResV.lt h0_0; have ne0_2a : ¬ (w2.heap.size = W0.heap.size) := (by omega); have ne0_2b : ¬ (W0.heap.size = w2.heap.size) := (by omega); clear uu)); (try (have uu := ResV.lt h1_0; have ne1_2a : ¬ (w2.heap.size = w1.heap.size) := (by omega); have ne1_2b : ¬ (w1.heap.size = w2.heap.size) := (by omega); clear uu)); (try (have tt := h0_0; obtain ⟨h0_00, h0_01, h0_0f0, h0_0f1, h0_0s⟩ := tt)); (try (have tt := h0_1; obtain ⟨h0_10, h0_11, h0_1f0, h0_1f1, h0_1s⟩ := tt)); (try (have tt := h1_0; obtain ⟨h1_00, h1_01, h1_0f0, h1_0f1, h1_0s⟩ := tt)); (try (have tt := h1_1; obtain ⟨h1_10, h1_11, h1_1f0, h1_1f1, h1_1s⟩ := tt))) | (go_at_call 108; refine (fromg_any ax ay bx b_y _ r1.out r2.out).mono ?_; rintro e w1 ⟨rfl, g1⟩; have zn1 : W0.heap.size ≤ w1.heap.size := (by have t := g1.size; (try simp at t); omega); (first | (with_reducible have tt := resV_new2 g1; have h0_0 := tt.1; have h0_1 := tt.2; clear tt) | (with_reducible have tt := resV_new2D g1; have h0_0 := tt.1; have h0_1 := tt.2; clear tt) | (with_reducible have h0_0 := resV_new g1) | (with_reducible have h0_0 := resV_newD g1) | skip); (try (have uu := ResV.lt h0_0; have ne0_1a : ¬ (w1.heap.size = W0.heap.size) := (by omega); have ne0_1b : ¬ (W0.heap.size = w1.heap.size) := (by omega); clear uu))))
  all_goals
   go_wp2_with fail
   go_meet
   refine ⟨_, _, rfl, ?_, ?_, rfl, ?_, ?_, ?_⟩
   ·repeat (first | with_reducible exact h0_0  | with_reducible exact h0_1  | with_reducible exact h1_0  | with_reducible exact h1_1 | with_reducible refine AtV.of_store ?_ | with_reducible refine AtV.of_alloc (by simp) | with_reducible refine AtV.store_far ?_ ?_ (by omega) | with_reducible refine AtV.grew ?_ ((Grew.refl _).alloc _) | with_reducible refine ResV.store_far ?_ ?_ (by omega))
   ·omega
   ·repeat (first | with_reducible exact h0_0  | with_reducible exact h0_1  | with_reducible exact h1_0  | with_reducible exact h1_1 | with_reducible refine AtV.of_store ?_ | with_reducible refine AtV.of_alloc (by simp) | with_reducible refine AtV.store_far ?_ ?_ (by omega) | with_reducible refine AtV.grew ?_ ((Grew.refl _).alloc _) | with_reducible refine ResV.store_far ?_ ?_ (by omega))
   ·omega
   ·(repeat (first | with_reducible exact Grew.refl _ | with_reducible refine Grew.setCell ?_ (by simp <;> omega) _ | with_reducible refine Grew.alloc ?_ _ | with_reducible refine Grew.drew ?_ | with_reducible apply Grew.trans ?_ g2 | with_reducible apply Grew.trans ?_ g1 ))
 obtain ⟨e7, e8, rfl, V, E7, rfl, W, E8, GA⟩ := hcut
 replace P := hZ (P.out.grew GA)
 replace Pb := hZ (Pb.out.grew GA)
 replace Q := hZ (Q.out.grew GA)
 replace Qb := hZ (Qb.out.grew GA)
 replace z0 := hZ (lt_grew z0.out GA)
 replace z1 := hZ (lt_grew z1.out GA)
 replace G0 := hZ (G0.out.trans GA)
 obtain ⟨V, Z7⟩ := V
 replace V := hZ V
 replace Z7 := hZ Z7
 clear E7
 obtain ⟨W, Z8⟩ := W
 replace W := hZ W
 replace Z8 := hZ Z8
 clear E8
 clear GA
 obtain ⟨d, hd⟩ : ∃ d, crossZ (bx - ax) (b_y - ay) (dx - cx) (dy - cy) = d := ⟨_, rfl⟩
 have db := cross24 r1.out r2.out r3.out r4.out
 rw [hd] at db
 rw [hd] at hL
 replace hd := hZ hd
 obtain ⟨V0, V1⟩ := V.out
 obtain ⟨W0, W1⟩ := W.out
 go_wp2_with fail
 clear V0 V1 W0 W1
 refine (timesg_any (bx - ax) (b_y - ay) (dx - cx) (dy - cy) _ r1.out r2.out r3.out r4.out).mono ?_
 rintro e w3 ⟨rfl, g3⟩
 replace P := hZ (P.out.grew g3)
 replace Pb := hZ (Pb.out.grew g3)
 replace Q := hZ (Q.out.grew g3)
 replace Qb := hZ (Qb.out.grew g3)
 replace V := hZ (V.out.grew g3)
 replace W := hZ (W.out.grew g3)
 replace z0 := hZ (lt_grew z0.out g3)
 replace z1 := hZ (lt_grew z1.out g3)
 replace Z7 := hZ (lt_grew Z7.out g3)
 replace Z8 := hZ (lt_grew Z8.out g3)
 replace G0 := hZ (G0.out.trans g3)
 clear g3
 rw [hd.out]
 obtain ⟨P0, P1⟩ := P.out
 obtain ⟨Pb0, Pb1⟩ := Pb.out
 obtain ⟨Q0, Q1⟩ := Q.out
 obtain ⟨Qb0, Qb1⟩ := Qb.out
 go_wp2_with fail
 clear P0 P1 Pb0 Pb1 Q0 Q1 Qb0 Qb1
 refine (fromg_any ax ay cx cy _ r5.out r6.out).mono ?_
 rintro e w4 ⟨rfl, g4⟩
 replace P := hZ (P.out.grew g4)
 replace Pb := hZ (Pb.out.grew g4)
 replace Q := hZ (Q.out.grew g4)
 replace Qb := hZ (Qb.out.grew g4)
 replace V := hZ (V.out.grew g4)
 replace W := hZ (W.out.grew g4)
 replace z0 := hZ (lt_grew z0.out g4)
 replace z1 := hZ (lt_grew z1.out g4)
 replace Z7 := hZ (lt_grew Z7.out g4)
 replace Z8 := hZ (lt_grew Z8.out g4)
 replace G0 := hZ (G0.out.trans g4)
 clear g4
 go_upto_region 4 with fail
 refine gen_wp ?_
 intro W1 hW1
 have gl : Grew w4 W1 := by rw [hW1]; exact (Grew.refl _).alloc _
 replace P := hZ (P.out.grew gl)
 replace Pb := hZ (Pb.out.grew gl)
 replace Q := hZ (Q.out.grew gl)
 replace Qb := hZ (Qb.out.grew gl)
 replace V := hZ (V.out.grew gl)
 replace W := hZ (W.out.grew gl)
 replace z0 := hZ (lt_grew z0.out gl)
 replace z1 := hZ (lt_grew z1.out gl)
 replace Z7 := hZ (lt_grew Z7.out gl)
 replace Z8 := hZ (lt_grew Z8.out gl)
 have O : Box2 W1 (w4.heap.size) 0 (.int .i64 (cx - ax)) (.int .i64 (cy - ay)) := by rw [hW1]; exact ⟨by simp [go_sem], by simp [go_sem]⟩
 replace O := hZ O
 have z4 : w4.heap.size < W1.heap.size := by rw [hW1]; simp <;> omega
 replace z4 := hZ z4
 clear hW1
 replace G0 := hZ (G0.out.trans gl)
 clear gl
 by_cases h0 : d = 0
 ·subst h0
  have hL1 := hL.out
  rw [if_pos rfl] at hL1
  by_cases hv1 : bx - ax = 0
  ·by_cases hv2 : b_y - ay = 0
   ·have hL2 := hL1
    rw [if_pos (c := bx - ax = 0 ∧ b_y - ay = 0) ⟨hv1, hv2⟩, if_pos (c := bx - ax = 0 ∧ b_y - ay = 0) ⟨hv1, hv2⟩] at hL2
    clear hL1 hL
    obtain ⟨V0, V1⟩ := V.out
    obtain ⟨W0, W1⟩ := W.out
    obtain ⟨O0, O1⟩ := O.out
    have oz0 := z0.out
    have oz1 := z1.out
    have oZ7 := Z7.out
    have oZ8 := Z8.out
    have oz4 := z4.out
    go_wp2_with fail
    clear V0 V1 W0 W1 O0 O1 oz0 oz1 oZ7 oZ8 oz4
    refine gen_calls ?_
    intro W2 hW2
    have gl : Grew W1 W2 := by rw [hW2]; exact (Grew.refl _).alloc _
    replace P := hZ (P.out.grew gl)
    replace Pb := hZ (Pb.out.grew gl)
    replace Q := hZ (Q.out.grew gl)
    replace Qb := hZ (Qb.out.grew gl)
    replace V := hZ (V.out.grew gl)
    replace W := hZ (W.out.grew gl)
    replace O := hZ (O.out.grew gl)
    replace z0 := hZ (lt_grew z0.out gl)
    replace z1 := hZ (lt_grew z1.out gl)
    replace Z7 := hZ (lt_grew Z7.out gl)
    replace Z8 := hZ (lt_grew Z8.out gl)
    replace z4 := hZ (lt_grew z4.out gl)
    have K : Box2 W2 (W1.heap.size) 0 (.int .i64 (dx - cx)) (.int .i64 (dy - cy)) := by rw [hW2]; exact ⟨by simp [go_sem], by simp [go_sem]⟩
    replace K := hZ K
    have z5 : W1.heap.size < W2.heap.size := by rw [hW2]; simp <;> omega
    replace z5 := hZ z5
    clear hW2
    replace G0 := hZ (G0.out.trans gl)
    clear gl
    obtain ⟨x, hx⟩ : ∃ x, crossZ (dx - cx) (dy - cy) (cx - ax) (cy - ay) = x := ⟨_, rfl⟩
    rw [hx] at hL2
    replace hx := hZ hx
    replace hL2 := hZ hL2
    refine (timesg_any (dx - cx) (dy - cy) (cx - ax) (cy - ay) _ r3.out r4.out r5.out r6.out).mono ?_
    rintro e w5 ⟨rfl, g5⟩
    replace P := hZ (P.out.grew g5)
    replace Pb := hZ (Pb.out.grew g5)
    replace Q := hZ (Q.out.grew g5)
    replace Qb := hZ (Qb.out.grew g5)
    replace V := hZ (V.out.grew g5)
    replace W := hZ (W.out.grew g5)
    replace O := hZ (O.out.grew g5)
    replace K := hZ (K.out.grew g5)
    replace z0 := hZ (lt_grew z0.out g5)
    replace z1 := hZ (lt_grew z1.out g5)
    replace Z7 := hZ (lt_grew Z7.out g5)
    replace Z8 := hZ (lt_grew Z8.out g5)
    replace z4 := hZ (lt_grew z4.out g5)
    replace z5 := hZ (lt_grew z5.out g5)
    replace G0 := hZ (G0.out.trans g5)
    clear g5
    rw [hx.out]
    by_cases hx0 : x = 0
    ·have e := hZ (hL2.out.symm.trans (if_pos hx0))
     subst hx0
     go_wp2_with fail
     go_ret3
     exact ⟨by rw [e.out]; rfl, G0.out⟩
    ·have e := hZ (hL2.out.symm.trans (if_neg hx0))
     have hxb : (x == 0) = false := by simpa using hx0
     go_wp2_with fail
     go_ret3
     exact ⟨by rw [e.out]; rfl, G0.out⟩
   ·have hL2 := hL1
    rw [if_neg (c := bx - ax = 0 ∧ b_y - ay = 0) (fun h => hv2 h.2), if_neg (c := bx - ax = 0 ∧ b_y - ay = 0) (fun h => hv2 h.2)] at hL2
    clear hL1 hL hv1
    obtain ⟨V0, V1⟩ := V.out
    obtain ⟨W0, W1⟩ := W.out
    obtain ⟨O0, O1⟩ := O.out
    have oz0 := z0.out
    have oz1 := z1.out
    have oZ7 := Z7.out
    have oZ8 := Z8.out
    have oz4 := z4.out
    go_wp2_with fail
    clear V0 V1 W0 W1 O0 O1 oz0 oz1 oZ7 oZ8 oz4
    refine gen_calls ?_
    intro W2 hW2
    have gl : Grew W1 W2 := by rw [hW2]; exact (Grew.refl _).alloc _
    replace P := hZ (P.out.grew gl)
    replace Pb := hZ (Pb.out.grew gl)
    replace Q := hZ (Q.out.grew gl)
    replace Qb := hZ (Qb.out.grew gl)
    replace V := hZ (V.out.grew gl)
    replace W := hZ (W.out.grew gl)
    replace O := hZ (O.out.grew gl)
    replace z0 := hZ (lt_grew z0.out gl)
    replace z1 := hZ (lt_grew z1.out gl)
    replace Z7 := hZ (lt_grew Z7.out gl)
    replace Z8 := hZ (lt_grew Z8.out gl)
    replace z4 := hZ (lt_grew z4.out gl)
    have K : Box2 W2 (W1.heap.size) 0 (.int .i64 (bx - ax)) (.int .i64 (b_y - ay)) := by rw [hW2]; exact ⟨by simp [go_sem], by simp [go_sem]⟩
    replace K := hZ K
    have z5 : W1.heap.size < W2.heap.size := by rw [hW2]; simp <;> omega
    replace z5 := hZ z5
    clear hW2
    replace G0 := hZ (G0.out.trans gl)
    clear gl
    obtain ⟨x, hx⟩ : ∃ x, crossZ (bx - ax) (b_y - ay) (cx - ax) (cy - ay) = x := ⟨_, rfl⟩
    rw [hx] at hL2
    replace hx := hZ hx
    replace hL2 := hZ hL2
    refine (timesg_any (bx - ax) (b_y - ay) (cx - ax) (cy - ay) _ r1.out r2.out r5.out r6.out).mono ?_
    rintro e w5 ⟨rfl, g5⟩
    replace P := hZ (P.out.grew g5)
    replace Pb := hZ (Pb.out.grew g5)
    replace Q := hZ (Q.out.grew g5)
    replace Qb := hZ (Qb.out.grew g5)
    replace V := hZ (V.out.grew g5)
    replace W := hZ (W.out.grew g5)
    replace O := hZ (O.out.grew g5)
    replace K := hZ (K.out.grew g5)
    replace z0 := hZ (lt_grew z0.out g5)
    replace z1 := hZ (lt_grew z1.out g5)
    replace Z7 := hZ (lt_grew Z7.out g5)
    replace Z8 := hZ (lt_grew Z8.out g5)
    replace z4 := hZ (lt_grew z4.out g5)
    replace z5 := hZ (lt_grew z5.out g5)
    replace G0 := hZ (G0.out.trans g5)
    clear g5
    rw [hx.out]
    by_cases hx0 : x = 0
    ·have e := hZ (hL2.out.symm.trans (if_pos hx0))
     subst hx0
     go_wp2_with fail
     go_ret3
     exact ⟨by rw [e.out]; rfl, G0.out⟩
    ·have e := hZ (hL2.out.symm.trans (if_neg hx0))
     have hxb : (x == 0) = false := by simpa using hx0
     go_wp2_with fail
     go_ret3
     exact ⟨by rw [e.out]; rfl, G0.out⟩
  ·have hL2 := hL1
   rw [if_neg (c := bx - ax = 0 ∧ b_y - ay = 0) (fun h => hv1 h.1), if_neg (c := bx - ax = 0 ∧ b_y - ay = 0) (fun h => hv1 h.1)] at hL2
   clear hL1 hL
   obtain ⟨V0, V1⟩ := V.out
   obtain ⟨W0, W1⟩ := W.out
   obtain ⟨O0, O1⟩ := O.out
   have oz0 := z0.out
   have oz1 := z1.out
   have oZ7 := Z7.out
   have oZ8 := Z8.out
   have oz4 := z4.out
   go_wp2_with fail
   clear V0 V1 W0 W1 O0 O1 oz0 oz1 oZ7 oZ8 oz4
   refine gen_calls ?_
   intro W2 hW2
   have gl : Grew W1 W2 := by rw [hW2]; exact (Grew.refl _).alloc _
   replace P := hZ (P.out.grew gl)
   replace Pb := hZ (Pb.out.grew gl)
   replace Q := hZ (Q.out.grew gl)
   replace Qb := hZ (Qb.out.grew gl)
   replace V := hZ (V.out.grew gl)
   replace W := hZ (W.out.grew gl)
   replace O := hZ (O.out.grew gl)
   replace z0 := hZ (lt_grew z0.out gl)
   replace z1 := hZ (lt_grew z1.out gl)
   replace Z7 := hZ (lt_grew Z7.out gl)
   replace Z8 := hZ (lt_grew Z8.out gl)
   replace z4 := hZ (lt_grew z4.out gl)
   have K : Box2 W2 (W1.heap.size) 0 (.int .i64 (bx - ax)) (.int .i64 (b_y - ay)) := by rw [hW2]; exact ⟨by simp [go_sem], by simp [go_sem]⟩
   replace K := hZ K
   have z5 : W1.heap.size < W2.heap.size := by rw [hW2]; simp <;> omega
   replace z5 := hZ z5
   clear hW2
   replace G0 := hZ (G0.out.trans gl)
   clear gl
   obtain ⟨x, hx⟩ : ∃ x, crossZ (bx - ax) (b_y - ay) (cx - ax) (cy - ay) = x := ⟨_, rfl⟩
   rw [hx] at hL2
   replace hx := hZ hx
   replace hL2 := hZ hL2
   refine (timesg_any (bx - ax) (b_y - ay) (cx - ax) (cy - ay) _ r1.out r2.out r5.out r6.out).mono ?_
   rintro e w5 ⟨rfl, g5⟩
   replace P := hZ (P.out.grew g5)
   replace Pb := hZ (Pb.out.grew g5)
   replace Q := hZ (Q.out.grew g5)
   replace Qb := hZ (Qb.out.grew g5)
   replace V := hZ (V.out.grew g5)
   replace W := hZ (W.out.grew g5)
   replace O := hZ (O.out.grew g5)
   replace K := hZ (K.out.grew g5)
   replace z0 := hZ (lt_grew z0.out g5)
   replace z1 := hZ (lt_grew z1.out g5)
   replace Z7 := hZ (lt_grew Z7.out g5)
   replace Z8 := hZ (lt_grew Z8.out g5)
   replace z4 := hZ (lt_grew z4.out g5)
   replace z5 := hZ (lt_grew z5.out g5)
   replace G0 := hZ (G0.out.trans g5)
   clear g5
   rw [hx.out]
   by_cases hx0 : x = 0
   ·have e := hZ (hL2.out.symm.trans (if_pos hx0))
    subst hx0
    go_wp2_with fail
    go_ret3
    exact ⟨by rw [e.out]; rfl, G0.out⟩
   ·have e := hZ (hL2.out.symm.trans (if_neg hx0))
    have hxb : (x == 0) = false := by simpa using hx0
    go_wp2_with fail
    go_ret3
    exact ⟨by rw [e.out]; rfl, G0.out⟩
 ·have hL1 := hL.out
  rw [if_neg h0] at hL1
  have hdb : (d == 0) = false := by simpa using h0
  obtain ⟨n, hn⟩ : ∃ n, crossZ (cx - ax) (cy - ay) (dx - cx) (dy - cy) = n := ⟨_, rfl⟩
  obtain ⟨m, hm⟩ : ∃ m, crossZ (cx - ax) (cy - ay) (bx - ax) (b_y - ay) = m := ⟨_, rfl⟩
  have nb := cross24 r5.out r6.out r3.out r4.out
  have mb := cross24 r5.out r6.out r1.out r2.out
  rw [hn] at nb hL1
  rw [hm] at mb hL1
  obtain ⟨sn, hsn⟩ : ∃ sn, shareB n d = sn := ⟨_, rfl⟩
  obtain ⟨sm, hsm⟩ : ∃ sm, shareB m d = sm := ⟨_, rfl⟩
  rw [hsn, hsm] at hL1
  replace hn := hZ hn
  replace hm := hZ hm
  replace hsn := hZ hsn
  replace hsm := hZ hsm
  replace hL1 := hZ hL1
  clear hL
  obtain ⟨W0, W1⟩ := W.out
  obtain ⟨O0, O1⟩ := O.out
  go_wp2_with fail
  clear W0 W1 O0 O1
  refine (timesg_any (cx - ax) (cy - ay) (dx - cx) (dy - cy) _ r5.out r6.out r3.out r4.out).mono ?_
  rintro e w5 ⟨rfl, g5⟩
  replace P := hZ (P.out.grew g5)
  replace Pb := hZ (Pb.out.grew g5)
  replace Q := hZ (Q.out.grew g5)
  replace Qb := hZ (Qb.out.grew g5)
  replace V := hZ (V.out.grew g5)
  replace W := hZ (W.out.grew g5)
  replace O := hZ (O.out.grew g5)
  replace z0 := hZ (lt_grew z0.out g5)
  replace z1 := hZ (lt_grew z1.out g5)
  replace Z7 := hZ (lt_grew Z7.out g5)
  replace Z8 := hZ (lt_grew Z8.out g5)
  replace z4 := hZ (lt_grew z4.out g5)
  replace G0 := hZ (G0.out.trans g5)
  clear g5
  rw [hn.out]
  obtain ⟨V0, V1⟩ := V.out
  obtain ⟨O0, O1⟩ := O.out
  go_wp2_with fail
  clear V0 V1 O0 O1
  refine (share_any n d _ (by omega) (by omega)).mono ?_
  rintro e w6 ⟨rfl, g6⟩
  replace P := hZ (P.out.grew g6)
  replace Pb := hZ (Pb.out.grew g6)
  replace Q := hZ (Q.out.grew g6)
  replace Qb := hZ (Qb.out.grew g6)
  replace V := hZ (V.out.grew g6)
  replace W := hZ (W.out.grew g6)
  replace O := hZ (O.out.grew g6)
  replace z0 := hZ (lt_grew z0.out g6)
  replace z1 := hZ (lt_grew z1.out g6)
  replace Z7 := hZ (lt_grew Z7.out g6)
  replace Z8 := hZ (lt_grew Z8.out g6)
  replace z4 := hZ (lt_grew z4.out g6)
  replace G0 := hZ (G0.out.trans g6)
  clear g6
  rw [hsn.out]
  cases sn
  ·
   have e := hZ (hL1.out.symm.trans (if_neg (by simp)))
   go_wp2_with fail
   go_ret3
   exact ⟨by rw [e.out]; rfl, G0.out⟩
  ·
   obtain ⟨V0, V1⟩ := V.out
   obtain ⟨O0, O1⟩ := O.out
   go_wp2_with fail
   clear V0 V1 O0 O1
   refine (timesg_any (cx - ax) (cy - ay) (bx - ax) (b_y - ay) _ r5.out r6.out r1.out r2.out).mono ?_
   rintro e w7 ⟨rfl, g7⟩
   replace P := hZ (P.out.grew g7)
   replace Pb := hZ (Pb.out.grew g7)
   replace Q := hZ (Q.out.grew g7)
   replace Qb := hZ (Qb.out.grew g7)
   replace V := hZ (V.out.grew g7)
   replace W := hZ (W.out.grew g7)
   replace O := hZ (O.out.grew g7)
   replace z0 := hZ (lt_grew z0.out g7)
   replace z1 := hZ (lt_grew z1.out g7)
   replace Z7 := hZ (lt_grew Z7.out g7)
   replace Z8 := hZ (lt_grew Z8.out g7)
   replace z4 := hZ (lt_grew z4.out g7)
   replace G0 := hZ (G0.out.trans g7)
   clear g7
   rw [hm.out]
   obtain ⟨V0, V1⟩ := V.out
   obtain ⟨O0, O1⟩ := O.out
   go_wp2_with fail
   clear V0 V1 O0 O1
   refine (share_any m d _ (by omega) (by omega)).mono ?_
   rintro e w8 ⟨rfl, g8⟩
   replace P := hZ (P.out.grew g8)
   replace Pb := hZ (Pb.out.grew g8)
   replace Q := hZ (Q.out.grew g8)
   replace Qb := hZ (Qb.out.grew g8)
   replace V := hZ (V.out.grew g8)
   replace W := hZ (W.out.grew g8)
   replace O := hZ (O.out.grew g8)
   replace z0 := hZ (lt_grew z0.out g8)
   replace z1 := hZ (lt_grew z1.out g8)
   replace Z7 := hZ (lt_grew Z7.out g8)
   replace Z8 := hZ (lt_grew Z8.out g8)
   replace z4 := hZ (lt_grew z4.out g8)
   replace G0 := hZ (G0.out.trans g8)
   clear g8
   rw [hsm.out]
   cases sm
   ·
    have e := hZ (hL1.out.symm.trans (if_neg (by simp)))
    go_wp2_with fail
    go_ret3
    exact ⟨by rw [e.out]; rfl, G0.out⟩
   ·
    have e := hZ (hL1.out.symm.trans (if_pos (by simp)))
    go_wp2_with fail
    go_ret3
    exact ⟨by rw [e.out]; rfl, G0.out⟩
end Go.Proofs.YtmommicmblfibaaGreat
