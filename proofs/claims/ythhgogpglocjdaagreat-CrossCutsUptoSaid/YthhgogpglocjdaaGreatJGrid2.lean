/- r02.Of. Condition: an int. spot.small, spot.over, spot.Turns, at any points. Condition: what comes in reads. Locals of two cells. Conditions: none. spot.Turns at all points; spot.Side. Condition: what comes in reads; fewer than 2^26 words. -/
import Derived.Test.YthhgogpglocjdaaGreatJR2b
import Derived.Test.YthhgogpglocjdaaGreatJKit2
namespace Go.Proofs.YthhgogpglocjdaaGreat
open Go.RowKit

theorem len_word {N : Nat} (h : N < 18446744073709551616) : len 4294967296 N ≤ 2 := len_le (by omega) (by simpa using h)

set_option maxRecDepth 100000 in
set_option maxHeartbeats 4000000 in
theorem r2of_pos (N : Nat) (w : World) (h : N < 9223372036854775808) :
    Calls Tryz.prog 78 #[.int .i64 (N : Int)] w fun e w' => ∃ V, e = .returned V ∧ Whl w' V (sgn false N) ∧ Grew w w' := by
  have hb : (N : Int) ≤ 9223372036854775807 := by omega
  have hl := Lib.hid (show len 4294967296 N < 137438953472 by have := len_word (N := N) (by omega); omega)
  go_enter Tryz.func78, Tryz.ntmps78
  go_wp2_with fail
  refine gen_calls ?_
  intro W0 hW0
  have G0 : Grew w W0 := by rw [hW0]; exact (Grew.refl w).alloc _
  have R : Res2 W0 (w.heap.size) 0 (.bool false) (.slice none 0 0) := by rw [hW0]; exact ⟨by simp [go_sem], by simp [go_sem], by simp [go_sem], by simp [go_sem], by simp⟩
  replace R := Lib.hid R
  have z0 : w.heap.size < W0.heap.size := by rw [hW0]; simp <;> omega
  replace z0 := Lib.hid z0
  clear hW0
  replace G0 := Lib.hid G0
  refine (r1of_any _ N _ rfl (by omega)).mono ?_
  rintro e w1 ⟨V1, rfl, hV1, g1⟩
  obtain ⟨A3, c3, rfl, X1⟩ := hV1.slice
  clear hV1
  replace R := Lib.hid (R.out.grew g1)
  replace z0 := Lib.hid (lt_grew z0.out g1)
  replace G0 := Lib.hid (G0.out.trans g1)
  clear g1
  go_wp2_with fail
  refine (rmake_any _ _ N _ _ X1.out hl.out).mono ?_
  rintro e w2 ⟨V2, rfl, hV2, g2⟩
  obtain ⟨b4, A4, n4, c4, rfl, X2, -⟩ := hV2.laid
  clear hV2
  replace R := Lib.hid (R.out.grew g2)
  replace z0 := Lib.hid (lt_grew z0.out g2)
  replace X1 := Lib.hid (X1.out.kept g2.keeps)
  replace G0 := Lib.hid (G0.out.trans g2)
  clear g2
  obtain ⟨R0, R1, Rf0, Rf1, Rs⟩ := R.out
  go_wp2_with fail
  refine gen_post ?_
  intro W9 hW9
  obtain ⟨q0, q1, qK, -, qs, qG⟩ := store2 (o := 0) R0 R1 hW9
  have GE := qG w (by omega) G0.out
  have QK := Lib.hid qK
  clear qK qG hW9 R0 R1
  exact bodyPost_ret (v := .agg #[.bool b4, .slice A4 n4 c4]) (by simp [results, Tryz.results78, go_sem, q0, q1]) rfl ⟨_, rfl, X2.out.kept QK.out, GE⟩

set_option maxRecDepth 100000 in
set_option maxHeartbeats 4000000 in
theorem r2of_neg (x : Int) (K : Nat) (w : World) (h : K < 9223372036854775808) (hx : x = -(K : Int) - 1) :
    Calls Tryz.prog 78 #[.int .i64 x] w fun e w' => ∃ V, e = .returned V ∧ Whl w' V (sgn true (K + 1)) ∧ Grew w w' := by
  have q0 : x < 0 := by omega
  have q1 : -9223372036854775808 ≤ x := by omega
  have hl1 := Lib.hid (show len 4294967296 K < 274877906944 ∧ 1 < 274877906944 by have := len_word (N := K) (by omega); omega)
  have hl := Lib.hid (show len 4294967296 (K + 1) < 137438953472 by have := len_word (N := K + 1) (by omega); omega)
  have HX := Lib.hid hx
  clear hx
  go_enter Tryz.func78, Tryz.ntmps78
  go_wp2_with fail
  refine gen_calls ?_
  intro W0 hW0
  have G0 : Grew w W0 := by rw [hW0]; exact (Grew.refl w).alloc _
  have R : Res2 W0 (w.heap.size) 0 (.bool false) (.slice none 0 0) := by rw [hW0]; exact ⟨by simp [go_sem], by simp [go_sem], by simp [go_sem], by simp [go_sem], by simp⟩
  replace R := Lib.hid R
  have z0 : w.heap.size < W0.heap.size := by rw [hW0]; simp <;> omega
  replace z0 := Lib.hid z0
  clear hW0
  replace G0 := Lib.hid G0
  refine (r1of_any _ K _ (by have := HX.out; omega) (by omega)).mono ?_
  rintro e w1 ⟨V1, rfl, hV1, g1⟩
  obtain ⟨A3, c3, rfl, X1⟩ := hV1.slice
  clear hV1
  replace R := Lib.hid (R.out.grew g1)
  replace z0 := Lib.hid (lt_grew z0.out g1)
  replace G0 := Lib.hid (G0.out.trans g1)
  clear g1
  go_wp2_with fail
  refine gen_calls ?_
  intro W1 hW1
  have gl : Grew w1 W1 := by rw [hW1]; exact (Grew.refl _).alloc _
  have y1 := Lib.hid (R.out).2.2.2.2
  replace R := Lib.hid (R.out.grew gl)
  replace z0 := Lib.hid (lt_grew z0.out gl)
  replace X1 := Lib.hid (X1.out.kept gl.keeps)
  have X5 : Num 4294967296 .u32 W1 (.slice (some ⟨w1.heap.size, 0, none⟩) 1 1) 1 1 := by rw [hW1]; exact num_one _ _
  replace X5 := Lib.hid X5
  clear hW1
  replace G0 := Lib.hid (G0.out.trans gl)
  clear gl
  refine (rnadd_any _ _ K 1 _ _ _ X1.out X5.out hl1.out).mono ?_
  rintro e w2 ⟨V3, rfl, hV3, g2⟩
  obtain ⟨A5, c5, rfl, X3⟩ := hV3.slice
  clear hV3
  replace R := Lib.hid (R.out.grew g2)
  replace z0 := Lib.hid (lt_grew z0.out g2)
  replace X1 := Lib.hid (X1.out.kept g2.keeps)
  replace X5 := Lib.hid (X5.out.kept g2.keeps)
  replace G0 := Lib.hid (G0.out.trans g2)
  clear g2
  go_wp2_with fail
  refine (rmake_any _ _ (K + 1) _ _ X3.out hl.out).mono ?_
  rintro e w3 ⟨V2, rfl, hV2, g3⟩
  obtain ⟨b4, A4, n4, c4, rfl, X2, -⟩ := hV2.laid
  clear hV2
  replace R := Lib.hid (R.out.grew g3)
  replace z0 := Lib.hid (lt_grew z0.out g3)
  replace X1 := Lib.hid (X1.out.kept g3.keeps)
  replace X5 := Lib.hid (X5.out.kept g3.keeps)
  replace X3 := Lib.hid (X3.out.kept g3.keeps)
  replace G0 := Lib.hid (G0.out.trans g3)
  clear g3
  obtain ⟨R0, R1, Rf0, Rf1, Rs⟩ := R.out
  go_wp2_with fail
  refine gen_post ?_
  intro W9 hW9
  obtain ⟨q0, q1, qK, -, qs, qG⟩ := store2 (o := 0) R0 R1 hW9
  have GE := qG w (by omega) G0.out
  have QK := Lib.hid qK
  clear qK qG hW9 R0 R1
  exact bodyPost_ret (v := .agg #[.bool b4, .slice A4 n4 c4]) (by simp [results, Tryz.results78, go_sem, q0, q1]) rfl ⟨_, rfl, X2.out.kept QK.out, GE⟩

theorem r2of_any (x : Int) (w : World) (h0 : -9223372036854775808 ≤ x) (h1 : x ≤ 9223372036854775807) :
    Calls Tryz.prog 78 #[.int .i64 x] w fun e w' => ∃ V, e = .returned V ∧ Whl w' V x ∧ Grew w w' := by
  rcases Int.lt_or_le x 0 with h | h
  · obtain ⟨K, hK⟩ : ∃ K : Nat, x = -(K : Int) - 1 := ⟨(-x - 1).toNat, by omega⟩
    have := r2of_neg x K w (by omega) hK
    rw [show sgn true (K + 1) = x from by unfold sgn; simp; omega] at this
    exact this
  · obtain ⟨N, rfl⟩ := Int.eq_ofNat_of_zero_le h
    exact r2of_pos N w (by omega)
end Go.Proofs.YthhgogpglocjdaaGreat
namespace Go.Proofs.YthhgogpglocjdaaGreat
open Go.RowKit

set_option maxRecDepth 100000 in
set_option maxHeartbeats 2000000 in
theorem near_any (x y : Int) (w : World) : Calls Tryz.prog 69 #[.agg #[.int .i64 x, .int .i64 y]] w fun e w' => e = .returned (.bool (nearB x y)) ∧ Grew w w' := by
  by_cases h1 : -1073741824 ≤ x
  · by_cases h2 : x ≤ 1073741824
    · by_cases h3 : -1073741824 ≤ y
      · by_cases h4 : y ≤ 1073741824
        · have e := Lib.hid ((nearB_iff x y).2 ⟨h1, h2, h3, h4⟩)
          go_enter Tryz.func69, Tryz.ntmps69
          go_wp2_with fail
          go_ret
          exact ⟨by rw [e.out]; rfl, (Grew.refl w).alloc _⟩
        · have e := Lib.hid (show nearB x y = false by unfold nearB; simp [h4])
          go_enter Tryz.func69, Tryz.ntmps69
          go_wp2_with fail
          go_ret
          exact ⟨by rw [e.out]; rfl, (Grew.refl w).alloc _⟩
      · have e := Lib.hid (show nearB x y = false by unfold nearB; simp [h3])
        go_enter Tryz.func69, Tryz.ntmps69
        go_wp2_with fail
        go_ret
        exact ⟨by rw [e.out]; rfl, (Grew.refl w).alloc _⟩
    · have e := Lib.hid (show nearB x y = false by unfold nearB; simp [h2])
      go_enter Tryz.func69, Tryz.ntmps69
      go_wp2_with fail
      go_ret
      exact ⟨by rw [e.out]; rfl, (Grew.refl w).alloc _⟩
  · have e := Lib.hid (show nearB x y = false by unfold nearB; simp [h1])
    go_enter Tryz.func69, Tryz.ntmps69
    go_wp2_with fail
    go_ret
    exact ⟨by rw [e.out]; rfl, (Grew.refl w).alloc _⟩

/-- Three points of the grid: their sides as ints, or by way of fractions. -/
def turnZ (ax ay bx b_y cx cy : Int) : Int := turnQ (ax : Rat) (ay : Rat) (bx : Rat) (b_y : Rat) (cx : Rat) (cy : Rat)

set_option maxRecDepth 100000 in
set_option maxHeartbeats 4000000 in
theorem turns_near (ax ay bx b_y cx cy : Int) (w : World) (ha : nearB ax ay = true) (hb : nearB bx b_y = true) (hc : nearB cx cy = true) :
    Calls Tryz.prog 42 #[.agg #[.int .i64 ax, .int .i64 ay], .agg #[.int .i64 bx, .int .i64 b_y], .agg #[.int .i64 cx, .int .i64 cy]] w fun e w' => e = .returned (.int .i64 (turnZ ax ay bx b_y cx cy)) ∧ Grew w w' := by
  have e1 := Lib.hid (show turnZ ax ay bx b_y cx cy = sg ((bx - ax) * (cy - ay) - (b_y - ay) * (cx - ax)) from turnQ_int _ _ _ _ _ _)
  obtain ⟨a1, a2, a3, a4⟩ := (nearB_iff _ _).1 ha
  obtain ⟨b1, b2, b3, b4⟩ := (nearB_iff _ _).1 hb
  obtain ⟨c1, c2, c3, c4⟩ := (nearB_iff _ _).1 hc
  have ea := Lib.hid ha
  have eb := Lib.hid hb
  have ec := Lib.hid hc
  clear ha hb hc
  have p1 := prod_fit (u := bx - ax) (v := cy - ay) (by omega) (by omega)
  have p2 := prod_fit (u := b_y - ay) (v := cx - ax) (by omega) (by omega)
  have p3 := det_fit (u1 := bx - ax) (u2 := cx - ax) (v1 := b_y - ay) (v2 := cy - ay) (by omega) (by omega) (by omega) (by omega) (by omega) (by omega)
  obtain ⟨p4, p5⟩ := p1
  obtain ⟨p6, p7⟩ := p2
  obtain ⟨p8, p9⟩ := p3
  go_enter Tryz.func42, Tryz.ntmps42
  go_wp2_with fail
  refine gen_calls ?_
  intro W0 hW0
  have G0 : Grew w W0 := by rw [hW0]; exact (((Grew.refl w).alloc _).alloc _).alloc _
  have P : Box2 W0 (w.heap.size) 0 (.int .i64 ax) (.int .i64 ay) := by rw [hW0]; exact ⟨by simp [go_sem], by simp [go_sem]⟩
  replace P := Lib.hid P
  have Q : Box2 W0 (w.heap.size + 1) 0 (.int .i64 bx) (.int .i64 b_y) := by rw [hW0]; exact ⟨by simp [go_sem], by simp [go_sem]⟩
  replace Q := Lib.hid Q
  have S : Box2 W0 (w.heap.size + 1 + 1) 0 (.int .i64 cx) (.int .i64 cy) := by rw [hW0]; exact ⟨by simp [go_sem], by simp [go_sem]⟩
  replace S := Lib.hid S
  have z0 : w.heap.size < W0.heap.size := by rw [hW0]; simp <;> omega
  replace z0 := Lib.hid z0
  have z1 : w.heap.size + 1 < W0.heap.size := by rw [hW0]; simp <;> omega
  replace z1 := Lib.hid z1
  have z2 : w.heap.size + 1 + 1 < W0.heap.size := by rw [hW0]; simp <;> omega
  replace z2 := Lib.hid z2
  clear hW0
  replace G0 := Lib.hid G0
  refine (near_any ax ay _).mono ?_
  rintro e w1 ⟨rfl, g1⟩
  replace P := Lib.hid (P.out.grew g1)
  replace Q := Lib.hid (Q.out.grew g1)
  replace S := Lib.hid (S.out.grew g1)
  replace z0 := Lib.hid (lt_grew z0.out g1)
  replace z1 := Lib.hid (lt_grew z1.out g1)
  replace z2 := Lib.hid (lt_grew z2.out g1)
  replace G0 := Lib.hid (G0.out.trans g1)
  clear g1
  rw [ea.out]
  obtain ⟨P0, P1⟩ := P.out
  obtain ⟨Q0, Q1⟩ := Q.out
  obtain ⟨S0, S1⟩ := S.out
  go_wp2_with fail
  clear P0 P1 Q0 Q1 S0 S1
  refine (near_any bx b_y _).mono ?_
  rintro e w2 ⟨rfl, g2⟩
  replace P := Lib.hid (P.out.grew g2)
  replace Q := Lib.hid (Q.out.grew g2)
  replace S := Lib.hid (S.out.grew g2)
  replace z0 := Lib.hid (lt_grew z0.out g2)
  replace z1 := Lib.hid (lt_grew z1.out g2)
  replace z2 := Lib.hid (lt_grew z2.out g2)
  replace G0 := Lib.hid (G0.out.trans g2)
  clear g2
  rw [eb.out]
  obtain ⟨P0, P1⟩ := P.out
  obtain ⟨Q0, Q1⟩ := Q.out
  obtain ⟨S0, S1⟩ := S.out
  go_wp2_with fail
  clear P0 P1 Q0 Q1 S0 S1
  refine (near_any cx cy _).mono ?_
  rintro e w3 ⟨rfl, g3⟩
  replace P := Lib.hid (P.out.grew g3)
  replace Q := Lib.hid (Q.out.grew g3)
  replace S := Lib.hid (S.out.grew g3)
  replace z0 := Lib.hid (lt_grew z0.out g3)
  replace z1 := Lib.hid (lt_grew z1.out g3)
  replace z2 := Lib.hid (lt_grew z2.out g3)
  replace G0 := Lib.hid (G0.out.trans g3)
  clear g3
  rw [ec.out]
  obtain ⟨P0, P1⟩ := P.out
  obtain ⟨Q0, Q1⟩ := Q.out
  obtain ⟨S0, S1⟩ := S.out
  go_wp2_with fail
  clear P0 P1 Q0 Q1 S0 S1
  refine (isign_any _ _).mono ?_
  rintro e w' ⟨rfl, rfl⟩
  rw [← e1.out]
  go_wp2_with fail
  go_ret
  exact ⟨rfl, G0.out⟩
end Go.Proofs.YthhgogpglocjdaaGreat
namespace Go.Proofs.YthhgogpglocjdaaGreat
open Go.RowKit

/-- A block that holds two cells of which P says something, in this world. -/
def At2 (w : World) (g : Nat) (P : World → Value → Prop) : Prop := ∃ b A n c, Box2 w g 0 (.bool b) (.slice A n c) ∧ P w (.agg #[.bool b, .slice A n c]) ∧ g < w.heap.size
theorem At2.of_alloc {w X : World} {P : World → Value → Prop} (hP : Rd P) {b : Bool} {A : Option Addr} {n c g : Nat} {t : TypeId} (hg : X.heap.size = g) (hk : Keeps w X) (h : P w (.agg #[.bool b, .slice A n c])) :
    At2 (X.alloc (.cells #[.bool b, .slice A n c] t)) g P := by
  subst hg
  exact ⟨b, A, n, c, ⟨by simp [go_sem], by simp [go_sem]⟩, hP _ _ _ h (hk.trans ((Grew.refl X).alloc _).keeps), by simp⟩
theorem At2.of_store {w X : World} {P : World → Value → Prop} (hP : Rd P) {b : Bool} {A : Option Addr} {n c g : Nat} (r : Res2 X g 0 (.bool false) (.slice none 0 0)) (hk : Keeps w X) (h : P w (.agg #[.bool b, .slice A n c])) :
    At2 ((X.setCell ⟨g, 0, none⟩ (.bool b)).setCell ⟨g, 1, none⟩ (.slice A n c)) g P := by
  obtain ⟨r0, r1, -, -, rs⟩ := r
  obtain ⟨q0, q1, qK, -, qs, -⟩ := store2 (o := 0) r0 r1 rfl
  exact ⟨b, A, n, c, ⟨q0, q1⟩, hP _ _ _ h (hk.trans qK), by rw [qs]; exact rs⟩
theorem Keeps.store2 {w X : World} {g : Nat} {u0 u1 : Value} (r : Res2 X g 0 (.bool false) (.slice none 0 0)) (hk : Keeps w X) :
    Keeps w ((X.setCell ⟨g, 0, none⟩ u0).setCell ⟨g, 1, none⟩ u1) := by
  obtain ⟨r0, r1, -, -, rs⟩ := r
  obtain ⟨-, -, qK, -⟩ := Go.Proofs.YthhgogpglocjdaaGreat.store2 (o := 0) r0 r1 rfl
  exact hk.trans qK
theorem Rd.whl (z : Int) : Rd (fun w V => Whl w V z) := fun _ _ _ h k => Whl.kept h k
theorem res2_new {w w' : World} {t : TypeId} (g : Grew (w.alloc (.cells #[.bool false, .slice none 0 0] t)) w') : Res2 w' w.heap.size 0 (.bool false) (.slice none 0 0) :=
  Res2.grew ⟨by simp [go_sem], by simp [go_sem], by simp [go_sem], by simp [go_sem], by simp⟩ g
theorem res2_newD {w w' : World} {t : TypeId} (g : Grew (w.alloc (.cells #[.bool false, .slice none 0 0] t)).drew w') : Res2 w' w.heap.size 0 (.bool false) (.slice none 0 0) :=
  Res2.grew ⟨by simp [go_sem], by simp [go_sem], by simp [go_sem], by simp [go_sem], by simp⟩ g

theorem Res2.lt {w : World} {r o : Nat} {u0 u1 : Value} (h : Res2 w r o u0 u1) : r < w.heap.size := h.2.2.2.2
theorem Res2.store_far {w : World} {g h : Nat} {u0 u1 : Value} (a : Res2 w g 0 (.bool false) (.slice none 0 0)) (r : Res2 w h 0 (.bool false) (.slice none 0 0)) (hne : g ≠ h) :
    Res2 ((w.setCell ⟨h, 0, none⟩ u0).setCell ⟨h, 1, none⟩ u1) g 0 (.bool false) (.slice none 0 0) := by
  obtain ⟨r0, r1, -, -, rs⟩ := r
  obtain ⟨-, -, -, qf, qs, -⟩ := Go.Proofs.YthhgogpglocjdaaGreat.store2 (o := 0) (u0 := u0) (u1 := u1) r0 r1 rfl
  obtain ⟨a0, a1, f0, f1, s⟩ := a
  exact ⟨(qf _ _ hne).trans a0, (qf _ _ hne).trans a1, by simp [f0], by simp [f1], by rw [qs]; exact s⟩
theorem At2.store_far {w : World} {P : World → Value → Prop} (hP : Rd P) {g h : Nat} {u0 u1 : Value} (a : At2 w g P) (r : Res2 w h 0 (.bool false) (.slice none 0 0)) (hne : g ≠ h) :
    At2 ((w.setCell ⟨h, 0, none⟩ u0).setCell ⟨h, 1, none⟩ u1) g P := by
  obtain ⟨r0, r1, -, -, rs⟩ := r
  obtain ⟨-, -, qK, qf, qs, -⟩ := Go.Proofs.YthhgogpglocjdaaGreat.store2 (o := 0) (u0 := u0) (u1 := u1) r0 r1 rfl
  obtain ⟨b, A, n, c, ⟨hB, hB'⟩, hp, hl⟩ := a
  exact ⟨b, A, n, c, ⟨(qf _ _ hne).trans hB, (qf _ _ hne).trans hB'⟩, hP _ _ _ hp qK, by rw [qs]; exact hl⟩
theorem At2.grew {w w' : World} {P : World → Value → Prop} (hP : Rd P) {g : Nat} (a : At2 w g P) (k : Grew w w') : At2 w' g P := by
  obtain ⟨b, A, n, c, hB, hp, hl⟩ := a
  exact ⟨b, A, n, c, hB.grew k, hP _ _ _ hp k.keeps, Nat.lt_of_lt_of_le hl k.size⟩
theorem res2_two (w : World) (t s : TypeId) : Res2 ((w.alloc (.cells #[.bool false, .slice none 0 0] t)).alloc (.cells #[.bool false, .slice none 0 0] s)) w.heap.size 0 (.bool false) (.slice none 0 0) ∧
    Res2 ((w.alloc (.cells #[.bool false, .slice none 0 0] t)).alloc (.cells #[.bool false, .slice none 0 0] s)) (w.heap.size + 1) 0 (.bool false) (.slice none 0 0) :=
  ⟨⟨by simp [go_sem], by simp [go_sem], by simp [go_sem], by simp [go_sem], by simp <;> omega⟩, ⟨by simp [go_sem], by simp [go_sem], by simp [go_sem], by simp [go_sem], by simp <;> omega⟩⟩
theorem res2_new2 {w w' : World} {t s : TypeId} (g : Grew ((w.alloc (.cells #[.bool false, .slice none 0 0] t)).alloc (.cells #[.bool false, .slice none 0 0] s)) w') :
    Res2 w' w.heap.size 0 (.bool false) (.slice none 0 0) ∧ Res2 w' (w.heap.size + 1) 0 (.bool false) (.slice none 0 0) := ⟨(res2_two w t s).1.grew g, (res2_two w t s).2.grew g⟩
theorem res2_new2D {w w' : World} {t s : TypeId} (g : Grew ((w.alloc (.cells #[.bool false, .slice none 0 0] t)).alloc (.cells #[.bool false, .slice none 0 0] s)).drew w') :
    Res2 w' w.heap.size 0 (.bool false) (.slice none 0 0) ∧ Res2 w' (w.heap.size + 1) 0 (.bool false) (.slice none 0 0) :=
  ⟨((res2_two w t s).1.grew ((Grew.refl _).drew)).grew g, ((res2_two w t s).2.grew ((Grew.refl _).drew)).grew g⟩
end Go.Proofs.YthhgogpglocjdaaGreat
namespace Go.Proofs.YthhgogpglocjdaaGreat
open Go.RowKit

theorem FracV.parts {w : World} {b : Bool} {A C : Option Addr} {n c m d k : Nat} {q : Rat} (h : FracV w (.agg #[.bool b, .slice A n c, .slice C m d]) q k) :
    ∃ N D, Hid (mkRat (sgn b N) D = q) ∧ Hid (Num 4294967296 .u32 w (.slice A n c) N n) ∧ Hid (Num 4294967296 .u32 w (.slice C m d) D m) ∧ len 4294967296 N ≤ k ∧ len 4294967296 D ≤ k := by
  obtain ⟨b', N, D, n', m', va, vd, e, Na, Da, E, h1, h2⟩ := h
  simp at e
  obtain ⟨e1, e2, e3⟩ := e
  subst e1; subst e2; subst e3
  have hl := Na.slice
  obtain ⟨A1, c1, e3, -⟩ := hl
  injection e3 with i1 i2 i3
  have hl2 := Da.slice
  obtain ⟨A2, c2, e4, -⟩ := hl2
  injection e4 with j1 j2 j3
  rw [← i2] at Na
  rw [← j2] at Da
  exact ⟨N, D, E, Na, Da, h1, h2⟩
theorem bits_g (va : Value) (N n : Nat) (w : World) (ha : Num 4294967296 .u32 w va N n) (hs1 : len 4294967296 N < 1099511627776) :
    Calls Tryz.prog 129 #[va] w fun e w' => e = .returned (.int .i64 (nbits N : Nat)) ∧ Grew w w' :=
  (bits_any va N n w ha hs1).mono fun _ _ ⟨h1, h2⟩ => ⟨h1, h2 ▸ Grew.refl w⟩


def In64 (x y : Int) : Prop := -9223372036854775808 ≤ x ∧ x ≤ 9223372036854775807 ∧ -9223372036854775808 ≤ y ∧ y ≤ 9223372036854775807
theorem QB_i64 {x : Int} (h0 : -9223372036854775808 ≤ x) (h1 : x ≤ 9223372036854775807) : QB (x : Rat) 2 := QB_int x 2 (len_word (by omega)) (by omega)

set_option maxRecDepth 100000 in
set_option maxHeartbeats 8000000 in
theorem turns_any (ax ay bx b_y cx cy : Int) (w : World) (ha : In64 ax ay) (hb : In64 bx b_y) (hc : In64 cx cy) :
    Calls Tryz.prog 42 #[.agg #[.int .i64 ax, .int .i64 ay], .agg #[.int .i64 bx, .int .i64 b_y], .agg #[.int .i64 cx, .int .i64 cy]] w fun e w' => e = .returned (.int .i64 (turnZ ax ay bx b_y cx cy)) ∧ Grew w w' := by
  have ra := Lib.hid ha
  have rb := Lib.hid hb
  have rc := Lib.hid hc
  have qa := Lib.hid (QB_i64 ha.1 ha.2.1)
  have qa2 := Lib.hid (QB_i64 ha.2.2.1 ha.2.2.2)
  have qb := Lib.hid (QB_i64 hb.1 hb.2.1)
  have qb2 := Lib.hid (QB_i64 hb.2.2.1 hb.2.2.2)
  have qc := Lib.hid (QB_i64 hc.1 hc.2.1)
  have qc2 := Lib.hid (QB_i64 hc.2.2.1 hc.2.2.2)
  clear ha hb hc
  by_cases ha : nearB ax ay = true
  · by_cases hb : nearB bx b_y = true
    · by_cases hc : nearB cx cy = true
      · exact turns_near ax ay bx b_y cx cy w ha hb hc
      · have ea := Lib.hid ha
        have eb := Lib.hid hb
        have ec := Lib.hid (Bool.eq_false_iff.2 hc)
        clear ha hb hc
        go_enter Tryz.func42, Tryz.ntmps42
        go_wp2_with fail
        refine gen_calls ?_
        intro W0 hW0
        have G0 : Grew w W0 := by rw [hW0]; exact (((Grew.refl w).alloc _).alloc _).alloc _
        have P : Box2 W0 (w.heap.size) 0 (.int .i64 ax) (.int .i64 ay) := by rw [hW0]; exact ⟨by simp [go_sem], by simp [go_sem]⟩
        replace P := Lib.hid P
        have Q : Box2 W0 (w.heap.size + 1) 0 (.int .i64 bx) (.int .i64 b_y) := by rw [hW0]; exact ⟨by simp [go_sem], by simp [go_sem]⟩
        replace Q := Lib.hid Q
        have S : Box2 W0 (w.heap.size + 1 + 1) 0 (.int .i64 cx) (.int .i64 cy) := by rw [hW0]; exact ⟨by simp [go_sem], by simp [go_sem]⟩
        replace S := Lib.hid S
        have z0 : w.heap.size < W0.heap.size := by rw [hW0]; simp <;> omega
        replace z0 := Lib.hid z0
        have z1 : w.heap.size + 1 < W0.heap.size := by rw [hW0]; simp <;> omega
        replace z1 := Lib.hid z1
        have z2 : w.heap.size + 1 + 1 < W0.heap.size := by rw [hW0]; simp <;> omega
        replace z2 := Lib.hid z2
        clear hW0
        replace G0 := Lib.hid G0
        refine (near_any ax ay _).mono ?_
        rintro e w1 ⟨rfl, g1⟩
        replace P := Lib.hid (P.out.grew g1)
        replace Q := Lib.hid (Q.out.grew g1)
        replace S := Lib.hid (S.out.grew g1)
        replace z0 := Lib.hid (lt_grew z0.out g1)
        replace z1 := Lib.hid (lt_grew z1.out g1)
        replace z2 := Lib.hid (lt_grew z2.out g1)
        replace G0 := Lib.hid (G0.out.trans g1)
        clear g1
        rw [ea.out]
        obtain ⟨P0, P1⟩ := P.out
        obtain ⟨Q0, Q1⟩ := Q.out
        obtain ⟨S0, S1⟩ := S.out
        go_wp2_with fail
        clear P0 P1 Q0 Q1 S0 S1
        refine (near_any bx b_y _).mono ?_
        rintro e w2 ⟨rfl, g2⟩
        replace P := Lib.hid (P.out.grew g2)
        replace Q := Lib.hid (Q.out.grew g2)
        replace S := Lib.hid (S.out.grew g2)
        replace z0 := Lib.hid (lt_grew z0.out g2)
        replace z1 := Lib.hid (lt_grew z1.out g2)
        replace z2 := Lib.hid (lt_grew z2.out g2)
        replace G0 := Lib.hid (G0.out.trans g2)
        clear g2
        rw [eb.out]
        obtain ⟨P0, P1⟩ := P.out
        obtain ⟨Q0, Q1⟩ := Q.out
        obtain ⟨S0, S1⟩ := S.out
        go_wp2_with fail
        clear P0 P1 Q0 Q1 S0 S1
        refine (near_any cx cy _).mono ?_
        rintro e w3 ⟨rfl, g3⟩
        replace P := Lib.hid (P.out.grew g3)
        replace Q := Lib.hid (Q.out.grew g3)
        replace S := Lib.hid (S.out.grew g3)
        replace z0 := Lib.hid (lt_grew z0.out g3)
        replace z1 := Lib.hid (lt_grew z1.out g3)
        replace z2 := Lib.hid (lt_grew z2.out g3)
        replace G0 := Lib.hid (G0.out.trans g3)
        clear g3
        rw [ec.out]
        go_wp2_with fail
        have gd : Grew w3 w3.drew := (Grew.refl w3).drew
        replace P := Lib.hid (P.out.grew gd)
        replace Q := Lib.hid (Q.out.grew gd)
        replace S := Lib.hid (S.out.grew gd)
        replace z0 := Lib.hid (lt_grew z0.out gd)
        replace z1 := Lib.hid (lt_grew z1.out gd)
        replace z2 := Lib.hid (lt_grew z2.out gd)
        replace gd := Lib.hid gd
        have ZP := P
        have ZQ := Q
        have ZS := S
        go_region_held3 (fun w' => w'.cell? ⟨w.heap.size, 0, none⟩ = some (.int .i64 ax) ∧ w'.cell? ⟨w.heap.size, 1, none⟩ = some (.int .i64 ay) ∧ w'.cell? ⟨w.heap.size + 1, 0, none⟩ = some (.int .i64 bx) ∧ w'.cell? ⟨w.heap.size + 1, 1, none⟩ = some (.int .i64 b_y) ∧ w'.cell? ⟨w.heap.size + 1 + 1, 0, none⟩ = some (.int .i64 cx) ∧ w'.cell? ⟨w.heap.size + 1 + 1, 1, none⟩ = some (.int .i64 cy))
          (first | (with_reducible exact ⟨ZP.out.p0, ZP.out.p1, ZQ.out.p0, ZQ.out.p1, ZS.out.p0, ZS.out.p1⟩) | (with_reducible exact ⟨g4.cell ZP.out.p0, g4.cell ZP.out.p1, g4.cell ZQ.out.p0, g4.cell ZQ.out.p1, g4.cell ZS.out.p0, g4.cell ZS.out.p1⟩) | (with_reducible exact ⟨(g4.trans g5).cell ZP.out.p0, (g4.trans g5).cell ZP.out.p1, (g4.trans g5).cell ZQ.out.p0, (g4.trans g5).cell ZQ.out.p1, (g4.trans g5).cell ZS.out.p0, (g4.trans g5).cell ZS.out.p1⟩) | (with_reducible exact ⟨((g4.trans g5).trans g6).cell ZP.out.p0, ((g4.trans g5).trans g6).cell ZP.out.p1, ((g4.trans g5).trans g6).cell ZQ.out.p0, ((g4.trans g5).trans g6).cell ZQ.out.p1, ((g4.trans g5).trans g6).cell ZS.out.p0, ((g4.trans g5).trans g6).cell ZS.out.p1⟩) | (with_reducible exact ⟨(((g4.trans g5).trans g6).trans g7).cell ZP.out.p0, (((g4.trans g5).trans g6).trans g7).cell ZP.out.p1, (((g4.trans g5).trans g6).trans g7).cell ZQ.out.p0, (((g4.trans g5).trans g6).trans g7).cell ZQ.out.p1, (((g4.trans g5).trans g6).trans g7).cell ZS.out.p0, (((g4.trans g5).trans g6).trans g7).cell ZS.out.p1⟩))
          (first | (have chk := g6; clear chk; go_at_call 71; refine (turn_any _ _ _ (ax : Rat) (ay : Rat) (bx : Rat) (b_y : Rat) (cx : Rat) (cy : Rat) 2 _ X1.out X2.out X3.out (by omega) (by omega)).mono ?_; rintro e w7 ⟨rfl, g7⟩; replace P := Lib.hid (P.out.grew g7); replace Q := Lib.hid (Q.out.grew g7); replace S := Lib.hid (S.out.grew g7); replace z0 := Lib.hid (lt_grew z0.out g7); replace z1 := Lib.hid (lt_grew z1.out g7); replace z2 := Lib.hid (lt_grew z2.out g7); replace X1 := Lib.hid (X1.out.kept g7.keeps); replace X2 := Lib.hid (X2.out.kept g7.keeps); replace X3 := Lib.hid (X3.out.kept g7.keeps)) | (have chk := g5; clear chk; go_at_call 43; refine (at_any cx cy _ rc.out.1 rc.out.2.1 rc.out.2.2.1 rc.out.2.2.2).mono ?_; rintro e w6 ⟨V3, rfl, hV3, g6⟩; have Y3 := Lib.hid (hV3.v qc.out qc2.out); obtain ⟨b11, A11, n11, c11, C11, m11, d11, b12, A12, n12, c12, C12, m12, d12, rfl, -⟩ := hV3.laid; have X3 := Y3; clear hV3 Y3; replace P := Lib.hid (P.out.grew g6); replace Q := Lib.hid (Q.out.grew g6); replace S := Lib.hid (S.out.grew g6); replace z0 := Lib.hid (lt_grew z0.out g6); replace z1 := Lib.hid (lt_grew z1.out g6); replace z2 := Lib.hid (lt_grew z2.out g6); replace X1 := Lib.hid (X1.out.kept g6.keeps); replace X2 := Lib.hid (X2.out.kept g6.keeps)) | (have chk := g4; clear chk; go_at_call 43; refine (at_any bx b_y _ rb.out.1 rb.out.2.1 rb.out.2.2.1 rb.out.2.2.2).mono ?_; rintro e w5 ⟨V2, rfl, hV2, g5⟩; have Y2 := Lib.hid (hV2.v qb.out qb2.out); obtain ⟨b9, A9, n9, c9, C9, m9, d9, b10, A10, n10, c10, C10, m10, d10, rfl, -⟩ := hV2.laid; have X2 := Y2; clear hV2 Y2; replace P := Lib.hid (P.out.grew g5); replace Q := Lib.hid (Q.out.grew g5); replace S := Lib.hid (S.out.grew g5); replace z0 := Lib.hid (lt_grew z0.out g5); replace z1 := Lib.hid (lt_grew z1.out g5); replace z2 := Lib.hid (lt_grew z2.out g5); replace X1 := Lib.hid (X1.out.kept g5.keeps)) | (go_at_call 43; refine (at_any ax ay _ ra.out.1 ra.out.2.1 ra.out.2.2.1 ra.out.2.2.2).mono ?_; rintro e w4 ⟨V1, rfl, hV1, g4⟩; have Y1 := Lib.hid (hV1.v qa.out qa2.out); obtain ⟨b7, A7, n7, c7, C7, m7, d7, b8, A8, n8, c8, C8, m8, d8, rfl, -⟩ := hV1.laid; have X1 := Y1; clear hV1 Y1; replace P := Lib.hid (P.out.grew g4); replace Q := Lib.hid (Q.out.grew g4); replace S := Lib.hid (S.out.grew g4); replace z0 := Lib.hid (lt_grew z0.out g4); replace z1 := Lib.hid (lt_grew z1.out g4); replace z2 := Lib.hid (lt_grew z2.out g4)))
        replace G0 := Lib.hid (((((G0.out.trans gd.out).trans g4).trans g5).trans g6).trans g7)
        clear gd g4 g5 g6 g7 ZP ZQ ZS
        go_wp2_with fail
        go_ret
        exact ⟨rfl, G0.out⟩
    · have ea := Lib.hid ha
      have eb := Lib.hid (Bool.eq_false_iff.2 hb)
      clear ha hb
      go_enter Tryz.func42, Tryz.ntmps42
      go_wp2_with fail
      refine gen_calls ?_
      intro W0 hW0
      have G0 : Grew w W0 := by rw [hW0]; exact (((Grew.refl w).alloc _).alloc _).alloc _
      have P : Box2 W0 (w.heap.size) 0 (.int .i64 ax) (.int .i64 ay) := by rw [hW0]; exact ⟨by simp [go_sem], by simp [go_sem]⟩
      replace P := Lib.hid P
      have Q : Box2 W0 (w.heap.size + 1) 0 (.int .i64 bx) (.int .i64 b_y) := by rw [hW0]; exact ⟨by simp [go_sem], by simp [go_sem]⟩
      replace Q := Lib.hid Q
      have S : Box2 W0 (w.heap.size + 1 + 1) 0 (.int .i64 cx) (.int .i64 cy) := by rw [hW0]; exact ⟨by simp [go_sem], by simp [go_sem]⟩
      replace S := Lib.hid S
      have z0 : w.heap.size < W0.heap.size := by rw [hW0]; simp <;> omega
      replace z0 := Lib.hid z0
      have z1 : w.heap.size + 1 < W0.heap.size := by rw [hW0]; simp <;> omega
      replace z1 := Lib.hid z1
      have z2 : w.heap.size + 1 + 1 < W0.heap.size := by rw [hW0]; simp <;> omega
      replace z2 := Lib.hid z2
      clear hW0
      replace G0 := Lib.hid G0
      refine (near_any ax ay _).mono ?_
      rintro e w1 ⟨rfl, g1⟩
      replace P := Lib.hid (P.out.grew g1)
      replace Q := Lib.hid (Q.out.grew g1)
      replace S := Lib.hid (S.out.grew g1)
      replace z0 := Lib.hid (lt_grew z0.out g1)
      replace z1 := Lib.hid (lt_grew z1.out g1)
      replace z2 := Lib.hid (lt_grew z2.out g1)
      replace G0 := Lib.hid (G0.out.trans g1)
      clear g1
      rw [ea.out]
      obtain ⟨P0, P1⟩ := P.out
      obtain ⟨Q0, Q1⟩ := Q.out
      obtain ⟨S0, S1⟩ := S.out
      go_wp2_with fail
      clear P0 P1 Q0 Q1 S0 S1
      refine (near_any bx b_y _).mono ?_
      rintro e w2 ⟨rfl, g2⟩
      replace P := Lib.hid (P.out.grew g2)
      replace Q := Lib.hid (Q.out.grew g2)
      replace S := Lib.hid (S.out.grew g2)
      replace z0 := Lib.hid (lt_grew z0.out g2)
      replace z1 := Lib.hid (lt_grew z1.out g2)
      replace z2 := Lib.hid (lt_grew z2.out g2)
      replace G0 := Lib.hid (G0.out.trans g2)
      clear g2
      rw [eb.out]
      go_wp2_with fail
      have gd : Grew w2 w2.drew := (Grew.refl w2).drew
      replace P := Lib.hid (P.out.grew gd)
      replace Q := Lib.hid (Q.out.grew gd)
      replace S := Lib.hid (S.out.grew gd)
      replace z0 := Lib.hid (lt_grew z0.out gd)
      replace z1 := Lib.hid (lt_grew z1.out gd)
      replace z2 := Lib.hid (lt_grew z2.out gd)
      replace gd := Lib.hid gd
      have ZP := P
      have ZQ := Q
      have ZS := S
      go_region_held3 (fun w' => w'.cell? ⟨w.heap.size, 0, none⟩ = some (.int .i64 ax) ∧ w'.cell? ⟨w.heap.size, 1, none⟩ = some (.int .i64 ay) ∧ w'.cell? ⟨w.heap.size + 1, 0, none⟩ = some (.int .i64 bx) ∧ w'.cell? ⟨w.heap.size + 1, 1, none⟩ = some (.int .i64 b_y) ∧ w'.cell? ⟨w.heap.size + 1 + 1, 0, none⟩ = some (.int .i64 cx) ∧ w'.cell? ⟨w.heap.size + 1 + 1, 1, none⟩ = some (.int .i64 cy))
        (first | (with_reducible exact ⟨ZP.out.p0, ZP.out.p1, ZQ.out.p0, ZQ.out.p1, ZS.out.p0, ZS.out.p1⟩) | (with_reducible exact ⟨g3.cell ZP.out.p0, g3.cell ZP.out.p1, g3.cell ZQ.out.p0, g3.cell ZQ.out.p1, g3.cell ZS.out.p0, g3.cell ZS.out.p1⟩) | (with_reducible exact ⟨(g3.trans g4).cell ZP.out.p0, (g3.trans g4).cell ZP.out.p1, (g3.trans g4).cell ZQ.out.p0, (g3.trans g4).cell ZQ.out.p1, (g3.trans g4).cell ZS.out.p0, (g3.trans g4).cell ZS.out.p1⟩) | (with_reducible exact ⟨((g3.trans g4).trans g5).cell ZP.out.p0, ((g3.trans g4).trans g5).cell ZP.out.p1, ((g3.trans g4).trans g5).cell ZQ.out.p0, ((g3.trans g4).trans g5).cell ZQ.out.p1, ((g3.trans g4).trans g5).cell ZS.out.p0, ((g3.trans g4).trans g5).cell ZS.out.p1⟩) | (with_reducible exact ⟨(((g3.trans g4).trans g5).trans g6).cell ZP.out.p0, (((g3.trans g4).trans g5).trans g6).cell ZP.out.p1, (((g3.trans g4).trans g5).trans g6).cell ZQ.out.p0, (((g3.trans g4).trans g5).trans g6).cell ZQ.out.p1, (((g3.trans g4).trans g5).trans g6).cell ZS.out.p0, (((g3.trans g4).trans g5).trans g6).cell ZS.out.p1⟩))
        (first | (have chk := g5; clear chk; go_at_call 71; refine (turn_any _ _ _ (ax : Rat) (ay : Rat) (bx : Rat) (b_y : Rat) (cx : Rat) (cy : Rat) 2 _ X1.out X2.out X3.out (by omega) (by omega)).mono ?_; rintro e w6 ⟨rfl, g6⟩; replace P := Lib.hid (P.out.grew g6); replace Q := Lib.hid (Q.out.grew g6); replace S := Lib.hid (S.out.grew g6); replace z0 := Lib.hid (lt_grew z0.out g6); replace z1 := Lib.hid (lt_grew z1.out g6); replace z2 := Lib.hid (lt_grew z2.out g6); replace X1 := Lib.hid (X1.out.kept g6.keeps); replace X2 := Lib.hid (X2.out.kept g6.keeps); replace X3 := Lib.hid (X3.out.kept g6.keeps)) | (have chk := g4; clear chk; go_at_call 43; refine (at_any cx cy _ rc.out.1 rc.out.2.1 rc.out.2.2.1 rc.out.2.2.2).mono ?_; rintro e w5 ⟨V3, rfl, hV3, g5⟩; have Y3 := Lib.hid (hV3.v qc.out qc2.out); obtain ⟨b11, A11, n11, c11, C11, m11, d11, b12, A12, n12, c12, C12, m12, d12, rfl, -⟩ := hV3.laid; have X3 := Y3; clear hV3 Y3; replace P := Lib.hid (P.out.grew g5); replace Q := Lib.hid (Q.out.grew g5); replace S := Lib.hid (S.out.grew g5); replace z0 := Lib.hid (lt_grew z0.out g5); replace z1 := Lib.hid (lt_grew z1.out g5); replace z2 := Lib.hid (lt_grew z2.out g5); replace X1 := Lib.hid (X1.out.kept g5.keeps); replace X2 := Lib.hid (X2.out.kept g5.keeps)) | (have chk := g3; clear chk; go_at_call 43; refine (at_any bx b_y _ rb.out.1 rb.out.2.1 rb.out.2.2.1 rb.out.2.2.2).mono ?_; rintro e w4 ⟨V2, rfl, hV2, g4⟩; have Y2 := Lib.hid (hV2.v qb.out qb2.out); obtain ⟨b9, A9, n9, c9, C9, m9, d9, b10, A10, n10, c10, C10, m10, d10, rfl, -⟩ := hV2.laid; have X2 := Y2; clear hV2 Y2; replace P := Lib.hid (P.out.grew g4); replace Q := Lib.hid (Q.out.grew g4); replace S := Lib.hid (S.out.grew g4); replace z0 := Lib.hid (lt_grew z0.out g4); replace z1 := Lib.hid (lt_grew z1.out g4); replace z2 := Lib.hid (lt_grew z2.out g4); replace X1 := Lib.hid (X1.out.kept g4.keeps)) | (go_at_call 43; refine (at_any ax ay _ ra.out.1 ra.out.2.1 ra.out.2.2.1 ra.out.2.2.2).mono ?_; rintro e w3 ⟨V1, rfl, hV1, g3⟩; have Y1 := Lib.hid (hV1.v qa.out qa2.out); obtain ⟨b7, A7, n7, c7, C7, m7, d7, b8, A8, n8, c8, C8, m8, d8, rfl, -⟩ := hV1.laid; have X1 := Y1; clear hV1 Y1; replace P := Lib.hid (P.out.grew g3); replace Q := Lib.hid (Q.out.grew g3); replace S := Lib.hid (S.out.grew g3); replace z0 := Lib.hid (lt_grew z0.out g3); replace z1 := Lib.hid (lt_grew z1.out g3); replace z2 := Lib.hid (lt_grew z2.out g3)))
      replace G0 := Lib.hid (((((G0.out.trans gd.out).trans g3).trans g4).trans g5).trans g6)
      clear gd g3 g4 g5 g6 ZP ZQ ZS
      go_wp2_with fail
      go_ret
      exact ⟨rfl, G0.out⟩
  · have ea := Lib.hid (Bool.eq_false_iff.2 ha)
    clear ha
    go_enter Tryz.func42, Tryz.ntmps42
    go_wp2_with fail
    refine gen_calls ?_
    intro W0 hW0
    have G0 : Grew w W0 := by rw [hW0]; exact (((Grew.refl w).alloc _).alloc _).alloc _
    have P : Box2 W0 (w.heap.size) 0 (.int .i64 ax) (.int .i64 ay) := by rw [hW0]; exact ⟨by simp [go_sem], by simp [go_sem]⟩
    replace P := Lib.hid P
    have Q : Box2 W0 (w.heap.size + 1) 0 (.int .i64 bx) (.int .i64 b_y) := by rw [hW0]; exact ⟨by simp [go_sem], by simp [go_sem]⟩
    replace Q := Lib.hid Q
    have S : Box2 W0 (w.heap.size + 1 + 1) 0 (.int .i64 cx) (.int .i64 cy) := by rw [hW0]; exact ⟨by simp [go_sem], by simp [go_sem]⟩
    replace S := Lib.hid S
    have z0 : w.heap.size < W0.heap.size := by rw [hW0]; simp <;> omega
    replace z0 := Lib.hid z0
    have z1 : w.heap.size + 1 < W0.heap.size := by rw [hW0]; simp <;> omega
    replace z1 := Lib.hid z1
    have z2 : w.heap.size + 1 + 1 < W0.heap.size := by rw [hW0]; simp <;> omega
    replace z2 := Lib.hid z2
    clear hW0
    replace G0 := Lib.hid G0
    refine (near_any ax ay _).mono ?_
    rintro e w1 ⟨rfl, g1⟩
    replace P := Lib.hid (P.out.grew g1)
    replace Q := Lib.hid (Q.out.grew g1)
    replace S := Lib.hid (S.out.grew g1)
    replace z0 := Lib.hid (lt_grew z0.out g1)
    replace z1 := Lib.hid (lt_grew z1.out g1)
    replace z2 := Lib.hid (lt_grew z2.out g1)
    replace G0 := Lib.hid (G0.out.trans g1)
    clear g1
    rw [ea.out]
    go_wp2_with fail
    have gd : Grew w1 w1.drew := (Grew.refl w1).drew
    replace P := Lib.hid (P.out.grew gd)
    replace Q := Lib.hid (Q.out.grew gd)
    replace S := Lib.hid (S.out.grew gd)
    replace z0 := Lib.hid (lt_grew z0.out gd)
    replace z1 := Lib.hid (lt_grew z1.out gd)
    replace z2 := Lib.hid (lt_grew z2.out gd)
    replace gd := Lib.hid gd
    have ZP := P
    have ZQ := Q
    have ZS := S
    go_region_held3 (fun w' => w'.cell? ⟨w.heap.size, 0, none⟩ = some (.int .i64 ax) ∧ w'.cell? ⟨w.heap.size, 1, none⟩ = some (.int .i64 ay) ∧ w'.cell? ⟨w.heap.size + 1, 0, none⟩ = some (.int .i64 bx) ∧ w'.cell? ⟨w.heap.size + 1, 1, none⟩ = some (.int .i64 b_y) ∧ w'.cell? ⟨w.heap.size + 1 + 1, 0, none⟩ = some (.int .i64 cx) ∧ w'.cell? ⟨w.heap.size + 1 + 1, 1, none⟩ = some (.int .i64 cy))
      (first | (with_reducible exact ⟨ZP.out.p0, ZP.out.p1, ZQ.out.p0, ZQ.out.p1, ZS.out.p0, ZS.out.p1⟩) | (with_reducible exact ⟨g2.cell ZP.out.p0, g2.cell ZP.out.p1, g2.cell ZQ.out.p0, g2.cell ZQ.out.p1, g2.cell ZS.out.p0, g2.cell ZS.out.p1⟩) | (with_reducible exact ⟨(g2.trans g3).cell ZP.out.p0, (g2.trans g3).cell ZP.out.p1, (g2.trans g3).cell ZQ.out.p0, (g2.trans g3).cell ZQ.out.p1, (g2.trans g3).cell ZS.out.p0, (g2.trans g3).cell ZS.out.p1⟩) | (with_reducible exact ⟨((g2.trans g3).trans g4).cell ZP.out.p0, ((g2.trans g3).trans g4).cell ZP.out.p1, ((g2.trans g3).trans g4).cell ZQ.out.p0, ((g2.trans g3).trans g4).cell ZQ.out.p1, ((g2.trans g3).trans g4).cell ZS.out.p0, ((g2.trans g3).trans g4).cell ZS.out.p1⟩) | (with_reducible exact ⟨(((g2.trans g3).trans g4).trans g5).cell ZP.out.p0, (((g2.trans g3).trans g4).trans g5).cell ZP.out.p1, (((g2.trans g3).trans g4).trans g5).cell ZQ.out.p0, (((g2.trans g3).trans g4).trans g5).cell ZQ.out.p1, (((g2.trans g3).trans g4).trans g5).cell ZS.out.p0, (((g2.trans g3).trans g4).trans g5).cell ZS.out.p1⟩))
      (first | (have chk := g4; clear chk; go_at_call 71; refine (turn_any _ _ _ (ax : Rat) (ay : Rat) (bx : Rat) (b_y : Rat) (cx : Rat) (cy : Rat) 2 _ X1.out X2.out X3.out (by omega) (by omega)).mono ?_; rintro e w5 ⟨rfl, g5⟩; replace P := Lib.hid (P.out.grew g5); replace Q := Lib.hid (Q.out.grew g5); replace S := Lib.hid (S.out.grew g5); replace z0 := Lib.hid (lt_grew z0.out g5); replace z1 := Lib.hid (lt_grew z1.out g5); replace z2 := Lib.hid (lt_grew z2.out g5); replace X1 := Lib.hid (X1.out.kept g5.keeps); replace X2 := Lib.hid (X2.out.kept g5.keeps); replace X3 := Lib.hid (X3.out.kept g5.keeps)) | (have chk := g3; clear chk; go_at_call 43; refine (at_any cx cy _ rc.out.1 rc.out.2.1 rc.out.2.2.1 rc.out.2.2.2).mono ?_; rintro e w4 ⟨V3, rfl, hV3, g4⟩; have Y3 := Lib.hid (hV3.v qc.out qc2.out); obtain ⟨b11, A11, n11, c11, C11, m11, d11, b12, A12, n12, c12, C12, m12, d12, rfl, -⟩ := hV3.laid; have X3 := Y3; clear hV3 Y3; replace P := Lib.hid (P.out.grew g4); replace Q := Lib.hid (Q.out.grew g4); replace S := Lib.hid (S.out.grew g4); replace z0 := Lib.hid (lt_grew z0.out g4); replace z1 := Lib.hid (lt_grew z1.out g4); replace z2 := Lib.hid (lt_grew z2.out g4); replace X1 := Lib.hid (X1.out.kept g4.keeps); replace X2 := Lib.hid (X2.out.kept g4.keeps)) | (have chk := g2; clear chk; go_at_call 43; refine (at_any bx b_y _ rb.out.1 rb.out.2.1 rb.out.2.2.1 rb.out.2.2.2).mono ?_; rintro e w3 ⟨V2, rfl, hV2, g3⟩; have Y2 := Lib.hid (hV2.v qb.out qb2.out); obtain ⟨b9, A9, n9, c9, C9, m9, d9, b10, A10, n10, c10, C10, m10, d10, rfl, -⟩ := hV2.laid; have X2 := Y2; clear hV2 Y2; replace P := Lib.hid (P.out.grew g3); replace Q := Lib.hid (Q.out.grew g3); replace S := Lib.hid (S.out.grew g3); replace z0 := Lib.hid (lt_grew z0.out g3); replace z1 := Lib.hid (lt_grew z1.out g3); replace z2 := Lib.hid (lt_grew z2.out g3); replace X1 := Lib.hid (X1.out.kept g3.keeps)) | (go_at_call 43; refine (at_any ax ay _ ra.out.1 ra.out.2.1 ra.out.2.2.1 ra.out.2.2.2).mono ?_; rintro e w2 ⟨V1, rfl, hV1, g2⟩; have Y1 := Lib.hid (hV1.v qa.out qa2.out); obtain ⟨b7, A7, n7, c7, C7, m7, d7, b8, A8, n8, c8, C8, m8, d8, rfl, -⟩ := hV1.laid; have X1 := Y1; clear hV1 Y1; replace P := Lib.hid (P.out.grew g2); replace Q := Lib.hid (Q.out.grew g2); replace S := Lib.hid (S.out.grew g2); replace z0 := Lib.hid (lt_grew z0.out g2); replace z1 := Lib.hid (lt_grew z1.out g2); replace z2 := Lib.hid (lt_grew z2.out g2)))
    replace G0 := Lib.hid (((((G0.out.trans gd.out).trans g2).trans g3).trans g4).trans g5)
    clear gd g2 g3 g4 g5 ZP ZQ ZS
    go_wp2_with fail
    go_ret
    exact ⟨rfl, G0.out⟩
end Go.Proofs.YthhgogpglocjdaaGreat
