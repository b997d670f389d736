/- r02.Of. Condition: an int. spot.small, spot.over, spot.Turns, at any points. Condition: what comes in reads. Locals of two cells. Conditions: none. spot.Turns at all points; spot.Side. Condition: what comes in reads; fewer than 2^26 words. -/
import Derived.Test.YthhgogpglocjdaaJR2b
import Derived.Test.YthhgogpglocjdaaJKit2
namespace Go.Proofs.Ythhgogpglocjdaa
open Go.RowKit

theorem len_word {N : Nat} (h : N < 18446744073709551616) : len 4294967296 N ≤ 2 := len_le (by omega) (by simpa using h)

set_option maxRecDepth 100000 in
set_option maxHeartbeats 4000000 in
theorem r2of_pos (N : Nat) (w : World) (h : N < 9223372036854775808) :
    Calls Try.prog 45 #[.int .i64 (N : Int)] w fun e w' => ∃ V, e = .returned V ∧ Whl w' V (sgn false N) ∧ Grew w w' := by
  have hb : (N : Int) ≤ 9223372036854775807 := by omega
  have hl := Lib.hid (show len 4294967296 N < 137438953472 by have := len_word (N := N) (by omega); omega)
  go_enter Try.func45, Try.ntmps45
  go_wp2_with fail
  refine gen_calls ?_
  intro W0 hW0
  have G0 : Grew w W0 := by rw [hW0]; exact (Grew.refl w).alloc _
  have R : Res2 W0 (w.heap.size) 0 (.bool false) (.slice none 0 0) := by rw [hW0]; exact ⟨by simp [go_sem], by simp [go_sem], by simp [go_sem], by simp [go_sem], by simp⟩
  replace R := Lib.hid R
  have z0 : w.heap.size < W0.heap.size := by rw [hW0]; simp <;> omega
  replace z0 := Lib.hid z0
  clear hW0
  replace G0 := Lib.hid G0
  refine (r1of_any _ N _ rfl (by omega)).mono ?_
  rintro e w1 ⟨V1, rfl, hV1, g1⟩
  obtain ⟨A3, c3, rfl, X1⟩ := hV1.slice
  clear hV1
  replace R := Lib.hid (R.out.grew g1)
  replace z0 := Lib.hid (lt_grew z0.out g1)
  replace G0 := Lib.hid (G0.out.trans g1)
  clear g1
  go_wp2_with fail
  refine (rmake_any _ _ N _ _ X1.out hl.out).mono ?_
  rintro e w2 ⟨V2, rfl, hV2, g2⟩
  obtain ⟨b4, A4, n4, c4, rfl, X2, -⟩ := hV2.laid
  clear hV2
  replace R := Lib.hid (R.out.grew g2)
  replace z0 := Lib.hid (lt_grew z0.out g2)
  replace X1 := Lib.hid (X1.out.kept g2.keeps)
  replace G0 := Lib.hid (G0.out.trans g2)
  clear g2
  obtain ⟨R0, R1, Rf0, Rf1, Rs⟩ := R.out
  go_wp2_with fail
  refine gen_post ?_
  intro W9 hW9
  obtain ⟨q0, q1, qK, -, qs, qG⟩ := store2 (o := 0) R0 R1 hW9
  have GE := qG w (by omega) G0.out
  have QK := Lib.hid qK
  clear qK qG hW9 R0 R1
  exact bodyPost_ret (v := .agg #[.bool b4, .slice A4 n4 c4]) (by simp [results, Try.results45, go_sem, q0, q1]) rfl ⟨_, rfl, X2.out.kept QK.out, GE⟩

set_option maxRecDepth 100000 in
set_option maxHeartbeats 4000000 in
theorem r2of_neg (x : Int) (K : Nat) (w : World) (h : K < 9223372036854775808) (hx : x = -(K : Int) - 1) :
    Calls Try.prog 45 #[.int .i64 x] w fun e w' => ∃ V, e = .returned V ∧ Whl w' V (sgn true (K + 1)) ∧ Grew w w' := by
  have q0 : x < 0 := by omega
  have q1 : -9223372036854775808 ≤ x := by omega
  have hl1 := Lib.hid (show len 4294967296 K < 274877906944 ∧ 1 < 274877906944 by have := len_word (N := K) (by omega); omega)
  have hl := Lib.hid (show len 4294967296 (K + 1) < 137438953472 by have := len_word (N := K + 1) (by omega); omega)
  have HX := Lib.hid hx
  clear hx
  go_enter Try.func45, Try.ntmps45
  go_wp2_with fail
  refine gen_calls ?_
  intro W0 hW0
  have G0 : Grew w W0 := by rw [hW0]; exact (Grew.refl w).alloc _
  have R : Res2 W0 (w.heap.size) 0 (.bool false) (.slice none 0 0) := by rw [hW0]; exact ⟨by simp [go_sem], by simp [go_sem], by simp [go_sem], by simp [go_sem], by simp⟩
  replace R := Lib.hid R
  have z0 : w.heap.size < W0.heap.size := by rw [hW0]; simp <;> omega
  replace z0 := Lib.hid z0
  clear hW0
  replace G0 := Lib.hid G0
  refine (r1of_any _ K _ (by have := HX.out; omega) (by omega)).mono ?_
  rintro e w1 ⟨V1, rfl, hV1, g1⟩
  obtain ⟨A3, c3, rfl, X1⟩ := hV1.slice
  clear hV1
  replace R := Lib.hid (R.out.grew g1)
  replace z0 := Lib.hid (lt_grew z0.out g1)
  replace G0 := Lib.hid (G0.out.trans g1)
  clear g1
  go_wp2_with fail
  refine gen_calls ?_
  intro W1 hW1
  have gl : Grew w1 W1 := by rw [hW1]; exact (Grew.refl _).alloc _
  have y1 := Lib.hid (R.out).2.2.2.2
  replace R := Lib.hid (R.out.grew gl)
  replace z0 := Lib.hid (lt_grew z0.out gl)
  replace X1 := Lib.hid (X1.out.kept gl.keeps)
  have X5 : Num 4294967296 .u32 W1 (.slice (some ⟨w1.heap.size, 0, none⟩) 1 1) 1 1 := by rw [hW1]; exact num_one _ _
  replace X5 := Lib.hid X5
  clear hW1
  replace G0 := Lib.hid (G0.out.trans gl)
  clear gl
  refine (rnadd_any _ _ K 1 _ _ _ X1.out X5.out hl1.out).mono ?_
  rintro e w2 ⟨V3, rfl, hV3, g2⟩
  obtain ⟨A5, c5, rfl, X3⟩ := hV3.slice
  clear hV3
  replace R := Lib.hid (R.out.grew g2)
  replace z0 := Lib.hid (lt_grew z0.out g2)
  replace X1 := Lib.hid (X1.out.kept g2.keeps)
  replace X5 := Lib.hid (X5.out.kept g2.keeps)
  replace G0 := Lib.hid (G0.out.trans g2)
  clear g2
  go_wp2_with fail
  refine (rmake_any _ _ (K + 1) _ _ X3.out hl.out).mono ?_
  rintro e w3 ⟨V2, rfl, hV2, g3⟩
  obtain ⟨b4, A4, n4, c4, rfl, X2, -⟩ := hV2.laid
  clear hV2
  replace R := Lib.hid (R.out.grew g3)
  replace z0 := Lib.hid (lt_grew z0.out g3)
  replace X1 := Lib.hid (X1.out.kept g3.keeps)
  replace X5 := Lib.hid (X5.out.kept g3.keeps)
  replace X3 := Lib.hid (X3.out.kept g3.keeps)
  replace G0 := Lib.hid (G0.out.trans g3)
  clear g3
  obtain ⟨R0, R1, Rf0, Rf1, Rs⟩ := R.out
  go_wp2_with fail
  refine gen_post ?_
  intro W9 hW9
  obtain ⟨q0, q1, qK, -, qs, qG⟩ := store2 (o := 0) R0 R1 hW9
  have GE := qG w (by omega) G0.out
  have QK := Lib.hid qK
  clear qK qG hW9 R0 R1
  exact bodyPost_ret (v := .agg #[.bool b4, .slice A4 n4 c4]) (by simp [results, Try.results45, go_sem, q0, q1]) rfl ⟨_, rfl, X2.out.kept QK.out, GE⟩

theorem r2of_any (x : Int) (w : World) (h0 : -9223372036854775808 ≤ x) (h1 : x ≤ 9223372036854775807) :
    Calls Try.prog 45 #[.int .i64 x] w fun e w' => ∃ V, e = .returned V ∧ Whl w' V x ∧ Grew w w' := by
  rcases Int.lt_or_le x 0 with h | h
  · obtain ⟨K, hK⟩ : ∃ K : Nat, x = -(K : Int) - 1 := ⟨(-x - 1).toNat, by omega⟩
    have := r2of_neg x K w (by omega) hK
    rw [show sgn true (K + 1) = x from by unfold sgn; simp; omega] at this
    exact this
  · obtain ⟨N, rfl⟩ := Int.eq_ofNat_of_zero_le h
    exact r2of_pos N w (by omega)
end Go.Proofs.Ythhgogpglocjdaa
namespace Go.Proofs.Ythhgogpglocjdaa
open Go.RowKit

set_option maxRecDepth 100000 in
set_option maxHeartbeats 2000000 in
theorem near_any (x y : Int) (w : World) : Calls Try.prog 14 #[.agg #[.int .i64 x, .int .i64 y]] w fun e w' => e = .returned (.bool (nearB x y)) ∧ Grew w w' := by
  by_cases h1 : -1073741824 ≤ x
  · by_cases h2 : x ≤ 1073741824
    · by_cases h3 : -1073741824 ≤ y
      · by_cases h4 : y ≤ 1073741824
        · have e := Lib.hid ((nearB_iff x y).2 ⟨h1, h2, h3, h4⟩)
          go_enter Try.func14, Try.ntmps14
          go_wp2_with fail
          go_ret
          exact ⟨by rw [e.out]; rfl, (Grew.refl w).alloc _⟩
        · have e := Lib.hid (show nearB x y = false by unfold nearB; simp [h4])
          go_enter Try.func14, Try.ntmps14
          go_wp2_with fail
          go_ret
          exact ⟨by rw [e.out]; rfl, (Grew.refl w).alloc _⟩
      · have e := Lib.hid (show nearB x y = false by unfold nearB; simp [h3])
        go_enter Try.func14, Try.ntmps14
        go_wp2_with fail
        go_ret
        exact ⟨by rw [e.out]; rfl, (Grew.refl w).alloc _⟩
    · have e := Lib.hid (show nearB x y = false by unfold nearB; simp [h2])
      go_enter Try.func14, Try.ntmps14
      go_wp2_with fail
      go_ret
      exact ⟨by rw [e.out]; rfl, (Grew.refl w).alloc _⟩
  · have e := Lib.hid (show nearB x y = false by unfold nearB; simp [h1])
    go_enter Try.func14, Try.ntmps14
    go_wp2_with fail
    go_ret
    exact ⟨by rw [e.out]; rfl, (Grew.refl w).alloc _⟩

set_option maxRecDepth 100000 in
set_option maxHeartbeats 4000000 in
theorem over_any (b1 : Bool) (A1 C1 : Option Addr) (N D : Nat) (n1 c1 m1 d1 k : Nat) (y : Int) (w : World) (ha : Num 4294967296 .u32 w (.slice A1 n1 c1) N n1) (hb : Num 4294967296 .u32 w (.slice C1 m1 d1) D m1)
    (h1 : len 4294967296 N ≤ k) (h2 : len 4294967296 D ≤ k) (hs : k < 1073741824) (y0 : -9223372036854775808 ≤ y) (y1 : y ≤ 9223372036854775807) :
    Calls Try.prog 20 #[.agg #[.bool b1, .slice A1 n1 c1, .slice C1 m1 d1], .int .i64 y] w fun e w' => ∃ V, e = .returned V ∧ Whl w' V (sgn b1 N - y * D) ∧ Grew w w' := by
  have Fa := Lib.hid (show WhlV w (.agg #[.bool b1, .slice A1 n1 c1]) (sgn b1 N) k from ⟨_, _, _, _, rfl, ha, rfl, h1⟩)
  have Fb := Lib.hid (hb.whl h2)
  have l1 := Lib.hid (show len 4294967296 y.natAbs ≤ 2 from len_word (by omega))
  have l2 := Lib.hid (len_mulz y (D : Int) 2 k l1.out (by simpa using h2))
  have s1 := Lib.hid (show 2 + k < 1099511627776 by omega)
  have s2 := Lib.hid (show k < 549755813888 ∧ 2 + k < 549755813888 by omega)
  clear ha hb h1 h2 hs
  go_enter Try.func20, Try.ntmps20
  go_wp2_with fail
  refine gen_wp ?_
  intro W0 hW0
  have G0 : Grew w W0 := by rw [hW0]; exact ((Grew.refl w).alloc _).alloc _
  have P : Box3 W0 (w.heap.size) 0 (.bool b1) (.slice A1 n1 c1) (.slice C1 m1 d1) := by rw [hW0]; exact ⟨by simp [go_sem], by simp [go_sem], by simp [go_sem]⟩
  replace P := Lib.hid P
  have R : Res2 W0 (w.heap.size + 1) 0 (.bool false) (.slice none 0 0) := by rw [hW0]; exact ⟨by simp [go_sem], by simp [go_sem], by simp [go_sem], by simp [go_sem], by simp⟩
  replace R := Lib.hid R
  have z0 : w.heap.size < W0.heap.size := by rw [hW0]; simp <;> omega
  replace z0 := Lib.hid z0
  have z1 : w.heap.size + 1 < W0.heap.size := by rw [hW0]; simp <;> omega
  replace z1 := Lib.hid z1
  clear hW0
  replace Fa := Lib.hid (Fa.out.kept G0.keeps)
  replace Fb := Lib.hid (Fb.out.kept G0.keeps)
  replace G0 := Lib.hid G0
  have gd : Grew W0 W0.drew := (Grew.refl W0).drew
  replace R := Lib.hid (R.out.grew gd)
  replace P := Lib.hid (P.out.grew gd)
  replace z0 := Lib.hid (lt_grew z0.out gd)
  replace z1 := Lib.hid (lt_grew z1.out gd)
  replace Fa := Lib.hid (Fa.out.kept gd.keeps)
  replace Fb := Lib.hid (Fb.out.kept gd.keeps)
  replace gd := Lib.hid gd
  have ZP := P
  go_region_held3 (fun w' => w'.cell? ⟨w.heap.size, 0, none⟩ = some (.bool b1) ∧ w'.cell? ⟨w.heap.size, 1, none⟩ = some (.slice A1 n1 c1) ∧ w'.cell? ⟨w.heap.size, 2, none⟩ = some (.slice C1 m1 d1))
    (first | (with_reducible exact ⟨ZP.out.p0, ZP.out.p1, ZP.out.p2⟩) | (with_reducible exact ⟨g1.cell ZP.out.p0, g1.cell ZP.out.p1, g1.cell ZP.out.p2⟩) | (with_reducible exact ⟨(g1.trans g2).cell ZP.out.p0, (g1.trans g2).cell ZP.out.p1, (g1.trans g2).cell ZP.out.p2⟩) | (with_reducible exact ⟨((g1.trans g2).trans g3).cell ZP.out.p0, ((g1.trans g2).trans g3).cell ZP.out.p1, ((g1.trans g2).trans g3).cell ZP.out.p2⟩) | (with_reducible exact ⟨other2 (o := 0) (by omega) (((g1.trans g2).trans g3).cell ZP.out.p0), other2 (o := 0) (by omega) (((g1.trans g2).trans g3).cell ZP.out.p1), other2 (o := 0) (by omega) (((g1.trans g2).trans g3).cell ZP.out.p2)⟩))
    (first | (go_at_call 19; refine (wof_any y _ y0 y1).mono ?_; rintro e w1 ⟨V1, rfl, hV1, g1⟩; have Y1 := Lib.hid (hV1.v l1.out); obtain ⟨b3, A3, n3, c3, rfl, -⟩ := hV1.laid; have X1 := Y1; clear hV1 Y1; replace R := Lib.hid (R.out.grew g1); replace P := Lib.hid (P.out.grew g1); replace z0 := Lib.hid (lt_grew z0.out g1); replace z1 := Lib.hid (lt_grew z1.out g1); replace Fa := Lib.hid (Fa.out.kept g1.keeps); replace Fb := Lib.hid (Fb.out.kept g1.keeps)) | (go_at_call 18; refine (wmul_v _ _ y (D : Int) 2 k _ X1.out Fb.out s1.out).mono ?_; rintro e w2 ⟨V2, rfl, hV2, g2⟩; have Y2 := Lib.hid (hV2.v l2.out); obtain ⟨b4, A4, n4, c4, rfl, -⟩ := hV2.laid; have X2 := Y2; clear hV2 Y2; replace R := Lib.hid (R.out.grew g2); replace P := Lib.hid (P.out.grew g2); replace z0 := Lib.hid (lt_grew z0.out g2); replace z1 := Lib.hid (lt_grew z1.out g2); replace Fa := Lib.hid (Fa.out.kept g2.keeps); replace Fb := Lib.hid (Fb.out.kept g2.keeps); replace X1 := Lib.hid (X1.out.kept g2.keeps)) | (go_at_call 42; refine (wsub_v _ _ (sgn b1 N) (y * (D : Int)) k (2 + k) _ Fa.out X2.out s2.out).mono ?_; rintro e w3 ⟨V3, rfl, hV3, g3⟩; obtain ⟨b5, A5, n5, c5, rfl, X3, -⟩ := hV3.laid; clear hV3; replace R := Lib.hid (R.out.grew g3); replace P := Lib.hid (P.out.grew g3); replace z0 := Lib.hid (lt_grew z0.out g3); replace z1 := Lib.hid (lt_grew z1.out g3); replace Fa := Lib.hid (Fa.out.kept g3.keeps); replace Fb := Lib.hid (Fb.out.kept g3.keeps); replace X1 := Lib.hid (X1.out.kept g3.keeps); replace X2 := Lib.hid (X2.out.kept g3.keeps); obtain ⟨R0, R1, Rf0, Rf1, Rs⟩ := R.out))
  replace G0 := Lib.hid ((((G0.out.trans gd.out).trans g1).trans g2).trans g3)
  clear gd g1 g2 g3 ZP
  refine gen_then ?_
  intro W9 hW9
  obtain ⟨q0, q1, qK, -, qs, qG⟩ := store2 (o := 0) R0 R1 hW9
  have GE := qG w (by omega) G0.out
  have QK := Lib.hid qK
  clear qK qG hW9 R0 R1
  go_wp2_with fail
  exact bodyPost_ret (v := .agg #[.bool b5, .slice A5 n5 c5]) (by simp [results, Try.results20, go_sem, q0, q1]) rfl ⟨_, rfl, X3.out.kept QK.out, GE⟩

/-- Three points of the grid: their sides as ints, or by way of fractions. -/
def turnZ (ax ay bx b_y cx cy : Int) : Int := turnQ (ax : Rat) (ay : Rat) (bx : Rat) (b_y : Rat) (cx : Rat) (cy : Rat)

end Go.Proofs.Ythhgogpglocjdaa
namespace Go.Proofs.Ythhgogpglocjdaa
open Go.RowKit

/-- A block that holds two cells of which P says something, in this world. -/
def At2 (w : World) (g : Nat) (P : World → Value → Prop) : Prop := ∃ b A n c, Box2 w g 0 (.bool b) (.slice A n c) ∧ P w (.agg #[.bool b, .slice A n c]) ∧ g < w.heap.size
theorem At2.of_alloc {w X : World} {P : World → Value → Prop} (hP : Rd P) {b : Bool} {A : Option Addr} {n c g : Nat} {t : TypeId} (hg : X.heap.size = g) (hk : Keeps w X) (h : P w (.agg #[.bool b, .slice A n c])) :
    At2 (X.alloc (.cells #[.bool b, .slice A n c] t)) g P := by
  subst hg
  exact ⟨b, A, n, c, ⟨by simp [go_sem], by simp [go_sem]⟩, hP _ _ _ h (hk.trans ((Grew.refl X).alloc _).keeps), by simp⟩
theorem At2.of_store {w X : World} {P : World → Value → Prop} (hP : Rd P) {b : Bool} {A : Option Addr} {n c g : Nat} (r : Res2 X g 0 (.bool false) (.slice none 0 0)) (hk : Keeps w X) (h : P w (.agg #[.bool b, .slice A n c])) :
    At2 ((X.setCell ⟨g, 0, none⟩ (.bool b)).setCell ⟨g, 1, none⟩ (.slice A n c)) g P := by
  obtain ⟨r0, r1, -, -, rs⟩ := r
  obtain ⟨q0, q1, qK, -, qs, -⟩ := store2 (o := 0) r0 r1 rfl
  exact ⟨b, A, n, c, ⟨q0, q1⟩, hP _ _ _ h (hk.trans qK), by rw [qs]; exact rs⟩
theorem Keeps.store2 {w X : World} {g : Nat} {u0 u1 : Value} (r : Res2 X g 0 (.bool false) (.slice none 0 0)) (hk : Keeps w X) :
    Keeps w ((X.setCell ⟨g, 0, none⟩ u0).setCell ⟨g, 1, none⟩ u1) := by
  obtain ⟨r0, r1, -, -, rs⟩ := r
  obtain ⟨-, -, qK, -⟩ := Go.Proofs.Ythhgogpglocjdaa.store2 (o := 0) r0 r1 rfl
  exact hk.trans qK
theorem Rd.whl (z : Int) : Rd (fun w V => Whl w V z) := fun _ _ _ h k => Whl.kept h k
theorem res2_new {w w' : World} {t : TypeId} (g : Grew (w.alloc (.cells #[.bool false, .slice none 0 0] t)) w') : Res2 w' w.heap.size 0 (.bool false) (.slice none 0 0) :=
  Res2.grew ⟨by simp [go_sem], by simp [go_sem], by simp [go_sem], by simp [go_sem], by simp⟩ g
theorem res2_newD {w w' : World} {t : TypeId} (g : Grew (w.alloc (.cells #[.bool false, .slice none 0 0] t)).drew w') : Res2 w' w.heap.size 0 (.bool false) (.slice none 0 0) :=
  Res2.grew ⟨by simp [go_sem], by simp [go_sem], by simp [go_sem], by simp [go_sem], by simp⟩ g

theorem Res2.lt {w : World} {r o : Nat} {u0 u1 : Value} (h : Res2 w r o u0 u1) : r < w.heap.size := h.2.2.2.2
theorem Res2.store_far {w : World} {g h : Nat} {u0 u1 : Value} (a : Res2 w g 0 (.bool false) (.slice none 0 0)) (r : Res2 w h 0 (.bool false) (.slice none 0 0)) (hne : g ≠ h) :
    Res2 ((w.setCell ⟨h, 0, none⟩ u0).setCell ⟨h, 1, none⟩ u1) g 0 (.bool false) (.slice none 0 0) := by
  obtain ⟨r0, r1, -, -, rs⟩ := r
  obtain ⟨-, -, -, qf, qs, -⟩ := Go.Proofs.Ythhgogpglocjdaa.store2 (o := 0) (u0 := u0) (u1 := u1) r0 r1 rfl
  obtain ⟨a0, a1, f0, f1, s⟩ := a
  exact ⟨(qf _ _ hne).trans a0, (qf _ _ hne).trans a1, by simp [f0], by simp [f1], by rw [qs]; exact s⟩
theorem At2.store_far {w : World} {P : World → Value → Prop} (hP : Rd P) {g h : Nat} {u0 u1 : Value} (a : At2 w g P) (r : Res2 w h 0 (.bool false) (.slice none 0 0)) (hne : g ≠ h) :
    At2 ((w.setCell ⟨h, 0, none⟩ u0).setCell ⟨h, 1, none⟩ u1) g P := by
  obtain ⟨r0, r1, -, -, rs⟩ := r
  obtain ⟨-, -, qK, qf, qs, -⟩ := Go.Proofs.Ythhgogpglocjdaa.store2 (o := 0) (u0 := u0) (u1 := u1) r0 r1 rfl
  obtain ⟨b, A, n, c, ⟨hB, hB'⟩, hp, hl⟩ := a
  exact ⟨b, A, n, c, ⟨(qf _ _ hne).trans hB, (qf _ _ hne).trans hB'⟩, hP _ _ _ hp qK, by rw [qs]; exact hl⟩
theorem At2.grew {w w' : World} {P : World → Value → Prop} (hP : Rd P) {g : Nat} (a : At2 w g P) (k : Grew w w') : At2 w' g P := by
  obtain ⟨b, A, n, c, hB, hp, hl⟩ := a
  exact ⟨b, A, n, c, hB.grew k, hP _ _ _ hp k.keeps, Nat.lt_of_lt_of_le hl k.size⟩
theorem res2_two (w : World) (t s : TypeId) : Res2 ((w.alloc (.cells #[.bool false, .slice none 0 0] t)).alloc (.cells #[.bool false, .slice none 0 0] s)) w.heap.size 0 (.bool false) (.slice none 0 0) ∧
    Res2 ((w.alloc (.cells #[.bool false, .slice none 0 0] t)).alloc (.cells #[.bool false, .slice none 0 0] s)) (w.heap.size + 1) 0 (.bool false) (.slice none 0 0) :=
  ⟨⟨by simp [go_sem], by simp [go_sem], by simp [go_sem], by simp [go_sem], by simp <;> omega⟩, ⟨by simp [go_sem], by simp [go_sem], by simp [go_sem], by simp [go_sem], by simp <;> omega⟩⟩
theorem res2_new2 {w w' : World} {t s : TypeId} (g : Grew ((w.alloc (.cells #[.bool false, .slice none 0 0] t)).alloc (.cells #[.bool false, .slice none 0 0] s)) w') :
    Res2 w' w.heap.size 0 (.bool false) (.slice none 0 0) ∧ Res2 w' (w.heap.size + 1) 0 (.bool false) (.slice none 0 0) := ⟨(res2_two w t s).1.grew g, (res2_two w t s).2.grew g⟩
theorem res2_new2D {w w' : World} {t s : TypeId} (g : Grew ((w.alloc (.cells #[.bool false, .slice none 0 0] t)).alloc (.cells #[.bool false, .slice none 0 0] s)).drew w') :
    Res2 w' w.heap.size 0 (.bool false) (.slice none 0 0) ∧ Res2 w' (w.heap.size + 1) 0 (.bool false) (.slice none 0 0) :=
  ⟨((res2_two w t s).1.grew ((Grew.refl _).drew)).grew g, ((res2_two w t s).2.grew ((Grew.refl _).drew)).grew g⟩
end Go.Proofs.Ythhgogpglocjdaa
namespace Go.Proofs.Ythhgogpglocjdaa
open Go.RowKit

theorem FracV.parts {w : World} {b : Bool} {A C : Option Addr} {n c m d k : Nat} {q : Rat} (h : FracV w (.agg #[.bool b, .slice A n c, .slice C m d]) q k) :
    ∃ N D, Hid (mkRat (sgn b N) D = q) ∧ Hid (Num 4294967296 .u32 w (.slice A n c) N n) ∧ Hid (Num 4294967296 .u32 w (.slice C m d) D m) ∧ len 4294967296 N ≤ k ∧ len 4294967296 D ≤ k := by
  obtain ⟨b', N, D, n', m', va, vd, e, Na, Da, E, h1, h2⟩ := h
  simp at e
  obtain ⟨e1, e2, e3⟩ := e
  subst e1; subst e2; subst e3
  have hl := Na.slice
  obtain ⟨A1, c1, e3, -⟩ := hl
  injection e3 with i1 i2 i3
  have hl2 := Da.slice
  obtain ⟨A2, c2, e4, -⟩ := hl2
  injection e4 with j1 j2 j3
  rw [← i2] at Na
  rw [← j2] at Da
  exact ⟨N, D, E, Na, Da, h1, h2⟩
theorem bits_g (va : Value) (N n : Nat) (w : World) (ha : Num 4294967296 .u32 w va N n) (hs1 : len 4294967296 N < 1099511627776) :
    Calls Try.prog 15 #[va] w fun e w' => e = .returned (.int .i64 (nbits N : Nat)) ∧ Grew w w' :=
  (bits_any va N n w ha hs1).mono fun _ _ ⟨h1, h2⟩ => ⟨h1, h2 ▸ Grew.refl w⟩


def In64 (x y : Int) : Prop := -9223372036854775808 ≤ x ∧ x ≤ 9223372036854775807 ∧ -9223372036854775808 ≤ y ∧ y ≤ 9223372036854775807
theorem QB_i64 {x : Int} (h0 : -9223372036854775808 ≤ x) (h1 : x ≤ 9223372036854775807) : QB (x : Rat) 2 := QB_int x 2 (len_word (by omega)) (by omega)

end Go.Proofs.Ythhgogpglocjdaa
