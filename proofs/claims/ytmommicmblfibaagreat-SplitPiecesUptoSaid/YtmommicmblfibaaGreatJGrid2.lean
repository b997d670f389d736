/- r02.Of. Condition: an int. spot.small, spot.over, spot.Turns, at any points. Condition: what comes in reads. Locals of two cells. Conditions: none. spot.Turns at all points; spot.Side. Condition: what comes in reads; fewer than 2^26 words. -/
import Derived.Test.YtmommicmblfibaaGreatJR2b
import Derived.Test.YtmommicmblfibaaGreatJKit2
set_option maxRecDepth 100000
namespace Go.Proofs.YtmommicmblfibaaGreat
open Go.RowKit
theorem len_word {N : Nat} (h : N < 18446744073709551616) : len 4294967296 N ≤ 2 := len_le (by omega) (by simpa using h)
set_option maxHeartbeats 4000000 in
theorem r2of_pos (N : Nat) (w : World) (h : N < 9223372036854775808) :
  Calls Tryz.prog 123 #[.int .i64 (N : Int)] w fun e w' => ∃ V, e = .returned V ∧ Whl w' V (sgn false N) ∧ Grew w w' := by
 have hb : (N : Int) ≤ 9223372036854775807 := by omega
 have hl := hZ (show len 4294967296 N < 137438953472 by have := len_word (N := N) (by omega); omega)
 go_enter Tryz.func123, Tryz.ntmps123
 go_wp2_with fail
 refine gen_calls ?_
 intro W0 hW0
 have G0 : Grew w W0 := by rw [hW0]; exact (Grew.refl w).alloc _
 have R : Res2 W0 (w.heap.size) 0 (.bool false) (.slice none 0 0) := by rw [hW0]; exact ⟨by simp [go_sem], by simp [go_sem], by simp [go_sem], by simp [go_sem], by simp⟩
 replace R := hZ R
 have z0 : w.heap.size < W0.heap.size := by rw [hW0]; simp <;> omega
 replace z0 := hZ z0
 clear hW0
 replace G0 := hZ G0
 refine (r1of_any _ N _ rfl (by omega)).mono ?_
 rintro e w1 ⟨V1, rfl, hV1, g1⟩
 obtain ⟨A3, c3, rfl, X1⟩ := hV1.slice
 clear hV1
 replace R := hZ (R.out.grew g1)
 replace z0 := hZ (lt_grew z0.out g1)
 replace G0 := hZ (G0.out.trans g1)
 clear g1
 go_wp2_with fail
 refine (rmake_any _ _ N _ _ X1.out hl.out).mono ?_
 rintro e w2 ⟨V2, rfl, hV2, g2⟩
 obtain ⟨b4, A4, n4, c4, rfl, X2, -⟩ := hV2.laid
 clear hV2
 replace R := hZ (R.out.grew g2)
 replace z0 := hZ (lt_grew z0.out g2)
 replace X1 := hZ (X1.out.kept g2.keeps)
 replace G0 := hZ (G0.out.trans g2)
 clear g2
 obtain ⟨R0, R1, Rf0, Rf1, Rs⟩ := R.out
 go_wp2_with fail
 refine gen_post ?_
 intro W9 hW9
 obtain ⟨q0, q1, qK, -, qs, qG⟩ := store2 (o := 0) R0 R1 hW9
 have GE := qG w (by omega) G0.out
 have QK := hZ qK
 clear qK qG hW9 R0 R1
 exact bodyPost_ret (v := .agg #[.bool b4, .slice A4 n4 c4]) (by simp [results, Tryz.results123, go_sem, q0, q1]) rfl ⟨_, rfl, X2.out.kept QK.out, GE⟩
set_option maxHeartbeats 4000000 in
theorem r2of_neg (x : Int) (K : Nat) (w : World) (h : K < 9223372036854775808) (hx : x = -(K : Int) - 1) :
  Calls Tryz.prog 123 #[.int .i64 x] w fun e w' => ∃ V, e = .returned V ∧ Whl w' V (sgn true (K + 1)) ∧ Grew w w' := by
 have q0 : x < 0 := by omega
 have q1 : -9223372036854775808 ≤ x := by omega
 have hl1 := hZ (show len 4294967296 K < 274877906944 ∧ 1 < 274877906944 by have := len_word (N := K) (by omega); omega)
 have hl := hZ (show len 4294967296 (K + 1) < 137438953472 by have := len_word (N := K + 1) (by omega); omega)
 have HX := hZ hx
 clear hx
 go_enter Tryz.func123, Tryz.ntmps123
 go_wp2_with fail
 refine gen_calls ?_
 intro W0 hW0
 have G0 : Grew w W0 := by rw [hW0]; exact (Grew.refl w).alloc _
 have R : Res2 W0 (w.heap.size) 0 (.bool false) (.slice none 0 0) := by rw [hW0]; exact ⟨by simp [go_sem], by simp [go_sem], by simp [go_sem], by simp [go_sem], by simp⟩
 replace R := hZ R
 have z0 : w.heap.size < W0.heap.size := by rw [hW0]; simp <;> omega
 replace z0 := hZ z0
 clear hW0
 replace G0 := hZ G0
 refine (r1of_any _ K _ (by have := HX.out; omega) (by omega)).mono ?_
 rintro e w1 ⟨V1, rfl, hV1, g1⟩
 obtain ⟨A3, c3, rfl, X1⟩ := hV1.slice
 clear hV1
 replace R := hZ (R.out.grew g1)
 replace z0 := hZ (lt_grew z0.out g1)
 replace G0 := hZ (G0.out.trans g1)
 clear g1
 go_wp2_with fail
 refine gen_calls ?_
 intro W1 hW1
 have gl : Grew w1 W1 := by rw [hW1]; exact (Grew.refl _).alloc _
 have y1 := hZ (R.out).2.2.2.2
 replace R := hZ (R.out.grew gl)
 replace z0 := hZ (lt_grew z0.out gl)
 replace X1 := hZ (X1.out.kept gl.keeps)
 have X5 : Num 4294967296 .u32 W1 (.slice (some ⟨w1.heap.size, 0, none⟩) 1 1) 1 1 := by rw [hW1]; exact num_one _ _
 replace X5 := hZ X5
 clear hW1
 replace G0 := hZ (G0.out.trans gl)
 clear gl
 refine (rnadd_any _ _ K 1 _ _ _ X1.out X5.out hl1.out).mono ?_
 rintro e w2 ⟨V3, rfl, hV3, g2⟩
 obtain ⟨A5, c5, rfl, X3⟩ := hV3.slice
 clear hV3
 replace R := hZ (R.out.grew g2)
 replace z0 := hZ (lt_grew z0.out g2)
 replace X1 := hZ (X1.out.kept g2.keeps)
 replace X5 := hZ (X5.out.kept g2.keeps)
 replace G0 := hZ (G0.out.trans g2)
 clear g2
 go_wp2_with fail
 refine (rmake_any _ _ (K + 1) _ _ X3.out hl.out).mono ?_
 rintro e w3 ⟨V2, rfl, hV2, g3⟩
 obtain ⟨b4, A4, n4, c4, rfl, X2, -⟩ := hV2.laid
 clear hV2
 replace R := hZ (R.out.grew g3)
 replace z0 := hZ (lt_grew z0.out g3)
 replace X1 := hZ (X1.out.kept g3.keeps)
 replace X5 := hZ (X5.out.kept g3.keeps)
 replace X3 := hZ (X3.out.kept g3.keeps)
 replace G0 := hZ (G0.out.trans g3)
 clear g3
 obtain ⟨R0, R1, Rf0, Rf1, Rs⟩ := R.out
 go_wp2_with fail
 refine gen_post ?_
 intro W9 hW9
 obtain ⟨q0, q1, qK, -, qs, qG⟩ := store2 (o := 0) R0 R1 hW9
 have GE := qG w (by omega) G0.out
 have QK := hZ qK
 clear qK qG hW9 R0 R1
 exact bodyPost_ret (v := .agg #[.bool b4, .slice A4 n4 c4]) (by simp [results, Tryz.results123, go_sem, q0, q1]) rfl ⟨_, rfl, X2.out.kept QK.out, GE⟩
theorem r2of_any (x : Int) (w : World) (h0 : -9223372036854775808 ≤ x) (h1 : x ≤ 9223372036854775807) :
  Calls Tryz.prog 123 #[.int .i64 x] w fun e w' => ∃ V, e = .returned V ∧ Whl w' V x ∧ Grew w w' := by
 rcases Int.lt_or_le x 0 with h | h
 ·obtain ⟨K, hK⟩ : ∃ K : Nat, x = -(K : Int) - 1 := ⟨(-x - 1).toNat, by omega⟩
  have := r2of_neg x K w (by omega) hK
  rw [show sgn true (K + 1) = x from by unfold sgn; simp; omega] at this
  exact this
 ·obtain ⟨N, rfl⟩ := Int.eq_ofNat_of_zero_le h
  exact r2of_pos N w (by omega)


def In64 (x y : Int) : Prop := -9223372036854775808 ≤ x ∧ x ≤ 9223372036854775807 ∧ -9223372036854775808 ≤ y ∧ y ≤ 9223372036854775807
theorem QB_i64 {x : Int} (h0 : -9223372036854775808 ≤ x) (h1 : x ≤ 9223372036854775807) : QB (x : Rat) 2 := QB_int x 2 (len_word (by omega)) (by omega)
end Go.Proofs.YtmommicmblfibaaGreat
