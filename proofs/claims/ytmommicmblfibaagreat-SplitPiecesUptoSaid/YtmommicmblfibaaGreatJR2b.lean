/- Plain: signs of fractions. Conditions: none. Plain: points of the grid that are near; the sides of a way of the grid, over lower parts. Conditions: none. r02.Make, Sign, Neg, Mul. Condition: what comes in reads; fewer than 2^36 words. r02.Add, Sub, Cmp, Of. Condition: what comes in reads; fewer than 2^36 words. -/
import Derived.Test.YtmommicmblfibaaGreatJKit
import Derived.Test.YtmommicmblfibaaGreatJRowP
import Derived.Test.YtmommicmblfibaaGreatJKit2
set_option maxRecDepth 100000
namespace Go.Proofs.YtmommicmblfibaaGreat
open Go.RowKit
theorem sgQ_int (z : Int) : sgQ (z : Rat) = sg z := by
 have h := sgQ_mkRat z 1 (by omega)
 rwa [show mkRat z 1 = (z : Rat) from (Rat.mkRat_one z)] at h
theorem mkRat_times (n : Int) (d : Nat) (h : d ≠ 0) : mkRat n d * ((d : Int) : Rat) = (n : Rat) := by
 rw [Rat.mkRat_eq_div]
 exact Rat.div_mul_cancel (fun e => h (by have e2 : ((d : Int) : Rat) = ((0 : Int) : Rat) := e; have := Rat.intCast_inj.1 e2; omega))
theorem turnQ_int (ax ay bx b_y cx cy : Int) : turnQ (ax : Rat) (ay : Rat) (bx : Rat) (b_y : Rat) (cx : Rat) (cy : Rat) = sg ((bx - ax) * (cy - ay) - (b_y - ay) * (cx - ax)) := by
 rw [turnQ_eq, ← sgQ_int]
 congr 1
 simp only [Rat.intCast_sub, Rat.intCast_mul]
set_option maxHeartbeats 4000000 in
theorem rmake_any (neg : Bool) (va : Value) (N n : Nat) (w : World) (ha : Num 4294967296 .u32 w va N n) (hs : n < 137438953472) :
  Calls Tryz.prog 95 #[.bool neg, va] w fun e w' => ∃ V, e = .returned V ∧ Whl w' V (sgn neg N) ∧ Grew w w' := by
 have hl := ha.len_le (by omega)
 have hlh := len_half N
 obtain ⟨A1, c1, rfl, Ha⟩ := ha.slice
 clear ha
 go_enter Tryz.func95, Tryz.ntmps95
 go_wp2_with fail
 refine gen_calls ?_
 intro W0 hW0
 have G0 : Grew w W0 := by rw [hW0]; exact (Grew.refl w).alloc _
 have R : Res2 W0 (w.heap.size) 0 (.bool false) (.slice none 0 0) := by rw [hW0]; exact ⟨by simp [go_sem], by simp [go_sem], by simp [go_sem], by simp [go_sem], by simp⟩
 replace R := hZ R
 have z0 : w.heap.size < W0.heap.size := by rw [hW0]; simp <;> omega
 replace z0 := hZ z0
 clear hW0
 replace Ha := hZ (Ha.out.kept G0.keeps)
 replace G0 := hZ G0
 refine (rhalf_any _ N _ _ Ha.out (by omega)).mono ?_
 rintro e w1 ⟨V1, rfl, hV1, g1⟩
 obtain ⟨A2, c2, rfl, X1⟩ := hV1.slice
 clear hV1
 replace R := hZ (R.out.grew g1)
 replace z0 := hZ (lt_grew z0.out g1)
 replace Ha := hZ (Ha.out.kept g1.keeps)
 replace G0 := hZ (G0.out.trans g1)
 clear g1
 go_wp2_with fail
 refine (rwords_any _ N _ _ X1.out (by omega)).mono ?_
 rintro e w2 ⟨V2, rfl, hV2, g2⟩
 obtain ⟨A3, c3, rfl, X2⟩ := hV2.slice
 clear hV2
 replace R := hZ (R.out.grew g2)
 replace z0 := hZ (lt_grew z0.out g2)
 replace Ha := hZ (Ha.out.kept g2.keeps)
 replace X1 := hZ (X1.out.kept g2.keeps)
 replace G0 := hZ (G0.out.trans g2)
 clear g2
 have hz : len 4294967296 N = 0 ↔ N = 0 := len_eq_zero (by omega)
 have hw : Whl w2 (.agg #[.bool (neg && decide (N ≠ 0)), .slice A3 (len 4294967296 N) c3]) (sgn neg N) := Whl.of_num X2.out
 replace hw := hZ hw
 clear hl hlh
 by_cases h0 : N = 0
 ·as_aux_lemma =>
  have e0 : decide (N ≠ 0) = false := by simp [h0]
  rw [e0] at hw
  have hn0 := hz.2 h0
  generalize len 4294967296 N = k at *
  subst hn0
  clear e0 h0 hz
  cases neg
  ·skip
   obtain ⟨R0, R1, Rf0, Rf1, Rs⟩ := R.out
   go_wp2_with fail
   refine gen_post ?_
   intro W9 hW9
   obtain ⟨q0, q1, qK, -, qs, qG⟩ := store2 (o := 0) R0 R1 hW9
   have GE := qG w (by omega) G0.out
   have QK := hZ qK
   clear qK qG hW9 R0 R1
   exact bodyPost_ret (v := .agg #[.bool false, .slice A3 0 c3]) (by simp [results, Tryz.results95, go_sem, q0, q1]) rfl ⟨_, rfl, hw.out.kept QK.out, GE⟩
  ·skip
   obtain ⟨R0, R1, Rf0, Rf1, Rs⟩ := R.out
   go_wp2_with fail
   refine gen_post ?_
   intro W9 hW9
   obtain ⟨q0, q1, qK, -, qs, qG⟩ := store2 (o := 0) R0 R1 hW9
   have GE := qG w (by omega) G0.out
   have QK := hZ qK
   clear qK qG hW9 R0 R1
   exact bodyPost_ret (v := .agg #[.bool false, .slice A3 0 c3]) (by simp [results, Tryz.results95, go_sem, q0, q1]) rfl ⟨_, rfl, hw.out.kept QK.out, GE⟩
 ·as_aux_lemma =>
  have e0 : decide (N ≠ 0) = true := by simp [h0]
  rw [e0] at hw
  have hn0 : 0 < len 4294967296 N := by
   rcases Nat.eq_zero_or_pos (len 4294967296 N) with h | h
   ·exact absurd (hz.1 h) h0
   ·exact h
  generalize len 4294967296 N = k at *
  have hp : (0 : Int) < (k : Int) := by omega
  clear e0 h0 hz
  cases neg
  ·skip
   obtain ⟨R0, R1, Rf0, Rf1, Rs⟩ := R.out
   go_wp2_with fail
   refine gen_post ?_
   intro W9 hW9
   obtain ⟨q0, q1, qK, -, qs, qG⟩ := store2 (o := 0) R0 R1 hW9
   have GE := qG w (by omega) G0.out
   have QK := hZ qK
   clear qK qG hW9 R0 R1
   exact bodyPost_ret (v := .agg #[.bool false, .slice A3 k c3]) (by simp [results, Tryz.results95, go_sem, q0, q1]) rfl ⟨_, rfl, hw.out.kept QK.out, GE⟩
  ·skip
   obtain ⟨R0, R1, Rf0, Rf1, Rs⟩ := R.out
   go_wp2_with fail
   refine gen_post ?_
   intro W9 hW9
   obtain ⟨q0, q1, qK, -, qs, qG⟩ := store2 (o := 0) R0 R1 hW9
   have GE := qG w (by omega) G0.out
   have QK := hZ qK
   clear qK qG hW9 R0 R1
   exact bodyPost_ret (v := .agg #[.bool true, .slice A3 k c3]) (by simp [results, Tryz.results95, go_sem, q0, q1]) rfl ⟨_, rfl, hw.out.kept QK.out, GE⟩
set_option maxHeartbeats 4000000 in
theorem r2sign_any (Va : Value) (z : Int) (k : Nat) (w : World) (ha : WhlR w Va z k) (hs : k < 137438953472) :
  Calls Tryz.prog 130 #[Va] w fun e w' => e = .returned (.int .i64 (sg z)) ∧ Grew w w' := by
 obtain ⟨b1, A1, n1, c1, N, rfl, Na, Ez, hk⟩ := ha.open
 clear ha
 go_enter Tryz.func130, Tryz.ntmps130
 go_wp2_with fail
 refine gen_calls ?_
 intro W0 hW0
 have G0 : Grew w W0 := by rw [hW0]; exact (Grew.refl w).alloc _
 have P : Box2 W0 (w.heap.size) 0 (.bool b1) (.slice A1 n1 c1) := by rw [hW0]; exact ⟨by simp [go_sem], by simp [go_sem]⟩
 replace P := hZ P
 have z0 : w.heap.size < W0.heap.size := by rw [hW0]; simp <;> omega
 replace z0 := hZ z0
 clear hW0
 replace Na := hZ (Na.out.kept G0.keeps)
 replace G0 := hZ G0
 refine (rbits_any _ N _ _ Na.out (by omega)).mono ?_
 rintro e w1 ⟨bb, rfl, hb, g1⟩
 replace P := hZ (P.out.grew g1)
 replace z0 := hZ (lt_grew z0.out g1)
 replace Na := hZ (Na.out.kept g1.keeps)
 replace G0 := hZ (G0.out.trans g1)
 clear g1
 rcases Nat.eq_zero_or_pos bb with rfl | hp
 ·have e1 : sg z = 0 := by rw [← Ez.out, hb.1 rfl]; unfold sg sgn; cases b1 <;> simp
  replace e1 := hZ e1
  clear hb
  go_wp2_with fail
  go_ret
  exact ⟨by rw [e1.out]; rfl, G0.out⟩
 ·have hN : N ≠ 0 := fun e => by have := hb.2 e; omega
  have hbb : ((bb : Int) == 0) = false := by simp; omega
  clear hb
  cases b1
  ·have e1 : sg z = 1 := by rw [← Ez.out]; unfold sg sgn; simp; omega
   replace e1 := hZ e1
   obtain ⟨P0, P1⟩ := P.out
   go_wp2_with fail
   clear P0 P1
   go_ret
   exact ⟨by rw [e1.out]; rfl, G0.out⟩
  ·have e1 : sg z = -1 := by rw [← Ez.out]; unfold sg sgn; simp; omega
   replace e1 := hZ e1
   obtain ⟨P0, P1⟩ := P.out
   go_wp2_with fail
   clear P0 P1
   go_ret
   exact ⟨by rw [e1.out]; rfl, G0.out⟩
set_option maxHeartbeats 4000000 in
theorem r2neg_any (Va : Value) (z : Int) (k : Nat) (w : World) (ha : WhlR w Va z k) (hs : k < 137438953472) :
  Calls Tryz.prog 162 #[Va] w fun e w' => ∃ V, e = .returned V ∧ Whl w' V (-z) ∧ Grew w w' := by
 obtain ⟨b1, A1, n1, c1, N, rfl, Na, Ez, hk⟩ := ha.open
 have e1 : sgn (!b1) N = -z := by rw [sgn_not, Ez.out]
 replace e1 := hZ e1
 clear ha
 go_enter Tryz.func162, Tryz.ntmps162
 go_wp2_with fail
 refine gen_calls ?_
 intro W0 hW0
 have G0 : Grew w W0 := by rw [hW0]; exact ((Grew.refl w).alloc _).alloc _
 have P : Box2 W0 (w.heap.size) 0 (.bool b1) (.slice A1 n1 c1) := by rw [hW0]; exact ⟨by simp [go_sem], by simp [go_sem]⟩
 replace P := hZ P
 have R : Res2 W0 (w.heap.size + 1) 0 (.bool false) (.slice none 0 0) := by rw [hW0]; exact ⟨by simp [go_sem], by simp [go_sem], by simp [go_sem], by simp [go_sem], by simp⟩
 replace R := hZ R
 have z0 : w.heap.size < W0.heap.size := by rw [hW0]; simp <;> omega
 replace z0 := hZ z0
 have z1 : w.heap.size + 1 < W0.heap.size := by rw [hW0]; simp <;> omega
 replace z1 := hZ z1
 clear hW0
 replace Na := hZ (Na.out.kept G0.keeps)
 replace G0 := hZ G0
 refine (rmake_any (!b1) _ N _ _ Na.out (by omega)).mono ?_
 rintro e w1 ⟨V1, rfl, hV1, g1⟩
 obtain ⟨b2, A2, n2, c2, rfl, X1, -⟩ := hV1.laid
 clear hV1
 replace R := hZ (R.out.grew g1)
 replace P := hZ (P.out.grew g1)
 replace z0 := hZ (lt_grew z0.out g1)
 replace z1 := hZ (lt_grew z1.out g1)
 replace Na := hZ (Na.out.kept g1.keeps)
 replace G0 := hZ (G0.out.trans g1)
 clear g1
 obtain ⟨R0, R1, Rf0, Rf1, Rs⟩ := R.out
 go_wp2_with fail
 refine gen_post ?_
 intro W9 hW9
 obtain ⟨q0, q1, qK, -, qs, qG⟩ := store2 (o := 0) R0 R1 hW9
 have GE := qG w (by omega) G0.out
 have QK := hZ qK
 clear qK qG hW9 R0 R1
 exact bodyPost_ret (v := .agg #[.bool b2, .slice A2 n2 c2]) (by simp [results, Tryz.results162, go_sem, q0, q1]) rfl ⟨_, rfl, by rw [← e1.out]; exact X1.out.kept QK.out, GE⟩
set_option maxHeartbeats 4000000 in
theorem r2mul_any (Va Vb : Value) (z y : Int) (k l : Nat) (w : World) (ha : WhlR w Va z k) (hb : WhlR w Vb y l) (hs : k < 34359738368 ∧ l < 34359738368) :
  Calls Tryz.prog 87 #[Va, Vb] w fun e w' => ∃ V, e = .returned V ∧ Whl w' V (z * y) ∧ Grew w w' := by
 obtain ⟨b1, A1, n1, c1, N, rfl, Na, Ez, hk⟩ := ha.open
 obtain ⟨b2, A2, n2, c2, M, rfl, Nb, Ey, hl⟩ := hb.open
 have e1 : sgn (b1 != b2) (N * M) = z * y := by rw [sgn_mul, Ez.out, Ey.out]
 have k1 := Na.out.len_le (by omega)
 have k2 := Nb.out.len_le (by omega)
 have k3 := len_mul (B := 4294967296) (by omega) N M _ _ k1 k2
 have hk9 := hZ (show len 4294967296 (N * M) < 137438953472 by omega)
 have hkl := hZ (show n1 < 137438953472 ∧ n2 < 137438953472 by omega)
 replace e1 := hZ e1
 clear ha hb k1 k2 k3 hk hl hs
 go_enter Tryz.func87, Tryz.ntmps87
 go_wp2_with fail
 refine gen_wp ?_
 intro W0 hW0
 have G0 : Grew w W0 := by rw [hW0]; exact (((Grew.refl w).alloc _).alloc _).alloc _
 have P : Box2 W0 (w.heap.size) 0 (.bool b1) (.slice A1 n1 c1) := by rw [hW0]; exact ⟨by simp [go_sem], by simp [go_sem]⟩
 replace P := hZ P
 have Q : Box2 W0 (w.heap.size + 1) 0 (.bool b2) (.slice A2 n2 c2) := by rw [hW0]; exact ⟨by simp [go_sem], by simp [go_sem]⟩
 replace Q := hZ Q
 have R : Res2 W0 (w.heap.size + 1 + 1) 0 (.bool false) (.slice none 0 0) := by rw [hW0]; exact ⟨by simp [go_sem], by simp [go_sem], by simp [go_sem], by simp [go_sem], by simp⟩
 replace R := hZ R
 have z0 : w.heap.size < W0.heap.size := by rw [hW0]; simp <;> omega
 replace z0 := hZ z0
 have z1 : w.heap.size + 1 < W0.heap.size := by rw [hW0]; simp <;> omega
 replace z1 := hZ z1
 have z2 : w.heap.size + 1 + 1 < W0.heap.size := by rw [hW0]; simp <;> omega
 replace z2 := hZ z2
 clear hW0
 replace Na := hZ (Na.out.kept G0.keeps)
 replace Nb := hZ (Nb.out.kept G0.keeps)
 replace G0 := hZ G0
 have gd : Grew W0 W0.drew := (Grew.refl W0).drew
 replace R := hZ (R.out.grew gd)
 replace P := hZ (P.out.grew gd)
 replace Q := hZ (Q.out.grew gd)
 replace z0 := hZ (lt_grew z0.out gd)
 replace z1 := hZ (lt_grew z1.out gd)
 replace z2 := hZ (lt_grew z2.out gd)
 replace Na := hZ (Na.out.kept gd.keeps)
 replace Nb := hZ (Nb.out.kept gd.keeps)
 replace gd := hZ gd
 have ZP := P
 have ZQ := Q
 go_region_held3 (fun w' => w'.cell? ⟨w.heap.size, 0, none⟩ = some (.bool b1) ∧ w'.cell? ⟨w.heap.size, 1, none⟩ = some (.slice A1 n1 c1) ∧ w'.cell? ⟨w.heap.size + 1, 0, none⟩ = some (.bool b2) ∧ w'.cell? ⟨w.heap.size + 1, 1, none⟩ = some (.slice A2 n2 c2))
  (first | (with_reducible exact ⟨ZP.out.p0, ZP.out.p1, ZQ.out.p0, ZQ.out.p1⟩) | (with_reducible exact ⟨g1.cell ZP.out.p0, g1.cell ZP.out.p1, g1.cell ZQ.out.p0, g1.cell ZQ.out.p1⟩) | (with_reducible exact ⟨(g1.trans g2).cell ZP.out.p0, (g1.trans g2).cell ZP.out.p1, (g1.trans g2).cell ZQ.out.p0, (g1.trans g2).cell ZQ.out.p1⟩) | (with_reducible exact ⟨other2 (o := 0) (by omega) ((g1.trans g2).cell ZP.out.p0), other2 (o := 0) (by omega) ((g1.trans g2).cell ZP.out.p1), other2 (o := 0) (by omega) ((g1.trans g2).cell ZQ.out.p0), other2 (o := 0) (by omega) ((g1.trans g2).cell ZQ.out.p1)⟩))
  (first | (go_at_call 132; refine (rMul_any _ _ N M _ _ _ Na.out Nb.out hkl.out).mono ?_; rintro e w1 ⟨V1, rfl, hV1, g1⟩; obtain ⟨A3, c3, rfl, X1⟩ := hV1.slice; clear hV1; replace R := hZ (R.out.grew g1); replace P := hZ (P.out.grew g1); replace Q := hZ (Q.out.grew g1); replace z0 := hZ (lt_grew z0.out g1); replace z1 := hZ (lt_grew z1.out g1); replace z2 := hZ (lt_grew z2.out g1); replace Na := hZ (Na.out.kept g1.keeps); replace Nb := hZ (Nb.out.kept g1.keeps)) | (go_at_call 95; refine (rmake_any _ _ (N * M) _ _ X1.out hk9.out).mono ?_; rintro e w2 ⟨V2, rfl, hV2, g2⟩; obtain ⟨b4, A4, n4, c4, rfl, X2, -⟩ := hV2.laid; clear hV2; replace R := hZ (R.out.grew g2); replace P := hZ (P.out.grew g2); replace Q := hZ (Q.out.grew g2); replace z0 := hZ (lt_grew z0.out g2); replace z1 := hZ (lt_grew z1.out g2); replace z2 := hZ (lt_grew z2.out g2); replace Na := hZ (Na.out.kept g2.keeps); replace Nb := hZ (Nb.out.kept g2.keeps); replace X1 := hZ (X1.out.kept g2.keeps); obtain ⟨R0, R1, Rf0, Rf1, Rs⟩ := R.out))
 replace G0 := hZ (((G0.out.trans gd.out).trans g1).trans g2)
 clear gd g1 g2 ZP ZQ
 refine gen_then ?_
 intro W9 hW9
 obtain ⟨q0, q1, qK, -, qs, qG⟩ := store2 (o := 0) R0 R1 hW9
 have GE := qG w (by omega) G0.out
 have QK := hZ qK
 clear qK qG hW9 R0 R1
 go_wp2_with fail
 exact bodyPost_ret (v := .agg #[.bool b4, .slice A4 n4 c4]) (by simp [results, Tryz.results87, go_sem, q0, q1]) rfl ⟨_, rfl, by rw [← e1.out]; exact X2.out.kept QK.out, GE⟩
theorem sgn_diff_ge (b : Bool) {N M : Nat} (h : M ≤ N) : sgn b (N - M) = sgn b N + sgn (!b) M := by
 unfold sgn; cases b <;> simp <;> omega
theorem sgn_diff_lt (b : Bool) {N M : Nat} (h : N < M) : sgn (!b) (M - N) = sgn b N + sgn (!b) M := by
 unfold sgn; cases b <;> simp <;> omega
set_option maxHeartbeats 8000000 in
theorem r2add_any (Va Vb : Value) (z y : Int) (k l : Nat) (w : World) (ha : WhlR w Va z k) (hb : WhlR w Vb y l) (hs : k < 68719476736 ∧ l < 68719476736) :
  Calls Tryz.prog 161 #[Va, Vb] w fun e w' => ∃ V, e = .returned V ∧ Whl w' V (z + y) ∧ Grew w w' := by
 obtain ⟨b1, A1, n1, c1, N, rfl, Na, Ez, hk⟩ := ha.open
 obtain ⟨b2, A2, n2, c2, M, rfl, Nb, Ey, hl⟩ := hb.open
 have k1 := Na.out.len_le (by omega)
 have k2 := Nb.out.len_le (by omega)
 have k3 := len_add (B := 4294967296) (by omega) N M 68719476735 (by omega) (by omega)
 have hk9 := hZ (show len 4294967296 (N + M) < 137438953472 by omega)
 have hkl := hZ (show n1 < 274877906944 ∧ n2 < 274877906944 by omega)
 have hkl2 := hZ (show n2 < 274877906944 ∧ n1 < 274877906944 by omega)
 have kd1 := hZ (show len 4294967296 (N - M) < 137438953472 by have := len_mono (B := 4294967296) (by omega) (Nat.sub_le N M); omega)
 have kd2 := hZ (show len 4294967296 (M - N) < 137438953472 by have := len_mono (B := 4294967296) (by omega) (Nat.sub_le M N); omega)
 clear ha hb k1 k2 k3 hk hl hs
 by_cases hbb : b1 = b2
 ·as_aux_lemma =>
  subst hbb
  have e1 : sgn b1 (N + M) = z + y := by rw [sgn_add, Ez.out, Ey.out]
  replace e1 := hZ e1
  go_enter Tryz.func161, Tryz.ntmps161
  go_wp2_with fail
  refine gen_wp ?_
  intro W0 hW0
  have G0 : Grew w W0 := by rw [hW0]; exact (((Grew.refl w).alloc _).alloc _).alloc _
  have P : Box2 W0 (w.heap.size) 0 (.bool b1) (.slice A1 n1 c1) := by rw [hW0]; exact ⟨by simp [go_sem], by simp [go_sem]⟩
  replace P := hZ P
  have Q : Box2 W0 (w.heap.size + 1) 0 (.bool b1) (.slice A2 n2 c2) := by rw [hW0]; exact ⟨by simp [go_sem], by simp [go_sem]⟩
  replace Q := hZ Q
  have R : Res2 W0 (w.heap.size + 1 + 1) 0 (.bool false) (.slice none 0 0) := by rw [hW0]; exact ⟨by simp [go_sem], by simp [go_sem], by simp [go_sem], by simp [go_sem], by simp⟩
  replace R := hZ R
  have z0 : w.heap.size < W0.heap.size := by rw [hW0]; simp <;> omega
  replace z0 := hZ z0
  have z1 : w.heap.size + 1 < W0.heap.size := by rw [hW0]; simp <;> omega
  replace z1 := hZ z1
  have z2 : w.heap.size + 1 + 1 < W0.heap.size := by rw [hW0]; simp <;> omega
  replace z2 := hZ z2
  clear hW0
  replace Na := hZ (Na.out.kept G0.keeps)
  replace Nb := hZ (Nb.out.kept G0.keeps)
  replace G0 := hZ G0
  have gd : Grew W0 W0.drew := (Grew.refl W0).drew
  replace R := hZ (R.out.grew gd)
  replace P := hZ (P.out.grew gd)
  replace Q := hZ (Q.out.grew gd)
  replace z0 := hZ (lt_grew z0.out gd)
  replace z1 := hZ (lt_grew z1.out gd)
  replace z2 := hZ (lt_grew z2.out gd)
  replace Na := hZ (Na.out.kept gd.keeps)
  replace Nb := hZ (Nb.out.kept gd.keeps)
  replace gd := hZ gd
  have ZP := P
  have ZQ := Q
  go_region_held3 (fun w' => w'.cell? ⟨w.heap.size, 0, none⟩ = some (.bool b1) ∧ w'.cell? ⟨w.heap.size, 1, none⟩ = some (.slice A1 n1 c1) ∧ w'.cell? ⟨w.heap.size + 1, 0, none⟩ = some (.bool b1) ∧ w'.cell? ⟨w.heap.size + 1, 1, none⟩ = some (.slice A2 n2 c2))
   (first | (with_reducible exact ⟨ZP.out.p0, ZP.out.p1, ZQ.out.p0, ZQ.out.p1⟩) | (with_reducible exact ⟨g1.cell ZP.out.p0, g1.cell ZP.out.p1, g1.cell ZQ.out.p0, g1.cell ZQ.out.p1⟩) | (with_reducible exact ⟨(g1.trans g2).cell ZP.out.p0, (g1.trans g2).cell ZP.out.p1, (g1.trans g2).cell ZQ.out.p0, (g1.trans g2).cell ZQ.out.p1⟩) | (with_reducible exact ⟨other2 (o := 0) (by omega) ((g1.trans g2).cell ZP.out.p0), other2 (o := 0) (by omega) ((g1.trans g2).cell ZP.out.p1), other2 (o := 0) (by omega) ((g1.trans g2).cell ZQ.out.p0), other2 (o := 0) (by omega) ((g1.trans g2).cell ZQ.out.p1)⟩))
   (first | (go_at_call 159; refine (rnadd_any _ _ N M _ _ _ Na.out Nb.out hkl.out).mono ?_; rintro e w1 ⟨V1, rfl, hV1, g1⟩; obtain ⟨A3, c3, rfl, X1⟩ := hV1.slice; clear hV1; replace R := hZ (R.out.grew g1); replace P := hZ (P.out.grew g1); replace Q := hZ (Q.out.grew g1); replace z0 := hZ (lt_grew z0.out g1); replace z1 := hZ (lt_grew z1.out g1); replace z2 := hZ (lt_grew z2.out g1); replace Na := hZ (Na.out.kept g1.keeps); replace Nb := hZ (Nb.out.kept g1.keeps)) | (go_at_call 95; refine (rmake_any _ _ (N + M) _ _ X1.out hk9.out).mono ?_; rintro e w2 ⟨V2, rfl, hV2, g2⟩; obtain ⟨b4, A4, n4, c4, rfl, X2, -⟩ := hV2.laid; clear hV2; replace R := hZ (R.out.grew g2); replace P := hZ (P.out.grew g2); replace Q := hZ (Q.out.grew g2); replace z0 := hZ (lt_grew z0.out g2); replace z1 := hZ (lt_grew z1.out g2); replace z2 := hZ (lt_grew z2.out g2); replace Na := hZ (Na.out.kept g2.keeps); replace Nb := hZ (Nb.out.kept g2.keeps); replace X1 := hZ (X1.out.kept g2.keeps); obtain ⟨R0, R1, Rf0, Rf1, Rs⟩ := R.out))
  replace G0 := hZ (((G0.out.trans gd.out).trans g1).trans g2)
  clear gd g1 g2 ZP ZQ
  refine gen_then ?_
  intro W9 hW9
  obtain ⟨q0, q1, qK, -, qs, qG⟩ := store2 (o := 0) R0 R1 hW9
  have GE := qG w (by omega) G0.out
  have QK := hZ qK
  clear qK qG hW9 R0 R1
  go_wp2_with fail
  exact bodyPost_ret (v := .agg #[.bool b4, .slice A4 n4 c4]) (by simp [results, Tryz.results161, go_sem, q0, q1]) rfl ⟨_, rfl, by rw [← e1.out]; exact X2.out.kept QK.out, GE⟩
 ·obtain rfl : b2 = !b1 := by cases b1 <;> cases b2 <;> simp_all
  clear hbb
  go_enter Tryz.func161, Tryz.ntmps161
  go_wp2_with fail
  refine gen_calls ?_
  intro W0 hW0
  have G0 : Grew w W0 := by rw [hW0]; exact (((Grew.refl w).alloc _).alloc _).alloc _
  have P : Box2 W0 (w.heap.size) 0 (.bool b1) (.slice A1 n1 c1) := by rw [hW0]; exact ⟨by simp [go_sem], by simp [go_sem]⟩
  replace P := hZ P
  have Q : Box2 W0 (w.heap.size + 1) 0 (.bool (!b1)) (.slice A2 n2 c2) := by rw [hW0]; exact ⟨by simp [go_sem], by simp [go_sem]⟩
  replace Q := hZ Q
  have R : Res2 W0 (w.heap.size + 1 + 1) 0 (.bool false) (.slice none 0 0) := by rw [hW0]; exact ⟨by simp [go_sem], by simp [go_sem], by simp [go_sem], by simp [go_sem], by simp⟩
  replace R := hZ R
  have z0 : w.heap.size < W0.heap.size := by rw [hW0]; simp <;> omega
  replace z0 := hZ z0
  have z1 : w.heap.size + 1 < W0.heap.size := by rw [hW0]; simp <;> omega
  replace z1 := hZ z1
  have z2 : w.heap.size + 1 + 1 < W0.heap.size := by rw [hW0]; simp <;> omega
  replace z2 := hZ z2
  clear hW0
  replace Na := hZ (Na.out.kept G0.keeps)
  replace Nb := hZ (Nb.out.kept G0.keeps)
  replace G0 := hZ G0
  refine (rCmp_any _ _ N M _ _ _ Na.out Nb.out hkl.out).mono ?_
  rintro e w1 ⟨rfl, g1⟩
  replace R := hZ (R.out.grew g1)
  replace P := hZ (P.out.grew g1)
  replace Q := hZ (Q.out.grew g1)
  replace z0 := hZ (lt_grew z0.out g1)
  replace z1 := hZ (lt_grew z1.out g1)
  replace z2 := hZ (lt_grew z2.out g1)
  replace Na := hZ (Na.out.kept g1.keeps)
  replace Nb := hZ (Nb.out.kept g1.keeps)
  replace G0 := hZ (G0.out.trans g1)
  clear g1
  rcases Nat.lt_or_ge N M with hlt | hge
  ·as_aux_lemma =>
   rw [cmpN_lt hlt]
   have e1 : sgn (!b1) (M - N) = z + y := by rw [sgn_diff_lt b1 hlt, Ez.out, Ey.out]
   replace e1 := hZ e1
   have hle := hZ (Nat.le_of_lt hlt)
   clear hlt
   obtain ⟨P0, P1⟩ := P.out
   obtain ⟨Q0, Q1⟩ := Q.out
   go_wp2_with fail
   clear P0 P1 Q0 Q1
   refine (rSub_yes _ _ M N _ _ _ Nb.out Na.out hkl2.out hle.out).mono ?_
   rintro e w2 ⟨V1, rfl, hV1, g2⟩
   obtain ⟨A3, c3, rfl, X1⟩ := hV1.slice
   clear hV1
   replace R := hZ (R.out.grew g2)
   replace P := hZ (P.out.grew g2)
   replace Q := hZ (Q.out.grew g2)
   replace z0 := hZ (lt_grew z0.out g2)
   replace z1 := hZ (lt_grew z1.out g2)
   replace z2 := hZ (lt_grew z2.out g2)
   replace Na := hZ (Na.out.kept g2.keeps)
   replace Nb := hZ (Nb.out.kept g2.keeps)
   replace G0 := hZ (G0.out.trans g2)
   clear g2
   obtain ⟨P0, P1⟩ := P.out
   obtain ⟨Q0, Q1⟩ := Q.out
   go_wp2_with fail
   clear P0 P1 Q0 Q1
   refine (rmake_any (!b1) _ (M - N) _ _ X1.out kd2.out).mono ?_
   rintro e w3 ⟨V2, rfl, hV2, g3⟩
   obtain ⟨b4, A4, n4, c4, rfl, X2, -⟩ := hV2.laid
   clear hV2
   replace R := hZ (R.out.grew g3)
   replace P := hZ (P.out.grew g3)
   replace Q := hZ (Q.out.grew g3)
   replace z0 := hZ (lt_grew z0.out g3)
   replace z1 := hZ (lt_grew z1.out g3)
   replace z2 := hZ (lt_grew z2.out g3)
   replace Na := hZ (Na.out.kept g3.keeps)
   replace Nb := hZ (Nb.out.kept g3.keeps)
   replace X1 := hZ (X1.out.kept g3.keeps)
   replace G0 := hZ (G0.out.trans g3)
   clear g3
   obtain ⟨R0, R1, Rf0, Rf1, Rs⟩ := R.out
   go_wp2_with fail
   refine gen_post ?_
   intro W9 hW9
   obtain ⟨q0, q1, qK, -, qs, qG⟩ := store2 (o := 0) R0 R1 hW9
   have GE := qG w (by omega) G0.out
   have QK := hZ qK
   clear qK qG hW9 R0 R1
   exact bodyPost_ret (v := .agg #[.bool b4, .slice A4 n4 c4]) (by simp [results, Tryz.results161, go_sem, q0, q1]) rfl ⟨_, rfl, by rw [← e1.out]; exact X2.out.kept QK.out, GE⟩
  ·as_aux_lemma =>
   have hc0 : 0 ≤ cmpN N M := by
    unfold cmpN
    rw [if_neg (by omega)]
    split <;> omega
   generalize cmpN N M = cm at *
   have e1 : sgn b1 (N - M) = z + y := by rw [sgn_diff_ge b1 hge, Ez.out, Ey.out]
   replace e1 := hZ e1
   replace hge := hZ hge
   obtain ⟨P0, P1⟩ := P.out
   obtain ⟨Q0, Q1⟩ := Q.out
   go_wp2_with fail
   clear P0 P1 Q0 Q1
   refine (rSub_yes _ _ N M _ _ _ Na.out Nb.out hkl.out hge.out).mono ?_
   rintro e w2 ⟨V1, rfl, hV1, g2⟩
   obtain ⟨A3, c3, rfl, X1⟩ := hV1.slice
   clear hV1
   replace R := hZ (R.out.grew g2)
   replace P := hZ (P.out.grew g2)
   replace Q := hZ (Q.out.grew g2)
   replace z0 := hZ (lt_grew z0.out g2)
   replace z1 := hZ (lt_grew z1.out g2)
   replace z2 := hZ (lt_grew z2.out g2)
   replace Na := hZ (Na.out.kept g2.keeps)
   replace Nb := hZ (Nb.out.kept g2.keeps)
   replace G0 := hZ (G0.out.trans g2)
   clear g2
   obtain ⟨P0, P1⟩ := P.out
   obtain ⟨Q0, Q1⟩ := Q.out
   go_wp2_with fail
   clear P0 P1 Q0 Q1
   refine (rmake_any b1 _ (N - M) _ _ X1.out kd1.out).mono ?_
   rintro e w3 ⟨V2, rfl, hV2, g3⟩
   obtain ⟨b4, A4, n4, c4, rfl, X2, -⟩ := hV2.laid
   clear hV2
   replace R := hZ (R.out.grew g3)
   replace P := hZ (P.out.grew g3)
   replace Q := hZ (Q.out.grew g3)
   replace z0 := hZ (lt_grew z0.out g3)
   replace z1 := hZ (lt_grew z1.out g3)
   replace z2 := hZ (lt_grew z2.out g3)
   replace Na := hZ (Na.out.kept g3.keeps)
   replace Nb := hZ (Nb.out.kept g3.keeps)
   replace X1 := hZ (X1.out.kept g3.keeps)
   replace G0 := hZ (G0.out.trans g3)
   clear g3
   obtain ⟨R0, R1, Rf0, Rf1, Rs⟩ := R.out
   go_wp2_with fail
   refine gen_post ?_
   intro W9 hW9
   obtain ⟨q0, q1, qK, -, qs, qG⟩ := store2 (o := 0) R0 R1 hW9
   have GE := qG w (by omega) G0.out
   have QK := hZ qK
   clear qK qG hW9 R0 R1
   exact bodyPost_ret (v := .agg #[.bool b4, .slice A4 n4 c4]) (by simp [results, Tryz.results161, go_sem, q0, q1]) rfl ⟨_, rfl, by rw [← e1.out]; exact X2.out.kept QK.out, GE⟩
theorem WhlR.len {w : World} {V : Value} {z : Int} {k : Nat} (h : WhlR w V z k) : len 4294967296 z.natAbs ≤ k := by
 obtain ⟨neg, N, n, v, rfl, hn, h1, h2⟩ := h
 have := hn.len_le (by omega)
 rw [← h1, sgn_abs]; omega
set_option maxHeartbeats 8000000 in
theorem r2sub_any (Va Vb : Value) (z y : Int) (k l : Nat) (w : World) (ha : WhlR w Va z k) (hb : WhlR w Vb y l) (hs : k < 68719476736 ∧ l < 68719476736) :
  Calls Tryz.prog 131 #[Va, Vb] w fun e w' => ∃ V, e = .returned V ∧ Whl w' V (z - y) ∧ Grew w w' := by
 have hyl := hb.len
 obtain ⟨b1, A1, n1, c1, N, rfl, -, -, -⟩ := ha.open
 obtain ⟨b2, A2, n2, c2, M, rfl, -, -, -⟩ := hb.open
 have Ra := hZ ha
 have Rb := hZ hb
 have hl2 := hZ (show l < 137438953472 by omega)
 have hny := hZ (show len 4294967296 (-y).natAbs ≤ l by rw [Int.natAbs_neg]; exact hyl)
 have hs2 := hZ hs
 clear ha hb hyl hs
 go_enter Tryz.func131, Tryz.ntmps131
 go_wp2_with fail
 refine gen_wp ?_
 intro W0 hW0
 have G0 : Grew w W0 := by rw [hW0]; exact (((Grew.refl w).alloc _).alloc _).alloc _
 have P : Box2 W0 (w.heap.size) 0 (.bool b1) (.slice A1 n1 c1) := by rw [hW0]; exact ⟨by simp [go_sem], by simp [go_sem]⟩
 replace P := hZ P
 have Q : Box2 W0 (w.heap.size + 1) 0 (.bool b2) (.slice A2 n2 c2) := by rw [hW0]; exact ⟨by simp [go_sem], by simp [go_sem]⟩
 replace Q := hZ Q
 have R : Res2 W0 (w.heap.size + 1 + 1) 0 (.bool false) (.slice none 0 0) := by rw [hW0]; exact ⟨by simp [go_sem], by simp [go_sem], by simp [go_sem], by simp [go_sem], by simp⟩
 replace R := hZ R
 have z0 : w.heap.size < W0.heap.size := by rw [hW0]; simp <;> omega
 replace z0 := hZ z0
 have z1 : w.heap.size + 1 < W0.heap.size := by rw [hW0]; simp <;> omega
 replace z1 := hZ z1
 have z2 : w.heap.size + 1 + 1 < W0.heap.size := by rw [hW0]; simp <;> omega
 replace z2 := hZ z2
 clear hW0
 replace Ra := hZ (Ra.out.kept G0.keeps)
 replace Rb := hZ (Rb.out.kept G0.keeps)
 replace G0 := hZ G0
 have gd : Grew W0 W0.drew := (Grew.refl W0).drew
 replace R := hZ (R.out.grew gd)
 replace P := hZ (P.out.grew gd)
 replace Q := hZ (Q.out.grew gd)
 replace z0 := hZ (lt_grew z0.out gd)
 replace z1 := hZ (lt_grew z1.out gd)
 replace z2 := hZ (lt_grew z2.out gd)
 replace Ra := hZ (Ra.out.kept gd.keeps)
 replace Rb := hZ (Rb.out.kept gd.keeps)
 replace gd := hZ gd
 have ZP := P
 have ZQ := Q
 go_region_held3 (fun w' => w'.cell? ⟨w.heap.size, 0, none⟩ = some (.bool b1) ∧ w'.cell? ⟨w.heap.size, 1, none⟩ = some (.slice A1 n1 c1) ∧ w'.cell? ⟨w.heap.size + 1, 0, none⟩ = some (.bool b2) ∧ w'.cell? ⟨w.heap.size + 1, 1, none⟩ = some (.slice A2 n2 c2))
  (first | (with_reducible exact ⟨ZP.out.p0, ZP.out.p1, ZQ.out.p0, ZQ.out.p1⟩) | (with_reducible exact ⟨g1.cell ZP.out.p0, g1.cell ZP.out.p1, g1.cell ZQ.out.p0, g1.cell ZQ.out.p1⟩) | (with_reducible exact ⟨(g1.trans g2).cell ZP.out.p0, (g1.trans g2).cell ZP.out.p1, (g1.trans g2).cell ZQ.out.p0, (g1.trans g2).cell ZQ.out.p1⟩) | (with_reducible exact ⟨other2 (o := 0) (by omega) ((g1.trans g2).cell ZP.out.p0), other2 (o := 0) (by omega) ((g1.trans g2).cell ZP.out.p1), other2 (o := 0) (by omega) ((g1.trans g2).cell ZQ.out.p0), other2 (o := 0) (by omega) ((g1.trans g2).cell ZQ.out.p1)⟩))
  (first | (go_at_call 162; refine (r2neg_any _ y l _ Rb.out hl2.out).mono ?_; rintro e w1 ⟨V1, rfl, hV1, g1⟩; obtain ⟨b3, A3, n3, c3, rfl, hX, -⟩ := hV1.laid; have X1 := hZ (hX.out.r hny.out); clear hV1 hX; replace R := hZ (R.out.grew g1); replace P := hZ (P.out.grew g1); replace Q := hZ (Q.out.grew g1); replace z0 := hZ (lt_grew z0.out g1); replace z1 := hZ (lt_grew z1.out g1); replace z2 := hZ (lt_grew z2.out g1); replace Ra := hZ (Ra.out.kept g1.keeps); replace Rb := hZ (Rb.out.kept g1.keeps)) | (go_at_call 161; refine (r2add_any _ _ z (-y) k l _ Ra.out X1.out hs2.out).mono ?_; rintro e w2 ⟨V2, rfl, hV2, g2⟩; obtain ⟨b4, A4, n4, c4, rfl, X2, -⟩ := hV2.laid; clear hV2; replace R := hZ (R.out.grew g2); replace P := hZ (P.out.grew g2); replace Q := hZ (Q.out.grew g2); replace z0 := hZ (lt_grew z0.out g2); replace z1 := hZ (lt_grew z1.out g2); replace z2 := hZ (lt_grew z2.out g2); replace Ra := hZ (Ra.out.kept g2.keeps); replace Rb := hZ (Rb.out.kept g2.keeps); replace X1 := hZ (X1.out.kept g2.keeps); obtain ⟨R0, R1, Rf0, Rf1, Rs⟩ := R.out))
 replace G0 := hZ (((G0.out.trans gd.out).trans g1).trans g2)
 clear gd g1 g2 ZP ZQ
 refine gen_then ?_
 intro W9 hW9
 obtain ⟨q0, q1, qK, -, qs, qG⟩ := store2 (o := 0) R0 R1 hW9
 have GE := qG w (by omega) G0.out
 have QK := hZ qK
 clear qK qG hW9 R0 R1
 go_wp2_with fail
 exact bodyPost_ret (v := .agg #[.bool b4, .slice A4 n4 c4]) (by simp [results, Tryz.results131, go_sem, q0, q1]) rfl ⟨_, rfl, by rw [Int.sub_eq_add_neg]; exact X2.out.kept QK.out, GE⟩
set_option maxHeartbeats 8000000 in
theorem r2cmp_any (Va Vb : Value) (z y : Int) (k l : Nat) (w : World) (ha : WhlR w Va z k) (hb : WhlR w Vb y l) (hs : k < 68719476735 ∧ l < 68719476735) :
  Calls Tryz.prog 86 #[Va, Vb] w fun e w' => e = .returned (.int .i64 (cmpZ z y)) ∧ Grew w w' := by
 have hzl := ha.len
 have hyl := hb.len
 have hd : len 4294967296 (z - y).natAbs ≤ 68719476736 := by
  rw [Int.sub_eq_add_neg]
  exact len_addz _ _ 68719476735 (by omega) (by rw [Int.natAbs_neg]; omega)
 obtain ⟨b1, A1, n1, c1, N, rfl, -, -, -⟩ := ha.open
 obtain ⟨b2, A2, n2, c2, M, rfl, -, -, -⟩ := hb.open
 have Ra := hZ ha
 have Rb := hZ hb
 clear ha hb hyl hzl
 go_enter Tryz.func86, Tryz.ntmps86
 go_wp2_with fail
 refine gen_calls ?_
 intro W0 hW0
 have G0 : Grew w W0 := by rw [hW0]; exact ((Grew.refl w).alloc _).alloc _
 have P : Box2 W0 (w.heap.size) 0 (.bool b1) (.slice A1 n1 c1) := by rw [hW0]; exact ⟨by simp [go_sem], by simp [go_sem]⟩
 replace P := hZ P
 have Q : Box2 W0 (w.heap.size + 1) 0 (.bool b2) (.slice A2 n2 c2) := by rw [hW0]; exact ⟨by simp [go_sem], by simp [go_sem]⟩
 replace Q := hZ Q
 have z0 : w.heap.size < W0.heap.size := by rw [hW0]; simp <;> omega
 replace z0 := hZ z0
 have z1 : w.heap.size + 1 < W0.heap.size := by rw [hW0]; simp <;> omega
 replace z1 := hZ z1
 clear hW0
 replace Ra := hZ (Ra.out.kept G0.keeps)
 replace Rb := hZ (Rb.out.kept G0.keeps)
 replace G0 := hZ G0
 refine (r2sub_any _ _ z y k l _ Ra.out Rb.out (by omega)).mono ?_
 rintro e w1 ⟨V1, rfl, hV1, g1⟩
 obtain ⟨b3, A3, n3, c3, rfl, hX, -⟩ := hV1.laid
 have X1 := hZ (hX.out.r hd)
 clear hV1 hX
 replace P := hZ (P.out.grew g1)
 replace Q := hZ (Q.out.grew g1)
 replace z0 := hZ (lt_grew z0.out g1)
 replace z1 := hZ (lt_grew z1.out g1)
 replace Ra := hZ (Ra.out.kept g1.keeps)
 replace Rb := hZ (Rb.out.kept g1.keeps)
 replace G0 := hZ (G0.out.trans g1)
 clear g1
 go_wp2_with fail
 refine (r2sign_any _ (z - y) _ _ X1.out (by omega)).mono ?_
 rintro e w2 ⟨rfl, g2⟩
 replace P := hZ (P.out.grew g2)
 replace Q := hZ (Q.out.grew g2)
 replace z0 := hZ (lt_grew z0.out g2)
 replace z1 := hZ (lt_grew z1.out g2)
 replace Ra := hZ (Ra.out.kept g2.keeps)
 replace Rb := hZ (Rb.out.kept g2.keeps)
 replace X1 := hZ (X1.out.kept g2.keeps)
 replace G0 := hZ (G0.out.trans g2)
 clear g2
 go_wp2_with fail
 go_ret
 exact ⟨by rw [cmpZ_sub]; rfl, G0.out⟩
end Go.Proofs.YtmommicmblfibaaGreat
