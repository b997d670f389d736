/- frac.Make. Condition: what comes in reads. cross.part, point, ahead, sorted. Condition: points of the grid. Words for cross.common. Conditions: none. cross.common. Condition: points of the grid. -/
import Derived.Test.YtmommicmblfibaaGreatJSpot3
import Derived.Test.YtmommicmblfibaaGreatJGrid2
import Derived.Test.YtmommicmblfibaaGreatJR2b
import Derived.Test.YtmommicmblfibaaGreatJCross2
import Derived.Test.YtmommicmblfibaaGreatJRowP
set_option maxRecDepth 100000
namespace Go.Proofs.YtmommicmblfibaaGreat
open Go.RowKit
set_option maxHeartbeats 4000000 in
theorem fmake_any (b1 b2 : Bool) (A1 A2 : Option Addr) (N M n1 c1 n2 c2 k : Nat) (w : World) (ha : Num 4294967296 .u32 w (.slice A1 n1 c1) N n1) (hb : Num 4294967296 .u32 w (.slice A2 n2 c2) M n2) (hM : M ≠ 0)
  (h1 : len 4294967296 N ≤ k) (h2 : len 4294967296 M ≤ k) (hs : k < 536870912) :
  Calls Tryz.prog 152 #[.agg #[.bool b1, .slice A1 n1 c1], .agg #[.bool b2, .slice A2 n2 c2]] w fun e w' => ∃ V, e = .returned (.tuple #[V, .int .i64 0]) ∧ FracC w' V (mkRat (sgn (b1 != b2) N) M) ∧ Grew w w' := by
 have Fa := hZ ha
 have Fb := hZ hb
 have s1 := hZ (show len 4294967296 N < 1099511627776 ∧ len 4294967296 M < 1099511627776 by omega)
 have s2 := hZ (show k < 549755813888 by omega)
 have h1' := hZ (show len 4294967296 (sgn (b1 != b2) N).natAbs ≤ k by rw [sgn_abs]; exact h1)
 have h2' := hZ h2
 have hsg : ∃ t : Int, sg (sgn b2 M) = t ∧ t ≠ 0 := ⟨_, rfl, by cases b2 <;> simp [sgn, sg] <;> split <;> omega⟩
 obtain ⟨t, ht, ht0⟩ := hsg
 have ht1 : (t == 0) = false := by simpa using ht0
 replace ht := hZ ht
 clear ha hb h1 h2 hs
 go_enter Tryz.func152, Tryz.ntmps152
 go_wp2_with fail
 refine gen_calls ?_
 intro W0 hW0
 have G0 : Grew w W0 := by rw [hW0]; exact (((Grew.refl w).alloc _).alloc _).alloc _
 have P : Box2 W0 (w.heap.size) 0 (.bool b1) (.slice A1 n1 c1) := by rw [hW0]; exact ⟨by simp [go_sem], by simp [go_sem]⟩
 replace P := hZ P
 have Q : Box2 W0 (w.heap.size + 1) 0 (.bool b2) (.slice A2 n2 c2) := by rw [hW0]; exact ⟨by simp [go_sem], by simp [go_sem]⟩
 replace Q := hZ Q
 have R : Res3 W0 (w.heap.size + 1 + 1) 0 (.bool false) (.slice none 0 0) (.slice none 0 0) := by rw [hW0]; exact ⟨by simp [go_sem], by simp [go_sem], by simp [go_sem], by simp [go_sem], by simp [go_sem], by simp [go_sem], by simp⟩
 replace R := hZ R
 have z0 : w.heap.size < W0.heap.size := by rw [hW0]; simp <;> omega
 replace z0 := hZ z0
 have z1 : w.heap.size + 1 < W0.heap.size := by rw [hW0]; simp <;> omega
 replace z1 := hZ z1
 have z2 : w.heap.size + 1 + 1 < W0.heap.size := by rw [hW0]; simp <;> omega
 replace z2 := hZ z2
 clear hW0
 replace Fa := hZ (Fa.out.kept G0.keeps)
 replace Fb := hZ (Fb.out.kept G0.keeps)
 replace G0 := hZ G0
 refine (sign_any b2 _ M _ _ Fb.out s1.out.2).mono ?_
 rintro e w1 ⟨rfl, g1⟩
 replace R := hZ (R.out.grew g1)
 replace P := hZ (P.out.grew g1)
 replace Q := hZ (Q.out.grew g1)
 replace z0 := hZ (lt_grew z0.out g1)
 replace z1 := hZ (lt_grew z1.out g1)
 replace z2 := hZ (lt_grew z2.out g1)
 replace Fa := hZ (Fa.out.kept g1.keeps)
 replace Fb := hZ (Fb.out.kept g1.keeps)
 replace G0 := hZ (G0.out.trans g1)
 clear g1
 rw [ht.out]
 go_wp2_with fail
 have gd : Grew w1 w1.drew := (Grew.refl w1).drew
 replace R := hZ (R.out.grew gd)
 replace P := hZ (P.out.grew gd)
 replace Q := hZ (Q.out.grew gd)
 replace z0 := hZ (lt_grew z0.out gd)
 replace z1 := hZ (lt_grew z1.out gd)
 replace z2 := hZ (lt_grew z2.out gd)
 replace Fa := hZ (Fa.out.kept gd.keeps)
 replace Fb := hZ (Fb.out.kept gd.keeps)
 replace gd := hZ gd
 have ZP := P
 have ZQ := Q
 go_region_held3 (fun w' => w'.cell? ⟨w.heap.size, 0, none⟩ = some (.bool b1) ∧ w'.cell? ⟨w.heap.size, 1, none⟩ = some (.slice A1 n1 c1) ∧ w'.cell? ⟨w.heap.size + 1, 0, none⟩ = some (.bool b2) ∧ w'.cell? ⟨w.heap.size + 1, 1, none⟩ = some (.slice A2 n2 c2))
  (first | (with_reducible exact ⟨ZP.out.p0, ZP.out.p1, ZQ.out.p0, ZQ.out.p1⟩) | (with_reducible exact ⟨g2.cell ZP.out.p0, g2.cell ZP.out.p1, g2.cell ZQ.out.p0, g2.cell ZQ.out.p1⟩) | (with_reducible exact ⟨(g2.trans g3).cell ZP.out.p0, (g2.trans g3).cell ZP.out.p1, (g2.trans g3).cell ZQ.out.p0, (g2.trans g3).cell ZQ.out.p1⟩) | (with_reducible exact ⟨((g2.trans g3).trans g4).cell ZP.out.p0, ((g2.trans g3).trans g4).cell ZP.out.p1, ((g2.trans g3).trans g4).cell ZQ.out.p0, ((g2.trans g3).trans g4).cell ZQ.out.p1⟩) | (with_reducible exact ⟨other3 (o := 0) (by omega) (((g2.trans g3).trans g4).cell ZP.out.p0), other3 (o := 0) (by omega) (((g2.trans g3).trans g4).cell ZP.out.p1), other3 (o := 0) (by omega) (((g2.trans g3).trans g4).cell ZQ.out.p0), other3 (o := 0) (by omega) (((g2.trans g3).trans g4).cell ZQ.out.p1)⟩))
  (first | (go_at_call 99; refine (make_any _ _ N _ _ Fa.out s1.out.1).mono ?_; rintro e w2 ⟨V2, rfl, hV2, g2⟩; obtain ⟨b4, A4, n4, c4, rfl, X2, -⟩ := hV2.laid; clear hV2; replace R := hZ (R.out.grew g2); replace P := hZ (P.out.grew g2); replace Q := hZ (Q.out.grew g2); replace z0 := hZ (lt_grew z0.out g2); replace z1 := hZ (lt_grew z1.out g2); replace z2 := hZ (lt_grew z2.out g2); replace Fa := hZ (Fa.out.kept g2.keeps); replace Fb := hZ (Fb.out.kept g2.keeps)) | (go_at_call 97; refine (trim_any _ M _ _ Fb.out s1.out.2).mono ?_; rintro e w3 ⟨v3, rfl, h3, g3⟩; obtain ⟨A5, c5, rfl, X3⟩ := h3.slice; clear h3; replace R := hZ (R.out.grew g3); replace P := hZ (P.out.grew g3); replace Q := hZ (Q.out.grew g3); replace z0 := hZ (lt_grew z0.out g3); replace z1 := hZ (lt_grew z1.out g3); replace z2 := hZ (lt_grew z2.out g3); replace Fa := hZ (Fa.out.kept g3.keeps); replace Fb := hZ (Fb.out.kept g3.keeps); replace X2 := hZ (X2.out.kept g3.keeps)) | (go_at_call 92; refine (rfrac_any _ _ k _ (RatQ.mk X2.out X3.out rfl hM rfl h1'.out h2'.out) s2.out).mono ?_; rintro e w4 ⟨V6, rfl, hV6, g4⟩; obtain ⟨b7, A7, n7, c7, C7, m7, d7, rfl, X6⟩ := hV6.laid; clear hV6; replace R := hZ (R.out.grew g4); replace P := hZ (P.out.grew g4); replace Q := hZ (Q.out.grew g4); replace z0 := hZ (lt_grew z0.out g4); replace z1 := hZ (lt_grew z1.out g4); replace z2 := hZ (lt_grew z2.out g4); replace Fa := hZ (Fa.out.kept g4.keeps); replace Fb := hZ (Fb.out.kept g4.keeps); replace X2 := hZ (X2.out.kept g4.keeps); replace X3 := hZ (X3.out.kept g4.keeps); obtain ⟨R0, R1, R2, Rf0, Rf1, Rf2, Rs⟩ := R.out))
 replace G0 := hZ ((((G0.out.trans gd.out).trans g2).trans g3).trans g4)
 clear gd g2 g3 g4 ZP ZQ
 refine gen_then ?_
 intro W9 hW9
 obtain ⟨q0, q1, q2, qK, -, -, qs, qG⟩ := store3 (o := 0) R0 R1 R2 hW9
 have GE := qG w (.inr (by omega)) G0.out
 have QK := hZ qK
 clear qK qG hW9 R0 R1 R2
 go_wp2_with fail
 exact bodyPost_ret (v := .tuple #[.agg #[.bool b7, .slice A7 n7 c7, .slice C7 m7 d7], .int .i64 0]) (by simp [results, Tryz.results152, go_sem, q0, q1, q2]) rfl ⟨_, rfl, X6.out.kept QK.out, GE⟩
theorem quot_eq {X : Rat} {z y : Int} (hy : y ≠ 0) (h : X * (y : Rat) = (z : Rat)) : X = (z : Rat) / (y : Rat) := by
 have h1 : (y : Rat) ≠ 0 := fun e => hy (by have e2 : (y : Rat) = ((0 : Int) : Rat) := e; exact Rat.intCast_inj.1 e2)
 grind
theorem quot_mkRat (z y : Int) (hy : y ≠ 0) : mkRat (sgn (decide (z < 0) != decide (y < 0)) z.natAbs) y.natAbs = (z : Rat) / (y : Rat) := by
 refine quot_eq hy ?_
 have h := mkRat_times (sgn (decide (z < 0) != decide (y < 0)) z.natAbs) y.natAbs (by omega)
 by_cases h0 : y < 0
 ·have e1 : ((y.natAbs : Nat) : Int) = -y := by omega
  have e2 : sgn (decide (z < 0) != decide (y < 0)) z.natAbs = -z := by
   rw [decide_eq_true h0]
   by_cases h1 : z < 0
   ·rw [decide_eq_true h1]; simp [sgn]; omega
   ·rw [decide_eq_false h1]; simp [sgn]; omega
  rw [e1, e2, Rat.intCast_neg, Rat.intCast_neg] at h
  rw [e2]
  grind
 ·have e1 : ((y.natAbs : Nat) : Int) = y := by omega
  have e2 : sgn (decide (z < 0) != decide (y < 0)) z.natAbs = z := by
   rw [decide_eq_false h0]
   by_cases h1 : z < 0
   ·rw [decide_eq_true h1]; simp [sgn]; omega
   ·rw [decide_eq_false h1]; simp [sgn]; omega
  rw [e1, e2] at h
  rw [e2]
  exact h
set_option maxHeartbeats 4000000 in
theorem fmakez_any (Va Vb : Value) (z y : Int) (k : Nat) (w : World) (ha : Whl w Va z) (hb : Whl w Vb y) (hy : y ≠ 0) (h1 : len 4294967296 z.natAbs ≤ k) (h2 : len 4294967296 y.natAbs ≤ k) (hs : k < 536870912) :
  Calls Tryz.prog 152 #[Va, Vb] w fun e w' => ∃ V, e = .returned (.tuple #[V, .int .i64 0]) ∧ FracC w' V ((z : Rat) / (y : Rat)) ∧ Grew w w' := by
 obtain ⟨b1, A1, n1, c1, rfl, -, Y1⟩ := ha.laid
 obtain ⟨b2, A2, n2, c2, rfl, -, Y2⟩ := hb.laid
 obtain ⟨e1, -, X1⟩ := Y1.out
 obtain ⟨e2, -, X2⟩ := Y2.out
 rw [← quot_mkRat z y hy]
 subst e1; subst e2
 exact fmake_any _ _ A1 A2 z.natAbs y.natAbs n1 c1 n2 c2 k w X1 X2 (by omega) h1 h2 hs
theorem QB_quot {z y : Int} {k : Nat} (hy : y ≠ 0) (h1 : len 4294967296 z.natAbs ≤ k) (h2 : len 4294967296 y.natAbs ≤ k) (hk : 1 ≤ k) : QB ((z : Rat) / (y : Rat)) k := by
 rw [← quot_mkRat z y hy]
 exact QB_mkRat _ _ _ (by rw [sgn_abs]; exact h1) h2 hk
set_option maxHeartbeats 4000000 in
theorem part_any (a u n d : Int) (w : World) (ha : In64 a u) (hn : In64 n d) (hd : d ≠ 0) :
  Calls Tryz.prog 111 #[.int .i64 a, .int .i64 u, .int .i64 n, .int .i64 d] w fun e w' => ∃ V, e = .returned V ∧ FracC w' V ((a : Rat) + ((u * n : Int) : Rat) / (d : Rat)) ∧ Grew w w' := by
 obtain ⟨a0, a1, u0, u1⟩ := ha
 obtain ⟨n0, n1, d0, d1⟩ := hn
 have l1 := hZ (show len 4294967296 u.natAbs ≤ 2 from len_word (by omega))
 have l2 := hZ (show len 4294967296 n.natAbs ≤ 2 from len_word (by omega))
 have l3 := hZ (show len 4294967296 d.natAbs ≤ 4 from Nat.le_trans (len_word (by omega)) (by omega))
 have l4 := hZ (len_mulz u n 2 2 l1.out l2.out)
 have qa := hZ (QB_i64 a0 a1)
 have qq := hZ (QB_quot hd l4.out l3.out (by omega))
 have k1 : 1 ≤ 2 := by omega
 have k2 : 1 ≤ 2 + 2 := by omega
 go_enter Tryz.func111, Tryz.ntmps111
 go_wp2_with fail
 refine gen_calls ?_
 intro W0 hW0
 have G0 : Grew w W0 := by rw [hW0]; exact (Grew.refl w).alloc _
 have R : Res3 W0 (w.heap.size) 0 (.bool false) (.slice none 0 0) (.slice none 0 0) := by rw [hW0]; exact ⟨by simp [go_sem], by simp [go_sem], by simp [go_sem], by simp [go_sem], by simp [go_sem], by simp [go_sem], by simp⟩
 replace R := hZ R
 have z0 : w.heap.size < W0.heap.size := by rw [hW0]; simp <;> omega
 replace z0 := hZ z0
 clear hW0
 replace G0 := hZ G0
 refine (wof_any u _ u0 u1).mono ?_
 rintro e w1 ⟨V1, rfl, hV1, g1⟩
 have Y1 := hZ (hV1.v l1.out)
 obtain ⟨b3, A3, n3, c3, rfl, -⟩ := hV1.laid
 have X1 := Y1
 clear hV1 Y1
 replace R := hZ (R.out.grew g1)
 replace z0 := hZ (lt_grew z0.out g1)
 replace G0 := hZ (G0.out.trans g1)
 clear g1
 go_wp2_with fail
 refine (wof_any n _ n0 n1).mono ?_
 rintro e w2 ⟨V2, rfl, hV2, g2⟩
 have Y2 := hZ (hV2.v l2.out)
 obtain ⟨b4, A4, n4, c4, rfl, -⟩ := hV2.laid
 have X2 := Y2
 clear hV2 Y2
 replace R := hZ (R.out.grew g2)
 replace z0 := hZ (lt_grew z0.out g2)
 replace X1 := hZ (X1.out.kept g2.keeps)
 replace G0 := hZ (G0.out.trans g2)
 clear g2
 go_wp2_with fail
 refine (wmul_v _ _ u n 2 2 _ X1.out X2.out (by omega)).mono ?_
 rintro e w3 ⟨V3, rfl, hV3, g3⟩
 obtain ⟨b5, A5, n5, c5, rfl, X3, -⟩ := hV3.laid
 clear hV3
 replace R := hZ (R.out.grew g3)
 replace z0 := hZ (lt_grew z0.out g3)
 replace X1 := hZ (X1.out.kept g3.keeps)
 replace X2 := hZ (X2.out.kept g3.keeps)
 replace G0 := hZ (G0.out.trans g3)
 clear g3
 go_wp2_with fail
 refine (wof_any d _ d0 d1).mono ?_
 rintro e w4 ⟨V4, rfl, hV4, g4⟩
 obtain ⟨b6, A6, n6, c6, rfl, X4, -⟩ := hV4.laid
 clear hV4
 replace R := hZ (R.out.grew g4)
 replace z0 := hZ (lt_grew z0.out g4)
 replace X1 := hZ (X1.out.kept g4.keeps)
 replace X2 := hZ (X2.out.kept g4.keeps)
 replace X3 := hZ (X3.out.kept g4.keeps)
 replace G0 := hZ (G0.out.trans g4)
 clear g4
 go_wp2_with fail
 refine (fmakez_any _ _ (u * n) d (2 + 2) _ X3.out X4.out hd l4.out l3.out (by omega)).mono ?_
 rintro e w5 ⟨V5, rfl, hV5, g5⟩
 have Y5 := hZ (hV5.v qq.out)
 obtain ⟨b7, A7, n7, c7, C7, m7, d7, rfl, -⟩ := hV5.laid
 have X5 := Y5
 clear hV5 Y5
 replace R := hZ (R.out.grew g5)
 replace z0 := hZ (lt_grew z0.out g5)
 replace X1 := hZ (X1.out.kept g5.keeps)
 replace X2 := hZ (X2.out.kept g5.keeps)
 replace X3 := hZ (X3.out.kept g5.keeps)
 replace X4 := hZ (X4.out.kept g5.keeps)
 replace G0 := hZ (G0.out.trans g5)
 clear g5
 go_upto_region 2 with fail
 refine gen_wp ?_
 intro W1 hW1
 have gl : Grew w5 W1 := by rw [hW1]; exact (Grew.refl _).alloc _
 have y1 := hZ (R.out).2.2.2.2.2.2
 replace R := hZ (R.out.grew gl)
 replace z0 := hZ (lt_grew z0.out gl)
 replace X1 := hZ (X1.out.kept gl.keeps)
 replace X2 := hZ (X2.out.kept gl.keeps)
 replace X3 := hZ (X3.out.kept gl.keeps)
 replace X4 := hZ (X4.out.kept gl.keeps)
 replace X5 := hZ (X5.out.kept gl.keeps)
 have L : Box3 W1 (w5.heap.size) 0 (.bool b7) (.slice A7 n7 c7) (.slice C7 m7 d7) := by rw [hW1]; exact ⟨by simp [go_sem], by simp [go_sem], by simp [go_sem]⟩
 replace L := hZ L
 have z1 : w5.heap.size < W1.heap.size := by rw [hW1]; simp <;> omega
 replace z1 := hZ z1
 clear hW1
 replace G0 := hZ (G0.out.trans gl)
 clear gl
 go_wp2_with fail
 have gd : Grew W1 W1.drew := (Grew.refl W1).drew
 replace R := hZ (R.out.grew gd)
 replace L := hZ (L.out.grew gd)
 replace z0 := hZ (lt_grew z0.out gd)
 replace z1 := hZ (lt_grew z1.out gd)
 replace X1 := hZ (X1.out.kept gd.keeps)
 replace X2 := hZ (X2.out.kept gd.keeps)
 replace X3 := hZ (X3.out.kept gd.keeps)
 replace X4 := hZ (X4.out.kept gd.keeps)
 replace X5 := hZ (X5.out.kept gd.keeps)
 replace gd := hZ gd
 have ZL := L
 go_region_held3 (fun w' => w'.cell? ⟨w5.heap.size, 0, none⟩ = some (.bool b7) ∧ w'.cell? ⟨w5.heap.size, 1, none⟩ = some (.slice A7 n7 c7) ∧ w'.cell? ⟨w5.heap.size, 2, none⟩ = some (.slice C7 m7 d7))
  (first | (with_reducible exact ⟨ZL.out.p0, ZL.out.p1, ZL.out.p2⟩) | (with_reducible exact ⟨g6.cell ZL.out.p0, g6.cell ZL.out.p1, g6.cell ZL.out.p2⟩) | (with_reducible exact ⟨(g6.trans g7).cell ZL.out.p0, (g6.trans g7).cell ZL.out.p1, (g6.trans g7).cell ZL.out.p2⟩) | (with_reducible exact ⟨other3 (o := 0) (by have := y1.out; omega) ((g6.trans g7).cell ZL.out.p0), other3 (o := 0) (by have := y1.out; omega) ((g6.trans g7).cell ZL.out.p1), other3 (o := 0) (by have := y1.out; omega) ((g6.trans g7).cell ZL.out.p2)⟩))
  (first | (have chk := g6; clear chk; go_at_call 153; refine (fadd_any _ _ (a : Rat) (((u * n : Int) : Rat) / (d : Rat)) 2 (2 + 2) _ X6.out X5.out k1 k2 (by omega)).mono ?_; rintro e w7 ⟨V7, rfl, hV7, g7⟩; obtain ⟨b9, A9, n9, c9, C9, m9, d9, rfl, X7⟩ := hV7.laid; clear hV7; replace R := hZ (R.out.grew g7); replace L := hZ (L.out.grew g7); replace z0 := hZ (lt_grew z0.out g7); replace z1 := hZ (lt_grew z1.out g7); replace X1 := hZ (X1.out.kept g7.keeps); replace X2 := hZ (X2.out.kept g7.keeps); replace X3 := hZ (X3.out.kept g7.keeps); replace X4 := hZ (X4.out.kept g7.keeps); replace X5 := hZ (X5.out.kept g7.keeps); replace X6 := hZ (X6.out.kept g7.keeps); obtain ⟨R0, R1, R2, Rf0, Rf1, Rf2, Rs⟩ := R.out) | (go_at_call 71; refine (fint_any a _ a0 a1).mono ?_; rintro e w6 ⟨V6, rfl, hV6, g6⟩; have Y6 := hZ (hV6.v qa.out); obtain ⟨b8, A8, n8, c8, C8, m8, d8, rfl, -⟩ := hV6.laid; have X6 := Y6; clear hV6 Y6; replace R := hZ (R.out.grew g6); replace L := hZ (L.out.grew g6); replace z0 := hZ (lt_grew z0.out g6); replace z1 := hZ (lt_grew z1.out g6); replace X1 := hZ (X1.out.kept g6.keeps); replace X2 := hZ (X2.out.kept g6.keeps); replace X3 := hZ (X3.out.kept g6.keeps); replace X4 := hZ (X4.out.kept g6.keeps); replace X5 := hZ (X5.out.kept g6.keeps)))
 replace G0 := hZ (((G0.out.trans gd.out).trans g6).trans g7)
 clear gd g6 g7 ZL
 refine gen_then ?_
 intro W9 hW9
 obtain ⟨q0, q1, q2, qK, -, -, qs, qG⟩ := store3 (o := 0) R0 R1 R2 hW9
 have GE := qG w (.inr (by omega)) G0.out
 have QK := hZ qK
 clear qK qG hW9 R0 R1 R2
 go_wp2_with fail
 exact bodyPost_ret (v := .agg #[.bool b9, .slice A9 n9 c9, .slice C9 m9 d9]) (by simp [results, Tryz.results111, go_sem, q0, q1, q2]) rfl ⟨_, rfl, X7.out.kept QK.out, GE⟩
set_option maxHeartbeats 4000000 in
theorem point_any (ax ay bx b_y n d : Int) (w : World) (ha : fitB ax ay = true) (hb : fitB bx b_y = true) (hn : In64 n d) (hd : d ≠ 0) :
  Calls Tryz.prog 73 #[segV ax ay bx b_y, .int .i64 n, .int .i64 d] w fun e w' => ∃ V, e = .returned V ∧ SpotC w' V ((ax : Rat) + (((bx - ax) * n : Int) : Rat) / (d : Rat)) ((ay : Rat) + (((b_y - ay) * n : Int) : Rat) / (d : Rat)) ∧ Grew w w' := by
 have i1 := (fitB_iff _ _).1 ha
 have i2 := (fitB_iff _ _).1 hb
 have r1 : In24 (bx - ax) := by unfold In24; omega
 have r2 : In24 (b_y - ay) := by unfold In24; omega
 have s1 := hZ (show In64 ax (bx - ax) by unfold In64; omega)
 have s2 := hZ (show In64 ay (b_y - ay) by unfold In64; omega)
 replace hn := hZ hn
 replace r1 := hZ r1
 replace r2 := hZ r2
 clear i1 i2 ha hb
 go_enter Tryz.func73, Tryz.ntmps73
 go_wp2_with fail
 refine gen_calls ?_
 intro W0 hW0
 have G0 : Grew w W0 := by rw [hW0]; exact ((Grew.refl w).alloc _).alloc _
 have P : Box2 W0 (w.heap.size) 0 (.int .i64 ax) (.int .i64 ay) := by rw [hW0]; exact ⟨by simp [go_sem], by simp [go_sem]⟩
 replace P := hZ P
 have Pb : Box2 W0 (w.heap.size) 2 (.int .i64 bx) (.int .i64 b_y) := by rw [hW0]; exact ⟨by simp [go_sem], by simp [go_sem]⟩
 replace Pb := hZ Pb
 have R : Res3 W0 (w.heap.size + 1) 0 (.bool false) (.slice none 0 0) (.slice none 0 0) := by rw [hW0]; exact ⟨by simp [go_sem], by simp [go_sem], by simp [go_sem], by simp [go_sem], by simp [go_sem], by simp [go_sem], by simp⟩
 replace R := hZ R
 have R_ : Res3 W0 (w.heap.size + 1) 3 (.bool false) (.slice none 0 0) (.slice none 0 0) := by rw [hW0]; exact ⟨by simp [go_sem], by simp [go_sem], by simp [go_sem], by simp [go_sem], by simp [go_sem], by simp [go_sem], by simp⟩
 replace R_ := hZ R_
 have z0 : w.heap.size < W0.heap.size := by rw [hW0]; simp <;> omega
 replace z0 := hZ z0
 have z1 : w.heap.size + 1 < W0.heap.size := by rw [hW0]; simp <;> omega
 replace z1 := hZ z1
 clear hW0
 replace G0 := hZ G0
 refine (fromg_any ax ay bx b_y _ r1.out r2.out).mono ?_
 rintro e w1 ⟨rfl, g1⟩
 replace R := hZ (R.out.grew g1)
 replace R_ := hZ (R_.out.grew g1)
 replace P := hZ (P.out.grew g1)
 replace Pb := hZ (Pb.out.grew g1)
 replace z0 := hZ (lt_grew z0.out g1)
 replace z1 := hZ (lt_grew z1.out g1)
 replace G0 := hZ (G0.out.trans g1)
 clear g1
 go_upto_region 2 with fail
 refine gen_wp ?_
 intro W1 hW1
 have gl : Grew w1 W1 := by rw [hW1]; exact (Grew.refl _).alloc _
 have y1 := hZ (R.out).2.2.2.2.2.2
 replace R := hZ (R.out.grew gl)
 replace R_ := hZ (R_.out.grew gl)
 replace P := hZ (P.out.grew gl)
 replace Pb := hZ (Pb.out.grew gl)
 replace z0 := hZ (lt_grew z0.out gl)
 replace z1 := hZ (lt_grew z1.out gl)
 have K : Box2 W1 (w1.heap.size) 0 (.int .i64 (bx - ax)) (.int .i64 (b_y - ay)) := by rw [hW1]; exact ⟨by simp [go_sem], by simp [go_sem]⟩
 replace K := hZ K
 have z2 : w1.heap.size < W1.heap.size := by rw [hW1]; simp <;> omega
 replace z2 := hZ z2
 clear hW1
 replace G0 := hZ (G0.out.trans gl)
 clear gl
 have gd : Grew W1 W1.drew := (Grew.refl W1).drew
 replace R := hZ (R.out.grew gd)
 replace R_ := hZ (R_.out.grew gd)
 replace P := hZ (P.out.grew gd)
 replace Pb := hZ (Pb.out.grew gd)
 replace K := hZ (K.out.grew gd)
 replace z0 := hZ (lt_grew z0.out gd)
 replace z1 := hZ (lt_grew z1.out gd)
 replace z2 := hZ (lt_grew z2.out gd)
 replace gd := hZ gd
 have ZP := P
 have ZK := K
 go_region_held3 (fun w' => w'.cell? ⟨w.heap.size, 0, none⟩ = some (.int .i64 ax) ∧ w'.cell? ⟨w.heap.size, 1, none⟩ = some (.int .i64 ay) ∧ w'.cell? ⟨w1.heap.size, 0, none⟩ = some (.int .i64 (bx - ax)) ∧ w'.cell? ⟨w1.heap.size, 1, none⟩ = some (.int .i64 (b_y - ay)))
  (first | (with_reducible exact ⟨ZP.out.p0, ZP.out.p1, ZK.out.p0, ZK.out.p1⟩) | (with_reducible exact ⟨g2.cell ZP.out.p0, g2.cell ZP.out.p1, g2.cell ZK.out.p0, g2.cell ZK.out.p1⟩) | (with_reducible exact ⟨(g2.trans g3).cell ZP.out.p0, (g2.trans g3).cell ZP.out.p1, (g2.trans g3).cell ZK.out.p0, (g2.trans g3).cell ZK.out.p1⟩) | (with_reducible exact ⟨other3 (o := 3) (by omega) (other3 (o := 0) (by omega) ((g2.trans g3).cell ZP.out.p0)), other3 (o := 3) (by omega) (other3 (o := 0) (by omega) ((g2.trans g3).cell ZP.out.p1)), other3 (o := 3) (by have := y1.out; omega) (other3 (o := 0) (by have := y1.out; omega) ((g2.trans g3).cell ZK.out.p0)), other3 (o := 3) (by have := y1.out; omega) (other3 (o := 0) (by have := y1.out; omega) ((g2.trans g3).cell ZK.out.p1))⟩))
  (first | (have chk := g2; clear chk; go_at_call 111; refine (part_any ay (b_y - ay) n d _ s2.out hn.out hd).mono ?_; rintro e w3 ⟨V2, rfl, hV2, g3⟩; obtain ⟨b14, A14, n14, c14, C14, m14, d14, rfl, X2⟩ := hV2.laid; clear hV2; replace R := hZ (R.out.grew g3); replace R_ := hZ (R_.out.grew g3); replace P := hZ (P.out.grew g3); replace Pb := hZ (Pb.out.grew g3); replace K := hZ (K.out.grew g3); replace z0 := hZ (lt_grew z0.out g3); replace z1 := hZ (lt_grew z1.out g3); replace z2 := hZ (lt_grew z2.out g3); replace X1 := hZ (X1.out.kept g3.keeps); obtain ⟨R0, R1, R2, Rf0, Rf1, Rf2, Rs⟩ := R.out; obtain ⟨R_0, R_1, R_2, R_f0, R_f1, R_f2, R_s⟩ := R_.out) | (go_at_call 111; refine (part_any ax (bx - ax) n d _ s1.out hn.out hd).mono ?_; rintro e w2 ⟨V1, rfl, hV1, g2⟩; obtain ⟨b13, A13, n13, c13, C13, m13, d13, rfl, X1⟩ := hV1.laid; clear hV1; replace R := hZ (R.out.grew g2); replace R_ := hZ (R_.out.grew g2); replace P := hZ (P.out.grew g2); replace Pb := hZ (Pb.out.grew g2); replace K := hZ (K.out.grew g2); replace z0 := hZ (lt_grew z0.out g2); replace z1 := hZ (lt_grew z1.out g2); replace z2 := hZ (lt_grew z2.out g2)))
 replace G0 := hZ (((G0.out.trans gd.out).trans g2).trans g3)
 clear gd g2 g3 ZP ZK
 refine gen_then ?_
 intro W9 hW9
 obtain ⟨q0, q1, q2, q3, q4, q5, qK, qG⟩ := store6 R0 R1 R2 R_0 R_1 R_2 hW9
 have GE := qG w (by omega) G0.out
 have QK := hZ qK
 clear qK qG hW9 R0 R1 R2 R_0 R_1 R_2
 go_wp2_with fail
 exact bodyPost_ret (v := .agg #[.bool b13, .slice A13 n13 c13, .slice C13 m13 d13, .bool b14, .slice A14 n14 c14, .slice C14 m14 d14]) (by simp [results, Tryz.results73, go_sem, q0, q1, q2, q3, q4, q5]) rfl ⟨_, rfl, SpotC.mk (X1.out.kept QK.out) (X2.out.kept QK.out), GE⟩
def aheadB (ax ay bx b_y : Int) : Bool := decide (ax < bx) || (decide (ax = bx) && decide (ay < b_y))
set_option maxHeartbeats 2000000 in
theorem ahead_any (ax ay bx b_y : Int) (w : World) : Calls Tryz.prog 45 #[ptV ax ay, ptV bx b_y] w fun e w' => e = .returned (.bool (aheadB ax ay bx b_y)) ∧ Grew w w' := by
 by_cases h1 : ax < bx
 ·have e := hZ (show aheadB ax ay bx b_y = true by unfold aheadB; simp [h1])
  go_enter Tryz.func45, Tryz.ntmps45
  go_wp2_with fail
  go_ret
  exact ⟨by rw [e.out]; rfl, ((Grew.refl w).alloc _).alloc _⟩
 ·by_cases h2 : ax = bx
  ·subst h2
   by_cases h3 : ay < b_y
   ·have e := hZ (show aheadB ax ay ax b_y = true by unfold aheadB; simp [h3])
    go_enter Tryz.func45, Tryz.ntmps45
    go_wp2_with fail
    go_ret
    exact ⟨by rw [e.out]; rfl, ((Grew.refl w).alloc _).alloc _⟩
   ·have e := hZ (show aheadB ax ay ax b_y = false by unfold aheadB; simp [h3])
    go_enter Tryz.func45, Tryz.ntmps45
    go_wp2_with fail
    go_ret
    exact ⟨by rw [e.out]; rfl, ((Grew.refl w).alloc _).alloc _⟩
  ·have e := hZ (show aheadB ax ay bx b_y = false by unfold aheadB; simp [h1, h2])
   have h2' : (ax == bx) = false := by simpa using h2
   go_enter Tryz.func45, Tryz.ntmps45
   go_wp2_with fail
   go_ret
   exact ⟨by rw [e.out]; rfl, ((Grew.refl w).alloc _).alloc _⟩
def Res4 (w : World) (r o : Nat) (u0 u1 u2 u3 : Value) : Prop :=
 w.cell? ⟨r, o, none⟩ = some u0 ∧ w.cell? ⟨r, o + 1, none⟩ = some u1 ∧ w.cell? ⟨r, o + 2, none⟩ = some u2 ∧ w.cell? ⟨r, o + 3, none⟩ = some u3 ∧
 w.frozen? ⟨r, o, none⟩ = false ∧ w.frozen? ⟨r, o + 1, none⟩ = false ∧ w.frozen? ⟨r, o + 2, none⟩ = false ∧ w.frozen? ⟨r, o + 3, none⟩ = false ∧ r < w.heap.size
theorem Res4.grew {w w' : World} {r o : Nat} {u0 u1 u2 u3 : Value} (h : Res4 w r o u0 u1 u2 u3) (g : Grew w w') : Res4 w' r o u0 u1 u2 u3 := by
 obtain ⟨h0, h1, h2, h3, f0, f1, f2, f3, s⟩ := h
 exact ⟨g.cell h0, g.cell h1, g.cell h2, g.cell h3, (g.below.frozen (p := ⟨r, o, none⟩) s).trans f0, (g.below.frozen (p := ⟨r, o + 1, none⟩) s).trans f1, (g.below.frozen (p := ⟨r, o + 2, none⟩) s).trans f2, (g.below.frozen (p := ⟨r, o + 3, none⟩) s).trans f3, Nat.lt_of_lt_of_le s g.size⟩
theorem store4 {w w' : World} {r : Nat} {u0 u1 u2 u3 v0 v1 v2 v3 : Value} (h : Res4 w r 0 u0 u1 u2 u3) (e : w' = (((w.setCell ⟨r, 0, none⟩ v0).setCell ⟨r, 1, none⟩ v1).setCell ⟨r, 2, none⟩ v2).setCell ⟨r, 3, none⟩ v3) :
  w'.cell? ⟨r, 0, none⟩ = some v0 ∧ w'.cell? ⟨r, 1, none⟩ = some v1 ∧ w'.cell? ⟨r, 2, none⟩ = some v2 ∧ w'.cell? ⟨r, 3, none⟩ = some v3 ∧ (∀ a, a.heap.size ≤ r → Grew a w → Grew a w') := by
 obtain ⟨h0, h1, h2, h3, -⟩ := h
 subst e
 have e1 : (w.setCell ⟨r, 0, none⟩ v0).cell? ⟨r, 1, none⟩ = some u1 := by rw [World.cell?_setCell_other _ _ _ _ (by simp)]; exact h1
 have e2 : ((w.setCell ⟨r, 0, none⟩ v0).setCell ⟨r, 1, none⟩ v1).cell? ⟨r, 2, none⟩ = some u2 := by rw [World.cell?_setCell_other _ _ _ _ (by simp), World.cell?_setCell_other _ _ _ _ (by simp)]; exact h2
 have e3 : (((w.setCell ⟨r, 0, none⟩ v0).setCell ⟨r, 1, none⟩ v1).setCell ⟨r, 2, none⟩ v2).cell? ⟨r, 3, none⟩ = some u3 := by rw [World.cell?_setCell_other _ _ _ _ (by simp), World.cell?_setCell_other _ _ _ _ (by simp), World.cell?_setCell_other _ _ _ _ (by simp)]; exact h3
 refine ⟨?_, ?_, ?_, cell_set e3 v3, fun a hr g => (((g.setCell hr _).setCell hr _).setCell hr _).setCell hr _⟩
 ·rw [World.cell?_setCell_other _ _ _ _ (by simp), World.cell?_setCell_other _ _ _ _ (by simp), World.cell?_setCell_other _ _ _ _ (by simp)]; exact cell_set h0 v0
 ·rw [World.cell?_setCell_other _ _ _ _ (by simp), World.cell?_setCell_other _ _ _ _ (by simp)]; exact cell_set e1 v1
 ·rw [World.cell?_setCell_other _ _ _ _ (by simp)]; exact cell_set e2 v2
set_option maxHeartbeats 2000000 in
theorem sorted_any (ax ay bx b_y : Int) (w : World) : Calls Tryz.prog 112 #[segV ax ay bx b_y] w fun e w' => e = .returned (if aheadB bx b_y ax ay = true then segV bx b_y ax ay else segV ax ay bx b_y) ∧ Grew w w' := by
 obtain ⟨t, ht⟩ : ∃ t, aheadB bx b_y ax ay = t := ⟨_, rfl⟩
 rw [ht]
 replace ht := hZ ht
 go_enter Tryz.func112, Tryz.ntmps112
 go_wp2_with fail
 refine gen_calls ?_
 intro W0 hW0
 have G0 : Grew w W0 := by rw [hW0]; exact ((Grew.refl w).alloc _).alloc _
 have P : Box2 W0 (w.heap.size) 0 (.int .i64 ax) (.int .i64 ay) := by rw [hW0]; exact ⟨by simp [go_sem], by simp [go_sem]⟩
 replace P := hZ P
 have Pb : Box2 W0 (w.heap.size) 2 (.int .i64 bx) (.int .i64 b_y) := by rw [hW0]; exact ⟨by simp [go_sem], by simp [go_sem]⟩
 replace Pb := hZ Pb
 have R : Res4 W0 (w.heap.size + 1) 0 (.int .i64 0) (.int .i64 0) (.int .i64 0) (.int .i64 0) := by rw [hW0]; exact ⟨by simp [go_sem], by simp [go_sem], by simp [go_sem], by simp [go_sem], by simp [go_sem], by simp [go_sem], by simp [go_sem], by simp [go_sem], by simp⟩
 replace R := hZ R
 have z0 : w.heap.size < W0.heap.size := by rw [hW0]; simp <;> omega
 replace z0 := hZ z0
 have z1 : w.heap.size + 1 < W0.heap.size := by rw [hW0]; simp <;> omega
 replace z1 := hZ z1
 clear hW0
 replace G0 := hZ G0
 refine (ahead_any bx b_y ax ay _).mono ?_
 rintro e w1 ⟨rfl, g1⟩
 replace R := hZ (R.out.grew g1)
 replace P := hZ (P.out.grew g1)
 replace Pb := hZ (Pb.out.grew g1)
 replace z0 := hZ (lt_grew z0.out g1)
 replace z1 := hZ (lt_grew z1.out g1)
 replace G0 := hZ (G0.out.trans g1)
 clear g1
 rw [ht.out]
 cases t
 ·
  obtain ⟨R0, R1, R2, R3, Rf0, Rf1, Rf2, Rf3, Rs⟩ := R.out
  obtain ⟨P0, P1⟩ := P.out
  obtain ⟨Pb0, Pb1⟩ := Pb.out
  go_wp2_with fail
  clear P0 P1 Pb0 Pb1
  refine gen_post ?_
  intro W9 hW9
  obtain ⟨q0, q1, q2, q3, qG⟩ := store4 R.out hW9
  have GE := qG w (by omega) G0.out
  clear qG hW9
  exact bodyPost_ret (v := .agg #[.int .i64 ax, .int .i64 ay, .int .i64 bx, .int .i64 b_y]) (by simp [results, Tryz.results112, go_sem, q0, q1, q2, q3]) rfl ⟨rfl, GE⟩
 ·
  obtain ⟨R0, R1, R2, R3, Rf0, Rf1, Rf2, Rf3, Rs⟩ := R.out
  obtain ⟨P0, P1⟩ := P.out
  obtain ⟨Pb0, Pb1⟩ := Pb.out
  go_wp2_with fail
  clear P0 P1 Pb0 Pb1
  refine gen_post ?_
  intro W9 hW9
  obtain ⟨q0, q1, q2, q3, qG⟩ := store4 R.out hW9
  have GE := qG w (by omega) G0.out
  clear qG hW9
  exact bodyPost_ret (v := .agg #[.int .i64 bx, .int .i64 b_y, .int .i64 ax, .int .i64 ay]) (by simp [results, Tryz.results112, go_sem, q0, q1, q2, q3]) rfl ⟨rfl, GE⟩
def Box4 (w : World) (r o : Nat) (u0 u1 u2 u3 : Value) : Prop := w.cell? ⟨r, o, none⟩ = some u0 ∧ w.cell? ⟨r, o + 1, none⟩ = some u1 ∧ w.cell? ⟨r, o + 2, none⟩ = some u2 ∧ w.cell? ⟨r, o + 3, none⟩ = some u3
theorem Box4.p0 {w : World} {r o : Nat} {u0 u1 u2 u3 : Value} (h : Box4 w r o u0 u1 u2 u3) : w.cell? ⟨r, o, none⟩ = some u0 := h.1
theorem Box4.p1 {w : World} {r o : Nat} {u0 u1 u2 u3 : Value} (h : Box4 w r o u0 u1 u2 u3) : w.cell? ⟨r, o + 1, none⟩ = some u1 := h.2.1
theorem Box4.p2 {w : World} {r o : Nat} {u0 u1 u2 u3 : Value} (h : Box4 w r o u0 u1 u2 u3) : w.cell? ⟨r, o + 2, none⟩ = some u2 := h.2.2.1
theorem Box4.p3 {w : World} {r o : Nat} {u0 u1 u2 u3 : Value} (h : Box4 w r o u0 u1 u2 u3) : w.cell? ⟨r, o + 3, none⟩ = some u3 := h.2.2.2
theorem Box4.grew {w w' : World} {r o : Nat} {u0 u1 u2 u3 : Value} (h : Box4 w r o u0 u1 u2 u3) (g : Grew w w') : Box4 w' r o u0 u1 u2 u3 := ⟨g.cell h.1, g.cell h.2.1, g.cell h.2.2.1, g.cell h.2.2.2⟩
theorem Res4.f0 {w : World} {r o : Nat} {u0 u1 u2 u3 : Value} (h : Res4 w r o u0 u1 u2 u3) : w.frozen? ⟨r, o, none⟩ = false := h.2.2.2.2.1
theorem Res4.f1 {w : World} {r o : Nat} {u0 u1 u2 u3 : Value} (h : Res4 w r o u0 u1 u2 u3) : w.frozen? ⟨r, o + 1, none⟩ = false := h.2.2.2.2.2.1
theorem Res4.f2 {w : World} {r o : Nat} {u0 u1 u2 u3 : Value} (h : Res4 w r o u0 u1 u2 u3) : w.frozen? ⟨r, o + 2, none⟩ = false := h.2.2.2.2.2.2.1
theorem Res4.f3 {w : World} {r o : Nat} {u0 u1 u2 u3 : Value} (h : Res4 w r o u0 u1 u2 u3) : w.frozen? ⟨r, o + 3, none⟩ = false := h.2.2.2.2.2.2.2.1
theorem store4_far {w : World} {r b p : Nat} {v0 v1 v2 v3 : Value} {v : Option Value} (hb : b ≠ r) (hc : w.cell? ⟨b, p, none⟩ = v) : ((((w.setCell ⟨r, 0, none⟩ v0).setCell ⟨r, 1, none⟩ v1).setCell ⟨r, 2, none⟩ v2).setCell ⟨r, 3, none⟩ v3).cell? ⟨b, p, none⟩ = v := by
 rw [World.cell?_setCell_other _ _ _ _ (by simp <;> omega), World.cell?_setCell_other _ _ _ _ (by simp <;> omega), World.cell?_setCell_other _ _ _ _ (by simp <;> omega), World.cell?_setCell_other _ _ _ _ (by simp <;> omega)]; exact hc
theorem store44 {w w' : World} {r s : Nat} {u0 u1 u2 u3 t0 t1 t2 t3 v0 v1 v2 v3 y0 y1 y2 y3 : Value} (h : Res4 w r 0 u0 u1 u2 u3) (k : Res4 w s 0 t0 t1 t2 t3) (hne : r ≠ s)
  (e : w' = (((((((w.setCell ⟨r, 0, none⟩ v0).setCell ⟨r, 1, none⟩ v1).setCell ⟨r, 2, none⟩ v2).setCell ⟨r, 3, none⟩ v3).setCell ⟨s, 0, none⟩ y0).setCell ⟨s, 1, none⟩ y1).setCell ⟨s, 2, none⟩ y2).setCell ⟨s, 3, none⟩ y3) :
  Box4 w' r 0 v0 v1 v2 v3 ∧ Box4 w' s 0 y0 y1 y2 y3 ∧ (∀ a, a.heap.size ≤ r → a.heap.size ≤ s → Grew a w → Grew a w') := by
 obtain ⟨T, hT⟩ : ∃ T, T = (((w.setCell ⟨r, 0, none⟩ v0).setCell ⟨r, 1, none⟩ v1).setCell ⟨r, 2, none⟩ v2).setCell ⟨r, 3, none⟩ v3 := ⟨_, rfl⟩
 obtain ⟨q0, q1, q2, q3, qG⟩ := store4 h hT
 have k' : Res4 T s 0 t0 t1 t2 t3 := by
  obtain ⟨k0, k1, k2, k3, f0, f1, f2, f3, ks⟩ := k
  rw [hT]
  exact ⟨store4_far hne.symm k0, store4_far hne.symm k1, store4_far hne.symm k2, store4_far hne.symm k3, by simp [f0], by simpa using f1, by simpa using f2, by simpa using f3, by simpa [World.setCell] using ks⟩
 rw [← hT] at e
 obtain ⟨p0, p1, p2, p3, pG⟩ := store4 k' e
 subst e
 exact ⟨⟨store4_far hne q0, store4_far hne q1, store4_far hne q2, store4_far hne q3⟩, ⟨p0, p1, p2, p3⟩, fun a h1 h2 g => pG a h2 (qG a h1 g)⟩
def sortZ (ax ay bx b_y : Int) : (Int × Int) × (Int × Int) := if aheadB bx b_y ax ay = true then ((bx, b_y), (ax, ay)) else ((ax, ay), (bx, b_y))
theorem sortedz_any (ax ay bx b_y : Int) (w : World) : Calls Tryz.prog 112 #[segV ax ay bx b_y] w fun e w' => e = .returned (segV (sortZ ax ay bx b_y).1.1 (sortZ ax ay bx b_y).1.2 (sortZ ax ay bx b_y).2.1 (sortZ ax ay bx b_y).2.2) ∧ Grew w w' :=
 (sorted_any ax ay bx b_y w).mono fun e w' ⟨h1, h2⟩ => ⟨by rw [h1]; unfold sortZ; split <;> rfl, h2⟩
def ResW (w : World) (g : Nat) (x y : Int) : Prop := w.cell? ⟨g, 0, none⟩ = some (.int .i64 x) ∧ w.cell? ⟨g, 1, none⟩ = some (.int .i64 y) ∧ w.frozen? ⟨g, 0, none⟩ = false ∧ w.frozen? ⟨g, 1, none⟩ = false ∧ g < w.heap.size
theorem ResW.grew {w w' : World} {r : Nat} {x y : Int} (h : ResW w r x y) (g : Grew w w') : ResW w' r x y := by
 obtain ⟨h0, h1, f0, f1, s⟩ := h
 exact ⟨g.cell h0, g.cell h1, (g.below.frozen (p := ⟨r, 0, none⟩) s).trans f0, (g.below.frozen (p := ⟨r, 1, none⟩) s).trans f1, Nat.lt_of_lt_of_le s g.size⟩
theorem storeW {w w' : World} {g : Nat} {x y u v : Int} (h : ResW w g x y) (e : w' = (w.setCell ⟨g, 0, none⟩ (.int .i64 u)).setCell ⟨g, 1, none⟩ (.int .i64 v)) :
  ResW w' g u v ∧ (∀ b p, b ≠ g → w'.cell? ⟨b, p, none⟩ = w.cell? ⟨b, p, none⟩) ∧ (∀ b u' v', b ≠ g → ResW w b u' v' → ResW w' b u' v') ∧ (∀ a, a.heap.size ≤ g → Grew a w → Grew a w') ∧ w'.heap.size = w.heap.size := by
 obtain ⟨h0, h1, f0, f1, s⟩ := h
 have e1 : (w.setCell ⟨g, 0, none⟩ (.int .i64 u)).cell? ⟨g, 1, none⟩ = some (.int .i64 y) := by rw [World.cell?_setCell_other _ _ _ _ (by simp)]; exact h1
 have far : ∀ b p, b ≠ g → w'.cell? ⟨b, p, none⟩ = w.cell? ⟨b, p, none⟩ := fun b p hb => by
  rw [e, World.cell?_setCell_other _ _ _ _ (by simp <;> omega), World.cell?_setCell_other _ _ _ _ (by simp <;> omega)]
 have sz : w'.heap.size = w.heap.size := by rw [e]; simp [World.setCell]
 refine ⟨⟨?_, ?_, by rw [e]; simpa using f0, by rw [e]; simpa using f1, by rw [sz]; exact s⟩, far, fun b u' v' hb k => ?_, fun a ha k => ?_, sz⟩
 ·rw [e, World.cell?_setCell_other _ _ _ _ (by simp)]; exact cell_set h0 _
 ·rw [e]; exact cell_set e1 _
 ·obtain ⟨k0, k1, l0, l1, ks⟩ := k
  exact ⟨(far _ _ hb).trans k0, (far _ _ hb).trans k1, by rw [e]; simpa using l0, by rw [e]; simpa using l1, by rw [sz]; exact ks⟩
 ·rw [e]; exact (k.setCell ha _).setCell ha _
theorem Box4.far {w w' : World} {r g : Nat} {u0 u1 u2 u3 : Value} (h : Box4 w r 0 u0 u1 u2 u3) (f : ∀ b p, b ≠ g → w'.cell? ⟨b, p, none⟩ = w.cell? ⟨b, p, none⟩) (hb : r ≠ g) : Box4 w' r 0 u0 u1 u2 u3 :=
 ⟨(f _ _ hb).trans h.1, (f _ _ hb).trans h.2.1, (f _ _ hb).trans h.2.2.1, (f _ _ hb).trans h.2.2.2⟩
theorem rowC_one {w : World} {t : TypeId} {b b' : Bool} {A C A' C' : Option Addr} {n c m d n' c' m' d' : Nat} {x y : Rat} (h : SpotC w (.agg #[.bool b, .slice A n c, .slice C m d, .bool b', .slice A' n' c', .slice C' m' d']) x y) :
  RowC (w.alloc (.cells #[.bool b, .slice A n c, .slice C m d, .bool b', .slice A' n' c', .slice C' m' d'] t)) (.slice (some ⟨w.heap.size, 0, none⟩) 1 1) [(x, y)] := by
 refine ⟨_, 1, rfl, Nat.le_refl _, by omega, fun _ => ⟨w.heap.size, 0, rfl, fun i p hp => ?_⟩⟩
 have hi := (List.getElem?_eq_some_iff.1 hp).1
 obtain rfl : i = 0 := by simp at hi; omega
 obtain rfl : (x, y) = p := by simpa using hp
 exact ⟨b, A, n, c, C, m, d, b', A', n', c', C', m', d', ⟨by simp [go_sem], by simp [go_sem], by simp [go_sem], by simp [go_sem], by simp [go_sem], by simp [go_sem]⟩, SpotC.kept h ((Grew.refl w).alloc _).keeps⟩
theorem rowC_two {w : World} {t : TypeId} {b b' : Bool} {A C A' C' : Option Addr} {n c m d n' c' m' d' : Nat} {x y : Rat} (h : SpotC w (.agg #[.bool b, .slice A n c, .slice C m d, .bool b', .slice A' n' c', .slice C' m' d']) x y)
  {b2 b2' : Bool} {A2 C2 A2' C2' : Option Addr} {n2 c2 m2 d2 n2' c2' m2' d2' : Nat} {x2 y2 : Rat} (h2 : SpotC w (.agg #[.bool b2, .slice A2 n2 c2, .slice C2 m2 d2, .bool b2', .slice A2' n2' c2', .slice C2' m2' d2']) x2 y2) :
  RowC (w.alloc (.cells #[.bool b, .slice A n c, .slice C m d, .bool b', .slice A' n' c', .slice C' m' d', .bool b2, .slice A2 n2 c2, .slice C2 m2 d2, .bool b2', .slice A2' n2' c2', .slice C2' m2' d2'] t)) (.slice (some ⟨w.heap.size, 0, none⟩) 2 2) [(x, y), (x2, y2)] := by
 refine ⟨_, 2, rfl, Nat.le_refl _, by omega, fun _ => ⟨w.heap.size, 0, rfl, fun i p hp => ?_⟩⟩
 have hi := (List.getElem?_eq_some_iff.1 hp).1
 have hk := ((Grew.refl w).alloc (.cells #[.bool b, .slice A n c, .slice C m d, .bool b', .slice A' n' c', .slice C' m' d', .bool b2, .slice A2 n2 c2, .slice C2 m2 d2, .bool b2', .slice A2' n2' c2', .slice C2' m2' d2'] t)).keeps
 rcases (show i = 0 ∨ i = 1 by simp at hi; omega) with rfl | rfl
 ·obtain rfl : (x, y) = p := by simpa using hp
  exact ⟨b, A, n, c, C, m, d, b', A', n', c', C', m', d', ⟨by simp [go_sem], by simp [go_sem], by simp [go_sem], by simp [go_sem], by simp [go_sem], by simp [go_sem]⟩, SpotC.kept h hk⟩
 ·obtain rfl : (x2, y2) = p := by simpa using hp
  exact ⟨b2, A2, n2, c2, C2, m2, d2, b2', A2', n2', c2', C2', m2', d2', ⟨by simp [go_sem], by simp [go_sem], by simp [go_sem], by simp [go_sem], by simp [go_sem], by simp [go_sem]⟩, SpotC.kept h2 hk⟩
def commonZ (s t : (Int × Int) × (Int × Int)) : List (Int × Int) :=
 let lo := if aheadB s.1.1 s.1.2 t.1.1 t.1.2 = true then t.1 else s.1
 let hi := if aheadB t.2.1 t.2.2 s.2.1 s.2.2 = true then t.2 else s.2
 if lo = hi then [lo] else if aheadB hi.1 hi.2 lo.1 lo.2 = true then [] else [lo, hi]
def castP (p : Int × Int) : Rat × Rat := ((p.1 : Rat), (p.2 : Rat))
set_option maxHeartbeats 4000000 in
theorem common_any (ax ay bx b_y cx cy dx dy : Int) (w : World) (ha : In64 ax ay) (hb : In64 bx b_y) (hc : In64 cx cy) (hd : In64 dx dy) :
  Calls Tryz.prog 74 #[segV ax ay bx b_y, segV cx cy dx dy] w fun e w' => ∃ v, e = .returned v ∧ RowC w' v ((commonZ (sortZ ax ay bx b_y) (sortZ cx cy dx dy)).map castP) ∧ Grew w w' := by
 obtain ⟨⟨⟨p0, p1⟩, p2, p3⟩, hP⟩ : ∃ s, sortZ ax ay bx b_y = s := ⟨_, rfl⟩
 obtain ⟨⟨⟨q0, q1⟩, q2, q3⟩, hQ⟩ : ∃ s, sortZ cx cy dx dy = s := ⟨_, rfl⟩
 have iP : In64 p0 p1 ∧ In64 p2 p3 := by
  unfold sortZ at hP
  split at hP <;> (simp only [Prod.mk.injEq] at hP; obtain ⟨⟨rfl, rfl⟩, rfl, rfl⟩ := hP; exact ⟨by assumption, by assumption⟩)
 have iQ : In64 q0 q1 ∧ In64 q2 q3 := by
  unfold sortZ at hQ
  split at hQ <;> (simp only [Prod.mk.injEq] at hQ; obtain ⟨⟨rfl, rfl⟩, rfl, rfl⟩ := hQ; exact ⟨by assumption, by assumption⟩)
 rw [hP, hQ]
 have eC : commonZ ((p0, p1), (p2, p3)) ((q0, q1), (q2, q3)) = commonZ ((p0, p1), (p2, p3)) ((q0, q1), (q2, q3)) := rfl
 obtain ⟨CL, hCL⟩ : ∃ CL, commonZ ((p0, p1), (p2, p3)) ((q0, q1), (q2, q3)) = CL := ⟨_, rfl⟩
 rw [hCL]
 unfold commonZ at hCL
 simp only at hCL
 obtain ⟨t1, ht1⟩ : ∃ t, aheadB p0 p1 q0 q1 = t := ⟨_, rfl⟩
 obtain ⟨t2, ht2⟩ : ∃ t, aheadB q2 q3 p2 p3 = t := ⟨_, rfl⟩
 rw [ht1, ht2] at hCL
 replace hCL := hZ hCL
 replace ht1 := hZ ht1
 replace ht2 := hZ ht2
 replace iP := hZ iP
 replace iQ := hZ iQ
 clear ha hb hc hd eC
 replace hP := hZ hP
 replace hQ := hZ hQ
 go_enter Tryz.func74, Tryz.ntmps74
 go_upto_region 1 with fail
 go_cut [] (fun wx => Box4 wx w.heap.size 0 (.int .i64 p0) (.int .i64 p1) (.int .i64 p2) (.int .i64 p3) ∧ Box4 wx (w.heap.size + 1) 0 (.int .i64 q0) (.int .i64 q1) (.int .i64 q2) (.int .i64 q3) ∧ w.heap.size + 1 < wx.heap.size ∧ Grew w wx)
 refine gen_wp ?_
 intro W0 hW0
 have G0 : Grew w W0 := by rw [hW0]; exact ((Grew.refl w).alloc _).alloc _
 have P : Box4 W0 (w.heap.size) 0 (.int .i64 ax) (.int .i64 ay) (.int .i64 bx) (.int .i64 b_y) := by rw [hW0]; exact ⟨by simp [go_sem], by simp [go_sem], by simp [go_sem], by simp [go_sem]⟩
 replace P := hZ P
 have Pr : Res4 W0 (w.heap.size) 0 (.int .i64 ax) (.int .i64 ay) (.int .i64 bx) (.int .i64 b_y) := by rw [hW0]; exact ⟨by simp [go_sem], by simp [go_sem], by simp [go_sem], by simp [go_sem], by simp [go_sem], by simp [go_sem], by simp [go_sem], by simp [go_sem], by simp <;> omega⟩
 replace Pr := hZ Pr
 have Q : Box4 W0 (w.heap.size + 1) 0 (.int .i64 cx) (.int .i64 cy) (.int .i64 dx) (.int .i64 dy) := by rw [hW0]; exact ⟨by simp [go_sem], by simp [go_sem], by simp [go_sem], by simp [go_sem]⟩
 replace Q := hZ Q
 have Qr : Res4 W0 (w.heap.size + 1) 0 (.int .i64 cx) (.int .i64 cy) (.int .i64 dx) (.int .i64 dy) := by rw [hW0]; exact ⟨by simp [go_sem], by simp [go_sem], by simp [go_sem], by simp [go_sem], by simp [go_sem], by simp [go_sem], by simp [go_sem], by simp [go_sem], by simp <;> omega⟩
 replace Qr := hZ Qr
 have z0 : w.heap.size < W0.heap.size := by rw [hW0]; simp <;> omega
 replace z0 := hZ z0
 have z1 : w.heap.size + 1 < W0.heap.size := by rw [hW0]; simp <;> omega
 replace z1 := hZ z1
 clear hW0
 replace G0 := hZ G0
 ·skip
  have gd : Grew W0 W0.drew := (Grew.refl W0).drew
  replace Pr := hZ (Pr.out.grew gd)
  replace Qr := hZ (Qr.out.grew gd)
  replace P := hZ (P.out.grew gd)
  replace Q := hZ (Q.out.grew gd)
  replace z0 := hZ (lt_grew z0.out gd)
  replace z1 := hZ (lt_grew z1.out gd)
  obtain ⟨P0, P1, P2, P3⟩ := P.out
  obtain ⟨Q0, Q1, Q2, Q3⟩ := Q.out
  go_region_law (first | ((try go_simp); go_at_call 112; with_reducible refine (sortedz_any ax ay bx b_y _).mono ?_; rintro e w1 ⟨he1, g1⟩; rw [he1, hP.out]; clear he1; replace Pr := hZ (Pr.out.grew g1); replace Qr := hZ (Qr.out.grew g1); replace P := hZ (P.out.grew g1); replace Q := hZ (Q.out.grew g1); replace z0 := hZ (lt_grew z0.out g1); replace z1 := hZ (lt_grew z1.out g1); have P0 := P.out.p0; have P1 := P.out.p1; have P2 := P.out.p2; have P3 := P.out.p3; have Q0 := Q.out.p0; have Q1 := Q.out.p1; have Q2 := Q.out.p2; have Q3 := Q.out.p3) | (go_loud ((try go_simp); go_at_call 112; with_reducible refine (sortedz_any cx cy dx dy _).mono ?_; rintro e w2 ⟨he2, g2⟩; rw [he2, hQ.out]; clear he2; replace Pr := hZ (Pr.out.grew g2); replace Qr := hZ (Qr.out.grew g2); replace P := hZ (P.out.grew g2); replace Q := hZ (Q.out.grew g2); replace z0 := hZ (lt_grew z0.out g2); replace z1 := hZ (lt_grew z1.out g2); have P0 := P.out.p0; have P1 := P.out.p1; have P2 := P.out.p2; have P3 := P.out.p3; have Q0 := Q.out.p0; have Q1 := Q.out.p1; have Q2 := Q.out.p2; have Q3 := Q.out.p3; have Prf0 := Pr.out.f0; have Prf1 := Pr.out.f1; have Prf2 := Pr.out.f2; have Prf3 := Pr.out.f3; have Qrf0 := Qr.out.f0; have Qrf1 := Qr.out.f1; have Qrf2 := Qr.out.f2; have Qrf3 := Qr.out.f3)))
  all_goals
   have GC := hZ (((G0.out.trans gd).trans g1).trans g2)
   clear G0 gd g1 g2
   refine gen_then ?_
   intro W9 hW9
   obtain ⟨BP, BQ, GG⟩ := store44 Pr.out Qr.out (by omega) hW9
   have G9 := GG w (by omega) (by omega) GC.out
   have sz9 : w.heap.size + 1 < W9.heap.size := Nat.lt_of_lt_of_le z1.out (by rw [hW9]; simp [World.setCell])
   clear hW9 GG
   go_wp2_with fail
   go_meet
   exact ⟨BP, BQ, sz9, G9⟩
 ·obtain ⟨BP, BQ, sz, G1⟩ := hcut
  obtain ⟨W1, hW1⟩ : ∃ W1 : World, W1 = wc := ⟨_, rfl⟩
  rw [← hW1] at BP BQ sz G1 ⊢
  clear hW1
  have P := hZ BP
  have Q := hZ BQ
  have G0 := hZ G1
  clear BP BQ G1
  go_upto_region 2 with fail
  go_cut [5, 6] (fun s5 s6 wx => ∃ e5 e6 : Nat, s5 = .pointer (some ⟨e5, 0, none⟩) ∧ s6 = .pointer (some ⟨e6, 0, none⟩) ∧ ResW wx e5 p0 p1 ∧ ResW wx e6 p2 p3 ∧ e5 ≠ e6 ∧ W1.heap.size ≤ e5 ∧ W1.heap.size ≤ e6 ∧ Grew W1 wx)
  ·obtain ⟨P0, P1, P2, P3⟩ := P.out
   have za : w.heap.size < W1.heap.size := by omega
   have zb : ¬ w.heap.size = W1.heap.size := by omega
   have zc : ¬ w.heap.size = W1.heap.size + 1 := by omega
   have zd : ¬ W1.heap.size = w.heap.size := by omega
   have ze : ¬ W1.heap.size + 1 = w.heap.size := by omega
   go_region
   all_goals
    go_wp2_with fail
    go_meet
    exact ⟨_, _, rfl, rfl, ⟨by simp [go_sem], by simp [go_sem], by simp [go_sem], by simp [go_sem], by simp <;> omega⟩, ⟨by simp [go_sem], by simp [go_sem], by simp [go_sem], by simp [go_sem], by simp <;> omega⟩, by omega, by simp <;> omega, by simp <;> omega, by first | exact ((Grew.refl _).alloc _).alloc _ | exact (((Grew.refl _).alloc _).alloc _).drew | exact (((Grew.refl _).drew).alloc _).alloc _⟩
  ·obtain ⟨e5, e6, rfl, rfl, L, H, hne, z5, z6, G2⟩ := hcut
   have zw : w.heap.size ≤ W1.heap.size := G0.out.size
   replace L := hZ L
   replace H := hZ H
   replace Q := hZ (Q.out.grew G2)
   have GX := hZ (G0.out.trans G2)
   clear G0 G2 P
   obtain ⟨L0, L1, -, -, -⟩ := L.out
   obtain ⟨Q0, Q1, Q2, Q3⟩ := Q.out
   go_wp2_with fail
   refine (ahead_any p0 p1 q0 q1 _).mono ?_
   rintro e w1 ⟨rfl, g1⟩
   rw [ht1.out]
   replace L := hZ (L.out.grew g1)
   replace H := hZ (H.out.grew g1)
   replace Q := hZ (Q.out.grew g1)
   replace GX := hZ (GX.out.trans g1)
   clear g1 L0 L1 Q0 Q1 Q2 Q3
   cases t1
   ·
    obtain ⟨H0, H1, -, -, -⟩ := H.out
    obtain ⟨Q0, Q1, Q2, Q3⟩ := Q.out
    go_wp2_with fail
    refine (ahead_any q2 q3 p2 p3 _).mono ?_
    rintro e w2 ⟨rfl, g2⟩
    rw [ht2.out]
    replace L := hZ (L.out.grew g2)
    replace H := hZ (H.out.grew g2)
    replace Q := hZ (Q.out.grew g2)
    replace GX := hZ (GX.out.trans g2)
    clear g2 H0 H1 Q0 Q1 Q2 Q3
    cases t2
    ·
     have hC := hCL.out
     simp only [Bool.false_eq_true, if_false] at hC
     replace hC := hZ hC
     by_cases hx : p0 = p2
     ·by_cases hy : p1 = p3
      ·have e1 := hZ (show [(p2, p3)] = CL by rw [← hC.out, if_pos (show ((p0, p1) : Int × Int) = (p2, p3) by rw [hx, hy]), hx, hy])
       obtain ⟨L0, L1, -, -, -⟩ := L.out
       obtain ⟨H0, H1, -, -, -⟩ := H.out
       rw [hx] at L0
       rw [hy] at L1
       clear hC hx hy
       go_wp2_with fail
       refine (at_any p2 p3 _ iP.out.2.1 iP.out.2.2.1 iP.out.2.2.2.1 iP.out.2.2.2.2).mono ?_
       rintro e w5 ⟨V5, rfl, hV5, g5⟩
       obtain ⟨b7, A7, n7, c7, C7, m7, d7, b8, A8, n8, c8, C8, m8, d8, rfl, -, -, X5⟩ := hV5.laid
       have GY := GX.out.trans g5
       clear hV5 g5 L0 L1 H0 H1
       go_wp2_with fail
       go_ret
       exact ⟨_, rfl, by rw [← e1.out]; exact rowC_one X5.out, GY.alloc _⟩
      ·
       have e0 := hZ (show (if aheadB p2 p3 p0 p1 = true then [] else [(p0, p1), (p2, p3)]) = CL by rw [← hC.out, if_neg (fun e => hy (congrArg Prod.snd e))])
       clear hC hx
       obtain ⟨t3, ht3⟩ : ∃ t, aheadB p2 p3 p0 p1 = t := ⟨_, rfl⟩
       rw [ht3] at e0
       replace ht3 := hZ ht3
       obtain ⟨L0, L1, -, -, -⟩ := L.out
       obtain ⟨H0, H1, -, -, -⟩ := H.out
       go_wp2_with fail
       refine (ahead_any p2 p3 p0 p1 _).mono ?_
       rintro e w4 ⟨rfl, g4⟩
       rw [ht3.out]
       have GY := GX.out.trans g4
       cases t3
       ·
        have e1 := e0.out
        simp only [Bool.false_eq_true, if_false] at e1
        replace e1 := hZ e1
        replace L0 := g4.cell L0
        replace L1 := g4.cell L1
        replace H0 := g4.cell H0
        replace H1 := g4.cell H1
        clear e0 g4
        go_wp2_with fail
        go_region_held3 (fun w' => w'.cell? ⟨e5, 0, none⟩ = some (.int .i64 p0) ∧ w'.cell? ⟨e5, 1, none⟩ = some (.int .i64 p1) ∧ w'.cell? ⟨e6, 0, none⟩ = some (.int .i64 p2) ∧ w'.cell? ⟨e6, 1, none⟩ = some (.int .i64 p3))
         (first | exact ⟨L0, L1, H0, H1⟩ | exact ⟨g5.cell L0, g5.cell L1, g5.cell H0, g5.cell H1⟩ | exact ⟨(g5.trans g6).cell L0, (g5.trans g6).cell L1, (g5.trans g6).cell H0, (g5.trans g6).cell H1⟩ | exact ⟨((g5.trans g6).alloc _).cell L0, ((g5.trans g6).alloc _).cell L1, ((g5.trans g6).alloc _).cell H0, ((g5.trans g6).alloc _).cell H1⟩)
         (first | (have chk := g5; clear chk; go_at_call 42; refine (at_any p2 p3 _ iP.out.2.1 iP.out.2.2.1 iP.out.2.2.2.1 iP.out.2.2.2.2).mono ?_; rintro e w6 ⟨V6, rfl, hV6, g6⟩; obtain ⟨b9, A9, n9, c9, C9, m9, d9, b10, A10, n10, c10, C10, m10, d10, rfl, -, -, X6⟩ := hV6.laid; clear hV6) | (go_at_call 42; refine (at_any p0 p1 _ iP.out.1.1 iP.out.1.2.1 iP.out.1.2.2.1 iP.out.1.2.2.2).mono ?_; rintro e w5 ⟨V5, rfl, hV5, g5⟩; obtain ⟨b7, A7, n7, c7, C7, m7, d7, b8, A8, n8, c8, C8, m8, d8, rfl, -, -, X5⟩ := hV5.laid; clear hV5))
        go_wp2_with fail
        go_ret
        exact ⟨_, rfl, by rw [← e1.out]; exact rowC_two (SpotC.kept X5.out g6.keeps) X6.out, ((GY.drew.trans g5).trans g6).alloc _⟩
       ·
        have e1 := e0.out
        simp only [if_true] at e1
        replace e1 := hZ e1
        clear e0 g4 L0 L1 H0 H1
        go_wp2_with fail
        go_ret
        exact ⟨_, rfl, by rw [← e1.out]; exact RowP.nil _ _, GY⟩
     ·
      have e0 := hZ (show (if aheadB p2 p3 p0 p1 = true then [] else [(p0, p1), (p2, p3)]) = CL by rw [← hC.out, if_neg (fun e => hx (congrArg Prod.fst e))])
      clear hC
      obtain ⟨t3, ht3⟩ : ∃ t, aheadB p2 p3 p0 p1 = t := ⟨_, rfl⟩
      rw [ht3] at e0
      replace ht3 := hZ ht3
      obtain ⟨L0, L1, -, -, -⟩ := L.out
      obtain ⟨H0, H1, -, -, -⟩ := H.out
      go_wp2_with fail
      refine (ahead_any p2 p3 p0 p1 _).mono ?_
      rintro e w4 ⟨rfl, g4⟩
      rw [ht3.out]
      have GY := GX.out.trans g4
      cases t3
      ·
       have e1 := e0.out
       simp only [Bool.false_eq_true, if_false] at e1
       replace e1 := hZ e1
       replace L0 := g4.cell L0
       replace L1 := g4.cell L1
       replace H0 := g4.cell H0
       replace H1 := g4.cell H1
       clear e0 g4
       go_wp2_with fail
       go_region_held3 (fun w' => w'.cell? ⟨e5, 0, none⟩ = some (.int .i64 p0) ∧ w'.cell? ⟨e5, 1, none⟩ = some (.int .i64 p1) ∧ w'.cell? ⟨e6, 0, none⟩ = some (.int .i64 p2) ∧ w'.cell? ⟨e6, 1, none⟩ = some (.int .i64 p3))
        (first | exact ⟨L0, L1, H0, H1⟩ | exact ⟨g5.cell L0, g5.cell L1, g5.cell H0, g5.cell H1⟩ | exact ⟨(g5.trans g6).cell L0, (g5.trans g6).cell L1, (g5.trans g6).cell H0, (g5.trans g6).cell H1⟩ | exact ⟨((g5.trans g6).alloc _).cell L0, ((g5.trans g6).alloc _).cell L1, ((g5.trans g6).alloc _).cell H0, ((g5.trans g6).alloc _).cell H1⟩)
        (first | (have chk := g5; clear chk; go_at_call 42; refine (at_any p2 p3 _ iP.out.2.1 iP.out.2.2.1 iP.out.2.2.2.1 iP.out.2.2.2.2).mono ?_; rintro e w6 ⟨V6, rfl, hV6, g6⟩; obtain ⟨b9, A9, n9, c9, C9, m9, d9, b10, A10, n10, c10, C10, m10, d10, rfl, -, -, X6⟩ := hV6.laid; clear hV6) | (go_at_call 42; refine (at_any p0 p1 _ iP.out.1.1 iP.out.1.2.1 iP.out.1.2.2.1 iP.out.1.2.2.2).mono ?_; rintro e w5 ⟨V5, rfl, hV5, g5⟩; obtain ⟨b7, A7, n7, c7, C7, m7, d7, b8, A8, n8, c8, C8, m8, d8, rfl, -, -, X5⟩ := hV5.laid; clear hV5))
       go_wp2_with fail
       go_ret
       exact ⟨_, rfl, by rw [← e1.out]; exact rowC_two (SpotC.kept X5.out g6.keeps) X6.out, ((GY.drew.trans g5).trans g6).alloc _⟩
      ·
       have e1 := e0.out
       simp only [if_true] at e1
       replace e1 := hZ e1
       clear e0 g4 L0 L1 H0 H1
       go_wp2_with fail
       go_ret
       exact ⟨_, rfl, by rw [← e1.out]; exact RowP.nil _ _, GY⟩
    ·
     have hC := hCL.out
     simp only [Bool.false_eq_true, if_false, if_true] at hC
     replace hC := hZ hC
     obtain ⟨H0, H1, Hf0, Hf1, Hs⟩ := H.out
     obtain ⟨Q0, Q1, Q2, Q3⟩ := Q.out
     go_upto_region 7 with fail
     refine gen_wp ?_
     intro X hX
     obtain ⟨nH, nf, nW, nG, nz⟩ := storeW H.out hX
     replace L := hZ (nW _ _ _ hne L.out)
     replace H := hZ nH
     replace GX := hZ (nG w (by omega) GX.out)
     clear H0 H1 Hf0 Hf1 Hs Q0 Q1 Q2 Q3 hX nH nf nW nG nz Q
     by_cases hx : p0 = q2
     ·by_cases hy : p1 = q3
      ·have e1 := hZ (show [(q2, q3)] = CL by rw [← hC.out, if_pos (show ((p0, p1) : Int × Int) = (q2, q3) by rw [hx, hy]), hx, hy])
       obtain ⟨L0, L1, -, -, -⟩ := L.out
       obtain ⟨H0, H1, -, -, -⟩ := H.out
       rw [hx] at L0
       rw [hy] at L1
       clear hC hx hy
       go_wp2_with fail
       refine (at_any q2 q3 _ iQ.out.2.1 iQ.out.2.2.1 iQ.out.2.2.2.1 iQ.out.2.2.2.2).mono ?_
       rintro e w5 ⟨V5, rfl, hV5, g5⟩
       obtain ⟨b7, A7, n7, c7, C7, m7, d7, b8, A8, n8, c8, C8, m8, d8, rfl, -, -, X5⟩ := hV5.laid
       have GY := GX.out.trans g5
       clear hV5 g5 L0 L1 H0 H1
       go_wp2_with fail
       go_ret
       exact ⟨_, rfl, by rw [← e1.out]; exact rowC_one X5.out, GY.alloc _⟩
      ·
       have e0 := hZ (show (if aheadB q2 q3 p0 p1 = true then [] else [(p0, p1), (q2, q3)]) = CL by rw [← hC.out, if_neg (fun e => hy (congrArg Prod.snd e))])
       clear hC hx
       obtain ⟨t3, ht3⟩ : ∃ t, aheadB q2 q3 p0 p1 = t := ⟨_, rfl⟩
       rw [ht3] at e0
       replace ht3 := hZ ht3
       obtain ⟨L0, L1, -, -, -⟩ := L.out
       obtain ⟨H0, H1, -, -, -⟩ := H.out
       go_wp2_with fail
       refine (ahead_any q2 q3 p0 p1 _).mono ?_
       rintro e w4 ⟨rfl, g4⟩
       rw [ht3.out]
       have GY := GX.out.trans g4
       cases t3
       ·
        have e1 := e0.out
        simp only [Bool.false_eq_true, if_false] at e1
        replace e1 := hZ e1
        replace L0 := g4.cell L0
        replace L1 := g4.cell L1
        replace H0 := g4.cell H0
        replace H1 := g4.cell H1
        clear e0 g4
        go_wp2_with fail
        go_region_held3 (fun w' => w'.cell? ⟨e5, 0, none⟩ = some (.int .i64 p0) ∧ w'.cell? ⟨e5, 1, none⟩ = some (.int .i64 p1) ∧ w'.cell? ⟨e6, 0, none⟩ = some (.int .i64 q2) ∧ w'.cell? ⟨e6, 1, none⟩ = some (.int .i64 q3))
         (first | exact ⟨L0, L1, H0, H1⟩ | exact ⟨g5.cell L0, g5.cell L1, g5.cell H0, g5.cell H1⟩ | exact ⟨(g5.trans g6).cell L0, (g5.trans g6).cell L1, (g5.trans g6).cell H0, (g5.trans g6).cell H1⟩ | exact ⟨((g5.trans g6).alloc _).cell L0, ((g5.trans g6).alloc _).cell L1, ((g5.trans g6).alloc _).cell H0, ((g5.trans g6).alloc _).cell H1⟩)
         (first | (have chk := g5; clear chk; go_at_call 42; refine (at_any q2 q3 _ iQ.out.2.1 iQ.out.2.2.1 iQ.out.2.2.2.1 iQ.out.2.2.2.2).mono ?_; rintro e w6 ⟨V6, rfl, hV6, g6⟩; obtain ⟨b9, A9, n9, c9, C9, m9, d9, b10, A10, n10, c10, C10, m10, d10, rfl, -, -, X6⟩ := hV6.laid; clear hV6) | (go_at_call 42; refine (at_any p0 p1 _ iP.out.1.1 iP.out.1.2.1 iP.out.1.2.2.1 iP.out.1.2.2.2).mono ?_; rintro e w5 ⟨V5, rfl, hV5, g5⟩; obtain ⟨b7, A7, n7, c7, C7, m7, d7, b8, A8, n8, c8, C8, m8, d8, rfl, -, -, X5⟩ := hV5.laid; clear hV5))
        go_wp2_with fail
        go_ret
        exact ⟨_, rfl, by rw [← e1.out]; exact rowC_two (SpotC.kept X5.out g6.keeps) X6.out, ((GY.drew.trans g5).trans g6).alloc _⟩
       ·
        have e1 := e0.out
        simp only [if_true] at e1
        replace e1 := hZ e1
        clear e0 g4 L0 L1 H0 H1
        go_wp2_with fail
        go_ret
        exact ⟨_, rfl, by rw [← e1.out]; exact RowP.nil _ _, GY⟩
     ·
      have e0 := hZ (show (if aheadB q2 q3 p0 p1 = true then [] else [(p0, p1), (q2, q3)]) = CL by rw [← hC.out, if_neg (fun e => hx (congrArg Prod.fst e))])
      clear hC
      obtain ⟨t3, ht3⟩ : ∃ t, aheadB q2 q3 p0 p1 = t := ⟨_, rfl⟩
      rw [ht3] at e0
      replace ht3 := hZ ht3
      obtain ⟨L0, L1, -, -, -⟩ := L.out
      obtain ⟨H0, H1, -, -, -⟩ := H.out
      go_wp2_with fail
      refine (ahead_any q2 q3 p0 p1 _).mono ?_
      rintro e w4 ⟨rfl, g4⟩
      rw [ht3.out]
      have GY := GX.out.trans g4
      cases t3
      ·
       have e1 := e0.out
       simp only [Bool.false_eq_true, if_false] at e1
       replace e1 := hZ e1
       replace L0 := g4.cell L0
       replace L1 := g4.cell L1
       replace H0 := g4.cell H0
       replace H1 := g4.cell H1
       clear e0 g4
       go_wp2_with fail
       go_region_held3 (fun w' => w'.cell? ⟨e5, 0, none⟩ = some (.int .i64 p0) ∧ w'.cell? ⟨e5, 1, none⟩ = some (.int .i64 p1) ∧ w'.cell? ⟨e6, 0, none⟩ = some (.int .i64 q2) ∧ w'.cell? ⟨e6, 1, none⟩ = some (.int .i64 q3))
        (first | exact ⟨L0, L1, H0, H1⟩ | exact ⟨g5.cell L0, g5.cell L1, g5.cell H0, g5.cell H1⟩ | exact ⟨(g5.trans g6).cell L0, (g5.trans g6).cell L1, (g5.trans g6).cell H0, (g5.trans g6).cell H1⟩ | exact ⟨((g5.trans g6).alloc _).cell L0, ((g5.trans g6).alloc _).cell L1, ((g5.trans g6).alloc _).cell H0, ((g5.trans g6).alloc _).cell H1⟩)
        (first | (have chk := g5; clear chk; go_at_call 42; refine (at_any q2 q3 _ iQ.out.2.1 iQ.out.2.2.1 iQ.out.2.2.2.1 iQ.out.2.2.2.2).mono ?_; rintro e w6 ⟨V6, rfl, hV6, g6⟩; obtain ⟨b9, A9, n9, c9, C9, m9, d9, b10, A10, n10, c10, C10, m10, d10, rfl, -, -, X6⟩ := hV6.laid; clear hV6) | (go_at_call 42; refine (at_any p0 p1 _ iP.out.1.1 iP.out.1.2.1 iP.out.1.2.2.1 iP.out.1.2.2.2).mono ?_; rintro e w5 ⟨V5, rfl, hV5, g5⟩; obtain ⟨b7, A7, n7, c7, C7, m7, d7, b8, A8, n8, c8, C8, m8, d8, rfl, -, -, X5⟩ := hV5.laid; clear hV5))
       go_wp2_with fail
       go_ret
       exact ⟨_, rfl, by rw [← e1.out]; exact rowC_two (SpotC.kept X5.out g6.keeps) X6.out, ((GY.drew.trans g5).trans g6).alloc _⟩
      ·
       have e1 := e0.out
       simp only [if_true] at e1
       replace e1 := hZ e1
       clear e0 g4 L0 L1 H0 H1
       go_wp2_with fail
       go_ret
       exact ⟨_, rfl, by rw [← e1.out]; exact RowP.nil _ _, GY⟩
   ·
    obtain ⟨L0, L1, Lf0, Lf1, Ls⟩ := L.out
    obtain ⟨Q0, Q1, Q2, Q3⟩ := Q.out
    go_upto_region 5 with fail
    refine gen_wp ?_
    intro X hX
    obtain ⟨nL, nf, nW, nG, nz⟩ := storeW L.out hX
    replace H := hZ (nW _ _ _ (fun e => hne e.symm) H.out)
    replace Q := hZ (Q.out.far nf (by omega))
    replace L := hZ nL
    replace GX := hZ (nG w (by omega) GX.out)
    clear L0 L1 Lf0 Lf1 Ls Q0 Q1 Q2 Q3 hX nL nf nW nG nz
    obtain ⟨H0, H1, -, -, -⟩ := H.out
    obtain ⟨Q0, Q1, Q2, Q3⟩ := Q.out
    go_wp2_with fail
    refine (ahead_any q2 q3 p2 p3 _).mono ?_
    rintro e w2 ⟨rfl, g2⟩
    rw [ht2.out]
    replace L := hZ (L.out.grew g2)
    replace H := hZ (H.out.grew g2)
    replace Q := hZ (Q.out.grew g2)
    replace GX := hZ (GX.out.trans g2)
    clear g2 H0 H1 Q0 Q1 Q2 Q3
    cases t2
    ·
     have hC := hCL.out
     simp only [Bool.false_eq_true, if_false, if_true] at hC
     replace hC := hZ hC
     by_cases hx : q0 = p2
     ·by_cases hy : q1 = p3
      ·have e1 := hZ (show [(p2, p3)] = CL by rw [← hC.out, if_pos (show ((q0, q1) : Int × Int) = (p2, p3) by rw [hx, hy]), hx, hy])
       obtain ⟨L0, L1, -, -, -⟩ := L.out
       obtain ⟨H0, H1, -, -, -⟩ := H.out
       rw [hx] at L0
       rw [hy] at L1
       clear hC hx hy
       go_wp2_with fail
       refine (at_any p2 p3 _ iP.out.2.1 iP.out.2.2.1 iP.out.2.2.2.1 iP.out.2.2.2.2).mono ?_
       rintro e w5 ⟨V5, rfl, hV5, g5⟩
       obtain ⟨b7, A7, n7, c7, C7, m7, d7, b8, A8, n8, c8, C8, m8, d8, rfl, -, -, X5⟩ := hV5.laid
       have GY := GX.out.trans g5
       clear hV5 g5 L0 L1 H0 H1
       go_wp2_with fail
       go_ret
       exact ⟨_, rfl, by rw [← e1.out]; exact rowC_one X5.out, GY.alloc _⟩
      ·
       have e0 := hZ (show (if aheadB p2 p3 q0 q1 = true then [] else [(q0, q1), (p2, p3)]) = CL by rw [← hC.out, if_neg (fun e => hy (congrArg Prod.snd e))])
       clear hC hx
       obtain ⟨t3, ht3⟩ : ∃ t, aheadB p2 p3 q0 q1 = t := ⟨_, rfl⟩
       rw [ht3] at e0
       replace ht3 := hZ ht3
       obtain ⟨L0, L1, -, -, -⟩ := L.out
       obtain ⟨H0, H1, -, -, -⟩ := H.out
       go_wp2_with fail
       refine (ahead_any p2 p3 q0 q1 _).mono ?_
       rintro e w4 ⟨rfl, g4⟩
       rw [ht3.out]
       have GY := GX.out.trans g4
       cases t3
       ·
        have e1 := e0.out
        simp only [Bool.false_eq_true, if_false] at e1
        replace e1 := hZ e1
        replace L0 := g4.cell L0
        replace L1 := g4.cell L1
        replace H0 := g4.cell H0
        replace H1 := g4.cell H1
        clear e0 g4
        go_wp2_with fail
        go_region_held3 (fun w' => w'.cell? ⟨e5, 0, none⟩ = some (.int .i64 q0) ∧ w'.cell? ⟨e5, 1, none⟩ = some (.int .i64 q1) ∧ w'.cell? ⟨e6, 0, none⟩ = some (.int .i64 p2) ∧ w'.cell? ⟨e6, 1, none⟩ = some (.int .i64 p3))
         (first | exact ⟨L0, L1, H0, H1⟩ | exact ⟨g5.cell L0, g5.cell L1, g5.cell H0, g5.cell H1⟩ | exact ⟨(g5.trans g6).cell L0, (g5.trans g6).cell L1, (g5.trans g6).cell H0, (g5.trans g6).cell H1⟩ | exact ⟨((g5.trans g6).alloc _).cell L0, ((g5.trans g6).alloc _).cell L1, ((g5.trans g6).alloc _).cell H0, ((g5.trans g6).alloc _).cell H1⟩)
         (first | (have chk := g5; clear chk; go_at_call 42; refine (at_any p2 p3 _ iP.out.2.1 iP.out.2.2.1 iP.out.2.2.2.1 iP.out.2.2.2.2).mono ?_; rintro e w6 ⟨V6, rfl, hV6, g6⟩; obtain ⟨b9, A9, n9, c9, C9, m9, d9, b10, A10, n10, c10, C10, m10, d10, rfl, -, -, X6⟩ := hV6.laid; clear hV6) | (go_at_call 42; refine (at_any q0 q1 _ iQ.out.1.1 iQ.out.1.2.1 iQ.out.1.2.2.1 iQ.out.1.2.2.2).mono ?_; rintro e w5 ⟨V5, rfl, hV5, g5⟩; obtain ⟨b7, A7, n7, c7, C7, m7, d7, b8, A8, n8, c8, C8, m8, d8, rfl, -, -, X5⟩ := hV5.laid; clear hV5))
        go_wp2_with fail
        go_ret
        exact ⟨_, rfl, by rw [← e1.out]; exact rowC_two (SpotC.kept X5.out g6.keeps) X6.out, ((GY.drew.trans g5).trans g6).alloc _⟩
       ·
        have e1 := e0.out
        simp only [if_true] at e1
        replace e1 := hZ e1
        clear e0 g4 L0 L1 H0 H1
        go_wp2_with fail
        go_ret
        exact ⟨_, rfl, by rw [← e1.out]; exact RowP.nil _ _, GY⟩
     ·
      have e0 := hZ (show (if aheadB p2 p3 q0 q1 = true then [] else [(q0, q1), (p2, p3)]) = CL by rw [← hC.out, if_neg (fun e => hx (congrArg Prod.fst e))])
      clear hC
      obtain ⟨t3, ht3⟩ : ∃ t, aheadB p2 p3 q0 q1 = t := ⟨_, rfl⟩
      rw [ht3] at e0
      replace ht3 := hZ ht3
      obtain ⟨L0, L1, -, -, -⟩ := L.out
      obtain ⟨H0, H1, -, -, -⟩ := H.out
      go_wp2_with fail
      refine (ahead_any p2 p3 q0 q1 _).mono ?_
      rintro e w4 ⟨rfl, g4⟩
      rw [ht3.out]
      have GY := GX.out.trans g4
      cases t3
      ·
       have e1 := e0.out
       simp only [Bool.false_eq_true, if_false] at e1
       replace e1 := hZ e1
       replace L0 := g4.cell L0
       replace L1 := g4.cell L1
       replace H0 := g4.cell H0
       replace H1 := g4.cell H1
       clear e0 g4
       go_wp2_with fail
       go_region_held3 (fun w' => w'.cell? ⟨e5, 0, none⟩ = some (.int .i64 q0) ∧ w'.cell? ⟨e5, 1, none⟩ = some (.int .i64 q1) ∧ w'.cell? ⟨e6, 0, none⟩ = some (.int .i64 p2) ∧ w'.cell? ⟨e6, 1, none⟩ = some (.int .i64 p3))
        (first | exact ⟨L0, L1, H0, H1⟩ | exact ⟨g5.cell L0, g5.cell L1, g5.cell H0, g5.cell H1⟩ | exact ⟨(g5.trans g6).cell L0, (g5.trans g6).cell L1, (g5.trans g6).cell H0, (g5.trans g6).cell H1⟩ | exact ⟨((g5.trans g6).alloc _).cell L0, ((g5.trans g6).alloc _).cell L1, ((g5.trans g6).alloc _).cell H0, ((g5.trans g6).alloc _).cell H1⟩)
        (first | (have chk := g5; clear chk; go_at_call 42; refine (at_any p2 p3 _ iP.out.2.1 iP.out.2.2.1 iP.out.2.2.2.1 iP.out.2.2.2.2).mono ?_; rintro e w6 ⟨V6, rfl, hV6, g6⟩; obtain ⟨b9, A9, n9, c9, C9, m9, d9, b10, A10, n10, c10, C10, m10, d10, rfl, -, -, X6⟩ := hV6.laid; clear hV6) | (go_at_call 42; refine (at_any q0 q1 _ iQ.out.1.1 iQ.out.1.2.1 iQ.out.1.2.2.1 iQ.out.1.2.2.2).mono ?_; rintro e w5 ⟨V5, rfl, hV5, g5⟩; obtain ⟨b7, A7, n7, c7, C7, m7, d7, b8, A8, n8, c8, C8, m8, d8, rfl, -, -, X5⟩ := hV5.laid; clear hV5))
       go_wp2_with fail
       go_ret
       exact ⟨_, rfl, by rw [← e1.out]; exact rowC_two (SpotC.kept X5.out g6.keeps) X6.out, ((GY.drew.trans g5).trans g6).alloc _⟩
      ·
       have e1 := e0.out
       simp only [if_true] at e1
       replace e1 := hZ e1
       clear e0 g4 L0 L1 H0 H1
       go_wp2_with fail
       go_ret
       exact ⟨_, rfl, by rw [← e1.out]; exact RowP.nil _ _, GY⟩
    ·
     have hC := hCL.out
     simp only [if_true] at hC
     replace hC := hZ hC
     obtain ⟨H0, H1, Hf0, Hf1, Hs⟩ := H.out
     obtain ⟨Q0, Q1, Q2, Q3⟩ := Q.out
     go_upto_region 7 with fail
     refine gen_wp ?_
     intro X hX
     obtain ⟨nH, nf, nW, nG, nz⟩ := storeW H.out hX
     replace L := hZ (nW _ _ _ hne L.out)
     replace H := hZ nH
     replace GX := hZ (nG w (by omega) GX.out)
     clear H0 H1 Hf0 Hf1 Hs Q0 Q1 Q2 Q3 hX nH nf nW nG nz Q
     by_cases hx : q0 = q2
     ·by_cases hy : q1 = q3
      ·have e1 := hZ (show [(q2, q3)] = CL by rw [← hC.out, if_pos (show ((q0, q1) : Int × Int) = (q2, q3) by rw [hx, hy]), hx, hy])
       obtain ⟨L0, L1, -, -, -⟩ := L.out
       obtain ⟨H0, H1, -, -, -⟩ := H.out
       rw [hx] at L0
       rw [hy] at L1
       clear hC hx hy
       go_wp2_with fail
       refine (at_any q2 q3 _ iQ.out.2.1 iQ.out.2.2.1 iQ.out.2.2.2.1 iQ.out.2.2.2.2).mono ?_
       rintro e w5 ⟨V5, rfl, hV5, g5⟩
       obtain ⟨b7, A7, n7, c7, C7, m7, d7, b8, A8, n8, c8, C8, m8, d8, rfl, -, -, X5⟩ := hV5.laid
       have GY := GX.out.trans g5
       clear hV5 g5 L0 L1 H0 H1
       go_wp2_with fail
       go_ret
       exact ⟨_, rfl, by rw [← e1.out]; exact rowC_one X5.out, GY.alloc _⟩
      ·
       have e0 := hZ (show (if aheadB q2 q3 q0 q1 = true then [] else [(q0, q1), (q2, q3)]) = CL by rw [← hC.out, if_neg (fun e => hy (congrArg Prod.snd e))])
       clear hC hx
       obtain ⟨t3, ht3⟩ : ∃ t, aheadB q2 q3 q0 q1 = t := ⟨_, rfl⟩
       rw [ht3] at e0
       replace ht3 := hZ ht3
       obtain ⟨L0, L1, -, -, -⟩ := L.out
       obtain ⟨H0, H1, -, -, -⟩ := H.out
       go_wp2_with fail
       refine (ahead_any q2 q3 q0 q1 _).mono ?_
       rintro e w4 ⟨rfl, g4⟩
       rw [ht3.out]
       have GY := GX.out.trans g4
       cases t3
       ·
        have e1 := e0.out
        simp only [Bool.false_eq_true, if_false] at e1
        replace e1 := hZ e1
        replace L0 := g4.cell L0
        replace L1 := g4.cell L1
        replace H0 := g4.cell H0
        replace H1 := g4.cell H1
        clear e0 g4
        go_wp2_with fail
        go_region_held3 (fun w' => w'.cell? ⟨e5, 0, none⟩ = some (.int .i64 q0) ∧ w'.cell? ⟨e5, 1, none⟩ = some (.int .i64 q1) ∧ w'.cell? ⟨e6, 0, none⟩ = some (.int .i64 q2) ∧ w'.cell? ⟨e6, 1, none⟩ = some (.int .i64 q3))
         (first | exact ⟨L0, L1, H0, H1⟩ | exact ⟨g5.cell L0, g5.cell L1, g5.cell H0, g5.cell H1⟩ | exact ⟨(g5.trans g6).cell L0, (g5.trans g6).cell L1, (g5.trans g6).cell H0, (g5.trans g6).cell H1⟩ | exact ⟨((g5.trans g6).alloc _).cell L0, ((g5.trans g6).alloc _).cell L1, ((g5.trans g6).alloc _).cell H0, ((g5.trans g6).alloc _).cell H1⟩)
         (first | (have chk := g5; clear chk; go_at_call 42; refine (at_any q2 q3 _ iQ.out.2.1 iQ.out.2.2.1 iQ.out.2.2.2.1 iQ.out.2.2.2.2).mono ?_; rintro e w6 ⟨V6, rfl, hV6, g6⟩; obtain ⟨b9, A9, n9, c9, C9, m9, d9, b10, A10, n10, c10, C10, m10, d10, rfl, -, -, X6⟩ := hV6.laid; clear hV6) | (go_at_call 42; refine (at_any q0 q1 _ iQ.out.1.1 iQ.out.1.2.1 iQ.out.1.2.2.1 iQ.out.1.2.2.2).mono ?_; rintro e w5 ⟨V5, rfl, hV5, g5⟩; obtain ⟨b7, A7, n7, c7, C7, m7, d7, b8, A8, n8, c8, C8, m8, d8, rfl, -, -, X5⟩ := hV5.laid; clear hV5))
        go_wp2_with fail
        go_ret
        exact ⟨_, rfl, by rw [← e1.out]; exact rowC_two (SpotC.kept X5.out g6.keeps) X6.out, ((GY.drew.trans g5).trans g6).alloc _⟩
       ·
        have e1 := e0.out
        simp only [if_true] at e1
        replace e1 := hZ e1
        clear e0 g4 L0 L1 H0 H1
        go_wp2_with fail
        go_ret
        exact ⟨_, rfl, by rw [← e1.out]; exact RowP.nil _ _, GY⟩
     ·
      have e0 := hZ (show (if aheadB q2 q3 q0 q1 = true then [] else [(q0, q1), (q2, q3)]) = CL by rw [← hC.out, if_neg (fun e => hx (congrArg Prod.fst e))])
      clear hC
      obtain ⟨t3, ht3⟩ : ∃ t, aheadB q2 q3 q0 q1 = t := ⟨_, rfl⟩
      rw [ht3] at e0
      replace ht3 := hZ ht3
      obtain ⟨L0, L1, -, -, -⟩ := L.out
      obtain ⟨H0, H1, -, -, -⟩ := H.out
      go_wp2_with fail
      refine (ahead_any q2 q3 q0 q1 _).mono ?_
      rintro e w4 ⟨rfl, g4⟩
      rw [ht3.out]
      have GY := GX.out.trans g4
      cases t3
      ·
       have e1 := e0.out
       simp only [Bool.false_eq_true, if_false] at e1
       replace e1 := hZ e1
       replace L0 := g4.cell L0
       replace L1 := g4.cell L1
       replace H0 := g4.cell H0
       replace H1 := g4.cell H1
       clear e0 g4
       go_wp2_with fail
       go_region_held3 (fun w' => w'.cell? ⟨e5, 0, none⟩ = some (.int .i64 q0) ∧ w'.cell? ⟨e5, 1, none⟩ = some (.int .i64 q1) ∧ w'.cell? ⟨e6, 0, none⟩ = some (.int .i64 q2) ∧ w'.cell? ⟨e6, 1, none⟩ = some (.int .i64 q3))
        (first | exact ⟨L0, L1, H0, H1⟩ | exact ⟨g5.cell L0, g5.cell L1, g5.cell H0, g5.cell H1⟩ | exact ⟨(g5.trans g6).cell L0, (g5.trans g6).cell L1, (g5.trans g6).cell H0, (g5.trans g6).cell H1⟩ | exact ⟨((g5.trans g6).alloc _).cell L0, ((g5.trans g6).alloc _).cell L1, ((g5.trans g6).alloc _).cell H0, ((g5.trans g6).alloc _).cell H1⟩)
        (first | (have chk := g5; clear chk; go_at_call 42; refine (at_any q2 q3 _ iQ.out.2.1 iQ.out.2.2.1 iQ.out.2.2.2.1 iQ.out.2.2.2.2).mono ?_; rintro e w6 ⟨V6, rfl, hV6, g6⟩; obtain ⟨b9, A9, n9, c9, C9, m9, d9, b10, A10, n10, c10, C10, m10, d10, rfl, -, -, X6⟩ := hV6.laid; clear hV6) | (go_at_call 42; refine (at_any q0 q1 _ iQ.out.1.1 iQ.out.1.2.1 iQ.out.1.2.2.1 iQ.out.1.2.2.2).mono ?_; rintro e w5 ⟨V5, rfl, hV5, g5⟩; obtain ⟨b7, A7, n7, c7, C7, m7, d7, b8, A8, n8, c8, C8, m8, d8, rfl, -, -, X5⟩ := hV5.laid; clear hV5))
       go_wp2_with fail
       go_ret
       exact ⟨_, rfl, by rw [← e1.out]; exact rowC_two (SpotC.kept X5.out g6.keeps) X6.out, ((GY.drew.trans g5).trans g6).alloc _⟩
      ·
       have e1 := e0.out
       simp only [if_true] at e1
       replace e1 := hZ e1
       clear e0 g4 L0 L1 H0 H1
       go_wp2_with fail
       go_ret
       exact ⟨_, rfl, by rw [← e1.out]; exact RowP.nil _ _, GY⟩
end Go.Proofs.YtmommicmblfibaaGreat
