/- frac.Sign, floor, Round, Make, Of. Condition: what comes in reads. Locals of two cells. Conditions: none. r02.Div at what is not below 0, r02.Int at what is from 0 to 255, r04.Floor. Condition: what comes in reads. The levels of alpha. Condition: what comes in reads; fewer than 2^24 words. -/
import Derived.Test.YtpglnfccmhkocaaJRatP
import Derived.Test.YtpglnfccmhkocaaJR4c
import Derived.Test.YtpglnfccmhkocaaJR4g
import Derived.Test.YtpglnfccmhkocaaJR2a
namespace Go.Proofs.Ytpglnfccmhkocaa
open Go.RowKit

set_option maxRecDepth 100000 in
set_option maxHeartbeats 4000000 in
theorem fsign_any (Va : Value) (q : Rat) (k : Nat) (w : World) (ha : FracV w Va q k) (hk : 1 ≤ k) (hs : k < 536870912) :
    Calls Try.prog 23 #[Va] w fun e w' => e = .returned (.int .i64 (sgQ q)) ∧ Grew w w' := by
  obtain ⟨b1, A1, n1, c1, C1, m1, d1, rfl, Fa⟩ := ha.laid
  have hs1 := Lib.hid (show k < 549755813888 by omega)
  have hs2 := Lib.hid (show k < 1099511627776 by omega)
  clear ha
  go_enter Try.func23, Try.ntmps23
  go_wp2_with fail
  refine gen_calls ?_
  intro W0 hW0
  have G0 : Grew w W0 := by rw [hW0]; exact (Grew.refl w).alloc _
  have P : Box3 W0 (w.heap.size) 0 (.bool b1) (.slice A1 n1 c1) (.slice C1 m1 d1) := by rw [hW0]; exact ⟨by simp [go_sem], by simp [go_sem], by simp [go_sem]⟩
  replace P := Lib.hid P
  have z0 : w.heap.size < W0.heap.size := by rw [hW0]; simp <;> omega
  replace z0 := Lib.hid z0
  clear hW0
  replace Fa := Lib.hid (Fa.out.kept G0.keeps)
  replace G0 := Lib.hid G0
  refine (parts_v _ q k _ Fa.out hk hs1.out).mono ?_
  rintro e w1 ⟨V1, rfl, hV1, g1⟩
  obtain ⟨b3, A3, n3, c3, C3, m3, d3, rfl, X1⟩ := hV1.laid
  clear hV1
  replace P := Lib.hid (P.out.grew g1)
  replace z0 := Lib.hid (lt_grew z0.out g1)
  replace Fa := Lib.hid (Fa.out.kept g1.keeps)
  replace G0 := Lib.hid (G0.out.trans g1)
  clear g1
  obtain ⟨z, D, E1, hD, Wz, -⟩ := X1.out.parts
  have e1 : sg z = sgQ q := by rw [← E1.out, sgQ_mkRat _ _ hD]
  replace e1 := Lib.hid e1
  clear X1
  skip
  have hfd : ∀ w : World, (Instr.field 54 (.agg #[.bool b3, .slice A3 n3 c3, .slice C3 m3 d3]) 0).run Try.prog w = .ok (.agg #[.bool b3, .slice A3 n3 c3]) w := fun _ => by first | rfl | kernel_rfl
  go_wp2_with fail
  refine (sign_v _ _ _ _ Wz.out hs2.out).mono ?_
  rintro e w2 ⟨rfl, g2⟩
  replace P := Lib.hid (P.out.grew g2)
  replace z0 := Lib.hid (lt_grew z0.out g2)
  replace Fa := Lib.hid (Fa.out.kept g2.keeps)
  replace Wz := Lib.hid (Wz.out.kept g2.keeps)
  replace G0 := Lib.hid (G0.out.trans g2)
  clear g2
  go_wp2_with fail
  go_ret
  exact ⟨by rw [← e1.out]; rfl, G0.out⟩

set_option maxRecDepth 100000 in
set_option maxHeartbeats 4000000 in
theorem floor_any (Va : Value) (q : Rat) (k : Nat) (w : World) (ha : RatQ w Va q k) (hs : k < 268435456) :
    Calls Try.prog 54 #[Va] w fun e w' => ∃ V, e = .returned V ∧ Whl w' V q.floor ∧ Grew w w' := by
  obtain ⟨z, D, b1, A1, n1, c1, C1, m1, d1, rfl, Ea, hD, Wa, Na, k1, k2, Ma, hb⟩ := ha.open
  have W0b := Ma
  clear ha
  have hw0 : ∃ N, z = sgn b1 N ∧ Hid (Num 4294967296 .u32 w (.slice A1 n1 c1) N n1) ∧ len 4294967296 N ≤ k := by
    obtain ⟨v, e, hn⟩ := hb.out
    simp at e
    obtain ⟨e1, e2⟩ := e
    subst e1; subst e2
    have hl := hn.slice
    obtain ⟨A1', c1', e3, -⟩ := hl
    injection e3 with i1 i2 i3
    rw [← i2] at hn
    exact ⟨z.natAbs, (sgn_of z).symm, hn, k1⟩
  obtain ⟨N, rfl, Fa, hN⟩ := hw0
  have e1 : q.floor = sgn b1 N / (D : Int) := by rw [← Ea.out]; exact floor_mkRat _ _ hD
  replace e1 := Lib.hid e1
  have s1 := Lib.hid (show len 4294967296 N < 536870912 ∧ len 4294967296 D < 536870912 by omega)
  clear Ea Wa k1 k2 Ma hb hN hs W0b
  go_enter Try.func54, Try.ntmps54
  go_wp2_with fail
  refine gen_calls ?_
  intro W0 hW0
  have G0 : Grew w W0 := by rw [hW0]; exact ((Grew.refl w).alloc _).alloc _
  have P : Box3 W0 (w.heap.size) 0 (.bool b1) (.slice A1 n1 c1) (.slice C1 m1 d1) := by rw [hW0]; exact ⟨by simp [go_sem], by simp [go_sem], by simp [go_sem]⟩
  replace P := Lib.hid P
  have R : Res2 W0 (w.heap.size + 1) 0 (.bool false) (.slice none 0 0) := by rw [hW0]; exact ⟨by simp [go_sem], by simp [go_sem], by simp [go_sem], by simp [go_sem], by simp⟩
  replace R := Lib.hid R
  have z0 : w.heap.size < W0.heap.size := by rw [hW0]; simp <;> omega
  replace z0 := Lib.hid z0
  have z1 : w.heap.size + 1 < W0.heap.size := by rw [hW0]; simp <;> omega
  replace z1 := Lib.hid z1
  clear hW0
  replace Fa := Lib.hid (Fa.out.kept G0.keeps)
  replace Na := Lib.hid (Na.out.kept G0.keeps)
  replace G0 := Lib.hid G0
  refine (wdiv_any b1 A1 C1 N D n1 c1 m1 d1 _ Fa.out Na.out hD s1.out.1 s1.out.2).mono ?_
  rintro e w1 ⟨V1, V2, rfl, hV1, hV2, g1⟩
  obtain ⟨b5, A5, n5, c5, rfl, X1, -⟩ := hV1.laid
  obtain ⟨b6, A6, n6, c6, rfl, -⟩ := hV2.laid
  clear hV1 hV2
  replace R := Lib.hid (R.out.grew g1)
  replace P := Lib.hid (P.out.grew g1)
  replace z0 := Lib.hid (lt_grew z0.out g1)
  replace z1 := Lib.hid (lt_grew z1.out g1)
  replace Fa := Lib.hid (Fa.out.kept g1.keeps)
  replace Na := Lib.hid (Na.out.kept g1.keeps)
  replace G0 := Lib.hid (G0.out.trans g1)
  clear g1
  go_upto_region 2 with fail
  refine gen_wp ?_
  intro W1 hW1
  have gl : Grew w1 W1 := by rw [hW1]; exact ((Grew.refl _).alloc _).alloc _
  have y1 := Lib.hid (R.out).2.2.2.2
  replace R := Lib.hid (R.out.grew gl)
  replace P := Lib.hid (P.out.grew gl)
  replace z0 := Lib.hid (lt_grew z0.out gl)
  replace z1 := Lib.hid (lt_grew z1.out gl)
  replace Fa := Lib.hid (Fa.out.kept gl.keeps)
  replace Na := Lib.hid (Na.out.kept gl.keeps)
  replace X1 := Lib.hid (X1.out.kept gl.keeps)
  have L : Box2 W1 (w1.heap.size) 0 (.bool b5) (.slice A5 n5 c5) := by rw [hW1]; exact ⟨by simp [go_sem], by simp [go_sem]⟩
  replace L := Lib.hid L
  have M : Box2 W1 (w1.heap.size + 1) 0 (.bool b6) (.slice A6 n6 c6) := by rw [hW1]; exact ⟨by simp [go_sem], by simp [go_sem]⟩
  replace M := Lib.hid M
  have z2 : w1.heap.size < W1.heap.size := by rw [hW1]; simp <;> omega
  replace z2 := Lib.hid z2
  have z3 : w1.heap.size + 1 < W1.heap.size := by rw [hW1]; simp <;> omega
  replace z3 := Lib.hid z3
  clear hW1
  replace G0 := Lib.hid (G0.out.trans gl)
  clear gl
  obtain ⟨L0, L1⟩ := L.out
  obtain ⟨R0, R1, Rf0, Rf1, Rs⟩ := R.out
  go_wp2_with fail
  clear L0 L1
  refine gen_post ?_
  intro W9 hW9
  obtain ⟨q0, q1, qK, -, qs, qG⟩ := store2 (o := 0) R0 R1 hW9
  have GE := qG w (by omega) G0.out
  have QK := Lib.hid qK
  clear qK qG hW9 R0 R1
  exact bodyPost_ret (v := .agg #[.bool b5, .slice A5 n5 c5]) (by simp [results, Try.results54, go_sem, q0, q1]) rfl ⟨_, rfl, by rw [e1.out]; exact X1.out.kept QK.out, GE⟩

theorem len_two : len 4294967296 2 = 1 := by
  have h1 := len_le (B := 4294967296) (k := 1) (N := 2) (by omega) (by omega)
  have h2 : len 4294967296 2 ≠ 0 := fun e => by have := (len_eq_zero (B := 4294967296) (by omega)).1 e; omega
  omega
theorem QB_one2' : len 4294967296 (1 : Int).natAbs ≤ 1 ∧ len 4294967296 2 ≤ 1 := ⟨by rw [show (1 : Int).natAbs = 1 from rfl, len1]; exact Nat.le_refl _, by rw [len_two]; exact Nat.le_refl _⟩
theorem QB_one2 : QB (mkRat 1 2) 1 := QB_mkRat 1 2 1 (by rw [show (1 : Int).natAbs = 1 from rfl, len1]; exact Nat.le_refl _) (by rw [len_two]; exact Nat.le_refl _) (Nat.le_refl _)

set_option maxRecDepth 100000 in
set_option maxHeartbeats 4000000 in
theorem fround_any (Va : Value) (q : Rat) (k : Nat) (w : World) (ha : FracV w Va q k) (hk : 1 ≤ k) (hs : k < 134217728) :
    Calls Try.prog 20 #[Va] w fun e w' => ∃ V, e = .returned V ∧ Whl w' V (q + mkRat 1 2).floor ∧ Grew w w' := by
  obtain ⟨b1, A1, n1, c1, C1, m1, d1, rfl, Fa⟩ := ha.laid
  have hs1 := Lib.hid (show k < 549755813888 by omega)
  have hs2 := Lib.hid (show k + 1 < 549755813887 by omega)
  have hs3 := Lib.hid (show k + 1 + 1 < 268435456 by omega)
  clear ha
  go_enter Try.func20, Try.ntmps20
  go_wp2_with fail
  refine gen_calls ?_
  intro W0 hW0
  have G0 : Grew w W0 := by rw [hW0]; exact ((Grew.refl w).alloc _).alloc _
  have P : Box3 W0 (w.heap.size) 0 (.bool b1) (.slice A1 n1 c1) (.slice C1 m1 d1) := by rw [hW0]; exact ⟨by simp [go_sem], by simp [go_sem], by simp [go_sem]⟩
  replace P := Lib.hid P
  have R : Res2 W0 (w.heap.size + 1) 0 (.bool false) (.slice none 0 0) := by rw [hW0]; exact ⟨by simp [go_sem], by simp [go_sem], by simp [go_sem], by simp [go_sem], by simp⟩
  replace R := Lib.hid R
  have z0 : w.heap.size < W0.heap.size := by rw [hW0]; simp <;> omega
  replace z0 := Lib.hid z0
  have z1 : w.heap.size + 1 < W0.heap.size := by rw [hW0]; simp <;> omega
  replace z1 := Lib.hid z1
  clear hW0
  replace Fa := Lib.hid (Fa.out.kept G0.keeps)
  replace G0 := Lib.hid G0
  refine (parts_v _ q k _ Fa.out hk hs1.out).mono ?_
  rintro e w1 ⟨V1, rfl, hV1, g1⟩
  obtain ⟨b3, A3, n3, c3, C3, m3, d3, rfl, X1⟩ := hV1.laid
  clear hV1
  replace R := Lib.hid (R.out.grew g1)
  replace P := Lib.hid (P.out.grew g1)
  replace z0 := Lib.hid (lt_grew z0.out g1)
  replace z1 := Lib.hid (lt_grew z1.out g1)
  replace Fa := Lib.hid (Fa.out.kept g1.keeps)
  replace G0 := Lib.hid (G0.out.trans g1)
  clear g1
  go_wp2_with fail
  refine (wof_any 1 _ (by omega) (by omega)).mono ?_
  rintro e w2 ⟨V2, rfl, hV2, g2⟩
  obtain ⟨b4, A4, n4, c4, rfl, X2, -⟩ := hV2.laid
  clear hV2
  replace R := Lib.hid (R.out.grew g2)
  replace P := Lib.hid (P.out.grew g2)
  replace z0 := Lib.hid (lt_grew z0.out g2)
  replace z1 := Lib.hid (lt_grew z1.out g2)
  replace Fa := Lib.hid (Fa.out.kept g2.keeps)
  replace X1 := Lib.hid (X1.out.kept g2.keeps)
  replace G0 := Lib.hid (G0.out.trans g2)
  clear g2
  obtain ⟨W1, hW1⟩ : ∃ V, V = w2.alloc (.cells #[.int .u32 2] 80) := ⟨_, rfl⟩
  have gl : Grew w2 W1 := by rw [hW1]; exact (Grew.refl _).alloc _
  have y1 := Lib.hid (R.out).2.2.2.2
  replace R := Lib.hid (R.out.grew gl)
  replace P := Lib.hid (P.out.grew gl)
  replace z0 := Lib.hid (lt_grew z0.out gl)
  replace z1 := Lib.hid (lt_grew z1.out gl)
  replace Fa := Lib.hid (Fa.out.kept gl.keeps)
  replace X1 := Lib.hid (X1.out.kept gl.keeps)
  replace X2 := Lib.hid (X2.out.kept gl.keeps)
  have X5 : Num 4294967296 .u32 W1 (.slice (some ⟨w2.heap.size, 0, none⟩) 1 1) 2 1 := by rw [hW1]; exact num_word2 _ _
  replace X5 := Lib.hid X5
  skip
  replace G0 := Lib.hid (G0.out.trans gl)
  clear gl
  subst hW1
  have X6 := Lib.hid (RatQ.mk (k := 1) X2.out X5.out len_two.symm (by omega) rfl QB_one2'.1 QB_one2'.2)
  -- X6
  go_wp2_with fail
  refine (radd_any _ _ q (mkRat 1 2) k 1 _ X1.out X6.out hs2.out).mono ?_
  rintro e w3 ⟨V3, rfl, hV3, g3⟩
  obtain ⟨b5, A5, n5, c5, C5, m5, d5, rfl, X7⟩ := hV3.laid
  clear hV3
  replace R := Lib.hid (R.out.grew g3)
  replace P := Lib.hid (P.out.grew g3)
  replace z0 := Lib.hid (lt_grew z0.out g3)
  replace z1 := Lib.hid (lt_grew z1.out g3)
  replace Fa := Lib.hid (Fa.out.kept g3.keeps)
  replace X1 := Lib.hid (X1.out.kept g3.keeps)
  replace X2 := Lib.hid (X2.out.kept g3.keeps)
  replace X5 := Lib.hid (X5.out.kept g3.keeps)
  replace X6 := Lib.hid (X6.out.kept g3.keeps)
  replace G0 := Lib.hid (G0.out.trans g3)
  clear g3
  go_wp2_with fail
  refine (floor_any _ _ _ _ X7.out hs3.out).mono ?_
  rintro e w4 ⟨V4, rfl, hV4, g4⟩
  obtain ⟨b8, A8, n8, c8, rfl, X8, -⟩ := hV4.laid
  clear hV4
  replace R := Lib.hid (R.out.grew g4)
  replace P := Lib.hid (P.out.grew g4)
  replace z0 := Lib.hid (lt_grew z0.out g4)
  replace z1 := Lib.hid (lt_grew z1.out g4)
  replace Fa := Lib.hid (Fa.out.kept g4.keeps)
  replace X1 := Lib.hid (X1.out.kept g4.keeps)
  replace X2 := Lib.hid (X2.out.kept g4.keeps)
  replace X5 := Lib.hid (X5.out.kept g4.keeps)
  replace X6 := Lib.hid (X6.out.kept g4.keeps)
  replace X7 := Lib.hid (X7.out.kept g4.keeps)
  replace G0 := Lib.hid (G0.out.trans g4)
  clear g4
  obtain ⟨R0, R1, Rf0, Rf1, Rs⟩ := R.out
  go_wp2_with fail
  refine gen_post ?_
  intro W9 hW9
  obtain ⟨q0, q1, qK, -, qs, qG⟩ := store2 (o := 0) R0 R1 hW9
  have GE := qG w (by omega) G0.out
  have QK := Lib.hid qK
  clear qK qG hW9 R0 R1
  exact bodyPost_ret (v := .agg #[.bool b8, .slice A8 n8 c8]) (by simp [results, Try.results20, go_sem, q0, q1]) rfl ⟨_, rfl, X8.out.kept QK.out, GE⟩

set_option maxRecDepth 100000 in
set_option maxHeartbeats 4000000 in
theorem fmake_any (b1 b2 : Bool) (A1 A2 : Option Addr) (N M n1 c1 n2 c2 k : Nat) (w : World) (ha : Num 4294967296 .u32 w (.slice A1 n1 c1) N n1) (hb : Num 4294967296 .u32 w (.slice A2 n2 c2) M n2) (hM : M ≠ 0)
    (h1 : len 4294967296 N ≤ k) (h2 : len 4294967296 M ≤ k) (hs : k < 536870912) :
    Calls Try.prog 74 #[.agg #[.bool b1, .slice A1 n1 c1], .agg #[.bool b2, .slice A2 n2 c2]] w fun e w' => ∃ V, e = .returned (.tuple #[V, .int .i64 0]) ∧ FracC w' V (mkRat (sgn (b1 != b2) N) M) ∧ Grew w w' := by
  have Fa := Lib.hid ha
  have Fb := Lib.hid hb
  have s1 := Lib.hid (show len 4294967296 N < 1099511627776 ∧ len 4294967296 M < 1099511627776 by omega)
  have s2 := Lib.hid (show k < 549755813888 by omega)
  have h1' := Lib.hid (show len 4294967296 (sgn (b1 != b2) N).natAbs ≤ k by rw [sgn_abs]; exact h1)
  have h2' := Lib.hid h2
  have hsg : ∃ t : Int, sg (sgn b2 M) = t ∧ t ≠ 0 := ⟨_, rfl, by cases b2 <;> simp [sgn, sg] <;> split <;> omega⟩
  obtain ⟨t, ht, ht0⟩ := hsg
  have ht1 : (t == 0) = false := by simpa using ht0
  replace ht := Lib.hid ht
  clear ha hb h1 h2 hs
  go_enter Try.func74, Try.ntmps74
  go_wp2_with fail
  refine gen_calls ?_
  intro W0 hW0
  have G0 : Grew w W0 := by rw [hW0]; exact (((Grew.refl w).alloc _).alloc _).alloc _
  have P : Box2 W0 (w.heap.size) 0 (.bool b1) (.slice A1 n1 c1) := by rw [hW0]; exact ⟨by simp [go_sem], by simp [go_sem]⟩
  replace P := Lib.hid P
  have Q : Box2 W0 (w.heap.size + 1) 0 (.bool b2) (.slice A2 n2 c2) := by rw [hW0]; exact ⟨by simp [go_sem], by simp [go_sem]⟩
  replace Q := Lib.hid Q
  have R : Res3 W0 (w.heap.size + 1 + 1) 0 (.bool false) (.slice none 0 0) (.slice none 0 0) := by rw [hW0]; exact ⟨by simp [go_sem], by simp [go_sem], by simp [go_sem], by simp [go_sem], by simp [go_sem], by simp [go_sem], by simp⟩
  replace R := Lib.hid R
  have z0 : w.heap.size < W0.heap.size := by rw [hW0]; simp <;> omega
  replace z0 := Lib.hid z0
  have z1 : w.heap.size + 1 < W0.heap.size := by rw [hW0]; simp <;> omega
  replace z1 := Lib.hid z1
  have z2 : w.heap.size + 1 + 1 < W0.heap.size := by rw [hW0]; simp <;> omega
  replace z2 := Lib.hid z2
  clear hW0
  replace Fa := Lib.hid (Fa.out.kept G0.keeps)
  replace Fb := Lib.hid (Fb.out.kept G0.keeps)
  replace G0 := Lib.hid G0
  refine (sign_any b2 _ M _ _ Fb.out s1.out.2).mono ?_
  rintro e w1 ⟨rfl, g1⟩
  replace R := Lib.hid (R.out.grew g1)
  replace P := Lib.hid (P.out.grew g1)
  replace Q := Lib.hid (Q.out.grew g1)
  replace z0 := Lib.hid (lt_grew z0.out g1)
  replace z1 := Lib.hid (lt_grew z1.out g1)
  replace z2 := Lib.hid (lt_grew z2.out g1)
  replace Fa := Lib.hid (Fa.out.kept g1.keeps)
  replace Fb := Lib.hid (Fb.out.kept g1.keeps)
  replace G0 := Lib.hid (G0.out.trans g1)
  clear g1
  rw [ht.out]
  go_wp2_with fail
  have gd : Grew w1 w1.drew := (Grew.refl w1).drew
  replace R := Lib.hid (R.out.grew gd)
  replace P := Lib.hid (P.out.grew gd)
  replace Q := Lib.hid (Q.out.grew gd)
  replace z0 := Lib.hid (lt_grew z0.out gd)
  replace z1 := Lib.hid (lt_grew z1.out gd)
  replace z2 := Lib.hid (lt_grew z2.out gd)
  replace Fa := Lib.hid (Fa.out.kept gd.keeps)
  replace Fb := Lib.hid (Fb.out.kept gd.keeps)
  replace gd := Lib.hid gd
  have ZP := P
  have ZQ := Q
  go_region_held3 (fun w' => w'.cell? ⟨w.heap.size, 0, none⟩ = some (.bool b1) ∧ w'.cell? ⟨w.heap.size, 1, none⟩ = some (.slice A1 n1 c1) ∧ w'.cell? ⟨w.heap.size + 1, 0, none⟩ = some (.bool b2) ∧ w'.cell? ⟨w.heap.size + 1, 1, none⟩ = some (.slice A2 n2 c2))
    (first | (with_reducible exact ⟨ZP.out.p0, ZP.out.p1, ZQ.out.p0, ZQ.out.p1⟩) | (with_reducible exact ⟨g2.cell ZP.out.p0, g2.cell ZP.out.p1, g2.cell ZQ.out.p0, g2.cell ZQ.out.p1⟩) | (with_reducible exact ⟨(g2.trans g3).cell ZP.out.p0, (g2.trans g3).cell ZP.out.p1, (g2.trans g3).cell ZQ.out.p0, (g2.trans g3).cell ZQ.out.p1⟩) | (with_reducible exact ⟨((g2.trans g3).trans g4).cell ZP.out.p0, ((g2.trans g3).trans g4).cell ZP.out.p1, ((g2.trans g3).trans g4).cell ZQ.out.p0, ((g2.trans g3).trans g4).cell ZQ.out.p1⟩) | (with_reducible exact ⟨other3 (o := 0) (by omega) (((g2.trans g3).trans g4).cell ZP.out.p0), other3 (o := 0) (by omega) (((g2.trans g3).trans g4).cell ZP.out.p1), other3 (o := 0) (by omega) (((g2.trans g3).trans g4).cell ZQ.out.p0), other3 (o := 0) (by omega) (((g2.trans g3).trans g4).cell ZQ.out.p1)⟩))
    (first | (go_at_call 70; refine (make_any _ _ N _ _ Fa.out s1.out.1).mono ?_; rintro e w2 ⟨V2, rfl, hV2, g2⟩; obtain ⟨b4, A4, n4, c4, rfl, X2, -⟩ := hV2.laid; clear hV2; replace R := Lib.hid (R.out.grew g2); replace P := Lib.hid (P.out.grew g2); replace Q := Lib.hid (Q.out.grew g2); replace z0 := Lib.hid (lt_grew z0.out g2); replace z1 := Lib.hid (lt_grew z1.out g2); replace z2 := Lib.hid (lt_grew z2.out g2); replace Fa := Lib.hid (Fa.out.kept g2.keeps); replace Fb := Lib.hid (Fb.out.kept g2.keeps)) | (go_at_call 69; refine (trim_any _ M _ _ Fb.out s1.out.2).mono ?_; rintro e w3 ⟨v3, rfl, h3, g3⟩; obtain ⟨A5, c5, rfl, X3⟩ := h3.slice; clear h3; replace R := Lib.hid (R.out.grew g3); replace P := Lib.hid (P.out.grew g3); replace Q := Lib.hid (Q.out.grew g3); replace z0 := Lib.hid (lt_grew z0.out g3); replace z1 := Lib.hid (lt_grew z1.out g3); replace z2 := Lib.hid (lt_grew z2.out g3); replace Fa := Lib.hid (Fa.out.kept g3.keeps); replace Fb := Lib.hid (Fb.out.kept g3.keeps); replace X2 := Lib.hid (X2.out.kept g3.keeps)) | (go_at_call 77; refine (rfrac_any _ _ k _ (RatQ.mk X2.out X3.out rfl hM rfl h1'.out h2'.out) s2.out).mono ?_; rintro e w4 ⟨V6, rfl, hV6, g4⟩; obtain ⟨b7, A7, n7, c7, C7, m7, d7, rfl, X6⟩ := hV6.laid; clear hV6; replace R := Lib.hid (R.out.grew g4); replace P := Lib.hid (P.out.grew g4); replace Q := Lib.hid (Q.out.grew g4); replace z0 := Lib.hid (lt_grew z0.out g4); replace z1 := Lib.hid (lt_grew z1.out g4); replace z2 := Lib.hid (lt_grew z2.out g4); replace Fa := Lib.hid (Fa.out.kept g4.keeps); replace Fb := Lib.hid (Fb.out.kept g4.keeps); replace X2 := Lib.hid (X2.out.kept g4.keeps); replace X3 := Lib.hid (X3.out.kept g4.keeps); obtain ⟨R0, R1, R2, Rf0, Rf1, Rf2, Rs⟩ := R.out))
  replace G0 := Lib.hid ((((G0.out.trans gd.out).trans g2).trans g3).trans g4)
  clear gd g2 g3 g4 ZP ZQ
  refine gen_then ?_
  intro W9 hW9
  obtain ⟨q0, q1, q2, qK, -, -, qs, qG⟩ := store3 (o := 0) R0 R1 R2 hW9
  have GE := qG w (.inr (by omega)) G0.out
  have QK := Lib.hid qK
  clear qK qG hW9 R0 R1 R2
  go_wp2_with fail
  exact bodyPost_ret (v := .tuple #[.agg #[.bool b7, .slice A7 n7 c7, .slice C7 m7 d7], .int .i64 0]) (by simp [results, Try.results74, go_sem, q0, q1, q2]) rfl ⟨_, rfl, X6.out.kept QK.out, GE⟩

set_option maxRecDepth 100000 in
set_option maxHeartbeats 4000000 in
theorem fof_any (x : Int) (d : Nat) (w : World) (h0 : -9223372036854775808 ≤ x) (h1 : x ≤ 9223372036854775807) (h2 : d ≠ 0) (h3 : (d : Int) ≤ 9223372036854775807) :
    Calls Try.prog 36 #[.int .i64 x, .int .i64 (d : Int)] w fun e w' => ∃ V, e = .returned (.tuple #[V, .int .i64 0]) ∧ FracC w' V (mkRat x d) ∧ Grew w w' := by
  have l1 := Lib.hid (show len 4294967296 x.natAbs ≤ 2 from len_word (by omega))
  have l2 := Lib.hid (show len 4294967296 d ≤ 2 from len_word (by omega))
  have r1 := Lib.hid (show -9223372036854775808 ≤ (d : Int) ∧ (d : Int) ≤ 9223372036854775807 by omega)
  have e0 : sgn (decide (x < 0) != false) x.natAbs = x := by rw [show (decide (x < 0) != false) = decide (x < 0) by cases decide (x < 0) <;> rfl]; exact sgn_of x
  replace e0 := Lib.hid e0
  have e9 : decide ((d : Int) < 0) = false := by simp
  obtain ⟨di, hdi⟩ : ∃ di : Int, (d : Int) = di := ⟨_, rfl⟩
  rw [hdi] at r1 ⊢
  replace hdi := Lib.hid hdi
  go_enter Try.func36, Try.ntmps36
  go_wp2_with fail
  refine gen_calls ?_
  intro W0 hW0
  have G0 : Grew w W0 := by rw [hW0]; exact (Grew.refl w).alloc _
  have R : Res3 W0 (w.heap.size) 0 (.bool false) (.slice none 0 0) (.slice none 0 0) := by rw [hW0]; exact ⟨by simp [go_sem], by simp [go_sem], by simp [go_sem], by simp [go_sem], by simp [go_sem], by simp [go_sem], by simp⟩
  replace R := Lib.hid R
  have z0 : w.heap.size < W0.heap.size := by rw [hW0]; simp <;> omega
  replace z0 := Lib.hid z0
  clear hW0
  replace G0 := Lib.hid G0
  refine (wof_any x _ h0 h1).mono ?_
  rintro e w1 ⟨V1, rfl, hV1, g1⟩
  obtain ⟨b3, A3, n3, c3, rfl, -, Y1⟩ := hV1.laid
  obtain ⟨y1, y2, y3⟩ := Y1.out
  have X1 := Lib.hid y3
  subst y1
  clear hV1 Y1 y3 y2
  replace R := Lib.hid (R.out.grew g1)
  replace z0 := Lib.hid (lt_grew z0.out g1)
  replace G0 := Lib.hid (G0.out.trans g1)
  clear g1
  go_wp2_with fail
  refine (wof_any di _ r1.out.1 r1.out.2).mono ?_
  rintro e w2 ⟨V2, rfl, hV2, g2⟩
  rw [← hdi.out] at hV2
  obtain ⟨b4, A4, n4, c4, rfl, -, Y2⟩ := hV2.laid
  obtain ⟨y1, y2, y3⟩ := Y2.out
  rw [e9] at y1
  have X2 := Lib.hid y3
  subst y1
  clear hV2 Y2 y3 y2
  replace R := Lib.hid (R.out.grew g2)
  replace z0 := Lib.hid (lt_grew z0.out g2)
  replace X1 := Lib.hid (X1.out.kept g2.keeps)
  replace G0 := Lib.hid (G0.out.trans g2)
  clear g2
  go_wp2_with fail
  refine (fmake_any _ _ _ _ x.natAbs d _ _ _ _ 2 _ X1.out X2.out h2 l1.out l2.out (by omega)).mono ?_
  rintro e w3 ⟨V5, rfl, hV5, g3⟩
  rw [e0.out] at hV5
  obtain ⟨b7, A7, n7, c7, C7, m7, d7, rfl, X5⟩ := hV5.laid
  clear hV5
  replace R := Lib.hid (R.out.grew g3)
  replace z0 := Lib.hid (lt_grew z0.out g3)
  replace X1 := Lib.hid (X1.out.kept g3.keeps)
  replace X2 := Lib.hid (X2.out.kept g3.keeps)
  replace G0 := Lib.hid (G0.out.trans g3)
  clear g3
  obtain ⟨R0, R1, R2, Rf0, Rf1, Rf2, Rs⟩ := R.out
  go_wp2_with fail
  refine gen_post ?_
  intro W9 hW9
  obtain ⟨q0, q1, q2, qK, -, -, qs, qG⟩ := store3 (o := 0) R0 R1 R2 hW9
  have GE := qG w (.inr (by omega)) G0.out
  have QK := Lib.hid qK
  clear qK qG hW9 R0 R1 R2
  exact bodyPost_ret (v := .tuple #[.agg #[.bool b7, .slice A7 n7 c7, .slice C7 m7 d7], .int .i64 0]) (by simp [results, Try.results36, go_sem, q0, q1, q2]) rfl ⟨_, rfl, X5.out.kept QK.out, GE⟩
end Go.Proofs.Ytpglnfccmhkocaa
namespace Go.Proofs.Ytpglnfccmhkocaa
open Go.RowKit

/-- A block that holds two cells of which P says something, in this world. -/
def At2 (w : World) (g : Nat) (P : World → Value → Prop) : Prop := ∃ b A n c, Box2 w g 0 (.bool b) (.slice A n c) ∧ P w (.agg #[.bool b, .slice A n c]) ∧ g < w.heap.size
theorem At2.of_alloc {w X : World} {P : World → Value → Prop} (hP : Rd P) {b : Bool} {A : Option Addr} {n c g : Nat} {t : TypeId} (hg : X.heap.size = g) (hk : Keeps w X) (h : P w (.agg #[.bool b, .slice A n c])) :
    At2 (X.alloc (.cells #[.bool b, .slice A n c] t)) g P := by
  subst hg
  exact ⟨b, A, n, c, ⟨by simp [go_sem], by simp [go_sem]⟩, hP _ _ _ h (hk.trans ((Grew.refl X).alloc _).keeps), by simp⟩
theorem At2.of_store {w X : World} {P : World → Value → Prop} (hP : Rd P) {b : Bool} {A : Option Addr} {n c g : Nat} (r : Res2 X g 0 (.bool false) (.slice none 0 0)) (hk : Keeps w X) (h : P w (.agg #[.bool b, .slice A n c])) :
    At2 ((X.setCell ⟨g, 0, none⟩ (.bool b)).setCell ⟨g, 1, none⟩ (.slice A n c)) g P := by
  obtain ⟨r0, r1, -, -, rs⟩ := r
  obtain ⟨q0, q1, qK, -, qs, -⟩ := store2 (o := 0) r0 r1 rfl
  exact ⟨b, A, n, c, ⟨q0, q1⟩, hP _ _ _ h (hk.trans qK), by rw [qs]; exact rs⟩
theorem Keeps.store2 {w X : World} {g : Nat} {u0 u1 : Value} (r : Res2 X g 0 (.bool false) (.slice none 0 0)) (hk : Keeps w X) :
    Keeps w ((X.setCell ⟨g, 0, none⟩ u0).setCell ⟨g, 1, none⟩ u1) := by
  obtain ⟨r0, r1, -, -, rs⟩ := r
  obtain ⟨-, -, qK, -⟩ := Go.Proofs.Ytpglnfccmhkocaa.store2 (o := 0) r0 r1 rfl
  exact hk.trans qK
theorem Rd.whl (z : Int) : Rd (fun w V => Whl w V z) := fun _ _ _ h k => Whl.kept h k
theorem res2_new {w w' : World} {t : TypeId} (g : Grew (w.alloc (.cells #[.bool false, .slice none 0 0] t)) w') : Res2 w' w.heap.size 0 (.bool false) (.slice none 0 0) :=
  Res2.grew ⟨by simp [go_sem], by simp [go_sem], by simp [go_sem], by simp [go_sem], by simp⟩ g
theorem res2_newD {w w' : World} {t : TypeId} (g : Grew (w.alloc (.cells #[.bool false, .slice none 0 0] t)).drew w') : Res2 w' w.heap.size 0 (.bool false) (.slice none 0 0) :=
  Res2.grew ⟨by simp [go_sem], by simp [go_sem], by simp [go_sem], by simp [go_sem], by simp⟩ g

theorem Res2.lt {w : World} {r o : Nat} {u0 u1 : Value} (h : Res2 w r o u0 u1) : r < w.heap.size := h.2.2.2.2
theorem Res2.store_far {w : World} {g h : Nat} {u0 u1 : Value} (a : Res2 w g 0 (.bool false) (.slice none 0 0)) (r : Res2 w h 0 (.bool false) (.slice none 0 0)) (hne : g ≠ h) :
    Res2 ((w.setCell ⟨h, 0, none⟩ u0).setCell ⟨h, 1, none⟩ u1) g 0 (.bool false) (.slice none 0 0) := by
  obtain ⟨r0, r1, -, -, rs⟩ := r
  obtain ⟨-, -, -, qf, qs, -⟩ := Go.Proofs.Ytpglnfccmhkocaa.store2 (o := 0) (u0 := u0) (u1 := u1) r0 r1 rfl
  obtain ⟨a0, a1, f0, f1, s⟩ := a
  exact ⟨(qf _ _ hne).trans a0, (qf _ _ hne).trans a1, by simp [f0], by simp [f1], by rw [qs]; exact s⟩
theorem At2.store_far {w : World} {P : World → Value → Prop} (hP : Rd P) {g h : Nat} {u0 u1 : Value} (a : At2 w g P) (r : Res2 w h 0 (.bool false) (.slice none 0 0)) (hne : g ≠ h) :
    At2 ((w.setCell ⟨h, 0, none⟩ u0).setCell ⟨h, 1, none⟩ u1) g P := by
  obtain ⟨r0, r1, -, -, rs⟩ := r
  obtain ⟨-, -, qK, qf, qs, -⟩ := Go.Proofs.Ytpglnfccmhkocaa.store2 (o := 0) (u0 := u0) (u1 := u1) r0 r1 rfl
  obtain ⟨b, A, n, c, ⟨hB, hB'⟩, hp, hl⟩ := a
  exact ⟨b, A, n, c, ⟨(qf _ _ hne).trans hB, (qf _ _ hne).trans hB'⟩, hP _ _ _ hp qK, by rw [qs]; exact hl⟩
theorem At2.grew {w w' : World} {P : World → Value → Prop} (hP : Rd P) {g : Nat} (a : At2 w g P) (k : Grew w w') : At2 w' g P := by
  obtain ⟨b, A, n, c, hB, hp, hl⟩ := a
  exact ⟨b, A, n, c, hB.grew k, hP _ _ _ hp k.keeps, Nat.lt_of_lt_of_le hl k.size⟩
theorem res2_two (w : World) (t s : TypeId) : Res2 ((w.alloc (.cells #[.bool false, .slice none 0 0] t)).alloc (.cells #[.bool false, .slice none 0 0] s)) w.heap.size 0 (.bool false) (.slice none 0 0) ∧
    Res2 ((w.alloc (.cells #[.bool false, .slice none 0 0] t)).alloc (.cells #[.bool false, .slice none 0 0] s)) (w.heap.size + 1) 0 (.bool false) (.slice none 0 0) :=
  ⟨⟨by simp [go_sem], by simp [go_sem], by simp [go_sem], by simp [go_sem], by simp <;> omega⟩, ⟨by simp [go_sem], by simp [go_sem], by simp [go_sem], by simp [go_sem], by simp <;> omega⟩⟩
theorem res2_new2 {w w' : World} {t s : TypeId} (g : Grew ((w.alloc (.cells #[.bool false, .slice none 0 0] t)).alloc (.cells #[.bool false, .slice none 0 0] s)) w') :
    Res2 w' w.heap.size 0 (.bool false) (.slice none 0 0) ∧ Res2 w' (w.heap.size + 1) 0 (.bool false) (.slice none 0 0) := ⟨(res2_two w t s).1.grew g, (res2_two w t s).2.grew g⟩
theorem res2_new2D {w w' : World} {t s : TypeId} (g : Grew ((w.alloc (.cells #[.bool false, .slice none 0 0] t)).alloc (.cells #[.bool false, .slice none 0 0] s)).drew w') :
    Res2 w' w.heap.size 0 (.bool false) (.slice none 0 0) ∧ Res2 w' (w.heap.size + 1) 0 (.bool false) (.slice none 0 0) :=
  ⟨((res2_two w t s).1.grew ((Grew.refl _).drew)).grew g, ((res2_two w t s).2.grew ((Grew.refl _).drew)).grew g⟩
end Go.Proofs.Ytpglnfccmhkocaa
namespace Go.Proofs.Ytpglnfccmhkocaa
open Go.RowKit

set_option maxRecDepth 100000 in
set_option maxHeartbeats 4000000 in
theorem r2div_pos (b1 : Bool) (A1 C2 : Option Addr) (N M n1 c1 m2 d2 k : Nat) (w : World) (ha : Num 4294967296 .u32 w (.slice A1 n1 c1) N n1) (hb : Num 4294967296 .u32 w (.slice C2 m2 d2) M m2)
    (h0 : M ≠ 0) (hb1 : b1 = true → N = 0) (h1 : n1 ≤ k) (h2 : m2 ≤ k) (hs : k < 1073741824) :
    Calls Try.prog 65 #[.agg #[.bool b1, .slice A1 n1 c1], .agg #[.bool false, .slice C2 m2 d2]] w fun e w' => ∃ V V', e = .returned (.tuple #[V, V', .bool true]) ∧ Whl w' V ((N / M : Nat) : Int) ∧ Whl w' V' ((N % M : Nat) : Int) ∧ Grew w w' := by
  have sgN : ∀ K : Nat, (b1 = true → K = 0) → sgn b1 K = (K : Int) := fun K h => by cases b1; rfl; rw [h rfl]; rfl
  have Fa := Lib.hid ha
  have Fb := Lib.hid hb
  have sgq := Lib.hid (sgN (N / M) (fun h => by rw [hb1 h]; exact Nat.zero_div M))
  have Wb := Lib.hid (show WhlR w (.agg #[.bool false, .slice C2 m2 d2]) (M : Int) k from ⟨_, _, _, _, rfl, hb, rfl, h2⟩)
  have Wa := Lib.hid (show WhlR w (.agg #[.bool b1, .slice A1 n1 c1]) (N : Int) k from ⟨_, _, _, _, rfl, ha, sgN N (fun h => hb1 h), h1⟩)
  have hsg : ∃ t : Int, sg (M : Int) = t ∧ t ≠ 0 := ⟨_, rfl, by unfold sg; split <;> (try split) <;> omega⟩
  obtain ⟨t, ht, ht0⟩ := hsg
  have ht1 : (t == 0) = false := by simpa using ht0
  replace ht := Lib.hid ht
  have s1 := Lib.hid (show k < 137438953472 by omega)
  have s2 := Lib.hid (show n1 < 137438953472 ∧ m2 < 137438953472 by omega)
  have lq := len_mono (B := 4294967296) (by omega) (Nat.div_le_self N M)
  have lN := ha.len_le (by omega)
  have lq1 := Lib.hid (show len 4294967296 (N / M) < 137438953472 by omega)
  have lq2 := Lib.hid (show len 4294967296 ((N / M : Nat) : Int).natAbs ≤ k by rw [Int.natAbs_natCast]; omega)
  have s3 := Lib.hid (show k < 34359738368 ∧ k < 34359738368 by omega)
  have hz : (N : Int) - ((N / M : Nat) : Int) * (M : Int) = ((N % M : Nat) : Int) := by
    have e := congrArg (fun t : Nat => (t : Int)) (Nat.div_add_mod N M)
    simp only [Int.natCast_add, Int.natCast_mul] at e
    rw [Int.mul_comm]; omega
  have lp := Lib.hid (show len 4294967296 (((N / M : Nat) : Int) * (M : Int)).natAbs ≤ k + k from len_mulz _ _ _ _ lq2.out (by rw [Int.natAbs_natCast]; exact Nat.le_trans (hb.len_le (by omega)) h2))
  have s4 := Lib.hid (show k < 68719476736 ∧ k + k < 68719476736 by omega)
  have lr := Lib.hid (show len 4294967296 ((N % M : Nat) : Int).natAbs ≤ k by rw [Int.natAbs_natCast]; exact Nat.le_trans (len_mono (by omega) (Nat.mod_le N M)) (Nat.le_trans lN h1))
  have hsr : ∃ s : Int, sg ((N % M : Nat) : Int) = s ∧ ¬ s < 0 := ⟨_, rfl, by unfold sg; split <;> (try split) <;> omega⟩
  obtain ⟨s, hs5, hs6⟩ := hsr
  replace hs5 := Lib.hid hs5
  replace hz := Lib.hid hz
  clear ha hb h1 h2 hs lq lN hb1 sgN
  go_enter Try.func65, Try.ntmps65
  go_wp2_with fail
  refine gen_calls ?_
  intro W0 hW0
  have G0 : Grew w W0 := by rw [hW0]; exact ((((Grew.refl w).alloc _).alloc _).alloc _).alloc _
  have P : Box2 W0 (w.heap.size) 0 (.bool b1) (.slice A1 n1 c1) := by rw [hW0]; exact ⟨by simp [go_sem], by simp [go_sem]⟩
  replace P := Lib.hid P
  have Q : Box2 W0 (w.heap.size + 1) 0 (.bool false) (.slice C2 m2 d2) := by rw [hW0]; exact ⟨by simp [go_sem], by simp [go_sem]⟩
  replace Q := Lib.hid Q
  have R : Res2 W0 (w.heap.size + 1 + 1) 0 (.bool false) (.slice none 0 0) := by rw [hW0]; exact ⟨by simp [go_sem], by simp [go_sem], by simp [go_sem], by simp [go_sem], by simp⟩
  replace R := Lib.hid R
  have T : Res2 W0 (w.heap.size + 1 + 1 + 1) 0 (.bool false) (.slice none 0 0) := by rw [hW0]; exact ⟨by simp [go_sem], by simp [go_sem], by simp [go_sem], by simp [go_sem], by simp⟩
  replace T := Lib.hid T
  have z0 : w.heap.size < W0.heap.size := by rw [hW0]; simp <;> omega
  replace z0 := Lib.hid z0
  have z1 : w.heap.size + 1 < W0.heap.size := by rw [hW0]; simp <;> omega
  replace z1 := Lib.hid z1
  have z2 : w.heap.size + 1 + 1 < W0.heap.size := by rw [hW0]; simp <;> omega
  replace z2 := Lib.hid z2
  have z3 : w.heap.size + 1 + 1 + 1 < W0.heap.size := by rw [hW0]; simp <;> omega
  replace z3 := Lib.hid z3
  clear hW0
  replace Fa := Lib.hid (Fa.out.kept G0.keeps)
  replace Fb := Lib.hid (Fb.out.kept G0.keeps)
  replace Wa := Lib.hid (Wa.out.kept G0.keeps)
  replace Wb := Lib.hid (Wb.out.kept G0.keeps)
  replace G0 := Lib.hid G0
  refine (r2sign_any _ _ _ _ Wb.out s1.out).mono ?_
  rintro e w1 ⟨rfl, g1⟩
  replace R := Lib.hid (R.out.grew g1)
  replace T := Lib.hid (T.out.grew g1)
  replace P := Lib.hid (P.out.grew g1)
  replace Q := Lib.hid (Q.out.grew g1)
  replace z0 := Lib.hid (lt_grew z0.out g1)
  replace z1 := Lib.hid (lt_grew z1.out g1)
  replace z2 := Lib.hid (lt_grew z2.out g1)
  replace z3 := Lib.hid (lt_grew z3.out g1)
  replace Fa := Lib.hid (Fa.out.kept g1.keeps)
  replace Fb := Lib.hid (Fb.out.kept g1.keeps)
  replace Wa := Lib.hid (Wa.out.kept g1.keeps)
  replace Wb := Lib.hid (Wb.out.kept g1.keeps)
  replace G0 := Lib.hid (G0.out.trans g1)
  clear g1
  rw [ht.out]
  obtain ⟨P0, P1⟩ := P.out
  obtain ⟨Q0, Q1⟩ := Q.out
  go_wp2_with fail
  clear P0 P1 Q0 Q1
  refine (rDiv_any _ _ N M _ _ _ Fa.out Fb.out s2.out h0).mono ?_
  rintro e w2 ⟨q, r, rfl, hq, hr, g2⟩
  obtain ⟨A3, c3, rfl, Xq⟩ := hq.slice
  obtain ⟨A4, c4, rfl, -⟩ := hr.slice
  clear hq hr
  replace R := Lib.hid (R.out.grew g2)
  replace T := Lib.hid (T.out.grew g2)
  replace P := Lib.hid (P.out.grew g2)
  replace Q := Lib.hid (Q.out.grew g2)
  replace z0 := Lib.hid (lt_grew z0.out g2)
  replace z1 := Lib.hid (lt_grew z1.out g2)
  replace z2 := Lib.hid (lt_grew z2.out g2)
  replace z3 := Lib.hid (lt_grew z3.out g2)
  replace Fa := Lib.hid (Fa.out.kept g2.keeps)
  replace Fb := Lib.hid (Fb.out.kept g2.keeps)
  replace Wa := Lib.hid (Wa.out.kept g2.keeps)
  replace Wb := Lib.hid (Wb.out.kept g2.keeps)
  replace G0 := Lib.hid (G0.out.trans g2)
  clear g2
  obtain ⟨P0, P1⟩ := P.out
  obtain ⟨Q0, Q1⟩ := Q.out
  go_wp2_with fail
  clear P0 P1 Q0 Q1
  refine (rmake_any b1 _ (N / M) _ _ Xq.out lq1.out).mono ?_
  rintro e w3 ⟨V3, rfl, hV3, g3⟩
  rw [sgq.out] at hV3
  obtain ⟨b5, A5, n5, c5, rfl, X3, -⟩ := hV3.laid
  clear hV3
  replace R := Lib.hid (R.out.grew g3)
  replace T := Lib.hid (T.out.grew g3)
  replace P := Lib.hid (P.out.grew g3)
  replace Q := Lib.hid (Q.out.grew g3)
  replace z0 := Lib.hid (lt_grew z0.out g3)
  replace z1 := Lib.hid (lt_grew z1.out g3)
  replace z2 := Lib.hid (lt_grew z2.out g3)
  replace z3 := Lib.hid (lt_grew z3.out g3)
  replace Fa := Lib.hid (Fa.out.kept g3.keeps)
  replace Fb := Lib.hid (Fb.out.kept g3.keeps)
  replace Wa := Lib.hid (Wa.out.kept g3.keeps)
  replace Wb := Lib.hid (Wb.out.kept g3.keeps)
  replace Xq := Lib.hid (Xq.out.kept g3.keeps)
  replace G0 := Lib.hid (G0.out.trans g3)
  clear g3
  go_upto_region 5 with fail
  refine gen_wp ?_
  intro W1 hW1
  have gl : Grew w3 W1 := by rw [hW1]; exact (Grew.refl _).alloc _
  have y1 := Lib.hid (R.out).2.2.2.2
  have y1_1 := Lib.hid (T.out).2.2.2.2
  replace R := Lib.hid (R.out.grew gl)
  replace T := Lib.hid (T.out.grew gl)
  replace P := Lib.hid (P.out.grew gl)
  replace Q := Lib.hid (Q.out.grew gl)
  replace z0 := Lib.hid (lt_grew z0.out gl)
  replace z1 := Lib.hid (lt_grew z1.out gl)
  replace z2 := Lib.hid (lt_grew z2.out gl)
  replace z3 := Lib.hid (lt_grew z3.out gl)
  replace Fa := Lib.hid (Fa.out.kept gl.keeps)
  replace Fb := Lib.hid (Fb.out.kept gl.keeps)
  replace Wa := Lib.hid (Wa.out.kept gl.keeps)
  replace Wb := Lib.hid (Wb.out.kept gl.keeps)
  replace Xq := Lib.hid (Xq.out.kept gl.keeps)
  replace X3 := Lib.hid (X3.out.kept gl.keeps)
  have L : Box2 W1 (w3.heap.size) 0 (.bool b5) (.slice A5 n5 c5) := by rw [hW1]; exact ⟨by simp [go_sem], by simp [go_sem]⟩
  replace L := Lib.hid L
  have z4 : w3.heap.size < W1.heap.size := by rw [hW1]; simp <;> omega
  replace z4 := Lib.hid z4
  clear hW1
  replace G0 := Lib.hid (G0.out.trans gl)
  clear gl
  go_upto_region 5 with fail
  go_cut [11] (fun s11 wx => ∃ e11 : Nat, s11 = .pointer (some ⟨e11, 0, none⟩) ∧ At2 wx e11 (fun w V => Whl w V ((N % M : Nat) : Int)) ∧ W1.heap.size ≤ e11 ∧ Grew W1 wx)
  · have KS : ∀ X, Grew W1 X → (fun w' => w'.cell? ⟨w.heap.size, 0, none⟩ = some (.bool b1) ∧ w'.cell? ⟨w.heap.size, 1, none⟩ = some (.slice A1 n1 c1) ∧ w'.cell? ⟨w.heap.size + 1, 0, none⟩ = some (.bool false) ∧ w'.cell? ⟨w.heap.size + 1, 1, none⟩ = some (.slice C2 m2 d2) ∧ w'.cell? ⟨w3.heap.size, 0, none⟩ = some (.bool b5) ∧ w'.cell? ⟨w3.heap.size, 1, none⟩ = some (.slice A5 n5 c5)) X := fun X g => ⟨g.cell P.out.p0, g.cell P.out.p1, g.cell Q.out.p0, g.cell Q.out.p1, g.cell L.out.p0, g.cell L.out.p1⟩
    replace KS := Lib.hid KS
    go_region_held3 (fun w' => w'.cell? ⟨w.heap.size, 0, none⟩ = some (.bool b1) ∧ w'.cell? ⟨w.heap.size, 1, none⟩ = some (.slice A1 n1 c1) ∧ w'.cell? ⟨w.heap.size + 1, 0, none⟩ = some (.bool false) ∧ w'.cell? ⟨w.heap.size + 1, 1, none⟩ = some (.slice C2 m2 d2) ∧ w'.cell? ⟨w3.heap.size, 0, none⟩ = some (.bool b5) ∧ w'.cell? ⟨w3.heap.size, 1, none⟩ = some (.slice A5 n5 c5))
      (first | (refine KS.out _ ?_; (repeat (first | with_reducible exact Grew.refl _ | with_reducible refine Grew.setCell ?_ (by simp <;> omega) _ | with_reducible refine Grew.alloc ?_ _ | with_reducible refine Grew.drew ?_ | with_reducible apply Grew.trans ?_ g5 | with_reducible apply Grew.trans ?_ g4 )); done))
      (first | (go_at_call 62; refine (r2mul_any _ _ ((N / M : Nat) : Int) (M : Int) k k _ ((X3.out.kept (Grew.keeps (by (repeat (first | with_reducible exact Grew.refl _ | with_reducible refine Grew.setCell ?_ (by simp <;> omega) _ | with_reducible refine Grew.alloc ?_ _ | with_reducible refine Grew.drew ?_ ))))).r lq2.out) (Wb.out.kept (Grew.keeps (by (repeat (first | with_reducible exact Grew.refl _ | with_reducible refine Grew.setCell ?_ (by simp <;> omega) _ | with_reducible refine Grew.alloc ?_ _ | with_reducible refine Grew.drew ?_ ))))) s3.out).mono ?_; rintro e w4 ⟨V4, rfl, hV4, g4⟩; have zn4 : W1.heap.size ≤ w4.heap.size := (by have t := g4.size; (try simp at t); omega); have Y4 := Lib.hid (hV4.r lp.out); obtain ⟨b6, A6, n6, c6, rfl, -⟩ := hV4.laid; clear hV4; (first | (with_reducible have h3_0 := res2_new g4) | (with_reducible have h3_0 := res2_newD g4) | skip)) | (go_at_call 95; refine (r2sub_any _ _ (N : Int) (((N / M : Nat) : Int) * (M : Int)) k (k + k) _ (Wa.out.kept (Grew.keeps (by (repeat (first | with_reducible exact Grew.refl _ | with_reducible refine Grew.setCell ?_ (by simp <;> omega) _ | with_reducible refine Grew.alloc ?_ _ | with_reducible refine Grew.drew ?_ | with_reducible apply Grew.trans ?_ g4 ))))) (Y4.out.kept (Grew.keeps (by (repeat (first | with_reducible exact Grew.refl _ | with_reducible refine Grew.setCell ?_ (by simp <;> omega) _ | with_reducible refine Grew.alloc ?_ _ | with_reducible refine Grew.drew ?_ | with_reducible apply Grew.trans ?_ g4 ))))) s4.out).mono ?_; rintro e w5 ⟨V5, rfl, hV5, g5⟩; have zn5 : w4.heap.size ≤ w5.heap.size := (by have t := g5.size; (try simp at t); omega); rw [hz.out] at hV5; obtain ⟨b7, A7, n7, c7, rfl, X5, -⟩ := hV5.laid; clear hV5; (try replace h3_0 : Res2 w5 (W1.heap.size) 0 (.bool false) (.slice none 0 0) := h3_0.grew (by (repeat (first | with_reducible exact Grew.refl _ | with_reducible refine Grew.setCell ?_ (by simp <;> omega) _ | with_reducible refine Grew.alloc ?_ _ | with_reducible refine Grew.drew ?_ | with_reducible apply Grew.trans ?_ g5 )))); (first | (with_reducible have h4_0 := res2_new g5) | (with_reducible have h4_0 := res2_newD g5) | skip); (try (have tt := h3_0; obtain ⟨h3_00, h3_01, h3_0f0, h3_0f1, h3_0s⟩ := tt)); (try (have tt := h4_0; obtain ⟨h4_00, h4_01, h4_0f0, h4_0f1, h4_0s⟩ := tt))))
    all_goals
      go_wp2_with fail
      go_meet
      have XX5 := Lib.hid (X5.out.kept (Grew.keeps (w := w5) (w' := w5) (by (repeat (first | with_reducible exact Grew.refl _ | with_reducible refine Grew.setCell ?_ (by simp <;> omega) _ | with_reducible refine Grew.alloc ?_ _ | with_reducible refine Grew.drew ?_ )))))
      refine ⟨_, rfl, ?_, ?_, ?_⟩
      · repeat (first | with_reducible exact h3_0  | with_reducible exact h4_0 | with_reducible exact Keeps.refl _ | with_reducible refine At2.of_store (w := w5) (Rd.whl _) ?_ ?_ XX5.out | with_reducible refine At2.of_alloc (w := w5) (Rd.whl _) (by simp) ?_ XX5.out | with_reducible refine Keeps.store2 ?_ ?_ | with_reducible refine Keeps.alloc ?_ )
      · omega
      · (repeat (first | with_reducible exact Grew.refl _ | with_reducible refine Grew.setCell ?_ (by simp <;> omega) _ | with_reducible refine Grew.alloc ?_ _ | with_reducible refine Grew.drew ?_ | with_reducible apply Grew.trans ?_ g5 | with_reducible apply Grew.trans ?_ g4 ))
  obtain ⟨e11, rfl, M_, E11, GA⟩ := hcut
  have y111 := Lib.hid (Nat.lt_of_lt_of_le (R.out).2.2.2.2 E11)
  have y111_1 := Lib.hid (Nat.lt_of_lt_of_le (T.out).2.2.2.2 E11)
  replace R := Lib.hid (R.out.grew GA)
  replace T := Lib.hid (T.out.grew GA)
  replace P := Lib.hid (P.out.grew GA)
  replace Q := Lib.hid (Q.out.grew GA)
  replace L := Lib.hid (L.out.grew GA)
  replace z0 := Lib.hid (lt_grew z0.out GA)
  replace z1 := Lib.hid (lt_grew z1.out GA)
  replace z2 := Lib.hid (lt_grew z2.out GA)
  replace z3 := Lib.hid (lt_grew z3.out GA)
  replace z4 := Lib.hid (lt_grew z4.out GA)
  replace Fa := Lib.hid (Fa.out.kept GA.keeps)
  replace Fb := Lib.hid (Fb.out.kept GA.keeps)
  replace Wa := Lib.hid (Wa.out.kept GA.keeps)
  replace Wb := Lib.hid (Wb.out.kept GA.keeps)
  replace Xq := Lib.hid (Xq.out.kept GA.keeps)
  replace X3 := Lib.hid (X3.out.kept GA.keeps)
  replace G0 := Lib.hid (G0.out.trans GA)
  obtain ⟨b111, A111, n111, c111, M_, XM, Z11⟩ := M_
  replace M_ := Lib.hid M_
  replace XM := Lib.hid XM
  replace Z11 := Lib.hid Z11
  clear E11
  clear GA
  obtain ⟨M_0, M_1⟩ := M_.out
  go_wp2_with fail
  clear M_0 M_1
  refine (r2sign_any _ _ _ _ (XM.out.r lr.out) s1.out).mono ?_
  rintro e w6 ⟨rfl, g6⟩
  replace R := Lib.hid (R.out.grew g6)
  replace T := Lib.hid (T.out.grew g6)
  replace P := Lib.hid (P.out.grew g6)
  replace Q := Lib.hid (Q.out.grew g6)
  replace L := Lib.hid (L.out.grew g6)
  replace M_ := Lib.hid (M_.out.grew g6)
  replace z0 := Lib.hid (lt_grew z0.out g6)
  replace z1 := Lib.hid (lt_grew z1.out g6)
  replace z2 := Lib.hid (lt_grew z2.out g6)
  replace z3 := Lib.hid (lt_grew z3.out g6)
  replace z4 := Lib.hid (lt_grew z4.out g6)
  replace Z11 := Lib.hid (lt_grew Z11.out g6)
  replace Fa := Lib.hid (Fa.out.kept g6.keeps)
  replace Fb := Lib.hid (Fb.out.kept g6.keeps)
  replace Wa := Lib.hid (Wa.out.kept g6.keeps)
  replace Wb := Lib.hid (Wb.out.kept g6.keeps)
  replace Xq := Lib.hid (Xq.out.kept g6.keeps)
  replace X3 := Lib.hid (X3.out.kept g6.keeps)
  replace XM := Lib.hid (XM.out.kept g6.keeps)
  replace G0 := Lib.hid (G0.out.trans g6)
  clear g6
  rw [hs5.out]
  go_upto_region 9 with fail
  have y1o := y1.out
  have y1_1o := y1_1.out
  have y111o := y111.out
  have y111_1o := y111_1.out
  have ne0a : ¬ w3.heap.size = w.heap.size + 1 + 1 := by omega
  have ne0b : ¬ w.heap.size + 1 + 1 = w3.heap.size := by omega
  have ne1a : ¬ w3.heap.size = w.heap.size + 1 + 1 + 1 := by omega
  have ne1b : ¬ w.heap.size + 1 + 1 + 1 = w3.heap.size := by omega
  have ne2a : ¬ e11 = w.heap.size + 1 + 1 := by omega
  have ne2b : ¬ w.heap.size + 1 + 1 = e11 := by omega
  have ne3a : ¬ e11 = w.heap.size + 1 + 1 + 1 := by omega
  have ne3b : ¬ w.heap.size + 1 + 1 + 1 = e11 := by omega
  obtain ⟨L0, L1⟩ := L.out
  obtain ⟨M_0, M_1⟩ := M_.out
  obtain ⟨R0, R1, Rf0, Rf1, Rs⟩ := R.out
  obtain ⟨T0, T1, Tf0, Tf1, Ts⟩ := T.out
  go_region
  all_goals
    refine gen_then ?_
    intro W9 hW9
    (first | obtain ⟨q0, q1, q2, q3, qK, qG⟩ := store22 R0 R1 T0 T1 (by omega) hW9 | obtain ⟨q0, q1, q2, q3, qK, qG⟩ := store22D R0 R1 T0 T1 (by omega) hW9)
    have GE := qG w (by omega) (by omega) G0.out
    have QK := Lib.hid qK
    clear qK qG hW9 R0 R1 T0 T1
    go_wp2_with fail
    exact bodyPost_ret (v := .tuple #[.agg #[.bool b5, .slice A5 n5 c5], .agg #[.bool b111, .slice A111 n111 c111], .bool true]) (by simp [results, Try.results65, go_sem, q0, q1, q2, q3]) rfl ⟨_, _, rfl, X3.out.kept QK.out, XM.out.kept QK.out, GE⟩

set_option maxRecDepth 100000 in
set_option maxHeartbeats 4000000 in
theorem r4floor_pos (Va : Value) (q : Rat) (k : Nat) (w : World) (ha : FracR w Va q k) (hq : 0 ≤ q) (hk : 1 ≤ k) (hs : k < 1073741824) :
    Calls Try.prog 28 #[Va] w fun e w' => ∃ V, e = .returned V ∧ Whl w' V q.floor ∧ Grew w w' := by
  obtain ⟨b1, A1, n1, c1, C1, m1, d1, rfl, Fa⟩ := ha.laid
  clear ha
  go_enter Try.func28, Try.ntmps28
  go_wp2_with fail
  refine gen_calls ?_
  intro W0 hW0
  have G0 : Grew w W0 := by rw [hW0]; exact ((Grew.refl w).alloc _).alloc _
  have P : Box3 W0 (w.heap.size) 0 (.bool b1) (.slice A1 n1 c1) (.slice C1 m1 d1) := by rw [hW0]; exact ⟨by simp [go_sem], by simp [go_sem], by simp [go_sem]⟩
  replace P := Lib.hid P
  have Pr : Res3 W0 (w.heap.size) 0 (.bool b1) (.slice A1 n1 c1) (.slice C1 m1 d1) := by rw [hW0]; exact ⟨by simp [go_sem], by simp [go_sem], by simp [go_sem], by simp [go_sem], by simp [go_sem], by simp [go_sem], by simp <;> omega⟩
  replace Pr := Lib.hid Pr
  have R : Res2 W0 (w.heap.size + 1) 0 (.bool false) (.slice none 0 0) := by rw [hW0]; exact ⟨by simp [go_sem], by simp [go_sem], by simp [go_sem], by simp [go_sem], by simp⟩
  replace R := Lib.hid R
  have z0 : w.heap.size < W0.heap.size := by rw [hW0]; simp <;> omega
  replace z0 := Lib.hid z0
  have z1 : w.heap.size + 1 < W0.heap.size := by rw [hW0]; simp <;> omega
  replace z1 := Lib.hid z1
  clear hW0
  replace Fa := Lib.hid (Fa.out.kept G0.keeps)
  replace G0 := Lib.hid G0
  refine (rworth_any _ q k _ Fa.out hk (by omega)).mono ?_
  rintro e w1 ⟨V1, rfl, hV1, g1⟩
  obtain ⟨b3, A3, n3, c3, C3, m3, d3, rfl, X1⟩ := hV1.laid
  clear hV1
  replace R := Lib.hid (R.out.grew g1)
  replace Pr := Lib.hid (Pr.out.grew g1)
  replace P := Lib.hid (P.out.grew g1)
  replace z0 := Lib.hid (lt_grew z0.out g1)
  replace z1 := Lib.hid (lt_grew z1.out g1)
  replace Fa := Lib.hid (Fa.out.kept g1.keeps)
  replace G0 := Lib.hid (G0.out.trans g1)
  clear g1
  obtain ⟨a0, a1, a2, af0, af1, af2, az⟩ := Pr.out
  go_upto_region 2 with fail
  refine gen_wp ?_
  intro W1 hW1
  obtain ⟨q0, q1, q2, qK, qf, -, qs, qG⟩ := store3 (o := 0) a0 a1 a2 hW1
  have hR9 : Res2 W1 (w.heap.size + 1) 0 (.bool false) (.slice none 0 0) := by
    obtain ⟨r0, r1, f0, f1, s⟩ := R.out
    exact ⟨(qf _ _ (by omega)).trans r0, (qf _ _ (by omega)).trans r1, by rw [hW1]; simpa using f0, by rw [hW1]; simpa using f1, by rw [qs]; exact s⟩
  have G9 := qG w (.inr (by omega)) G0.out
  have BP : Box3 W1 w.heap.size 0 (.bool b3) (.slice A3 n3 c3) (.slice C3 m3 d3) := ⟨q0, q1, q2⟩
  have X9 := X1.out.kept qK
  clear a0 a1 a2 af0 af1 af2 az q0 q1 q2 qK qf qs qG hW1 R G0 P Pr Fa X1 z0 z1
  obtain ⟨b4, N, D, n4, m4, va, vd, e, Na, Da, E, k1, k2, hD⟩ := X9
  simp at e
  obtain ⟨e1, e2, e3⟩ := e
  subst e1; subst e2; subst e3
  have hn3 : n3 = n4 := by obtain ⟨_, _, e, -⟩ := Na.slice; injection e with _ i _
  have hm3 : m3 = m4 := by obtain ⟨_, _, e, -⟩ := Da.slice; injection e with _ i _
  subst hn3; subst hm3
  have hb1 : b3 = true → N = 0 := by
    rintro rfl
    refine Decidable.byContradiction fun h => ?_
    have h2 := sgQ_mkRat (sgn true N) D hD
    rw [E] at h2
    have h1 : ¬ q < 0 := by grind
    have h3 : sg (sgn true N) = -1 := by
      have h4 : sgn true N = -(N : Int) := rfl
      unfold sg
      rw [if_neg (by omega), if_pos (by omega)]
    rw [h3] at h2
    unfold sgQ at h2
    rw [if_neg h1] at h2
    split at h2 <;> omega
  have ef : q.floor = ((N / D : Nat) : Int) := by
    rw [← E, floor_mkRat _ _ hD]
    cases b3
    · exact (Int.natCast_ediv N D).symm
    · rw [hb1 rfl]; simp [sgn]
  replace ef := Lib.hid ef
  replace Na := Lib.hid Na
  replace Da := Lib.hid Da
  have P := Lib.hid BP
  have R := Lib.hid hR9
  have G0 := Lib.hid G9
  clear BP hR9 G9 E
  have y9 := Lib.hid (show w.heap.size + 1 < W1.heap.size from R.out.2.2.2.2)
  skip
  go_upto_region 2 with fail
  go_cut [3, 4] (fun s3 s4 wx => ∃ e3 e4 : Nat, s3 = .pointer (some ⟨e3, 0, none⟩) ∧ At2 wx e3 (fun w V => Whl w V ((N / D : Nat) : Int)) ∧ W1.heap.size ≤ e3 ∧ s4 = .pointer (some ⟨e4, 0, none⟩) ∧ At2 wx e4 (fun w V => Whl w V ((N % D : Nat) : Int)) ∧ W1.heap.size ≤ e4 ∧ Grew W1 wx)
  · have KS : ∀ X, Grew W1 X → (fun w' => w'.cell? ⟨w.heap.size, 0, none⟩ = some (.bool b3) ∧ w'.cell? ⟨w.heap.size, 1, none⟩ = some (.slice A3 n3 c3) ∧ w'.cell? ⟨w.heap.size, 2, none⟩ = some (.slice C3 m3 d3)) X := fun X g => ⟨g.cell P.out.p0, g.cell P.out.p1, g.cell P.out.p2⟩
    replace KS := Lib.hid KS
    go_region_held3 (fun w' => w'.cell? ⟨w.heap.size, 0, none⟩ = some (.bool b3) ∧ w'.cell? ⟨w.heap.size, 1, none⟩ = some (.slice A3 n3 c3) ∧ w'.cell? ⟨w.heap.size, 2, none⟩ = some (.slice C3 m3 d3))
      (first | (refine KS.out _ ?_; (repeat (first | with_reducible exact Grew.refl _ | with_reducible refine Grew.setCell ?_ (by simp <;> omega) _ | with_reducible refine Grew.alloc ?_ _ | with_reducible refine Grew.drew ?_ | with_reducible apply Grew.trans ?_ g4 | with_reducible apply Grew.trans ?_ g3 )); done))
      (first | (go_at_call 63; refine (rup_any b3 A3 C3 n3 c3 m3 d3 D _ (Da.out.kept (Grew.keeps (by (repeat (first | with_reducible exact Grew.refl _ | with_reducible refine Grew.setCell ?_ (by simp <;> omega) _ | with_reducible refine Grew.alloc ?_ _ | with_reducible refine Grew.drew ?_ )))))).mono ?_; rintro e w3 ⟨rfl, g3⟩; have zn3 : W1.heap.size ≤ w3.heap.size := (by have t := g3.size; (try simp at t); omega); (first | (with_reducible have tt := res2_new2 g3; have h2_0 := tt.1; have h2_1 := tt.2; clear tt) | (with_reducible have tt := res2_new2D g3; have h2_0 := tt.1; have h2_1 := tt.2; clear tt) | (with_reducible have h2_0 := res2_new g3) | (with_reducible have h2_0 := res2_newD g3) | skip); (try (have uu := Res2.lt h2_0; have ne0_3a : ¬ (w3.heap.size = W1.heap.size) := (by omega); have ne0_3b : ¬ (W1.heap.size = w3.heap.size) := (by omega); clear uu))) | (go_at_call 65; refine (r2div_pos b3 A3 C3 N D n3 c3 m3 d3 k _ (Na.out.kept (Grew.keeps (by (repeat (first | with_reducible exact Grew.refl _ | with_reducible refine Grew.setCell ?_ (by simp <;> omega) _ | with_reducible refine Grew.alloc ?_ _ | with_reducible refine Grew.drew ?_ | with_reducible apply Grew.trans ?_ g3 ))))) (Da.out.kept (Grew.keeps (by (repeat (first | with_reducible exact Grew.refl _ | with_reducible refine Grew.setCell ?_ (by simp <;> omega) _ | with_reducible refine Grew.alloc ?_ _ | with_reducible refine Grew.drew ?_ | with_reducible apply Grew.trans ?_ g3 ))))) hD hb1 k1 k2 hs).mono ?_; rintro e w4 ⟨V1, V2, rfl, hV1, hV2, g4⟩; have zn4 : w3.heap.size ≤ w4.heap.size := (by have t := g4.size; (try simp at t); omega); obtain ⟨b5, A5, n5, c5, rfl, X4, -⟩ := hV1.laid; obtain ⟨b6, A6, n6, c6, rfl, X5, -⟩ := hV2.laid; clear hV1 hV2; (try replace h2_0 : Res2 w4 (W1.heap.size) 0 (.bool false) (.slice none 0 0) := h2_0.grew (by (repeat (first | with_reducible exact Grew.refl _ | with_reducible refine Grew.setCell ?_ (by simp <;> omega) _ | with_reducible refine Grew.alloc ?_ _ | with_reducible refine Grew.drew ?_ | with_reducible apply Grew.trans ?_ g4 )))); (try replace h2_1 : Res2 w4 (W1.heap.size + 1) 0 (.bool false) (.slice none 0 0) := h2_1.grew (by (repeat (first | with_reducible exact Grew.refl _ | with_reducible refine Grew.setCell ?_ (by simp <;> omega) _ | with_reducible refine Grew.alloc ?_ _ | with_reducible refine Grew.drew ?_ | with_reducible apply Grew.trans ?_ g4 )))); (first | (with_reducible have tt := res2_new2 g4; have h3_0 := tt.1; have h3_1 := tt.2; clear tt) | (with_reducible have tt := res2_new2D g4; have h3_0 := tt.1; have h3_1 := tt.2; clear tt) | (with_reducible have h3_0 := res2_new g4) | (with_reducible have h3_0 := res2_newD g4) | skip); (try (have uu := Res2.lt h2_0; have ne0_4a : ¬ (w4.heap.size = W1.heap.size) := (by omega); have ne0_4b : ¬ (W1.heap.size = w4.heap.size) := (by omega); clear uu)); (try (have uu := Res2.lt h3_0; have ne1_4a : ¬ (w4.heap.size = w3.heap.size) := (by omega); have ne1_4b : ¬ (w3.heap.size = w4.heap.size) := (by omega); clear uu)); (try (have tt := h2_0; obtain ⟨h2_00, h2_01, h2_0f0, h2_0f1, h2_0s⟩ := tt)); (try (have tt := h2_1; obtain ⟨h2_10, h2_11, h2_1f0, h2_1f1, h2_1s⟩ := tt)); (try (have tt := h3_0; obtain ⟨h3_00, h3_01, h3_0f0, h3_0f1, h3_0s⟩ := tt)); (try (have tt := h3_1; obtain ⟨h3_10, h3_11, h3_1f0, h3_1f1, h3_1s⟩ := tt))))
    all_goals
      go_wp2_with fail
      go_meet
      have XX4 := Lib.hid (X4.out.kept (Grew.keeps (w := w4) (w' := w4) (by (repeat (first | with_reducible exact Grew.refl _ | with_reducible refine Grew.setCell ?_ (by simp <;> omega) _ | with_reducible refine Grew.alloc ?_ _ | with_reducible refine Grew.drew ?_ )))))
      have XX5 := Lib.hid (X5.out.kept (Grew.keeps (w := w4) (w' := w4) (by (repeat (first | with_reducible exact Grew.refl _ | with_reducible refine Grew.setCell ?_ (by simp <;> omega) _ | with_reducible refine Grew.alloc ?_ _ | with_reducible refine Grew.drew ?_ )))))
      refine ⟨_, _, rfl, ?_, ?_, rfl, ?_, ?_, ?_⟩
      · repeat (first | with_reducible exact h2_0  | with_reducible exact h2_1  | with_reducible exact h3_0  | with_reducible exact h3_1 | with_reducible exact Keeps.refl _ | with_reducible refine At2.of_store (w := w4) (Rd.whl _) ?_ ?_ XX4.out | with_reducible refine At2.of_alloc (w := w4) (Rd.whl _) (by simp) ?_ XX4.out | with_reducible refine At2.store_far (Rd.whl _) ?_ ?_ (by omega) | with_reducible refine At2.grew (Rd.whl _) ?_ ((Grew.refl _).alloc _) | with_reducible refine Keeps.store2 ?_ ?_ | with_reducible refine Keeps.alloc ?_ | with_reducible refine Res2.store_far ?_ ?_ (by omega))
      · omega
      · repeat (first | with_reducible exact h2_0  | with_reducible exact h2_1  | with_reducible exact h3_0  | with_reducible exact h3_1 | with_reducible exact Keeps.refl _ | with_reducible refine At2.of_store (w := w4) (Rd.whl _) ?_ ?_ XX5.out | with_reducible refine At2.of_alloc (w := w4) (Rd.whl _) (by simp) ?_ XX5.out | with_reducible refine At2.store_far (Rd.whl _) ?_ ?_ (by omega) | with_reducible refine At2.grew (Rd.whl _) ?_ ((Grew.refl _).alloc _) | with_reducible refine Keeps.store2 ?_ ?_ | with_reducible refine Keeps.alloc ?_ | with_reducible refine Res2.store_far ?_ ?_ (by omega))
      · omega
      · (repeat (first | with_reducible exact Grew.refl _ | with_reducible refine Grew.setCell ?_ (by simp <;> omega) _ | with_reducible refine Grew.alloc ?_ _ | with_reducible refine Grew.drew ?_ | with_reducible apply Grew.trans ?_ g4 | with_reducible apply Grew.trans ?_ g3 ))
  obtain ⟨e3, e4, rfl, L, E3, rfl, M, E4, GA⟩ := hcut
  have y103 := Lib.hid (Nat.lt_of_lt_of_le (R.out).2.2.2.2 E3)
  have y104 := Lib.hid (Nat.lt_of_lt_of_le (R.out).2.2.2.2 E4)
  replace R := Lib.hid (R.out.grew GA)
  replace P := Lib.hid (P.out.grew GA)
  replace Na := Lib.hid (Na.out.kept GA.keeps)
  replace Da := Lib.hid (Da.out.kept GA.keeps)
  replace G0 := Lib.hid (G0.out.trans GA)
  obtain ⟨b103, A103, n103, c103, L, XL, Z3⟩ := L
  replace L := Lib.hid L
  replace XL := Lib.hid XL
  replace Z3 := Lib.hid Z3
  clear E3
  obtain ⟨b104, A104, n104, c104, M, XM, Z4⟩ := M
  replace M := Lib.hid M
  replace XM := Lib.hid XM
  replace Z4 := Lib.hid Z4
  clear E4
  clear GA
  go_upto_region 3 with fail
  obtain ⟨L0, L1⟩ := L.out
  obtain ⟨R0, R1, Rf0, Rf1, Rs⟩ := R.out
  go_wp2_with fail
  clear L0 L1
  refine gen_post ?_
  intro W9 hW9
  obtain ⟨q0, q1, qK, -, qs, qG⟩ := store2 (o := 0) R0 R1 hW9
  have GE := qG w (by omega) G0.out
  have QK := Lib.hid qK
  clear qK qG hW9 R0 R1
  exact bodyPost_ret (v := .agg #[.bool b103, .slice A103 n103 c103]) (by simp [results, Try.results28, go_sem, q0, q1]) rfl ⟨_, rfl, by rw [ef.out]; exact XL.out.kept QK.out, GE⟩

set_option maxRecDepth 100000 in
set_option maxHeartbeats 4000000 in
theorem r2int_small (Va : Value) (N : Nat) (w : World) (ha : Whl w Va (N : Int)) (hN : N ≤ 255) :
    Calls Try.prog 27 #[Va] w fun e w' => e = .returned (.tuple #[.int .i64 (N : Int), .bool true]) ∧ Grew w w' := by
  obtain ⟨b1, A1, n1, c1, rfl, Fa, Fb⟩ := ha.laid
  obtain ⟨h1, h2, h3⟩ := Fb.out
  have h4 : b1 = false := by rw [h1]; simp
  have l1 : n1 ≤ 1 := by rw [h2, Int.natAbs_natCast]; exact len_le (by omega) (by rw [Nat.pow_one]; omega)
  rw [Int.natAbs_natCast] at h3 h2
  subst h4
  have Wa := Lib.hid (ha.r (k := 1) (by rw [Int.natAbs_natCast]; omega))
  have q1 := Lib.hid (show len 4294967296 (-9223372036854775808 : Int).natAbs ≤ 2 from len_word (by omega))
  have q2 := Lib.hid (show len 4294967296 (9223372036854775807 : Int).natAbs ≤ 2 from len_word (by omega))
  have z1 : cmpZ (N : Int) (-9223372036854775808) = 1 := by unfold cmpZ; rw [if_neg (by omega), if_pos (by omega)]
  have z2 : cmpZ (N : Int) 9223372036854775807 = -1 := by unfold cmpZ; rw [if_pos (by omega)]
  replace z1 := Lib.hid z1
  replace z2 := Lib.hid z2
  have hm : n1 ≤ 9223372036854775807 := by omega
  have hcell : n1 = 0 ∧ N = 0 ∨ n1 = 1 ∧ ∃ b o, A1 = some ⟨b, o, none⟩ ∧ w.cell? ⟨b, o, none⟩ = some (.int .u32 (N : Int)) := by
    rcases Nat.eq_zero_or_pos n1 with h0 | h0
    · exact .inl ⟨h0, (len_eq_zero (B := 4294967296) (by omega)).1 (by omega)⟩
    · refine .inr ⟨by omega, ?_⟩
      obtain ⟨A', c', e, -, -, -, h5⟩ := h3
      injection e with e1 e2 e3
      obtain ⟨b, o, rfl, hc⟩ := h5 h0
      have := hc 0 h0
      rw [show dig 4294967296 N 0 = N by unfold dig; simp; omega] at this
      exact ⟨b, o, e1, this⟩
  clear h1 h2 h3 Fa Fb ha
  go_enter Try.func27, Try.ntmps27
  go_wp2_with fail
  refine gen_wp ?_
  intro W0 hW0
  have G0 : Grew w W0 := by rw [hW0]; exact (Grew.refl w).alloc _
  have P : Box2 W0 (w.heap.size) 0 (.bool false) (.slice A1 n1 c1) := by rw [hW0]; exact ⟨by simp [go_sem], by simp [go_sem]⟩
  replace P := Lib.hid P
  have z0 : w.heap.size < W0.heap.size := by rw [hW0]; simp <;> omega
  replace z0 := Lib.hid z0
  clear hW0
  replace Wa := Lib.hid (Wa.out.kept G0.keeps)
  replace G0 := Lib.hid G0
  have gd : Grew W0 W0.drew := (Grew.refl W0).drew
  replace P := Lib.hid (P.out.grew gd)
  replace z0 := Lib.hid (lt_grew z0.out gd)
  replace Wa := Lib.hid (Wa.out.kept gd.keeps)
  replace gd := Lib.hid gd
  have ZP := P
  go_region_held3 (fun w' => w'.cell? ⟨w.heap.size, 0, none⟩ = some (.bool false) ∧ w'.cell? ⟨w.heap.size, 1, none⟩ = some (.slice A1 n1 c1))
    (first | (with_reducible exact ⟨ZP.out.p0, ZP.out.p1⟩) | (with_reducible exact ⟨g1.cell ZP.out.p0, g1.cell ZP.out.p1⟩) | (with_reducible exact ⟨(g1.trans g2).cell ZP.out.p0, (g1.trans g2).cell ZP.out.p1⟩) | (with_reducible exact ⟨((g1.trans g2).trans g3).cell ZP.out.p0, ((g1.trans g2).trans g3).cell ZP.out.p1⟩) | (with_reducible exact ⟨(((g1.trans g2).trans g3).trans g4).cell ZP.out.p0, (((g1.trans g2).trans g3).trans g4).cell ZP.out.p1⟩))
    (first | (have chk := g3; clear chk; go_at_call 61; refine (r2cmp_any _ _ (N : Int) 9223372036854775807 1 2 _ Wa.out X3.out (by omega)).mono ?_; rintro e w4 ⟨rfl, g4⟩; rw [z2.out]; replace P := Lib.hid (P.out.grew g4); replace z0 := Lib.hid (lt_grew z0.out g4); replace Wa := Lib.hid (Wa.out.kept g4.keeps); replace X1 := Lib.hid (X1.out.kept g4.keeps); replace X3 := Lib.hid (X3.out.kept g4.keeps)) | (have chk := g2; clear chk; go_at_call 64; refine (r2of_any 9223372036854775807 _ (by omega) (by omega)).mono ?_; rintro e w3 ⟨V3, rfl, hV3, g3⟩; have Y3 := Lib.hid (hV3.r q2.out); obtain ⟨b4, A4, n4, c4, rfl, -⟩ := hV3.laid; have X3 := Y3; clear hV3 Y3; replace P := Lib.hid (P.out.grew g3); replace z0 := Lib.hid (lt_grew z0.out g3); replace Wa := Lib.hid (Wa.out.kept g3.keeps); replace X1 := Lib.hid (X1.out.kept g3.keeps)) | (have chk := g1; clear chk; go_at_call 61; refine (r2cmp_any _ _ (N : Int) (-9223372036854775808) 1 2 _ Wa.out X1.out (by omega)).mono ?_; rintro e w2 ⟨rfl, g2⟩; rw [z1.out]; replace P := Lib.hid (P.out.grew g2); replace z0 := Lib.hid (lt_grew z0.out g2); replace Wa := Lib.hid (Wa.out.kept g2.keeps); replace X1 := Lib.hid (X1.out.kept g2.keeps)) | (go_at_call 64; refine (r2of_any (-9223372036854775808) _ (by omega) (by omega)).mono ?_; rintro e w1 ⟨V1, rfl, hV1, g1⟩; have Y1 := Lib.hid (hV1.r q1.out); obtain ⟨b3, A3, n3, c3, rfl, -⟩ := hV1.laid; have X1 := Y1; clear hV1 Y1; replace P := Lib.hid (P.out.grew g1); replace z0 := Lib.hid (lt_grew z0.out g1); replace Wa := Lib.hid (Wa.out.kept g1.keeps)))
  replace G0 := Lib.hid (((((G0.out.trans gd.out).trans g1).trans g2).trans g3).trans g4)
  clear gd g1 g2 g3 g4 ZP
  have PB := P.out
  have GB := G0.out
  clear G0 P
  rcases hcell with ⟨rfl, rfl⟩ | ⟨rfl, b, o, rfl, hc⟩
  · as_aux_lemma =>
    obtain ⟨P0, P1⟩ := PB
    go_wp2_with fail
    go_loopg [4, 5] 0 (fun gk n i wr => gk = 0 ∧ n = .int .i64 0 ∧ i = .int .i64 (-1) ∧ Grew w4 wr)
    case atStart => exact ⟨rfl, rfl, rfl, Grew.refl _⟩
    case round =>
      obtain ⟨rfl, rfl, rfl, hG⟩ := hrel
      go_wp2_with fail
      go_ret2
      exact ⟨rfl, GB.trans hG⟩
  · as_aux_lemma =>
    obtain ⟨P0, P1⟩ := PB
    have hc' := GB.cell hc
    go_wp2_with fail
    go_loopg [4, 5] 1 (fun gk n i wr => (gk = 1 ∧ n = .int .i64 0 ∧ i = .int .i64 0 ∨ gk = 0 ∧ n = .int .i64 (N : Int) ∧ i = .int .i64 (-1)) ∧ Grew w4 wr)
    case atStart => exact ⟨.inl ⟨rfl, rfl, rfl⟩, Grew.refl _⟩
    case round =>
      obtain ⟨h | h, hG⟩ := hrel
      · obtain ⟨rfl, rfl, rfl⟩ := h
        have hc2 := hG.cell hc'
        have P0' := hG.cell P0
        have P1' := hG.cell P1
        go_wp2_with fail
        go_roundg 0
        case rel => exact ⟨.inr ⟨rfl, by go_num, rfl⟩, hG⟩
        case measure => omega
      · obtain ⟨rfl, rfl, rfl⟩ := h
        go_wp2_with fail
        go_ret2
        exact ⟨rfl, GB.trans hG⟩
end Go.Proofs.Ytpglnfccmhkocaa
namespace Go.Proofs.Ytpglnfccmhkocaa
open Go.RowKit

/-- The nearest of 255 parts, before it is cut. -/
def flQ (f : Rat) : Int := (f * ((255 : Int) : Rat) + mkRat 1 2).floor
/-- The nearest of 255 parts. -/
def levQ (f : Rat) : Int := if sgQ f ≤ 0 then 0 else if 255 < flQ f then 255 else flQ f

theorem half_pos : (0 : Rat) ≤ mkRat 1 2 := by decide +kernel
theorem flQ_nonneg {f : Rat} (h : 0 ≤ f) : 0 ≤ flQ f := by
  unfold flQ
  rw [Rat.le_floor_iff]
  have h1 : (0 : Rat) ≤ ((255 : Int) : Rat) := by have : (((0 : Int)) : Rat) ≤ ((255 : Int) : Rat) := Rat.intCast_le_intCast.2 (by omega); exact this
  have h2 := Rat.mul_nonneg h h1
  have h3 := half_pos
  have h4 : ((0 : Int) : Rat) = 0 := rfl
  rw [h4]
  grind
theorem flQ_mono {f g : Rat} (h : f ≤ g) : flQ f ≤ flQ g := by
  unfold flQ
  refine Rat.floor_monotone ?_
  have h1 : (0 : Rat) ≤ ((255 : Int) : Rat) := by have : (((0 : Int)) : Rat) ≤ ((255 : Int) : Rat) := Rat.intCast_le_intCast.2 (by omega); exact this
  have := Rat.mul_nonneg (show 0 ≤ g - f by grind) h1
  grind
theorem flQ_one : flQ 1 = 255 := by decide +kernel
theorem flQ_zero : flQ 0 = 0 := by decide +kernel
theorem sgQ_le {f : Rat} : sgQ f ≤ 0 ↔ f ≤ 0 := by
  unfold sgQ
  constructor
  · intro h
    refine Rat.not_lt.1 fun g => ?_
    rw [if_neg (by grind), if_pos g] at h
    omega
  · intro h
    split
    · omega
    · rw [if_neg (by grind)]; omega
theorem sgQ_lt {f : Rat} : sgQ f < 0 ↔ f < 0 := by
  unfold sgQ
  constructor
  · intro h
    refine Rat.not_le.1 fun g => ?_
    rw [if_neg (by grind)] at h
    split at h <;> omega
  · intro h
    rw [if_pos h]; omega
theorem cmpQ_pos {a b : Rat} : 0 < cmpQ a b ↔ b < a := by
  unfold cmpQ
  constructor
  · intro h
    split at h
    · omega
    · split at h
      · assumption
      · omega
  · intro h
    rw [if_neg (by grind), if_pos h]; omega
theorem levQ_bd (f : Rat) : 0 ≤ levQ f ∧ levQ f ≤ 255 := by
  unfold levQ
  split
  · omega
  · next h =>
    have := flQ_nonneg (f := f) (by have := mt sgQ_le.2 h; grind)
    split <;> omega
theorem levQ_neg {f : Rat} (h : sgQ f < 0) : levQ f = 0 := if_pos (by omega)
theorem levQ_big {f : Rat} (h : 0 < cmpQ f 1) : levQ f = 255 := by
  have h1 := cmpQ_pos.1 h
  have h2 : ¬ sgQ f ≤ 0 := fun e => by have := sgQ_le.1 e; grind
  have h3 := flQ_mono (Rat.le_of_lt h1)
  rw [flQ_one] at h3
  unfold levQ
  rw [if_neg h2]
  split <;> omega
theorem levQ_mid {f : Rat} (h1 : ¬ sgQ f < 0) (h2 : ¬ 0 < cmpQ f 1) : levQ f = flQ f ∧ 0 ≤ flQ f ∧ flQ f ≤ 255 := by
  have g1 : 0 ≤ f := by have := mt sgQ_lt.2 h1; grind
  have g2 : f ≤ 1 := by have := mt cmpQ_pos.2 h2; grind
  have g3 := flQ_mono g2
  rw [flQ_one] at g3
  have g4 := flQ_nonneg g1
  refine ⟨?_, g4, g3⟩
  unfold levQ
  split
  · next h =>
    have g5 := sgQ_le.1 h
    have : f = 0 := by grind
    rw [this, flQ_zero]
  · rw [if_neg (by omega)]
theorem levQ_rise {f g : Rat} (h : ¬ 0 < cmpQ f g) : levQ f ≤ levQ g := by
  have h1 : f ≤ g := by have := mt cmpQ_pos.2 h; grind
  have h2 := flQ_mono h1
  have h3 := levQ_bd g
  by_cases e : sgQ f ≤ 0
  · rw [show levQ f = 0 from if_pos e]; omega
  · have e1 : ¬ f ≤ 0 := fun k => e (sgQ_le.2 k)
    have e2 : ¬ sgQ g ≤ 0 := fun k => by have := sgQ_le.1 k; grind
    unfold levQ
    rw [if_neg e, if_neg e2]
    split <;> split <;> omega

theorem QB_255 : QB ((255 : Int) : Rat) 1 := ⟨len_le (by omega) (by decide), by rw [show (((255 : Int) : Rat).den) = 1 from rfl, len1]; exact Nat.le_refl _⟩
theorem QB_1 : QB ((1 : Int) : Rat) 1 := ⟨len_le (by omega) (by decide), by rw [show (((1 : Int) : Rat).den) = 1 from rfl, len1]; exact Nat.le_refl _⟩

set_option maxRecDepth 100000 in
set_option maxHeartbeats 4000000 in
theorem alevel_any (Va : Value) (f : Rat) (k : Nat) (w : World) (ha : FracV w Va f k) (hk : 1 ≤ k) (hs : k < 16777216) :
    Calls Try.prog 6 #[Va] w fun e w' => e = .returned (.int .u8 (levQ f)) ∧ Grew w w' := by
  obtain ⟨b1, A1, n1, c1, C1, m1, d1, rfl, Fa⟩ := ha.laid
  have hk1 : 1 ≤ k + 1 := by omega
  have h11 : 1 ≤ 1 := Nat.le_refl _
  have s1 := Lib.hid (show k + 1 < 549755813888 by omega)
  have s2 := Lib.hid (show k + 1 < 134217728 by omega)
  have s3 := Lib.hid (show k < 536870912 by omega)
  have qf := Lib.hid ((Fa.out.qb hk).mul QB_255)
  have hbd := levQ_bd f
  have hL : levQ f = if sgQ f ≤ 0 then 0 else if 255 < flQ f then 255 else flQ f := rfl
  obtain ⟨z, hz⟩ : ∃ z, flQ f = z := ⟨_, rfl⟩
  obtain ⟨t, ht⟩ : ∃ t, sgQ f = t := ⟨_, rfl⟩
  have hz0 : ¬ t ≤ 0 → 0 ≤ z := fun h => by
    rw [← hz]; rw [← ht] at h
    exact flQ_nonneg (by have := mt sgQ_le.2 h; grind)
  obtain ⟨L, hLL⟩ : ∃ L, levQ f = L := ⟨_, rfl⟩
  rw [hz, ht, hLL] at hL
  rw [hLL]
  replace ht := Lib.hid ht
  have hz1 := Lib.hid (show (f * ((255 : Int) : Rat) + mkRat 1 2).floor = z from hz)
  replace hL := Lib.hid hL
  clear hz hLL hbd ha
  go_enter Try.func6, Try.ntmps6
  go_wp2_with fail
  refine gen_wp ?_
  intro W0 hW0
  have G0 : Grew w W0 := by rw [hW0]; exact (Grew.refl w).alloc _
  have P : Box3 W0 (w.heap.size) 0 (.bool b1) (.slice A1 n1 c1) (.slice C1 m1 d1) := by rw [hW0]; exact ⟨by simp [go_sem], by simp [go_sem], by simp [go_sem]⟩
  replace P := Lib.hid P
  have z0 : w.heap.size < W0.heap.size := by rw [hW0]; simp <;> omega
  replace z0 := Lib.hid z0
  clear hW0
  replace Fa := Lib.hid (Fa.out.kept G0.keeps)
  replace G0 := Lib.hid G0
  have gd : Grew W0 W0.drew := (Grew.refl W0).drew
  replace P := Lib.hid (P.out.grew gd)
  replace z0 := Lib.hid (lt_grew z0.out gd)
  replace Fa := Lib.hid (Fa.out.kept gd.keeps)
  replace gd := Lib.hid gd
  have ZP := P
  go_region_held3 (fun w' => w'.cell? ⟨w.heap.size, 0, none⟩ = some (.bool b1) ∧ w'.cell? ⟨w.heap.size, 1, none⟩ = some (.slice A1 n1 c1) ∧ w'.cell? ⟨w.heap.size, 2, none⟩ = some (.slice C1 m1 d1))
    (first | (with_reducible exact ⟨ZP.out.p0, ZP.out.p1, ZP.out.p2⟩) | (with_reducible exact ⟨g1.cell ZP.out.p0, g1.cell ZP.out.p1, g1.cell ZP.out.p2⟩) | (with_reducible exact ⟨(g1.trans g2).cell ZP.out.p0, (g1.trans g2).cell ZP.out.p1, (g1.trans g2).cell ZP.out.p2⟩) | (with_reducible exact ⟨((g1.trans g2).trans g3).cell ZP.out.p0, ((g1.trans g2).trans g3).cell ZP.out.p1, ((g1.trans g2).trans g3).cell ZP.out.p2⟩) | (with_reducible exact ⟨(((g1.trans g2).trans g3).trans g4).cell ZP.out.p0, (((g1.trans g2).trans g3).trans g4).cell ZP.out.p1, (((g1.trans g2).trans g3).trans g4).cell ZP.out.p2⟩))
    (first | (have chk := g3; clear chk; go_at_call 19; refine (wint_any _ A5 z.natAbs _ c5 _ X3.out).mono ?_; rintro e w4 ⟨rfl, g4⟩; rw [sgn_of z]; replace P := Lib.hid (P.out.grew g4); replace z0 := Lib.hid (lt_grew z0.out g4); replace Fa := Lib.hid (Fa.out.kept g4.keeps); replace X1 := Lib.hid (X1.out.kept g4.keeps); replace X2 := Lib.hid (X2.out.kept g4.keeps); replace X3 := Lib.hid (X3.out.kept g4.keeps)) | (have chk := g2; clear chk; go_at_call 20; refine (fround_any _ _ (k + 1) _ X2.out hk1 s2.out).mono ?_; rintro e w3 ⟨V3, rfl, hV3, g3⟩; rw [hz1.out] at hV3; obtain ⟨v5, rfl, hn5⟩ := hV3; obtain ⟨A5, c5, rfl, X3⟩ := hn5.slice; clear hn5; replace P := Lib.hid (P.out.grew g3); replace z0 := Lib.hid (lt_grew z0.out g3); replace Fa := Lib.hid (Fa.out.kept g3.keeps); replace X1 := Lib.hid (X1.out.kept g3.keeps); replace X2 := Lib.hid (X2.out.kept g3.keeps)) | (have chk := g1; clear chk; go_at_call 21; refine (fmul_any _ _ f ((255 : Int) : Rat) k 1 _ Fa.out X1.out hk h11 s1.out).mono ?_; rintro e w2 ⟨V2, rfl, hV2, g2⟩; have Y2 := Lib.hid (hV2.v qf.out); obtain ⟨b4, A4, n4, c4, C4, m4, d4, rfl, -⟩ := hV2.laid; have X2 := Y2; clear hV2 Y2; replace P := Lib.hid (P.out.grew g2); replace z0 := Lib.hid (lt_grew z0.out g2); replace Fa := Lib.hid (Fa.out.kept g2.keeps); replace X1 := Lib.hid (X1.out.kept g2.keeps)) | (go_at_call 22; refine (fint_any 255 _ (by omega) (by omega)).mono ?_; rintro e w1 ⟨V1, rfl, hV1, g1⟩; have Y1 := Lib.hid (hV1.v QB_255); obtain ⟨b3, A3, n3, c3, C3, m3, d3, rfl, -⟩ := hV1.laid; have X1 := Y1; clear hV1 Y1; replace P := Lib.hid (P.out.grew g1); replace z0 := Lib.hid (lt_grew z0.out g1); replace Fa := Lib.hid (Fa.out.kept g1.keeps)))
  replace G0 := Lib.hid (((((G0.out.trans gd.out).trans g1).trans g2).trans g3).trans g4)
  clear gd g1 g2 g3 g4 ZP
  obtain ⟨P0, P1, P2⟩ := P.out
  go_wp2_with fail
  clear P0 P1 P2
  refine (fsign_any _ f k _ Fa.out hk s3.out).mono ?_
  rintro e w5 ⟨rfl, g5⟩
  replace P := Lib.hid (P.out.grew g5)
  replace z0 := Lib.hid (lt_grew z0.out g5)
  replace Fa := Lib.hid (Fa.out.kept g5.keeps)
  replace X1 := Lib.hid (X1.out.kept g5.keeps)
  replace X2 := Lib.hid (X2.out.kept g5.keeps)
  replace X3 := Lib.hid (X3.out.kept g5.keeps)
  replace G0 := Lib.hid (G0.out.trans g5)
  clear g5
  rw [ht.out]
  by_cases h1 : t ≤ 0
  · as_aux_lemma =>
    have e := Lib.hid (hL.out.trans (if_pos h1))
    generalize intV z = zi at *
    generalize intOk z = zo at *
    go_wp2_with fail
    go_ret
    exact ⟨by rw [e.out]; rfl, G0.out⟩
  · as_aux_lemma =>
    have hz2 := hz0 (by omega)
    by_cases h2 : -9223372036854775808 ≤ z ∧ z ≤ 9223372036854775807
    · rw [(int_yes h2).1, (int_yes h2).2]
      by_cases h3 : 255 < z
      · as_aux_lemma =>
        have e := Lib.hid (hL.out.trans ((if_neg h1).trans (if_pos h3)))
        go_wp2_with fail
        go_ret
        exact ⟨by rw [e.out]; rfl, G0.out⟩
      · as_aux_lemma =>
        have e := Lib.hid (hL.out.trans ((if_neg h1).trans (if_neg h3)))
        go_wp2_with fail
        go_ret
        exact ⟨by rw [e.out]; rfl, G0.out⟩
    · as_aux_lemma =>
      rw [(int_no h2).1, (int_no h2).2]
      have e := Lib.hid (hL.out.trans ((if_neg h1).trans (if_pos (by omega))))
      go_wp2_with fail
      go_ret
      exact ⟨by rw [e.out]; rfl, G0.out⟩

set_option maxRecDepth 100000 in
set_option maxHeartbeats 4000000 in
theorem rlevel_any (Va : Value) (f : Rat) (k : Nat) (w : World) (ha : FracR w Va f k) (hk : 1 ≤ k) (hs : k < 16777216) :
    Calls Try.prog 7 #[Va] w fun e w' => e = .returned (.int .u8 (levQ f)) ∧ Grew w w' := by
  obtain ⟨b1, A1, n1, c1, C1, m1, d1, rfl, Fa⟩ := ha.laid
  have s1 := Lib.hid (show k < 137438953472 by omega)
  have s2 := Lib.hid (show k < 1073741824 ∧ 1 < 1073741824 by omega)
  have s3 := Lib.hid (show k + 1 < 1073741824 ∧ 1 < 1073741824 by omega)
  have s4 := Lib.hid (show k + 1 + 1 + 1 < 1073741824 by omega)
  have k1 : 1 ≤ k ∧ 1 ≤ 1 := ⟨hk, Nat.le_refl _⟩
  have k2 : 1 ≤ k + 1 ∧ 1 ≤ 1 := by omega
  have k3 : 1 ≤ k + 1 + 1 + 1 := by omega
  have qf := Lib.hid ((Fa.out.v.qb hk).mul QB_255)
  have qg := Lib.hid (qf.out.add QB_one2)
  obtain ⟨t, ht⟩ : ∃ t, sgQ f = t := ⟨_, rfl⟩
  obtain ⟨s, hs5⟩ : ∃ s, cmpQ f 1 = s := ⟨_, rfl⟩
  have l1 : t < 0 → levQ f = 0 := fun h => levQ_neg (by rw [ht]; exact h)
  have l2 : 0 < s → levQ f = 255 := fun h => levQ_big (by rw [hs5]; exact h)
  have l3 : ¬ t < 0 → ¬ 0 < s → levQ f = flQ f ∧ 0 ≤ flQ f ∧ flQ f ≤ 255 := fun h h' => levQ_mid (by rw [ht]; exact h) (by rw [hs5]; exact h')
  have l4 : ¬ t < 0 → 0 ≤ f * ((255 : Int) : Rat) + mkRat 1 2 := fun h => by
    rw [← ht] at h
    have h0 : 0 ≤ f := by have := mt sgQ_lt.2 h; grind
    have h1 : (0 : Rat) ≤ ((255 : Int) : Rat) := by have : (((0 : Int)) : Rat) ≤ ((255 : Int) : Rat) := Rat.intCast_le_intCast.2 (by omega); exact this
    have h2 := Rat.mul_nonneg h0 h1
    have h3 := half_pos
    grind
  obtain ⟨L, hLL⟩ : ∃ L, levQ f = L := ⟨_, rfl⟩
  rw [hLL] at l1 l2 l3 ⊢
  replace ht := Lib.hid ht
  have hs6 := Lib.hid (show cmpQ f ((1 : Int) : Rat) = s from hs5)
  replace l1 := Lib.hid l1
  replace l2 := Lib.hid l2
  replace l3 := Lib.hid l3
  replace l4 := Lib.hid l4
  clear hs5 hLL ha
  go_enter Try.func7, Try.ntmps7
  go_wp2_with fail
  refine gen_calls ?_
  intro W0 hW0
  have G0 : Grew w W0 := by rw [hW0]; exact (Grew.refl w).alloc _
  have P : Box3 W0 (w.heap.size) 0 (.bool b1) (.slice A1 n1 c1) (.slice C1 m1 d1) := by rw [hW0]; exact ⟨by simp [go_sem], by simp [go_sem], by simp [go_sem]⟩
  replace P := Lib.hid P
  have z0 : w.heap.size < W0.heap.size := by rw [hW0]; simp <;> omega
  replace z0 := Lib.hid z0
  clear hW0
  replace Fa := Lib.hid (Fa.out.kept G0.keeps)
  replace G0 := Lib.hid G0
  refine (rfsign_any _ f k _ Fa.out hk s1.out).mono ?_
  rintro e w1 ⟨rfl, g1⟩
  replace P := Lib.hid (P.out.grew g1)
  replace z0 := Lib.hid (lt_grew z0.out g1)
  replace Fa := Lib.hid (Fa.out.kept g1.keeps)
  replace G0 := Lib.hid (G0.out.trans g1)
  clear g1
  rw [ht.out]
  by_cases h1 : t < 0
  · as_aux_lemma =>
    have e := Lib.hid (l1.out h1)
    go_wp2_with fail
    go_ret
    exact ⟨by rw [e.out]; rfl, G0.out⟩
  · as_aux_lemma =>
    go_wp2_with fail
    have gd : Grew w1 w1.drew := (Grew.refl w1).drew
    replace P := Lib.hid (P.out.grew gd)
    replace z0 := Lib.hid (lt_grew z0.out gd)
    replace Fa := Lib.hid (Fa.out.kept gd.keeps)
    replace gd := Lib.hid gd
    have ZP := P
    go_region_held3 (fun w' => w'.cell? ⟨w.heap.size, 0, none⟩ = some (.bool b1) ∧ w'.cell? ⟨w.heap.size, 1, none⟩ = some (.slice A1 n1 c1) ∧ w'.cell? ⟨w.heap.size, 2, none⟩ = some (.slice C1 m1 d1))
      (first | (with_reducible exact ⟨ZP.out.p0, ZP.out.p1, ZP.out.p2⟩) | (with_reducible exact ⟨g2.cell ZP.out.p0, g2.cell ZP.out.p1, g2.cell ZP.out.p2⟩) | (with_reducible exact ⟨(g2.trans g3).cell ZP.out.p0, (g2.trans g3).cell ZP.out.p1, (g2.trans g3).cell ZP.out.p2⟩))
      (first | (have chk := g2; clear chk; go_at_call 25; refine (rfcmp_any _ _ f ((1 : Int) : Rat) k 1 _ Fa.out X1.out k1 s2.out).mono ?_; rintro e w3 ⟨rfl, g3⟩; rw [hs6.out]; replace P := Lib.hid (P.out.grew g3); replace z0 := Lib.hid (lt_grew z0.out g3); replace Fa := Lib.hid (Fa.out.kept g3.keeps); replace X1 := Lib.hid (X1.out.kept g3.keeps)) | (go_at_call 26; refine (rfint_any 1 _ (by omega) (by omega)).mono ?_; rintro e w2 ⟨V1, rfl, hV1, g2⟩; have Y1 := Lib.hid (hV1.r QB_1); obtain ⟨b3, A3, n3, c3, C3, m3, d3, rfl, -⟩ := hV1.laid; have X1 := Y1; clear hV1 Y1; replace P := Lib.hid (P.out.grew g2); replace z0 := Lib.hid (lt_grew z0.out g2); replace Fa := Lib.hid (Fa.out.kept g2.keeps)))
    replace G0 := Lib.hid (((G0.out.trans gd.out).trans g2).trans g3)
    clear gd g2 g3 ZP
    by_cases h2 : 0 < s
    · as_aux_lemma =>
      have e := Lib.hid (l2.out h2)
      go_wp2_with fail
      go_ret
      exact ⟨by rw [e.out]; rfl, G0.out⟩
    · as_aux_lemma =>
      obtain ⟨e0, e1, e2⟩ := l3.out (by omega) (by omega)
      have nn := Lib.hid (l4.out (by omega))
      obtain ⟨N, hN⟩ := Int.eq_ofNat_of_zero_le e1
      have hN2 : N ≤ 255 := by omega
      have eL : L = (N : Int) := by rw [e0, hN]
      have hfl := Lib.hid (show (f * ((255 : Int) : Rat) + mkRat 1 2).floor = (N : Int) from hN)
      clear e0 e1 e2 hN
      subst eL
      go_wp2_with fail
      have gd : Grew w3 w3.drew := (Grew.refl w3).drew
      replace P := Lib.hid (P.out.grew gd)
      replace z0 := Lib.hid (lt_grew z0.out gd)
      replace Fa := Lib.hid (Fa.out.kept gd.keeps)
      replace X1 := Lib.hid (X1.out.kept gd.keeps)
      replace gd := Lib.hid gd
      have ZP := P
      go_region_held3 (fun w' => w'.cell? ⟨w.heap.size, 0, none⟩ = some (.bool b1) ∧ w'.cell? ⟨w.heap.size, 1, none⟩ = some (.slice A1 n1 c1) ∧ w'.cell? ⟨w.heap.size, 2, none⟩ = some (.slice C1 m1 d1))
        (first | (with_reducible exact ⟨ZP.out.p0, ZP.out.p1, ZP.out.p2⟩) | (with_reducible exact ⟨g4.cell ZP.out.p0, g4.cell ZP.out.p1, g4.cell ZP.out.p2⟩) | (with_reducible exact ⟨(g4.trans g5).cell ZP.out.p0, (g4.trans g5).cell ZP.out.p1, (g4.trans g5).cell ZP.out.p2⟩) | (with_reducible exact ⟨((g4.trans g5).trans g6).cell ZP.out.p0, ((g4.trans g5).trans g6).cell ZP.out.p1, ((g4.trans g5).trans g6).cell ZP.out.p2⟩) | (with_reducible exact ⟨(((g4.trans g5).trans g6).trans g7).cell ZP.out.p0, (((g4.trans g5).trans g6).trans g7).cell ZP.out.p1, (((g4.trans g5).trans g6).trans g7).cell ZP.out.p2⟩) | (with_reducible exact ⟨((((g4.trans g5).trans g6).trans g7).trans g8).cell ZP.out.p0, ((((g4.trans g5).trans g6).trans g7).trans g8).cell ZP.out.p1, ((((g4.trans g5).trans g6).trans g7).trans g8).cell ZP.out.p2⟩) | (with_reducible exact ⟨(((((g4.trans g5).trans g6).trans g7).trans g8).trans g9).cell ZP.out.p0, (((((g4.trans g5).trans g6).trans g7).trans g8).trans g9).cell ZP.out.p1, (((((g4.trans g5).trans g6).trans g7).trans g8).trans g9).cell ZP.out.p2⟩))
        (first | (have chk := g8; clear chk; go_at_call 27; refine (r2int_small _ N _ X8.out hN2).mono ?_; rintro e w9 ⟨rfl, g9⟩; replace P := Lib.hid (P.out.grew g9); replace z0 := Lib.hid (lt_grew z0.out g9); replace Fa := Lib.hid (Fa.out.kept g9.keeps); replace X1 := Lib.hid (X1.out.kept g9.keeps); replace X4 := Lib.hid (X4.out.kept g9.keeps); replace X5 := Lib.hid (X5.out.kept g9.keeps); replace X6 := Lib.hid (X6.out.kept g9.keeps); replace X7 := Lib.hid (X7.out.kept g9.keeps); replace X8 := Lib.hid (X8.out.kept g9.keeps)) | (have chk := g7; clear chk; go_at_call 28; refine (r4floor_pos _ _ (k + 1 + 1 + 1) _ X7.out nn.out k3 s4.out).mono ?_; rintro e w8 ⟨V8, rfl, hV8, g8⟩; rw [hfl.out] at hV8; have Y8 := Lib.hid hV8; obtain ⟨b9, A9, n9, c9, rfl, -⟩ := hV8.laid; have X8 := Y8; clear hV8 Y8; replace P := Lib.hid (P.out.grew g8); replace z0 := Lib.hid (lt_grew z0.out g8); replace Fa := Lib.hid (Fa.out.kept g8.keeps); replace X1 := Lib.hid (X1.out.kept g8.keeps); replace X4 := Lib.hid (X4.out.kept g8.keeps); replace X5 := Lib.hid (X5.out.kept g8.keeps); replace X6 := Lib.hid (X6.out.kept g8.keeps); replace X7 := Lib.hid (X7.out.kept g8.keeps)) | (have chk := g6; clear chk; go_at_call 29; refine (rfadd_any _ _ (f * ((255 : Int) : Rat)) (mkRat 1 2) (k + 1) 1 _ X5.out X6.out k2 s3.out).mono ?_; rintro e w7 ⟨V7, rfl, hV7, g7⟩; have Y7 := Lib.hid (hV7.r qg.out); obtain ⟨b8, A8, n8, c8, C8, m8, d8, rfl, -⟩ := hV7.laid; have X7 := Y7; clear hV7 Y7; replace P := Lib.hid (P.out.grew g7); replace z0 := Lib.hid (lt_grew z0.out g7); replace Fa := Lib.hid (Fa.out.kept g7.keeps); replace X1 := Lib.hid (X1.out.kept g7.keeps); replace X4 := Lib.hid (X4.out.kept g7.keeps); replace X5 := Lib.hid (X5.out.kept g7.keeps); replace X6 := Lib.hid (X6.out.kept g7.keeps)) | (have chk := g5; clear chk; go_at_call 31; refine (rfhalf_any _).mono ?_; rintro e w6 ⟨V6, rfl, hV6, g6⟩; have Y6 := Lib.hid (hV6.r QB_one2); obtain ⟨b7, A7, n7, c7, C7, m7, d7, rfl, -⟩ := hV6.laid; have X6 := Y6; clear hV6 Y6; replace P := Lib.hid (P.out.grew g6); replace z0 := Lib.hid (lt_grew z0.out g6); replace Fa := Lib.hid (Fa.out.kept g6.keeps); replace X1 := Lib.hid (X1.out.kept g6.keeps); replace X4 := Lib.hid (X4.out.kept g6.keeps); replace X5 := Lib.hid (X5.out.kept g6.keeps)) | (have chk := g4; clear chk; go_at_call 30; refine (rfmul_any _ _ f ((255 : Int) : Rat) k 1 _ Fa.out X4.out k1 s2.out).mono ?_; rintro e w5 ⟨V5, rfl, hV5, g5⟩; have Y5 := Lib.hid (hV5.r qf.out); obtain ⟨b6, A6, n6, c6, C6, m6, d6, rfl, -⟩ := hV5.laid; have X5 := Y5; clear hV5 Y5; replace P := Lib.hid (P.out.grew g5); replace z0 := Lib.hid (lt_grew z0.out g5); replace Fa := Lib.hid (Fa.out.kept g5.keeps); replace X1 := Lib.hid (X1.out.kept g5.keeps); replace X4 := Lib.hid (X4.out.kept g5.keeps)) | (go_at_call 26; refine (rfint_any 255 _ (by omega) (by omega)).mono ?_; rintro e w4 ⟨V4, rfl, hV4, g4⟩; have Y4 := Lib.hid (hV4.r QB_255); obtain ⟨b5, A5, n5, c5, C5, m5, d5, rfl, -⟩ := hV4.laid; have X4 := Y4; clear hV4 Y4; replace P := Lib.hid (P.out.grew g4); replace z0 := Lib.hid (lt_grew z0.out g4); replace Fa := Lib.hid (Fa.out.kept g4.keeps); replace X1 := Lib.hid (X1.out.kept g4.keeps)))
      replace G0 := Lib.hid (((((((G0.out.trans gd.out).trans g4).trans g5).trans g6).trans g7).trans g8).trans g9)
      clear gd g4 g5 g6 g7 g8 g9 ZP
      go_wp2_with fail
      go_ret
      exact ⟨by rfl, G0.out⟩
end Go.Proofs.Ytpglnfccmhkocaa
