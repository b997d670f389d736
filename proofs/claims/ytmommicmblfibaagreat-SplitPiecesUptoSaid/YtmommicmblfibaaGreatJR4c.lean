/- r01.Same, r02.Same, r04.Same, r05.Same at what is the same. Condition: what comes in reads. r04.worth, up. Condition: what comes in reads. r04.up, Reduce. Condition: what comes in reads. r04.Int. Condition: an int. -/
import Derived.Test.YtmommicmblfibaaGreatJRowP
import Derived.Test.YtmommicmblfibaaGreatJGrid2
set_option maxRecDepth 100000
namespace Go.Proofs.YtmommicmblfibaaGreat
open Go.RowKit
set_option maxHeartbeats 4000000 in
theorem r1same_yes (A C : Option Addr) (N n c d : Nat) (w : World) (ha : Num 4294967296 .u32 w (.slice A n c) N n) (hb : Num 4294967296 .u32 w (.slice C n d) N n) :
  Calls Tryz.prog 69 #[.slice A n c, .slice C n d] w fun e w' => e = .returned (.bool true) ∧ Grew w w' := by
 obtain ⟨A', c', e1, a1, a2, a3, a4⟩ := ha
 obtain ⟨C', d', e2, b1, b2, b3, b4⟩ := hb
 injection e1 with i1 i2 i3
 injection e2 with j1 j2 j3
 subst i1; subst i3; subst j1; subst j3
 have hm : n ≤ 9223372036854775807 := by omega
 clear i2 j2 a3 b3
 go_enter Tryz.func69, Tryz.ntmps69
 go_wp2_with fail
 go_loopg [5] n (fun gk i wr => ∃ j : Nat, gk + j = n ∧ i = .int .i64 j ∧ Grew w wr)
 case atStart => exact ⟨0, rfl, rfl, Grew.refl _⟩
 case round =>
  obtain ⟨j, hj, rfl, hG⟩ := hrel
  by_cases hlt : j < n
  ·obtain ⟨ba, oa, rfl, hca⟩ := a4 (by omega)
   obtain ⟨bb, ob, rfl, hcb⟩ := b4 (by omega)
   have hcx := hG.cell (hca j hlt)
   have hcy := hG.cell (hcb j hlt)
   clear hca hcb a4 b4
   generalize dig 4294967296 N j = x at *
   go_wp2_with fail
   go_quiet (fail)
   go_wp2
   go_roundg (gk - 1)
   case rel => exact ⟨j + 1, by omega, by go_num, by first | exact hG.drewN _ | exact (hG.drewN _).drewN _⟩
   case measure => omega
  ·obtain rfl : j = n := by omega
   go_wp2_with fail
   go_ret
   exact ⟨rfl, hG⟩
set_option maxHeartbeats 4000000 in
theorem r2same_yes (b : Bool) (A C : Option Addr) (N n c d : Nat) (w : World) (ha : Num 4294967296 .u32 w (.slice A n c) N n) (hb : Num 4294967296 .u32 w (.slice C n d) N n) :
  Calls Tryz.prog 68 #[.agg #[.bool b, .slice A n c], .agg #[.bool b, .slice C n d]] w fun e w' => e = .returned (.bool true) ∧ Grew w w' := by
 have Fa := hZ ha
 have Fb := hZ hb
 clear ha hb
 go_enter Tryz.func68, Tryz.ntmps68
 go_wp2_with fail
 refine gen_calls ?_
 intro W0 hW0
 have G0 : Grew w W0 := by rw [hW0]; exact ((Grew.refl w).alloc _).alloc _
 have P : Box2 W0 (w.heap.size) 0 (.bool b) (.slice A n c) := by rw [hW0]; exact ⟨by simp [go_sem], by simp [go_sem]⟩
 replace P := hZ P
 have Q : Box2 W0 (w.heap.size + 1) 0 (.bool b) (.slice C n d) := by rw [hW0]; exact ⟨by simp [go_sem], by simp [go_sem]⟩
 replace Q := hZ Q
 have z0 : w.heap.size < W0.heap.size := by rw [hW0]; simp <;> omega
 replace z0 := hZ z0
 have z1 : w.heap.size + 1 < W0.heap.size := by rw [hW0]; simp <;> omega
 replace z1 := hZ z1
 clear hW0
 replace Fa := hZ (Fa.out.kept G0.keeps)
 replace Fb := hZ (Fb.out.kept G0.keeps)
 replace G0 := hZ G0
 refine (r1same_yes A C N n c d _ Fa.out Fb.out).mono ?_
 rintro e w1 ⟨rfl, g1⟩
 replace P := hZ (P.out.grew g1)
 replace Q := hZ (Q.out.grew g1)
 replace z0 := hZ (lt_grew z0.out g1)
 replace z1 := hZ (lt_grew z1.out g1)
 replace Fa := hZ (Fa.out.kept g1.keeps)
 replace Fb := hZ (Fb.out.kept g1.keeps)
 replace G0 := hZ (G0.out.trans g1)
 clear g1
 go_wp2_with fail
 go_ret
 exact ⟨rfl, G0.out⟩
theorem FracC.both {w : World} {V V' : Value} {q : Rat} (h : FracC w V q) (h' : FracC w V' q) : ∃ b A A' n c c' C C' m d d' N D, V = .agg #[.bool b, .slice A n c, .slice C m d] ∧ V' = .agg #[.bool b, .slice A' n c', .slice C' m d'] ∧
  Hid (Num 4294967296 .u32 w (.slice A n c) N n) ∧ Hid (Num 4294967296 .u32 w (.slice A' n c') N n) ∧ Hid (Num 4294967296 .u32 w (.slice C m d) D m) ∧ Hid (Num 4294967296 .u32 w (.slice C' m d') D m) := by
 obtain ⟨va, vd, rfl, h1, h2, -⟩ := h
 obtain ⟨va', vd', rfl, h1', h2', -⟩ := h'
 obtain ⟨A, c, rfl, -⟩ := id h1
 obtain ⟨C, d, rfl, -⟩ := id h2
 obtain ⟨A', c', rfl, -⟩ := id h1'
 obtain ⟨C', d', rfl, -⟩ := id h2'
 exact ⟨_, A, A', _, c, c', C, C', _, d, d', _, _, rfl, rfl, h1, h1', h2, h2'⟩
set_option maxHeartbeats 4000000 in
theorem r4same_yes (Va Vb : Value) (q : Rat) (w : World) (ha : FracC w Va q) (hb : FracC w Vb q) :
  Calls Tryz.prog 39 #[Va, Vb] w fun e w' => e = .returned (.bool true) ∧ Grew w w' := by
 obtain ⟨b1, A1, A2, n1, c1, c2, C1, C2, m1, d1, d2, N, D, rfl, rfl, Fa, Fb, Fc, Fd⟩ := ha.both hb
 clear ha hb
 go_enter Tryz.func39, Tryz.ntmps39
 go_wp2_with fail
 refine gen_calls ?_
 intro W0 hW0
 have G0 : Grew w W0 := by rw [hW0]; exact ((Grew.refl w).alloc _).alloc _
 have P : Box3 W0 (w.heap.size) 0 (.bool b1) (.slice A1 n1 c1) (.slice C1 m1 d1) := by rw [hW0]; exact ⟨by simp [go_sem], by simp [go_sem], by simp [go_sem]⟩
 replace P := hZ P
 have Q : Box3 W0 (w.heap.size + 1) 0 (.bool b1) (.slice A2 n1 c2) (.slice C2 m1 d2) := by rw [hW0]; exact ⟨by simp [go_sem], by simp [go_sem], by simp [go_sem]⟩
 replace Q := hZ Q
 have z0 : w.heap.size < W0.heap.size := by rw [hW0]; simp <;> omega
 replace z0 := hZ z0
 have z1 : w.heap.size + 1 < W0.heap.size := by rw [hW0]; simp <;> omega
 replace z1 := hZ z1
 clear hW0
 replace Fa := hZ (Fa.out.kept G0.keeps)
 replace Fb := hZ (Fb.out.kept G0.keeps)
 replace Fc := hZ (Fc.out.kept G0.keeps)
 replace Fd := hZ (Fd.out.kept G0.keeps)
 replace G0 := hZ G0
 refine (r2same_yes b1 A1 A2 N n1 c1 c2 _ Fa.out Fb.out).mono ?_
 rintro e w1 ⟨rfl, g1⟩
 replace P := hZ (P.out.grew g1)
 replace Q := hZ (Q.out.grew g1)
 replace z0 := hZ (lt_grew z0.out g1)
 replace z1 := hZ (lt_grew z1.out g1)
 replace Fa := hZ (Fa.out.kept g1.keeps)
 replace Fb := hZ (Fb.out.kept g1.keeps)
 replace Fc := hZ (Fc.out.kept g1.keeps)
 replace Fd := hZ (Fd.out.kept g1.keeps)
 replace G0 := hZ (G0.out.trans g1)
 clear g1
 obtain ⟨P0, P1, P2⟩ := P.out
 obtain ⟨Q0, Q1, Q2⟩ := Q.out
 go_wp2_with fail
 clear P0 P1 P2 Q0 Q1 Q2
 refine (r1same_yes C1 C2 D m1 d1 d2 _ Fc.out Fd.out).mono ?_
 rintro e w2 ⟨rfl, g2⟩
 replace P := hZ (P.out.grew g2)
 replace Q := hZ (Q.out.grew g2)
 replace z0 := hZ (lt_grew z0.out g2)
 replace z1 := hZ (lt_grew z1.out g2)
 replace Fa := hZ (Fa.out.kept g2.keeps)
 replace Fb := hZ (Fb.out.kept g2.keeps)
 replace Fc := hZ (Fc.out.kept g2.keeps)
 replace Fd := hZ (Fd.out.kept g2.keeps)
 replace G0 := hZ (G0.out.trans g2)
 clear g2
 go_wp2_with fail
 go_ret
 exact ⟨rfl, G0.out⟩
set_option maxHeartbeats 4000000 in
theorem r5same_yes (Va Vb : Value) (x y : Rat) (w : World) (ha : SpotC w Va x y) (hb : SpotC w Vb x y) :
  Calls Tryz.prog 22 #[Va, Vb] w fun e w' => e = .returned (.bool true) ∧ Grew w w' := by
 obtain ⟨b1, A1, n1, c1, C1, m1, d1, b2, A2, n2, c2, C2, m2, d2, rfl, Fa, Fb, -⟩ := ha.laid
 obtain ⟨b3, A3, n3, c3, C3, m3, d3, b4, A4, n4, c4, C4, m4, d4, rfl, Fc, Fd, -⟩ := hb.laid
 clear ha hb
 go_enter Tryz.func22, Tryz.ntmps22
 go_wp2_with fail
 refine gen_calls ?_
 intro W0 hW0
 have G0 : Grew w W0 := by rw [hW0]; exact ((Grew.refl w).alloc _).alloc _
 have P : Box3 W0 (w.heap.size) 0 (.bool b1) (.slice A1 n1 c1) (.slice C1 m1 d1) := by rw [hW0]; exact ⟨by simp [go_sem], by simp [go_sem], by simp [go_sem]⟩
 replace P := hZ P
 have Py : Box3 W0 (w.heap.size) 3 (.bool b2) (.slice A2 n2 c2) (.slice C2 m2 d2) := by rw [hW0]; exact ⟨by simp [go_sem], by simp [go_sem], by simp [go_sem]⟩
 replace Py := hZ Py
 have Q : Box3 W0 (w.heap.size + 1) 0 (.bool b3) (.slice A3 n3 c3) (.slice C3 m3 d3) := by rw [hW0]; exact ⟨by simp [go_sem], by simp [go_sem], by simp [go_sem]⟩
 replace Q := hZ Q
 have Qy : Box3 W0 (w.heap.size + 1) 3 (.bool b4) (.slice A4 n4 c4) (.slice C4 m4 d4) := by rw [hW0]; exact ⟨by simp [go_sem], by simp [go_sem], by simp [go_sem]⟩
 replace Qy := hZ Qy
 have z0 : w.heap.size < W0.heap.size := by rw [hW0]; simp <;> omega
 replace z0 := hZ z0
 have z1 : w.heap.size + 1 < W0.heap.size := by rw [hW0]; simp <;> omega
 replace z1 := hZ z1
 clear hW0
 replace Fa := hZ (Fa.out.kept G0.keeps)
 replace Fb := hZ (Fb.out.kept G0.keeps)
 replace Fc := hZ (Fc.out.kept G0.keeps)
 replace Fd := hZ (Fd.out.kept G0.keeps)
 replace G0 := hZ G0
 refine (r4same_yes _ _ x _ Fa.out Fc.out).mono ?_
 rintro e w1 ⟨rfl, g1⟩
 replace P := hZ (P.out.grew g1)
 replace Py := hZ (Py.out.grew g1)
 replace Q := hZ (Q.out.grew g1)
 replace Qy := hZ (Qy.out.grew g1)
 replace z0 := hZ (lt_grew z0.out g1)
 replace z1 := hZ (lt_grew z1.out g1)
 replace Fa := hZ (Fa.out.kept g1.keeps)
 replace Fb := hZ (Fb.out.kept g1.keeps)
 replace Fc := hZ (Fc.out.kept g1.keeps)
 replace Fd := hZ (Fd.out.kept g1.keeps)
 replace G0 := hZ (G0.out.trans g1)
 clear g1
 obtain ⟨P0, P1, P2⟩ := P.out
 obtain ⟨Py0, Py1, Py2⟩ := Py.out
 obtain ⟨Q0, Q1, Q2⟩ := Q.out
 obtain ⟨Qy0, Qy1, Qy2⟩ := Qy.out
 go_wp2_with fail
 clear P0 P1 P2 Py0 Py1 Py2 Q0 Q1 Q2 Qy0 Qy1 Qy2
 refine (r4same_yes _ _ y _ Fb.out Fd.out).mono ?_
 rintro e w2 ⟨rfl, g2⟩
 replace P := hZ (P.out.grew g2)
 replace Py := hZ (Py.out.grew g2)
 replace Q := hZ (Q.out.grew g2)
 replace Qy := hZ (Qy.out.grew g2)
 replace z0 := hZ (lt_grew z0.out g2)
 replace z1 := hZ (lt_grew z1.out g2)
 replace Fa := hZ (Fa.out.kept g2.keeps)
 replace Fb := hZ (Fb.out.kept g2.keeps)
 replace Fc := hZ (Fc.out.kept g2.keeps)
 replace Fd := hZ (Fd.out.kept g2.keeps)
 replace G0 := hZ (G0.out.trans g2)
 clear g2
 go_wp2_with fail
 go_ret
 exact ⟨rfl, G0.out⟩
def FracP (w : World) (V : Value) (q : Rat) (k : Nat) : Prop :=
 ∃ neg N D n m va vd, V = .agg #[.bool neg, va, vd] ∧ Num 4294967296 .u32 w va N n ∧ Num 4294967296 .u32 w vd D m ∧ mkRat (sgn neg N) D = q ∧ n ≤ k ∧ m ≤ k ∧ D ≠ 0
theorem num_nil (w : World) : Num 4294967296 .u32 w (.slice none 0 0) 0 0 := by
 exact ⟨none, 0, rfl, by simp, by simp, by simp⟩
set_option maxHeartbeats 4000000 in
theorem rworth_any (Va : Value) (p : Rat) (k : Nat) (w : World) (ha : FracR w Va p k) (hk : 1 ≤ k) (hs : k < 274877906944) :
  Calls Tryz.prog 85 #[Va] w fun e w' => ∃ V, e = .returned V ∧ FracP w' V p k ∧ Grew w w' := by
 obtain ⟨b1, N, D, n1, m1, va, vd, rfl, Na, Da, Ep, kn, km⟩ := ha
 obtain ⟨A1, c1, rfl, Ra⟩ := Na.slice
 obtain ⟨C1, d1, rfl, Rb⟩ := Da.slice
 clear Na Da
 replace Ep := hZ Ep
 go_enter Tryz.func85, Tryz.ntmps85
 go_wp2_with fail
 refine gen_calls ?_
 intro W0 hW0
 have G0 : Grew w W0 := by rw [hW0]; exact ((Grew.refl w).alloc _).alloc _
 have P : Box3 W0 (w.heap.size) 0 (.bool b1) (.slice A1 n1 c1) (.slice C1 m1 d1) := by rw [hW0]; exact ⟨by simp [go_sem], by simp [go_sem], by simp [go_sem]⟩
 replace P := hZ P
 have R : Res3 W0 (w.heap.size + 1) 0 (.bool false) (.slice none 0 0) (.slice none 0 0) := by rw [hW0]; exact ⟨by simp [go_sem], by simp [go_sem], by simp [go_sem], by simp [go_sem], by simp [go_sem], by simp [go_sem], by simp⟩
 replace R := hZ R
 have z0 : w.heap.size < W0.heap.size := by rw [hW0]; simp <;> omega
 replace z0 := hZ z0
 have z1 : w.heap.size + 1 < W0.heap.size := by rw [hW0]; simp <;> omega
 replace z1 := hZ z1
 clear hW0
 replace Ra := hZ (Ra.out.kept G0.keeps)
 replace Rb := hZ (Rb.out.kept G0.keeps)
 replace G0 := hZ G0
 refine (rbits_any _ D m1 _ Rb.out (by omega)).mono ?_
 rintro e w1 ⟨b, rfl, hb0, g1⟩
 replace R := hZ (R.out.grew g1)
 replace P := hZ (P.out.grew g1)
 replace z0 := hZ (lt_grew z0.out g1)
 replace z1 := hZ (lt_grew z1.out g1)
 replace Ra := hZ (Ra.out.kept g1.keeps)
 replace Rb := hZ (Rb.out.kept g1.keeps)
 replace G0 := hZ (G0.out.trans g1)
 clear g1
 by_cases h0 : D = 0
 ·as_aux_lemma =>
  have hb : b = 0 := hb0.2 h0
  subst hb
  clear hb0
  obtain ⟨W1, hW1⟩ : ∃ V, V = w1.alloc (.cells #[.int .u32 1] 107) := ⟨_, rfl⟩
  have gl : Grew w1 W1 := by rw [hW1]; exact (Grew.refl _).alloc _
  have y1 := hZ (R.out).2.2.2.2.2.2
  replace R := hZ (R.out.grew gl)
  replace P := hZ (P.out.grew gl)
  replace z0 := hZ (lt_grew z0.out gl)
  replace z1 := hZ (lt_grew z1.out gl)
  replace Ra := hZ (Ra.out.kept gl.keeps)
  replace Rb := hZ (Rb.out.kept gl.keeps)
  have X5 : Num 4294967296 .u32 W1 (.slice (some ⟨w1.heap.size, 0, none⟩) 1 1) 1 1 := by rw [hW1]; exact num_one _ _
  replace X5 := hZ X5
  skip
  replace G0 := hZ (G0.out.trans gl)
  clear gl
  subst hW1
  obtain ⟨P0, P1, P2⟩ := P.out
  obtain ⟨R0, R1, R2, Rf0, Rf1, Rf2, Rs⟩ := R.out
  go_wp2_with fail
  clear P0 P1 P2
  refine gen_post ?_
  intro W9 hW9
  obtain ⟨q0, q1, q2, qK, -, -, qs, qG⟩ := store3 (o := 0) R0 R1 R2 hW9
  have GE := qG w (.inr (by omega)) G0.out
  have QK := hZ qK
  clear qK qG hW9 R0 R1 R2
  exact bodyPost_ret (v := .agg #[.bool false, .slice none 0 0, .slice (some ⟨w1.heap.size, 0, none⟩) 1 1]) (by simp [results, Tryz.results85, go_sem, q0, q1, q2]) rfl ⟨_, rfl, ⟨false, 0, 1, 0, 1, _, _, rfl, num_nil _, QK.out _ _ _ _ _ X5.out, by rw [← Ep.out, h0, Rat.mkRat_zero]; rfl, by omega, hk, by omega⟩, GE⟩
 ·as_aux_lemma =>
  have hb : (b : Int) ≠ 0 := fun e => h0 (hb0.1 (by omega))
  generalize (b : Int) = bi at *
  clear hb0
  obtain ⟨P0, P1, P2⟩ := P.out
  obtain ⟨R0, R1, R2, Rf0, Rf1, Rf2, Rs⟩ := R.out
  go_wp2_with fail
  clear P0 P1 P2
  refine gen_post ?_
  intro W9 hW9
  obtain ⟨q0, q1, q2, qK, -, -, qs, qG⟩ := store3 (o := 0) R0 R1 R2 hW9
  have GE := qG w (.inr (by omega)) G0.out
  have QK := hZ qK
  clear qK qG hW9 R0 R1 R2
  exact bodyPost_ret (v := .agg #[.bool b1, .slice A1 n1 c1, .slice C1 m1 d1]) (by simp [results, Tryz.results85, go_sem, q0, q1, q2]) rfl ⟨_, rfl, ⟨b1, N, D, n1, m1, _, _, rfl, QK.out _ _ _ _ _ Ra.out, QK.out _ _ _ _ _ Rb.out, Ep.out, kn, km, h0⟩, GE⟩
set_option maxHeartbeats 4000000 in
theorem rup_any (b1 : Bool) (A1 C1 : Option Addr) (n1 c1 m1 d1 D : Nat) (w : World) (hb : Num 4294967296 .u32 w (.slice C1 m1 d1) D m1) :
  Calls Tryz.prog 88 #[.agg #[.bool b1, .slice A1 n1 c1, .slice C1 m1 d1]] w fun e w' => e = .returned (.agg #[.bool false, .slice C1 m1 d1]) ∧ Grew w w' := by
 replace hb := hZ hb
 go_enter Tryz.func88, Tryz.ntmps88
 go_wp2_with fail
 exact bodyPost_ret (v := .agg #[.bool false, .slice C1 m1 d1]) (by simp [results, Tryz.results88, go_sem]) rfl ⟨rfl, ((Grew.refl w).alloc _).alloc _⟩
theorem sgn_neg_dec {b : Bool} {N : Nat} (h : N ≠ 0) : decide (sgn b N < 0) = b := by
 unfold sgn; cases b <;> simp <;> omega
set_option maxHeartbeats 4000000 in
theorem rfreduce_any (Va : Value) (p : Rat) (k : Nat) (w : World) (ha : FracR w Va p k) (hs : k < 4294967296) :
  Calls Tryz.prog 57 #[Va] w fun e w' => ∃ V, e = .returned V ∧ FracC w' V p ∧ Grew w w' := by
 obtain ⟨b1, N, D, n1, m1, va, vd, rfl, Na, Da, Ep, kn, km⟩ := ha
 obtain ⟨A1, c1, rfl, Ra⟩ := Na.slice
 obtain ⟨C1, d1, rfl, Rb⟩ := Da.slice
 have hz : sgn b1 N = 0 ↔ N = 0 := by unfold sgn; cases b1 <;> simp
 clear Na Da
 replace Ep := hZ Ep
 go_enter Tryz.func57, Tryz.ntmps57
 go_wp2_with fail
 refine gen_calls ?_
 intro W0 hW0
 have G0 : Grew w W0 := by rw [hW0]; exact ((Grew.refl w).alloc _).alloc _
 have P : Box3 W0 (w.heap.size) 0 (.bool b1) (.slice A1 n1 c1) (.slice C1 m1 d1) := by rw [hW0]; exact ⟨by simp [go_sem], by simp [go_sem], by simp [go_sem]⟩
 replace P := hZ P
 have R : Res3 W0 (w.heap.size + 1) 0 (.bool false) (.slice none 0 0) (.slice none 0 0) := by rw [hW0]; exact ⟨by simp [go_sem], by simp [go_sem], by simp [go_sem], by simp [go_sem], by simp [go_sem], by simp [go_sem], by simp⟩
 replace R := hZ R
 have z0 : w.heap.size < W0.heap.size := by rw [hW0]; simp <;> omega
 replace z0 := hZ z0
 have z1 : w.heap.size + 1 < W0.heap.size := by rw [hW0]; simp <;> omega
 replace z1 := hZ z1
 clear hW0
 replace Ra := hZ (Ra.out.kept G0.keeps)
 replace Rb := hZ (Rb.out.kept G0.keeps)
 replace G0 := hZ G0
 refine (rbits_any _ D m1 _ Rb.out (by omega)).mono ?_
 rintro e w1 ⟨b, rfl, hb0, g1⟩
 replace R := hZ (R.out.grew g1)
 replace P := hZ (P.out.grew g1)
 replace z0 := hZ (lt_grew z0.out g1)
 replace z1 := hZ (lt_grew z1.out g1)
 replace Ra := hZ (Ra.out.kept g1.keeps)
 replace Rb := hZ (Rb.out.kept g1.keeps)
 replace G0 := hZ (G0.out.trans g1)
 clear g1
 by_cases h0 : D = 0
 ·as_aux_lemma =>
  have hb : b = 0 := hb0.2 h0
  subst hb
  clear hb0
  have hp : p = 0 := by rw [← Ep.out, h0, Rat.mkRat_zero]
  obtain ⟨W1, hW1⟩ : ∃ V, V = w1.alloc (.cells #[.int .u32 1] 107) := ⟨_, rfl⟩
  have gl : Grew w1 W1 := by rw [hW1]; exact (Grew.refl _).alloc _
  have y1 := hZ (R.out).2.2.2.2.2.2
  replace R := hZ (R.out.grew gl)
  replace P := hZ (P.out.grew gl)
  replace z0 := hZ (lt_grew z0.out gl)
  replace z1 := hZ (lt_grew z1.out gl)
  replace Ra := hZ (Ra.out.kept gl.keeps)
  replace Rb := hZ (Rb.out.kept gl.keeps)
  have X5 : Num 4294967296 .u32 W1 (.slice (some ⟨w1.heap.size, 0, none⟩) 1 1) 1 1 := by rw [hW1]; exact num_one _ _
  replace X5 := hZ X5
  skip
  replace G0 := hZ (G0.out.trans gl)
  clear gl
  subst hW1
  obtain ⟨P0, P1, P2⟩ := P.out
  obtain ⟨R0, R1, R2, Rf0, Rf1, Rf2, Rs⟩ := R.out
  go_wp2_with fail
  clear P0 P1 P2
  refine gen_post ?_
  intro W9 hW9
  obtain ⟨q0, q1, q2, qK, -, -, qs, qG⟩ := store3 (o := 0) R0 R1 R2 hW9
  have GE := qG w (.inr (by omega)) G0.out
  have QK := hZ qK
  clear qK qG hW9 R0 R1 R2
  exact bodyPost_ret (v := .agg #[.bool false, .slice none 0 0, .slice (some ⟨w1.heap.size, 0, none⟩) 1 1]) (by simp [results, Tryz.results57, go_sem, q0, q1, q2]) rfl ⟨_, rfl, hp ▸ FracC.mk (z := 0) ⟨_, rfl, num_nil _⟩ (QK.out _ _ _ _ _ X5.out) rfl rfl rfl, GE⟩
 ·as_aux_lemma =>
  have hb : (b : Int) ≠ 0 := fun e => h0 (hb0.1 (by omega))
  generalize (b : Int) = bi at *
  clear hb0
  obtain ⟨P0, P1, P2⟩ := P.out
  go_wp2_with fail
  clear P0 P1 P2
  refine (rbits_any _ N n1 _ Ra.out (by omega)).mono ?_
  rintro e w2 ⟨b2, rfl, hb2, g2⟩
  replace R := hZ (R.out.grew g2)
  replace P := hZ (P.out.grew g2)
  replace z0 := hZ (lt_grew z0.out g2)
  replace z1 := hZ (lt_grew z1.out g2)
  replace Ra := hZ (Ra.out.kept g2.keeps)
  replace Rb := hZ (Rb.out.kept g2.keeps)
  replace G0 := hZ (G0.out.trans g2)
  clear g2
  by_cases h1 : N = 0
  ·as_aux_lemma =>
   have hb3 : b2 = 0 := hb2.2 h1
   subst hb3
   clear hb2
   have hp : p = 0 := by rw [← Ep.out, hz.2 h1]; exact Rat.zero_mkRat _
   obtain ⟨W1, hW1⟩ : ∃ V, V = w2.alloc (.cells #[.int .u32 1] 107) := ⟨_, rfl⟩
   have gl : Grew w2 W1 := by rw [hW1]; exact (Grew.refl _).alloc _
   have y1 := hZ (R.out).2.2.2.2.2.2
   replace R := hZ (R.out.grew gl)
   replace P := hZ (P.out.grew gl)
   replace z0 := hZ (lt_grew z0.out gl)
   replace z1 := hZ (lt_grew z1.out gl)
   replace Ra := hZ (Ra.out.kept gl.keeps)
   replace Rb := hZ (Rb.out.kept gl.keeps)
   have X5 : Num 4294967296 .u32 W1 (.slice (some ⟨w2.heap.size, 0, none⟩) 1 1) 1 1 := by rw [hW1]; exact num_one _ _
   replace X5 := hZ X5
   skip
   replace G0 := hZ (G0.out.trans gl)
   clear gl
   subst hW1
   obtain ⟨P0, P1, P2⟩ := P.out
   obtain ⟨R0, R1, R2, Rf0, Rf1, Rf2, Rs⟩ := R.out
   go_wp2_with fail
   clear P0 P1 P2
   refine gen_post ?_
   intro W9 hW9
   obtain ⟨q0, q1, q2, qK, -, -, qs, qG⟩ := store3 (o := 0) R0 R1 R2 hW9
   have GE := qG w (.inr (by omega)) G0.out
   have QK := hZ qK
   clear qK qG hW9 R0 R1 R2
   exact bodyPost_ret (v := .agg #[.bool false, .slice none 0 0, .slice (some ⟨w2.heap.size, 0, none⟩) 1 1]) (by simp [results, Tryz.results57, go_sem, q0, q1, q2]) rfl ⟨_, rfl, hp ▸ FracC.mk (z := 0) ⟨_, rfl, num_nil _⟩ (QK.out _ _ _ _ _ X5.out) rfl rfl rfl, GE⟩
  ·as_aux_lemma =>
   have hb3 : (b2 : Int) ≠ 0 := fun e => h1 (hb2.1 (by omega))
   generalize (b2 : Int) = bj at *
   clear hb2
   have f1 : (bi == 0) = false := by simp [hb]
   have f2 : (bj == 0) = false := by simp [hb3]
   rw [f1]
   have hgl : len 4294967296 (N / Nat.gcd N D) < 137438953472 := by
    have h1 := len_mono (B := 4294967296) (by omega) (Nat.div_le_self N (Nat.gcd N D))
    have := Ra.out.len_le (by omega)
    omega
   have e1 : sgn b1 (N / Nat.gcd N D) = p.num := by
    have := mkRat_num_sgn (sgn b1 N) D h0
    rw [sgn_neg_dec h1, sgn_abs, Ep.out] at this
    exact this
   have e2 : D / Nat.gcd N D = p.den := by
    have := mkRat_den_gcd (sgn b1 N) D h0
    rw [sgn_abs, Ep.out] at this
    exact this
   replace hgl := hZ hgl
   replace e1 := hZ e1
   replace e2 := hZ e2
   obtain ⟨P0, P1, P2⟩ := P.out
   go_wp2_with fail
   clear P0 P1 P2
   refine (rReduce_any _ _ N D n1 m1 _ Ra.out Rb.out (by omega) h0).mono ?_
   rintro e w3 ⟨x, y, rfl, hX, hY, g3⟩
   obtain ⟨A3, c3, rfl, X1⟩ := hX.slice
   obtain ⟨C3, d3, rfl, Y1⟩ := hY.slice
   clear hX hY
   replace R := hZ (R.out.grew g3)
   replace P := hZ (P.out.grew g3)
   replace z0 := hZ (lt_grew z0.out g3)
   replace z1 := hZ (lt_grew z1.out g3)
   replace Ra := hZ (Ra.out.kept g3.keeps)
   replace Rb := hZ (Rb.out.kept g3.keeps)
   replace G0 := hZ (G0.out.trans g3)
   clear g3
   obtain ⟨P0, P1, P2⟩ := P.out
   go_wp2_with fail
   clear P0 P1 P2
   refine (rmake_any _ _ (N / Nat.gcd N D) _ _ X1.out hgl.out).mono ?_
   rintro e w4 ⟨V2, rfl, hV2, g4⟩
   obtain ⟨b4, A4, n4, c4, rfl, X2, -⟩ := hV2.laid
   clear hV2
   replace R := hZ (R.out.grew g4)
   replace P := hZ (P.out.grew g4)
   replace z0 := hZ (lt_grew z0.out g4)
   replace z1 := hZ (lt_grew z1.out g4)
   replace Ra := hZ (Ra.out.kept g4.keeps)
   replace Rb := hZ (Rb.out.kept g4.keeps)
   replace X1 := hZ (X1.out.kept g4.keeps)
   replace Y1 := hZ (Y1.out.kept g4.keeps)
   replace G0 := hZ (G0.out.trans g4)
   clear g4
   obtain ⟨P0, P1, P2⟩ := P.out
   obtain ⟨R0, R1, R2, Rf0, Rf1, Rf2, Rs⟩ := R.out
   go_wp2_with fail
   clear P0 P1 P2
   refine gen_post ?_
   intro W9 hW9
   obtain ⟨q0, q1, q2, qK, -, -, qs, qG⟩ := store3 (o := 0) R0 R1 R2 hW9
   have GE := qG w (.inr (by omega)) G0.out
   have QK := hZ qK
   clear qK qG hW9 R0 R1 R2
   exact bodyPost_ret (v := .agg #[.bool b4, .slice A4 n4 c4, .slice C3 (len 4294967296 (D / Nat.gcd N D)) d3]) (by simp [results, Tryz.results57, go_sem, q0, q1, q2]) rfl ⟨_, rfl, FracC.mk (X2.out.kept QK.out) (QK.out _ _ _ _ _ Y1.out) rfl e1.out e2.out, GE⟩
set_option maxHeartbeats 4000000 in
theorem rfint_any (x : Int) (w : World) (h0 : -9223372036854775808 ≤ x) (h1 : x ≤ 9223372036854775807) :
  Calls Tryz.prog 79 #[.int .i64 x] w fun e w' => ∃ V, e = .returned V ∧ FracC w' V (x : Rat) ∧ Grew w w' := by
 go_enter Tryz.func79, Tryz.ntmps79
 go_wp2_with fail
 refine gen_calls ?_
 intro W0 hW0
 have G0 : Grew w W0 := by rw [hW0]; exact (Grew.refl w).alloc _
 have R : Res3 W0 (w.heap.size) 0 (.bool false) (.slice none 0 0) (.slice none 0 0) := by rw [hW0]; exact ⟨by simp [go_sem], by simp [go_sem], by simp [go_sem], by simp [go_sem], by simp [go_sem], by simp [go_sem], by simp⟩
 replace R := hZ R
 have z0 : w.heap.size < W0.heap.size := by rw [hW0]; simp <;> omega
 replace z0 := hZ z0
 clear hW0
 replace G0 := hZ G0
 refine (r2of_any x _ h0 h1).mono ?_
 rintro e w1 ⟨V1, rfl, hV1, g1⟩
 obtain ⟨b3, A3, n3, c3, rfl, X1, -⟩ := hV1.laid
 clear hV1
 replace R := hZ (R.out.grew g1)
 replace z0 := hZ (lt_grew z0.out g1)
 replace G0 := hZ (G0.out.trans g1)
 clear g1
 obtain ⟨W1, hW1⟩ : ∃ V, V = w1.alloc (.cells #[.int .u32 1] 107) := ⟨_, rfl⟩
 have gl : Grew w1 W1 := by rw [hW1]; exact (Grew.refl _).alloc _
 have y1 := hZ (R.out).2.2.2.2.2.2
 replace R := hZ (R.out.grew gl)
 replace z0 := hZ (lt_grew z0.out gl)
 replace X1 := hZ (X1.out.kept gl.keeps)
 have X5 : Num 4294967296 .u32 W1 (.slice (some ⟨w1.heap.size, 0, none⟩) 1 1) 1 1 := by rw [hW1]; exact num_one _ _
 replace X5 := hZ X5
 skip
 replace G0 := hZ (G0.out.trans gl)
 clear gl
 subst hW1
 obtain ⟨R0, R1, R2, Rf0, Rf1, Rf2, Rs⟩ := R.out
 go_wp2_with fail
 refine gen_post ?_
 intro W9 hW9
 obtain ⟨q0, q1, q2, qK, -, -, qs, qG⟩ := store3 (o := 0) R0 R1 R2 hW9
 have GE := qG w (.inr (by omega)) G0.out
 have QK := hZ qK
 clear qK qG hW9 R0 R1 R2
 exact bodyPost_ret (v := .agg #[.bool b3, .slice A3 n3 c3, .slice (some ⟨w1.heap.size, 0, none⟩) 1 1]) (by simp [results, Tryz.results79, go_sem, q0, q1, q2]) rfl ⟨_, rfl, FracC.mk (X1.out.kept QK.out) (X5.out.kept QK.out) rfl rfl rfl, GE⟩
end Go.Proofs.YtmommicmblfibaaGreat
