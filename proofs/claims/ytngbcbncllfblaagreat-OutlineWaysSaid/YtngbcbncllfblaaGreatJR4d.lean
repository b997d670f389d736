/- r04.worth, up. Condition: what comes in reads. r04.up, Reduce. Condition: what comes in reads. r04.Int. Condition: an int. r04.Mul. Condition: what comes in reads. -/
import Derived.Test.YtngbcbncllfblaaGreatJR2c
namespace Go.Proofs.YtngbcbncllfblaaGreat
open Go.RowKit

/-- A fraction as it comes in whose lower part is not 0. -/
def FracP (w : World) (V : Value) (q : Rat) (k : Nat) : Prop :=
  ∃ neg N D n m va vd, V = .agg #[.bool neg, va, vd] ∧ Num 4294967296 .u32 w va N n ∧ Num 4294967296 .u32 w vd D m ∧ mkRat (sgn neg N) D = q ∧ n ≤ k ∧ m ≤ k ∧ D ≠ 0

theorem num_nil (w : World) : Num 4294967296 .u32 w (.slice none 0 0) 0 0 := by
  exact ⟨none, 0, rfl, by simp, by simp, by simp⟩

set_option maxRecDepth 100000 in
set_option maxHeartbeats 4000000 in
theorem rworth_any (Va : Value) (p : Rat) (k : Nat) (w : World) (ha : FracR w Va p k) (hk : 1 ≤ k) (hs : k < 274877906944) :
    Calls Tryz.prog 167 #[Va] w fun e w' => ∃ V, e = .returned V ∧ FracP w' V p k ∧ Grew w w' := by
  obtain ⟨b1, N, D, n1, m1, va, vd, rfl, Na, Da, Ep, kn, km⟩ := ha
  obtain ⟨A1, c1, rfl, Ra⟩ := Na.slice
  obtain ⟨C1, d1, rfl, Rb⟩ := Da.slice
  clear Na Da
  replace Ep := Lib.hid Ep
  go_enter Tryz.func167, Tryz.ntmps167
  go_wp2_with fail
  refine gen_calls ?_
  intro W0 hW0
  have G0 : Grew w W0 := by rw [hW0]; exact ((Grew.refl w).alloc _).alloc _
  have P : Box3 W0 (w.heap.size) 0 (.bool b1) (.slice A1 n1 c1) (.slice C1 m1 d1) := by rw [hW0]; exact ⟨by simp [go_sem], by simp [go_sem], by simp [go_sem]⟩
  replace P := Lib.hid P
  have R : Res3 W0 (w.heap.size + 1) 0 (.bool false) (.slice none 0 0) (.slice none 0 0) := by rw [hW0]; exact ⟨by simp [go_sem], by simp [go_sem], by simp [go_sem], by simp [go_sem], by simp [go_sem], by simp [go_sem], by simp⟩
  replace R := Lib.hid R
  have z0 : w.heap.size < W0.heap.size := by rw [hW0]; simp <;> omega
  replace z0 := Lib.hid z0
  have z1 : w.heap.size + 1 < W0.heap.size := by rw [hW0]; simp <;> omega
  replace z1 := Lib.hid z1
  clear hW0
  replace Ra := Lib.hid (Ra.out.kept G0.keeps)
  replace Rb := Lib.hid (Rb.out.kept G0.keeps)
  replace G0 := Lib.hid G0
  refine (rbits_any _ D m1 _ Rb.out (by omega)).mono ?_
  rintro e w1 ⟨b, rfl, hb0, g1⟩
  replace R := Lib.hid (R.out.grew g1)
  replace P := Lib.hid (P.out.grew g1)
  replace z0 := Lib.hid (lt_grew z0.out g1)
  replace z1 := Lib.hid (lt_grew z1.out g1)
  replace Ra := Lib.hid (Ra.out.kept g1.keeps)
  replace Rb := Lib.hid (Rb.out.kept g1.keeps)
  replace G0 := Lib.hid (G0.out.trans g1)
  clear g1
  by_cases h0 : D = 0
  · as_aux_lemma =>
    have hb : b = 0 := hb0.2 h0
    subst hb
    clear hb0

    obtain ⟨W1, hW1⟩ : ∃ V, V = w1.alloc (.cells #[.int .u32 1] 163) := ⟨_, rfl⟩
    have gl : Grew w1 W1 := by rw [hW1]; exact (Grew.refl _).alloc _
    have y1 := Lib.hid (R.out).2.2.2.2.2.2
    replace R := Lib.hid (R.out.grew gl)
    replace P := Lib.hid (P.out.grew gl)
    replace z0 := Lib.hid (lt_grew z0.out gl)
    replace z1 := Lib.hid (lt_grew z1.out gl)
    replace Ra := Lib.hid (Ra.out.kept gl.keeps)
    replace Rb := Lib.hid (Rb.out.kept gl.keeps)
    have X5 : Num 4294967296 .u32 W1 (.slice (some ⟨w1.heap.size, 0, none⟩) 1 1) 1 1 := by rw [hW1]; exact num_one _ _
    replace X5 := Lib.hid X5
    skip
    replace G0 := Lib.hid (G0.out.trans gl)
    clear gl
    subst hW1
    obtain ⟨P0, P1, P2⟩ := P.out
    obtain ⟨R0, R1, R2, Rf0, Rf1, Rf2, Rs⟩ := R.out
    go_wp2_with fail
    clear P0 P1 P2
    refine gen_post ?_
    intro W9 hW9
    obtain ⟨q0, q1, q2, qK, -, -, qs, qG⟩ := store3 (o := 0) R0 R1 R2 hW9
    have GE := qG w (.inr (by omega)) G0.out
    have QK := Lib.hid qK
    clear qK qG hW9 R0 R1 R2
    exact bodyPost_ret (v := .agg #[.bool false, .slice none 0 0, .slice (some ⟨w1.heap.size, 0, none⟩) 1 1]) (by simp [results, Tryz.results167, go_sem, q0, q1, q2]) rfl ⟨_, rfl, ⟨false, 0, 1, 0, 1, _, _, rfl, num_nil _, QK.out _ _ _ _ _ X5.out, by rw [← Ep.out, h0, Rat.mkRat_zero]; rfl, by omega, hk, by omega⟩, GE⟩

  · as_aux_lemma =>
    have hb : (b : Int) ≠ 0 := fun e => h0 (hb0.1 (by omega))
    generalize (b : Int) = bi at *
    clear hb0
    obtain ⟨P0, P1, P2⟩ := P.out
    obtain ⟨R0, R1, R2, Rf0, Rf1, Rf2, Rs⟩ := R.out
    go_wp2_with fail
    clear P0 P1 P2
    refine gen_post ?_
    intro W9 hW9
    obtain ⟨q0, q1, q2, qK, -, -, qs, qG⟩ := store3 (o := 0) R0 R1 R2 hW9
    have GE := qG w (.inr (by omega)) G0.out
    have QK := Lib.hid qK
    clear qK qG hW9 R0 R1 R2
    exact bodyPost_ret (v := .agg #[.bool b1, .slice A1 n1 c1, .slice C1 m1 d1]) (by simp [results, Tryz.results167, go_sem, q0, q1, q2]) rfl ⟨_, rfl, ⟨b1, N, D, n1, m1, _, _, rfl, QK.out _ _ _ _ _ Ra.out, QK.out _ _ _ _ _ Rb.out, Ep.out, kn, km, h0⟩, GE⟩
end Go.Proofs.YtngbcbncllfblaaGreat
namespace Go.Proofs.YtngbcbncllfblaaGreat
open Go.RowKit

set_option maxRecDepth 100000 in
set_option maxHeartbeats 4000000 in
theorem rup_any (b1 : Bool) (A1 C1 : Option Addr) (n1 c1 m1 d1 D : Nat) (w : World) (hb : Num 4294967296 .u32 w (.slice C1 m1 d1) D m1) :
    Calls Tryz.prog 170 #[.agg #[.bool b1, .slice A1 n1 c1, .slice C1 m1 d1]] w fun e w' => e = .returned (.agg #[.bool false, .slice C1 m1 d1]) ∧ Grew w w' := by
  replace hb := Lib.hid hb
  go_enter Tryz.func170, Tryz.ntmps170
  go_wp2_with fail
  exact bodyPost_ret (v := .agg #[.bool false, .slice C1 m1 d1]) (by simp [results, Tryz.results170, go_sem]) rfl ⟨rfl, ((Grew.refl w).alloc _).alloc _⟩

theorem sgn_neg_dec {b : Bool} {N : Nat} (h : N ≠ 0) : decide (sgn b N < 0) = b := by
  unfold sgn; cases b <;> simp <;> omega

set_option maxRecDepth 100000 in
set_option maxHeartbeats 4000000 in
theorem rfreduce_any (Va : Value) (p : Rat) (k : Nat) (w : World) (ha : FracR w Va p k) (hs : k < 4294967296) :
    Calls Tryz.prog 139 #[Va] w fun e w' => ∃ V, e = .returned V ∧ FracC w' V p ∧ Grew w w' := by
  obtain ⟨b1, N, D, n1, m1, va, vd, rfl, Na, Da, Ep, kn, km⟩ := ha
  obtain ⟨A1, c1, rfl, Ra⟩ := Na.slice
  obtain ⟨C1, d1, rfl, Rb⟩ := Da.slice
  have hz : sgn b1 N = 0 ↔ N = 0 := by unfold sgn; cases b1 <;> simp
  clear Na Da
  replace Ep := Lib.hid Ep
  go_enter Tryz.func139, Tryz.ntmps139
  go_wp2_with fail
  refine gen_calls ?_
  intro W0 hW0
  have G0 : Grew w W0 := by rw [hW0]; exact ((Grew.refl w).alloc _).alloc _
  have P : Box3 W0 (w.heap.size) 0 (.bool b1) (.slice A1 n1 c1) (.slice C1 m1 d1) := by rw [hW0]; exact ⟨by simp [go_sem], by simp [go_sem], by simp [go_sem]⟩
  replace P := Lib.hid P
  have R : Res3 W0 (w.heap.size + 1) 0 (.bool false) (.slice none 0 0) (.slice none 0 0) := by rw [hW0]; exact ⟨by simp [go_sem], by simp [go_sem], by simp [go_sem], by simp [go_sem], by simp [go_sem], by simp [go_sem], by simp⟩
  replace R := Lib.hid R
  have z0 : w.heap.size < W0.heap.size := by rw [hW0]; simp <;> omega
  replace z0 := Lib.hid z0
  have z1 : w.heap.size + 1 < W0.heap.size := by rw [hW0]; simp <;> omega
  replace z1 := Lib.hid z1
  clear hW0
  replace Ra := Lib.hid (Ra.out.kept G0.keeps)
  replace Rb := Lib.hid (Rb.out.kept G0.keeps)
  replace G0 := Lib.hid G0
  refine (rbits_any _ D m1 _ Rb.out (by omega)).mono ?_
  rintro e w1 ⟨b, rfl, hb0, g1⟩
  replace R := Lib.hid (R.out.grew g1)
  replace P := Lib.hid (P.out.grew g1)
  replace z0 := Lib.hid (lt_grew z0.out g1)
  replace z1 := Lib.hid (lt_grew z1.out g1)
  replace Ra := Lib.hid (Ra.out.kept g1.keeps)
  replace Rb := Lib.hid (Rb.out.kept g1.keeps)
  replace G0 := Lib.hid (G0.out.trans g1)
  clear g1

  by_cases h0 : D = 0
  · as_aux_lemma =>
    have hb : b = 0 := hb0.2 h0
    subst hb
    clear hb0
    have hp : p = 0 := by rw [← Ep.out, h0, Rat.mkRat_zero]
    obtain ⟨W1, hW1⟩ : ∃ V, V = w1.alloc (.cells #[.int .u32 1] 163) := ⟨_, rfl⟩
    have gl : Grew w1 W1 := by rw [hW1]; exact (Grew.refl _).alloc _
    have y1 := Lib.hid (R.out).2.2.2.2.2.2
    replace R := Lib.hid (R.out.grew gl)
    replace P := Lib.hid (P.out.grew gl)
    replace z0 := Lib.hid (lt_grew z0.out gl)
    replace z1 := Lib.hid (lt_grew z1.out gl)
    replace Ra := Lib.hid (Ra.out.kept gl.keeps)
    replace Rb := Lib.hid (Rb.out.kept gl.keeps)
    have X5 : Num 4294967296 .u32 W1 (.slice (some ⟨w1.heap.size, 0, none⟩) 1 1) 1 1 := by rw [hW1]; exact num_one _ _
    replace X5 := Lib.hid X5
    skip
    replace G0 := Lib.hid (G0.out.trans gl)
    clear gl
    subst hW1
    obtain ⟨P0, P1, P2⟩ := P.out
    obtain ⟨R0, R1, R2, Rf0, Rf1, Rf2, Rs⟩ := R.out
    go_wp2_with fail
    clear P0 P1 P2
    refine gen_post ?_
    intro W9 hW9
    obtain ⟨q0, q1, q2, qK, -, -, qs, qG⟩ := store3 (o := 0) R0 R1 R2 hW9
    have GE := qG w (.inr (by omega)) G0.out
    have QK := Lib.hid qK
    clear qK qG hW9 R0 R1 R2
    exact bodyPost_ret (v := .agg #[.bool false, .slice none 0 0, .slice (some ⟨w1.heap.size, 0, none⟩) 1 1]) (by simp [results, Tryz.results139, go_sem, q0, q1, q2]) rfl ⟨_, rfl, hp ▸ FracC.mk (z := 0) ⟨_, rfl, num_nil _⟩ (QK.out _ _ _ _ _ X5.out) rfl rfl rfl, GE⟩
  · as_aux_lemma =>

    have hb : (b : Int) ≠ 0 := fun e => h0 (hb0.1 (by omega))
    generalize (b : Int) = bi at *
    clear hb0
    obtain ⟨P0, P1, P2⟩ := P.out
    go_wp2_with fail
    clear P0 P1 P2
    refine (rbits_any _ N n1 _ Ra.out (by omega)).mono ?_
    rintro e w2 ⟨b2, rfl, hb2, g2⟩
    replace R := Lib.hid (R.out.grew g2)
    replace P := Lib.hid (P.out.grew g2)
    replace z0 := Lib.hid (lt_grew z0.out g2)
    replace z1 := Lib.hid (lt_grew z1.out g2)
    replace Ra := Lib.hid (Ra.out.kept g2.keeps)
    replace Rb := Lib.hid (Rb.out.kept g2.keeps)
    replace G0 := Lib.hid (G0.out.trans g2)
    clear g2

    by_cases h1 : N = 0
    · as_aux_lemma =>
      have hb3 : b2 = 0 := hb2.2 h1
      subst hb3
      clear hb2
      have hp : p = 0 := by rw [← Ep.out, hz.2 h1]; exact Rat.zero_mkRat _
      obtain ⟨W1, hW1⟩ : ∃ V, V = w2.alloc (.cells #[.int .u32 1] 163) := ⟨_, rfl⟩
      have gl : Grew w2 W1 := by rw [hW1]; exact (Grew.refl _).alloc _
      have y1 := Lib.hid (R.out).2.2.2.2.2.2
      replace R := Lib.hid (R.out.grew gl)
      replace P := Lib.hid (P.out.grew gl)
      replace z0 := Lib.hid (lt_grew z0.out gl)
      replace z1 := Lib.hid (lt_grew z1.out gl)
      replace Ra := Lib.hid (Ra.out.kept gl.keeps)
      replace Rb := Lib.hid (Rb.out.kept gl.keeps)
      have X5 : Num 4294967296 .u32 W1 (.slice (some ⟨w2.heap.size, 0, none⟩) 1 1) 1 1 := by rw [hW1]; exact num_one _ _
      replace X5 := Lib.hid X5
      skip
      replace G0 := Lib.hid (G0.out.trans gl)
      clear gl
      subst hW1
      obtain ⟨P0, P1, P2⟩ := P.out
      obtain ⟨R0, R1, R2, Rf0, Rf1, Rf2, Rs⟩ := R.out
      go_wp2_with fail
      clear P0 P1 P2
      refine gen_post ?_
      intro W9 hW9
      obtain ⟨q0, q1, q2, qK, -, -, qs, qG⟩ := store3 (o := 0) R0 R1 R2 hW9
      have GE := qG w (.inr (by omega)) G0.out
      have QK := Lib.hid qK
      clear qK qG hW9 R0 R1 R2
      exact bodyPost_ret (v := .agg #[.bool false, .slice none 0 0, .slice (some ⟨w2.heap.size, 0, none⟩) 1 1]) (by simp [results, Tryz.results139, go_sem, q0, q1, q2]) rfl ⟨_, rfl, hp ▸ FracC.mk (z := 0) ⟨_, rfl, num_nil _⟩ (QK.out _ _ _ _ _ X5.out) rfl rfl rfl, GE⟩
    · as_aux_lemma =>

      have hb3 : (b2 : Int) ≠ 0 := fun e => h1 (hb2.1 (by omega))
      generalize (b2 : Int) = bj at *
      clear hb2
      have f1 : (bi == 0) = false := by simp [hb]
      have f2 : (bj == 0) = false := by simp [hb3]
      rw [f1]
      have hgl : len 4294967296 (N / Nat.gcd N D) < 137438953472 := by
        have h1 := len_mono (B := 4294967296) (by omega) (Nat.div_le_self N (Nat.gcd N D))
        have := Ra.out.len_le (by omega)
        omega
      have e1 : sgn b1 (N / Nat.gcd N D) = p.num := by
        have := mkRat_num_sgn (sgn b1 N) D h0
        rw [sgn_neg_dec h1, sgn_abs, Ep.out] at this
        exact this
      have e2 : D / Nat.gcd N D = p.den := by
        have := mkRat_den_gcd (sgn b1 N) D h0
        rw [sgn_abs, Ep.out] at this
        exact this
      replace hgl := Lib.hid hgl
      replace e1 := Lib.hid e1
      replace e2 := Lib.hid e2
      obtain ⟨P0, P1, P2⟩ := P.out
      go_wp2_with fail
      clear P0 P1 P2
      refine (rReduce_any _ _ N D n1 m1 _ Ra.out Rb.out (by omega) h0).mono ?_
      rintro e w3 ⟨x, y, rfl, hX, hY, g3⟩
      obtain ⟨A3, c3, rfl, X1⟩ := hX.slice
      obtain ⟨C3, d3, rfl, Y1⟩ := hY.slice
      clear hX hY
      replace R := Lib.hid (R.out.grew g3)
      replace P := Lib.hid (P.out.grew g3)
      replace z0 := Lib.hid (lt_grew z0.out g3)
      replace z1 := Lib.hid (lt_grew z1.out g3)
      replace Ra := Lib.hid (Ra.out.kept g3.keeps)
      replace Rb := Lib.hid (Rb.out.kept g3.keeps)
      replace G0 := Lib.hid (G0.out.trans g3)
      clear g3
      obtain ⟨P0, P1, P2⟩ := P.out
      go_wp2_with fail
      clear P0 P1 P2
      refine (rmake_any _ _ (N / Nat.gcd N D) _ _ X1.out hgl.out).mono ?_
      rintro e w4 ⟨V2, rfl, hV2, g4⟩
      obtain ⟨b4, A4, n4, c4, rfl, X2, -⟩ := hV2.laid
      clear hV2
      replace R := Lib.hid (R.out.grew g4)
      replace P := Lib.hid (P.out.grew g4)
      replace z0 := Lib.hid (lt_grew z0.out g4)
      replace z1 := Lib.hid (lt_grew z1.out g4)
      replace Ra := Lib.hid (Ra.out.kept g4.keeps)
      replace Rb := Lib.hid (Rb.out.kept g4.keeps)
      replace X1 := Lib.hid (X1.out.kept g4.keeps)
      replace Y1 := Lib.hid (Y1.out.kept g4.keeps)
      replace G0 := Lib.hid (G0.out.trans g4)
      clear g4
      obtain ⟨P0, P1, P2⟩ := P.out
      obtain ⟨R0, R1, R2, Rf0, Rf1, Rf2, Rs⟩ := R.out
      go_wp2_with fail
      clear P0 P1 P2
      refine gen_post ?_
      intro W9 hW9
      obtain ⟨q0, q1, q2, qK, -, -, qs, qG⟩ := store3 (o := 0) R0 R1 R2 hW9
      have GE := qG w (.inr (by omega)) G0.out
      have QK := Lib.hid qK
      clear qK qG hW9 R0 R1 R2
      exact bodyPost_ret (v := .agg #[.bool b4, .slice A4 n4 c4, .slice C3 (len 4294967296 (D / Nat.gcd N D)) d3]) (by simp [results, Tryz.results139, go_sem, q0, q1, q2]) rfl ⟨_, rfl, FracC.mk (X2.out.kept QK.out) (QK.out _ _ _ _ _ Y1.out) rfl e1.out e2.out, GE⟩
end Go.Proofs.YtngbcbncllfblaaGreat
namespace Go.Proofs.YtngbcbncllfblaaGreat
open Go.RowKit

set_option maxRecDepth 100000 in
set_option maxHeartbeats 4000000 in
theorem rfint_any (x : Int) (w : World) (h0 : -9223372036854775808 ≤ x) (h1 : x ≤ 9223372036854775807) :
    Calls Tryz.prog 100 #[.int .i64 x] w fun e w' => ∃ V, e = .returned V ∧ FracC w' V (x : Rat) ∧ Grew w w' := by
  go_enter Tryz.func100, Tryz.ntmps100
  go_wp2_with fail
  refine gen_calls ?_
  intro W0 hW0
  have G0 : Grew w W0 := by rw [hW0]; exact (Grew.refl w).alloc _
  have R : Res3 W0 (w.heap.size) 0 (.bool false) (.slice none 0 0) (.slice none 0 0) := by rw [hW0]; exact ⟨by simp [go_sem], by simp [go_sem], by simp [go_sem], by simp [go_sem], by simp [go_sem], by simp [go_sem], by simp⟩
  replace R := Lib.hid R
  have z0 : w.heap.size < W0.heap.size := by rw [hW0]; simp <;> omega
  replace z0 := Lib.hid z0
  clear hW0
  replace G0 := Lib.hid G0
  refine (r2of_any x _ h0 h1).mono ?_
  rintro e w1 ⟨V1, rfl, hV1, g1⟩
  obtain ⟨b3, A3, n3, c3, rfl, X1, -⟩ := hV1.laid
  clear hV1
  replace R := Lib.hid (R.out.grew g1)
  replace z0 := Lib.hid (lt_grew z0.out g1)
  replace G0 := Lib.hid (G0.out.trans g1)
  clear g1
  obtain ⟨W1, hW1⟩ : ∃ V, V = w1.alloc (.cells #[.int .u32 1] 163) := ⟨_, rfl⟩
  have gl : Grew w1 W1 := by rw [hW1]; exact (Grew.refl _).alloc _
  have y1 := Lib.hid (R.out).2.2.2.2.2.2
  replace R := Lib.hid (R.out.grew gl)
  replace z0 := Lib.hid (lt_grew z0.out gl)
  replace X1 := Lib.hid (X1.out.kept gl.keeps)
  have X5 : Num 4294967296 .u32 W1 (.slice (some ⟨w1.heap.size, 0, none⟩) 1 1) 1 1 := by rw [hW1]; exact num_one _ _
  replace X5 := Lib.hid X5
  skip
  replace G0 := Lib.hid (G0.out.trans gl)
  clear gl
  subst hW1
  obtain ⟨R0, R1, R2, Rf0, Rf1, Rf2, Rs⟩ := R.out
  go_wp2_with fail
  refine gen_post ?_
  intro W9 hW9
  obtain ⟨q0, q1, q2, qK, -, -, qs, qG⟩ := store3 (o := 0) R0 R1 R2 hW9
  have GE := qG w (.inr (by omega)) G0.out
  have QK := Lib.hid qK
  clear qK qG hW9 R0 R1 R2
  exact bodyPost_ret (v := .agg #[.bool b3, .slice A3 n3 c3, .slice (some ⟨w1.heap.size, 0, none⟩) 1 1]) (by simp [results, Tryz.results100, go_sem, q0, q1, q2]) rfl ⟨_, rfl, FracC.mk (X1.out.kept QK.out) (X5.out.kept QK.out) rfl rfl rfl, GE⟩
end Go.Proofs.YtngbcbncllfblaaGreat
namespace Go.Proofs.YtngbcbncllfblaaGreat
open Go.RowKit

theorem Res3.f0 {w : World} {r o : Nat} {u0 u1 u2 : Value} (h : Res3 w r o u0 u1 u2) : w.frozen? ⟨r, o, none⟩ = false := by obtain ⟨-, -, -, f, -⟩ := h; exact f
theorem Res3.f1 {w : World} {r o : Nat} {u0 u1 u2 : Value} (h : Res3 w r o u0 u1 u2) : w.frozen? ⟨r, o + 1, none⟩ = false := by obtain ⟨-, -, -, -, f, -⟩ := h; exact f
theorem Res3.f2 {w : World} {r o : Nat} {u0 u1 u2 : Value} (h : Res3 w r o u0 u1 u2) : w.frozen? ⟨r, o + 2, none⟩ = false := by obtain ⟨-, -, -, -, -, f, -⟩ := h; exact f
theorem FracP.laid {w : World} {V : Value} {q : Rat} {k : Nat} (h : FracP w V q k) : ∃ b A n c C m d, V = .agg #[.bool b, .slice A n c, .slice C m d] ∧ Hid (FracP w (.agg #[.bool b, .slice A n c, .slice C m d]) q k) := by
  obtain ⟨b1, N, D, n1, m1, va, vd, rfl, Na, Da, h⟩ := h
  obtain ⟨A1, c1, rfl, Ra⟩ := Na.slice
  obtain ⟨C1, d1, rfl, Rb⟩ := Da.slice
  exact ⟨b1, A1, n1, c1, C1, m1, d1, rfl, ⟨b1, N, D, n1, m1, _, _, rfl, Na, Da, h⟩⟩
theorem FracP.kept {w w' : World} {V : Value} {q : Rat} {l : Nat} (h : FracP w V q l) (k : Keeps w w') : FracP w' V q l := by
  obtain ⟨neg, N, D, n, m, va, vd, e, h1, h2, h3⟩ := h
  exact ⟨neg, N, D, n, m, va, vd, e, k _ _ _ _ _ h1, k _ _ _ _ _ h2, h3⟩
theorem FracR.laid {w : World} {V : Value} {q : Rat} {k : Nat} (h : FracR w V q k) : ∃ b A n c C m d, V = .agg #[.bool b, .slice A n c, .slice C m d] ∧ Hid (FracR w (.agg #[.bool b, .slice A n c, .slice C m d]) q k) := by
  obtain ⟨b1, N, D, n1, m1, va, vd, rfl, Na, Da, h⟩ := h
  obtain ⟨A1, c1, rfl, Ra⟩ := Na.slice
  obtain ⟨C1, d1, rfl, Rb⟩ := Da.slice
  exact ⟨b1, A1, n1, c1, C1, m1, d1, rfl, ⟨b1, N, D, n1, m1, _, _, rfl, Na, Da, h⟩⟩

theorem FracP.parts {w : World} {b : Bool} {A C : Option Addr} {n c m d k : Nat} {q : Rat} (h : FracP w (.agg #[.bool b, .slice A n c, .slice C m d]) q k) :
    ∃ N D, Hid (mkRat (sgn b N) D = q) ∧ D ≠ 0 ∧ Hid (WhlR w (.agg #[.bool b, .slice A n c]) (sgn b N) k) ∧ Hid (Num 4294967296 .u32 w (.slice C m d) D m) ∧ m ≤ k := by
  obtain ⟨b', N, D, n', m', va, vd, e, Na, Da, E, h1, h2, h3⟩ := h
  simp at e
  obtain ⟨rfl, rfl, rfl⟩ := e
  obtain ⟨A', c', e', -⟩ := Da.slice
  injection e' with e1 e2 e3
  subst e2
  exact ⟨N, D, E, h3, ⟨_, _, _, _, rfl, Na, rfl, h1⟩, Da, h2⟩

end Go.Proofs.YtngbcbncllfblaaGreat
