/- r01.Same, r02.Same, r04.Same, r05.Same at what is the same. Condition: what comes in reads. r02.Make, Sign, Neg, Mul. Condition: what comes in reads; fewer than 2^36 words. r02.Add, Sub, Cmp, Of. Condition: what comes in reads; fewer than 2^36 words. r02.Of. Condition: an int. -/
import Derived.Test.YtngbcbncllfblaaGreatJRowP
import Derived.Test.YtngbcbncllfblaaGreatJKit2
namespace Go.Proofs.YtngbcbncllfblaaGreat
open Go.RowKit

set_option maxRecDepth 100000 in
set_option maxHeartbeats 4000000 in
theorem r1same_yes (A C : Option Addr) (N n c d : Nat) (w : World) (ha : Num 4294967296 .u32 w (.slice A n c) N n) (hb : Num 4294967296 .u32 w (.slice C n d) N n) :
    Calls Tryz.prog 132 #[.slice A n c, .slice C n d] w fun e w' => e = .returned (.bool true) ∧ Grew w w' := by
  obtain ⟨A', c', e1, a1, a2, a3, a4⟩ := ha
  obtain ⟨C', d', e2, b1, b2, b3, b4⟩ := hb
  injection e1 with i1 i2 i3
  injection e2 with j1 j2 j3
  subst i1; subst i3; subst j1; subst j3
  have hm : n ≤ 9223372036854775807 := by omega
  clear i2 j2 a3 b3
  go_enter Tryz.func132, Tryz.ntmps132
  go_wp2_with fail
  go_loopg [5] n (fun gk i wr => ∃ j : Nat, gk + j = n ∧ i = .int .i64 j ∧ Grew w wr)
  case atStart => exact ⟨0, rfl, rfl, Grew.refl _⟩
  case round =>
    obtain ⟨j, hj, rfl, hG⟩ := hrel
    by_cases hlt : j < n
    · obtain ⟨ba, oa, rfl, hca⟩ := a4 (by omega)
      obtain ⟨bb, ob, rfl, hcb⟩ := b4 (by omega)
      have hcx := hG.cell (hca j hlt)
      have hcy := hG.cell (hcb j hlt)
      clear hca hcb a4 b4
      generalize dig 4294967296 N j = x at *
      go_wp2_with fail
      go_quiet (fail)
      go_wp2
      go_roundg (gk - 1)
      case rel => exact ⟨j + 1, by omega, by go_num, by first | exact hG.drewN _ | exact (hG.drewN _).drewN _⟩
      case measure => omega
    · obtain rfl : j = n := by omega
      go_wp2_with fail
      go_ret
      exact ⟨rfl, hG⟩

set_option maxRecDepth 100000 in
set_option maxHeartbeats 4000000 in
theorem r2same_yes (b : Bool) (A C : Option Addr) (N n c d : Nat) (w : World) (ha : Num 4294967296 .u32 w (.slice A n c) N n) (hb : Num 4294967296 .u32 w (.slice C n d) N n) :
    Calls Tryz.prog 131 #[.agg #[.bool b, .slice A n c], .agg #[.bool b, .slice C n d]] w fun e w' => e = .returned (.bool true) ∧ Grew w w' := by
  have Fa := Lib.hid ha
  have Fb := Lib.hid hb
  clear ha hb
  go_enter Tryz.func131, Tryz.ntmps131
  go_wp2_with fail
  refine gen_calls ?_
  intro W0 hW0
  have G0 : Grew w W0 := by rw [hW0]; exact ((Grew.refl w).alloc _).alloc _
  have P : Box2 W0 (w.heap.size) 0 (.bool b) (.slice A n c) := by rw [hW0]; exact ⟨by simp [go_sem], by simp [go_sem]⟩
  replace P := Lib.hid P
  have Q : Box2 W0 (w.heap.size + 1) 0 (.bool b) (.slice C n d) := by rw [hW0]; exact ⟨by simp [go_sem], by simp [go_sem]⟩
  replace Q := Lib.hid Q
  have z0 : w.heap.size < W0.heap.size := by rw [hW0]; simp <;> omega
  replace z0 := Lib.hid z0
  have z1 : w.heap.size + 1 < W0.heap.size := by rw [hW0]; simp <;> omega
  replace z1 := Lib.hid z1
  clear hW0
  replace Fa := Lib.hid (Fa.out.kept G0.keeps)
  replace Fb := Lib.hid (Fb.out.kept G0.keeps)
  replace G0 := Lib.hid G0
  refine (r1same_yes A C N n c d _ Fa.out Fb.out).mono ?_
  rintro e w1 ⟨rfl, g1⟩
  replace P := Lib.hid (P.out.grew g1)
  replace Q := Lib.hid (Q.out.grew g1)
  replace z0 := Lib.hid (lt_grew z0.out g1)
  replace z1 := Lib.hid (lt_grew z1.out g1)
  replace Fa := Lib.hid (Fa.out.kept g1.keeps)
  replace Fb := Lib.hid (Fb.out.kept g1.keeps)
  replace G0 := Lib.hid (G0.out.trans g1)
  clear g1
  go_wp2_with fail
  go_ret
  exact ⟨rfl, G0.out⟩

/-- Two answers that are one fraction: the same signs and lengths, and both read. -/
theorem FracC.both {w : World} {V V' : Value} {q : Rat} (h : FracC w V q) (h' : FracC w V' q) : ∃ b A A' n c c' C C' m d d' N D, V = .agg #[.bool b, .slice A n c, .slice C m d] ∧ V' = .agg #[.bool b, .slice A' n c', .slice C' m d'] ∧
    Hid (Num 4294967296 .u32 w (.slice A n c) N n) ∧ Hid (Num 4294967296 .u32 w (.slice A' n c') N n) ∧ Hid (Num 4294967296 .u32 w (.slice C m d) D m) ∧ Hid (Num 4294967296 .u32 w (.slice C' m d') D m) := by
  obtain ⟨va, vd, rfl, h1, h2, -⟩ := h
  obtain ⟨va', vd', rfl, h1', h2', -⟩ := h'
  obtain ⟨A, c, rfl, -⟩ := id h1
  obtain ⟨C, d, rfl, -⟩ := id h2
  obtain ⟨A', c', rfl, -⟩ := id h1'
  obtain ⟨C', d', rfl, -⟩ := id h2'
  exact ⟨_, A, A', _, c, c', C, C', _, d, d', _, _, rfl, rfl, h1, h1', h2, h2'⟩

set_option maxRecDepth 100000 in
set_option maxHeartbeats 4000000 in
theorem r4same_yes (Va Vb : Value) (q : Rat) (w : World) (ha : FracC w Va q) (hb : FracC w Vb q) :
    Calls Tryz.prog 97 #[Va, Vb] w fun e w' => e = .returned (.bool true) ∧ Grew w w' := by
  obtain ⟨b1, A1, A2, n1, c1, c2, C1, C2, m1, d1, d2, N, D, rfl, rfl, Fa, Fb, Fc, Fd⟩ := ha.both hb
  clear ha hb
  go_enter Tryz.func97, Tryz.ntmps97
  go_wp2_with fail
  refine gen_calls ?_
  intro W0 hW0
  have G0 : Grew w W0 := by rw [hW0]; exact ((Grew.refl w).alloc _).alloc _
  have P : Box3 W0 (w.heap.size) 0 (.bool b1) (.slice A1 n1 c1) (.slice C1 m1 d1) := by rw [hW0]; exact ⟨by simp [go_sem], by simp [go_sem], by simp [go_sem]⟩
  replace P := Lib.hid P
  have Q : Box3 W0 (w.heap.size + 1) 0 (.bool b1) (.slice A2 n1 c2) (.slice C2 m1 d2) := by rw [hW0]; exact ⟨by simp [go_sem], by simp [go_sem], by simp [go_sem]⟩
  replace Q := Lib.hid Q
  have z0 : w.heap.size < W0.heap.size := by rw [hW0]; simp <;> omega
  replace z0 := Lib.hid z0
  have z1 : w.heap.size + 1 < W0.heap.size := by rw [hW0]; simp <;> omega
  replace z1 := Lib.hid z1
  clear hW0
  replace Fa := Lib.hid (Fa.out.kept G0.keeps)
  replace Fb := Lib.hid (Fb.out.kept G0.keeps)
  replace Fc := Lib.hid (Fc.out.kept G0.keeps)
  replace Fd := Lib.hid (Fd.out.kept G0.keeps)
  replace G0 := Lib.hid G0
  refine (r2same_yes b1 A1 A2 N n1 c1 c2 _ Fa.out Fb.out).mono ?_
  rintro e w1 ⟨rfl, g1⟩
  replace P := Lib.hid (P.out.grew g1)
  replace Q := Lib.hid (Q.out.grew g1)
  replace z0 := Lib.hid (lt_grew z0.out g1)
  replace z1 := Lib.hid (lt_grew z1.out g1)
  replace Fa := Lib.hid (Fa.out.kept g1.keeps)
  replace Fb := Lib.hid (Fb.out.kept g1.keeps)
  replace Fc := Lib.hid (Fc.out.kept g1.keeps)
  replace Fd := Lib.hid (Fd.out.kept g1.keeps)
  replace G0 := Lib.hid (G0.out.trans g1)
  clear g1
  obtain ⟨P0, P1, P2⟩ := P.out
  obtain ⟨Q0, Q1, Q2⟩ := Q.out
  go_wp2_with fail
  clear P0 P1 P2 Q0 Q1 Q2
  refine (r1same_yes C1 C2 D m1 d1 d2 _ Fc.out Fd.out).mono ?_
  rintro e w2 ⟨rfl, g2⟩
  replace P := Lib.hid (P.out.grew g2)
  replace Q := Lib.hid (Q.out.grew g2)
  replace z0 := Lib.hid (lt_grew z0.out g2)
  replace z1 := Lib.hid (lt_grew z1.out g2)
  replace Fa := Lib.hid (Fa.out.kept g2.keeps)
  replace Fb := Lib.hid (Fb.out.kept g2.keeps)
  replace Fc := Lib.hid (Fc.out.kept g2.keeps)
  replace Fd := Lib.hid (Fd.out.kept g2.keeps)
  replace G0 := Lib.hid (G0.out.trans g2)
  clear g2
  go_wp2_with fail
  go_ret
  exact ⟨rfl, G0.out⟩

set_option maxRecDepth 100000 in
set_option maxHeartbeats 4000000 in
theorem r5same_yes (Va Vb : Value) (x y : Rat) (w : World) (ha : SpotC w Va x y) (hb : SpotC w Vb x y) :
    Calls Tryz.prog 50 #[Va, Vb] w fun e w' => e = .returned (.bool true) ∧ Grew w w' := by
  obtain ⟨b1, A1, n1, c1, C1, m1, d1, b2, A2, n2, c2, C2, m2, d2, rfl, Fa, Fb, -⟩ := ha.laid
  obtain ⟨b3, A3, n3, c3, C3, m3, d3, b4, A4, n4, c4, C4, m4, d4, rfl, Fc, Fd, -⟩ := hb.laid
  clear ha hb
  go_enter Tryz.func50, Tryz.ntmps50
  go_wp2_with fail
  refine gen_calls ?_
  intro W0 hW0
  have G0 : Grew w W0 := by rw [hW0]; exact ((Grew.refl w).alloc _).alloc _
  have P : Box3 W0 (w.heap.size) 0 (.bool b1) (.slice A1 n1 c1) (.slice C1 m1 d1) := by rw [hW0]; exact ⟨by simp [go_sem], by simp [go_sem], by simp [go_sem]⟩
  replace P := Lib.hid P
  have Py : Box3 W0 (w.heap.size) 3 (.bool b2) (.slice A2 n2 c2) (.slice C2 m2 d2) := by rw [hW0]; exact ⟨by simp [go_sem], by simp [go_sem], by simp [go_sem]⟩
  replace Py := Lib.hid Py
  have Q : Box3 W0 (w.heap.size + 1) 0 (.bool b3) (.slice A3 n3 c3) (.slice C3 m3 d3) := by rw [hW0]; exact ⟨by simp [go_sem], by simp [go_sem], by simp [go_sem]⟩
  replace Q := Lib.hid Q
  have Qy : Box3 W0 (w.heap.size + 1) 3 (.bool b4) (.slice A4 n4 c4) (.slice C4 m4 d4) := by rw [hW0]; exact ⟨by simp [go_sem], by simp [go_sem], by simp [go_sem]⟩
  replace Qy := Lib.hid Qy
  have z0 : w.heap.size < W0.heap.size := by rw [hW0]; simp <;> omega
  replace z0 := Lib.hid z0
  have z1 : w.heap.size + 1 < W0.heap.size := by rw [hW0]; simp <;> omega
  replace z1 := Lib.hid z1
  clear hW0
  replace Fa := Lib.hid (Fa.out.kept G0.keeps)
  replace Fb := Lib.hid (Fb.out.kept G0.keeps)
  replace Fc := Lib.hid (Fc.out.kept G0.keeps)
  replace Fd := Lib.hid (Fd.out.kept G0.keeps)
  replace G0 := Lib.hid G0
  refine (r4same_yes _ _ x _ Fa.out Fc.out).mono ?_
  rintro e w1 ⟨rfl, g1⟩
  replace P := Lib.hid (P.out.grew g1)
  replace Py := Lib.hid (Py.out.grew g1)
  replace Q := Lib.hid (Q.out.grew g1)
  replace Qy := Lib.hid (Qy.out.grew g1)
  replace z0 := Lib.hid (lt_grew z0.out g1)
  replace z1 := Lib.hid (lt_grew z1.out g1)
  replace Fa := Lib.hid (Fa.out.kept g1.keeps)
  replace Fb := Lib.hid (Fb.out.kept g1.keeps)
  replace Fc := Lib.hid (Fc.out.kept g1.keeps)
  replace Fd := Lib.hid (Fd.out.kept g1.keeps)
  replace G0 := Lib.hid (G0.out.trans g1)
  clear g1
  obtain ⟨P0, P1, P2⟩ := P.out
  obtain ⟨Py0, Py1, Py2⟩ := Py.out
  obtain ⟨Q0, Q1, Q2⟩ := Q.out
  obtain ⟨Qy0, Qy1, Qy2⟩ := Qy.out
  go_wp2_with fail
  clear P0 P1 P2 Py0 Py1 Py2 Q0 Q1 Q2 Qy0 Qy1 Qy2
  refine (r4same_yes _ _ y _ Fb.out Fd.out).mono ?_
  rintro e w2 ⟨rfl, g2⟩
  replace P := Lib.hid (P.out.grew g2)
  replace Py := Lib.hid (Py.out.grew g2)
  replace Q := Lib.hid (Q.out.grew g2)
  replace Qy := Lib.hid (Qy.out.grew g2)
  replace z0 := Lib.hid (lt_grew z0.out g2)
  replace z1 := Lib.hid (lt_grew z1.out g2)
  replace Fa := Lib.hid (Fa.out.kept g2.keeps)
  replace Fb := Lib.hid (Fb.out.kept g2.keeps)
  replace Fc := Lib.hid (Fc.out.kept g2.keeps)
  replace Fd := Lib.hid (Fd.out.kept g2.keeps)
  replace G0 := Lib.hid (G0.out.trans g2)
  clear g2
  go_wp2_with fail
  go_ret
  exact ⟨rfl, G0.out⟩
end Go.Proofs.YtngbcbncllfblaaGreat
namespace Go.Proofs.YtngbcbncllfblaaGreat
open Go.RowKit

set_option maxRecDepth 100000 in
set_option maxHeartbeats 4000000 in
theorem rmake_any (neg : Bool) (va : Value) (N n : Nat) (w : World) (ha : Num 4294967296 .u32 w va N n) (hs : n < 137438953472) :
    Calls Tryz.prog 190 #[.bool neg, va] w fun e w' => ∃ V, e = .returned V ∧ Whl w' V (sgn neg N) ∧ Grew w w' := by
  have hl := ha.len_le (by omega)
  have hlh := len_half N
  obtain ⟨A1, c1, rfl, Ha⟩ := ha.slice
  clear ha
  go_enter Tryz.func190, Tryz.ntmps190
  go_wp2_with fail
  refine gen_calls ?_
  intro W0 hW0
  have G0 : Grew w W0 := by rw [hW0]; exact (Grew.refl w).alloc _
  have R : Res2 W0 (w.heap.size) 0 (.bool false) (.slice none 0 0) := by rw [hW0]; exact ⟨by simp [go_sem], by simp [go_sem], by simp [go_sem], by simp [go_sem], by simp⟩
  replace R := Lib.hid R
  have z0 : w.heap.size < W0.heap.size := by rw [hW0]; simp <;> omega
  replace z0 := Lib.hid z0
  clear hW0
  replace Ha := Lib.hid (Ha.out.kept G0.keeps)
  replace G0 := Lib.hid G0
  refine (rhalf_any _ N _ _ Ha.out (by omega)).mono ?_
  rintro e w1 ⟨V1, rfl, hV1, g1⟩
  obtain ⟨A2, c2, rfl, X1⟩ := hV1.slice
  clear hV1
  replace R := Lib.hid (R.out.grew g1)
  replace z0 := Lib.hid (lt_grew z0.out g1)
  replace Ha := Lib.hid (Ha.out.kept g1.keeps)
  replace G0 := Lib.hid (G0.out.trans g1)
  clear g1
  go_wp2_with fail
  refine (rwords_any _ N _ _ X1.out (by omega)).mono ?_
  rintro e w2 ⟨V2, rfl, hV2, g2⟩
  obtain ⟨A3, c3, rfl, X2⟩ := hV2.slice
  clear hV2
  replace R := Lib.hid (R.out.grew g2)
  replace z0 := Lib.hid (lt_grew z0.out g2)
  replace Ha := Lib.hid (Ha.out.kept g2.keeps)
  replace X1 := Lib.hid (X1.out.kept g2.keeps)
  replace G0 := Lib.hid (G0.out.trans g2)
  clear g2
  have hz : len 4294967296 N = 0 ↔ N = 0 := len_eq_zero (by omega)
  have hw : Whl w2 (.agg #[.bool (neg && decide (N ≠ 0)), .slice A3 (len 4294967296 N) c3]) (sgn neg N) := Whl.of_num X2.out
  replace hw := Lib.hid hw
  clear hl hlh

  by_cases h0 : N = 0
  · as_aux_lemma =>
    have e0 : decide (N ≠ 0) = false := by simp [h0]
    rw [e0] at hw
    have hn0 := hz.2 h0
    generalize len 4294967296 N = k at *
    subst hn0
    clear e0 h0 hz
    cases neg
    · skip
      obtain ⟨R0, R1, Rf0, Rf1, Rs⟩ := R.out
      go_wp2_with fail
      refine gen_post ?_
      intro W9 hW9
      obtain ⟨q0, q1, qK, -, qs, qG⟩ := store2 (o := 0) R0 R1 hW9
      have GE := qG w (by omega) G0.out
      have QK := Lib.hid qK
      clear qK qG hW9 R0 R1
      exact bodyPost_ret (v := .agg #[.bool false, .slice A3 0 c3]) (by simp [results, Tryz.results190, go_sem, q0, q1]) rfl ⟨_, rfl, hw.out.kept QK.out, GE⟩
    · skip
      obtain ⟨R0, R1, Rf0, Rf1, Rs⟩ := R.out
      go_wp2_with fail
      refine gen_post ?_
      intro W9 hW9
      obtain ⟨q0, q1, qK, -, qs, qG⟩ := store2 (o := 0) R0 R1 hW9
      have GE := qG w (by omega) G0.out
      have QK := Lib.hid qK
      clear qK qG hW9 R0 R1
      exact bodyPost_ret (v := .agg #[.bool false, .slice A3 0 c3]) (by simp [results, Tryz.results190, go_sem, q0, q1]) rfl ⟨_, rfl, hw.out.kept QK.out, GE⟩
  · as_aux_lemma =>

    have e0 : decide (N ≠ 0) = true := by simp [h0]
    rw [e0] at hw
    have hn0 : 0 < len 4294967296 N := by
      rcases Nat.eq_zero_or_pos (len 4294967296 N) with h | h
      · exact absurd (hz.1 h) h0
      · exact h
    generalize len 4294967296 N = k at *
    have hp : (0 : Int) < (k : Int) := by omega
    clear e0 h0 hz
    cases neg
    · skip
      obtain ⟨R0, R1, Rf0, Rf1, Rs⟩ := R.out
      go_wp2_with fail
      refine gen_post ?_
      intro W9 hW9
      obtain ⟨q0, q1, qK, -, qs, qG⟩ := store2 (o := 0) R0 R1 hW9
      have GE := qG w (by omega) G0.out
      have QK := Lib.hid qK
      clear qK qG hW9 R0 R1
      exact bodyPost_ret (v := .agg #[.bool false, .slice A3 k c3]) (by simp [results, Tryz.results190, go_sem, q0, q1]) rfl ⟨_, rfl, hw.out.kept QK.out, GE⟩
    · skip
      obtain ⟨R0, R1, Rf0, Rf1, Rs⟩ := R.out
      go_wp2_with fail
      refine gen_post ?_
      intro W9 hW9
      obtain ⟨q0, q1, qK, -, qs, qG⟩ := store2 (o := 0) R0 R1 hW9
      have GE := qG w (by omega) G0.out
      have QK := Lib.hid qK
      clear qK qG hW9 R0 R1
      exact bodyPost_ret (v := .agg #[.bool true, .slice A3 k c3]) (by simp [results, Tryz.results190, go_sem, q0, q1]) rfl ⟨_, rfl, hw.out.kept QK.out, GE⟩

set_option maxRecDepth 100000 in
set_option maxHeartbeats 4000000 in
theorem r2sign_any (Va : Value) (z : Int) (k : Nat) (w : World) (ha : WhlR w Va z k) (hs : k < 137438953472) :
    Calls Tryz.prog 171 #[Va] w fun e w' => e = .returned (.int .i64 (sg z)) ∧ Grew w w' := by
  obtain ⟨b1, A1, n1, c1, N, rfl, Na, Ez, hk⟩ := ha.open
  clear ha
  go_enter Tryz.func171, Tryz.ntmps171
  go_wp2_with fail
  refine gen_calls ?_
  intro W0 hW0
  have G0 : Grew w W0 := by rw [hW0]; exact (Grew.refl w).alloc _
  have P : Box2 W0 (w.heap.size) 0 (.bool b1) (.slice A1 n1 c1) := by rw [hW0]; exact ⟨by simp [go_sem], by simp [go_sem]⟩
  replace P := Lib.hid P
  have z0 : w.heap.size < W0.heap.size := by rw [hW0]; simp <;> omega
  replace z0 := Lib.hid z0
  clear hW0
  replace Na := Lib.hid (Na.out.kept G0.keeps)
  replace G0 := Lib.hid G0
  refine (rbits_any _ N _ _ Na.out (by omega)).mono ?_
  rintro e w1 ⟨bb, rfl, hb, g1⟩
  replace P := Lib.hid (P.out.grew g1)
  replace z0 := Lib.hid (lt_grew z0.out g1)
  replace Na := Lib.hid (Na.out.kept g1.keeps)
  replace G0 := Lib.hid (G0.out.trans g1)
  clear g1
  rcases Nat.eq_zero_or_pos bb with rfl | hp
  · have e1 : sg z = 0 := by rw [← Ez.out, hb.1 rfl]; unfold sg sgn; cases b1 <;> simp
    replace e1 := Lib.hid e1
    clear hb
    go_wp2_with fail
    go_ret
    exact ⟨by rw [e1.out]; rfl, G0.out⟩
  · have hN : N ≠ 0 := fun e => by have := hb.2 e; omega
    have hbb : ((bb : Int) == 0) = false := by simp; omega
    clear hb
    cases b1
    · have e1 : sg z = 1 := by rw [← Ez.out]; unfold sg sgn; simp; omega
      replace e1 := Lib.hid e1
      obtain ⟨P0, P1⟩ := P.out
      go_wp2_with fail
      clear P0 P1
      go_ret
      exact ⟨by rw [e1.out]; rfl, G0.out⟩
    · have e1 : sg z = -1 := by rw [← Ez.out]; unfold sg sgn; simp; omega
      replace e1 := Lib.hid e1
      obtain ⟨P0, P1⟩ := P.out
      go_wp2_with fail
      clear P0 P1
      go_ret
      exact ⟨by rw [e1.out]; rfl, G0.out⟩

set_option maxRecDepth 100000 in
set_option maxHeartbeats 4000000 in
theorem r2neg_any (Va : Value) (z : Int) (k : Nat) (w : World) (ha : WhlR w Va z k) (hs : k < 137438953472) :
    Calls Tryz.prog 277 #[Va] w fun e w' => ∃ V, e = .returned V ∧ Whl w' V (-z) ∧ Grew w w' := by
  obtain ⟨b1, A1, n1, c1, N, rfl, Na, Ez, hk⟩ := ha.open
  have e1 : sgn (!b1) N = -z := by rw [sgn_not, Ez.out]
  replace e1 := Lib.hid e1
  clear ha
  go_enter Tryz.func277, Tryz.ntmps277
  go_wp2_with fail
  refine gen_calls ?_
  intro W0 hW0
  have G0 : Grew w W0 := by rw [hW0]; exact ((Grew.refl w).alloc _).alloc _
  have P : Box2 W0 (w.heap.size) 0 (.bool b1) (.slice A1 n1 c1) := by rw [hW0]; exact ⟨by simp [go_sem], by simp [go_sem]⟩
  replace P := Lib.hid P
  have R : Res2 W0 (w.heap.size + 1) 0 (.bool false) (.slice none 0 0) := by rw [hW0]; exact ⟨by simp [go_sem], by simp [go_sem], by simp [go_sem], by simp [go_sem], by simp⟩
  replace R := Lib.hid R
  have z0 : w.heap.size < W0.heap.size := by rw [hW0]; simp <;> omega
  replace z0 := Lib.hid z0
  have z1 : w.heap.size + 1 < W0.heap.size := by rw [hW0]; simp <;> omega
  replace z1 := Lib.hid z1
  clear hW0
  replace Na := Lib.hid (Na.out.kept G0.keeps)
  replace G0 := Lib.hid G0
  refine (rmake_any (!b1) _ N _ _ Na.out (by omega)).mono ?_
  rintro e w1 ⟨V1, rfl, hV1, g1⟩
  obtain ⟨b2, A2, n2, c2, rfl, X1, -⟩ := hV1.laid
  clear hV1
  replace R := Lib.hid (R.out.grew g1)
  replace P := Lib.hid (P.out.grew g1)
  replace z0 := Lib.hid (lt_grew z0.out g1)
  replace z1 := Lib.hid (lt_grew z1.out g1)
  replace Na := Lib.hid (Na.out.kept g1.keeps)
  replace G0 := Lib.hid (G0.out.trans g1)
  clear g1
  obtain ⟨R0, R1, Rf0, Rf1, Rs⟩ := R.out
  go_wp2_with fail
  refine gen_post ?_
  intro W9 hW9
  obtain ⟨q0, q1, qK, -, qs, qG⟩ := store2 (o := 0) R0 R1 hW9
  have GE := qG w (by omega) G0.out
  have QK := Lib.hid qK
  clear qK qG hW9 R0 R1
  exact bodyPost_ret (v := .agg #[.bool b2, .slice A2 n2 c2]) (by simp [results, Tryz.results277, go_sem, q0, q1]) rfl ⟨_, rfl, by rw [← e1.out]; exact X1.out.kept QK.out, GE⟩

set_option maxRecDepth 100000 in
set_option maxHeartbeats 4000000 in
theorem r2mul_any (Va Vb : Value) (z y : Int) (k l : Nat) (w : World) (ha : WhlR w Va z k) (hb : WhlR w Vb y l) (hs : k < 34359738368 ∧ l < 34359738368) :
    Calls Tryz.prog 169 #[Va, Vb] w fun e w' => ∃ V, e = .returned V ∧ Whl w' V (z * y) ∧ Grew w w' := by
  obtain ⟨b1, A1, n1, c1, N, rfl, Na, Ez, hk⟩ := ha.open
  obtain ⟨b2, A2, n2, c2, M, rfl, Nb, Ey, hl⟩ := hb.open
  have e1 : sgn (b1 != b2) (N * M) = z * y := by rw [sgn_mul, Ez.out, Ey.out]
  have k1 := Na.out.len_le (by omega)
  have k2 := Nb.out.len_le (by omega)
  have k3 := len_mul (B := 4294967296) (by omega) N M _ _ k1 k2
  have hk9 := Lib.hid (show len 4294967296 (N * M) < 137438953472 by omega)
  have hkl := Lib.hid (show n1 < 137438953472 ∧ n2 < 137438953472 by omega)
  replace e1 := Lib.hid e1
  clear ha hb k1 k2 k3 hk hl hs
  go_enter Tryz.func169, Tryz.ntmps169
  go_wp2_with fail
  refine gen_wp ?_
  intro W0 hW0
  have G0 : Grew w W0 := by rw [hW0]; exact (((Grew.refl w).alloc _).alloc _).alloc _
  have P : Box2 W0 (w.heap.size) 0 (.bool b1) (.slice A1 n1 c1) := by rw [hW0]; exact ⟨by simp [go_sem], by simp [go_sem]⟩
  replace P := Lib.hid P
  have Q : Box2 W0 (w.heap.size + 1) 0 (.bool b2) (.slice A2 n2 c2) := by rw [hW0]; exact ⟨by simp [go_sem], by simp [go_sem]⟩
  replace Q := Lib.hid Q
  have R : Res2 W0 (w.heap.size + 1 + 1) 0 (.bool false) (.slice none 0 0) := by rw [hW0]; exact ⟨by simp [go_sem], by simp [go_sem], by simp [go_sem], by simp [go_sem], by simp⟩
  replace R := Lib.hid R
  have z0 : w.heap.size < W0.heap.size := by rw [hW0]; simp <;> omega
  replace z0 := Lib.hid z0
  have z1 : w.heap.size + 1 < W0.heap.size := by rw [hW0]; simp <;> omega
  replace z1 := Lib.hid z1
  have z2 : w.heap.size + 1 + 1 < W0.heap.size := by rw [hW0]; simp <;> omega
  replace z2 := Lib.hid z2
  clear hW0
  replace Na := Lib.hid (Na.out.kept G0.keeps)
  replace Nb := Lib.hid (Nb.out.kept G0.keeps)
  replace G0 := Lib.hid G0
  have gd : Grew W0 W0.drew := (Grew.refl W0).drew
  replace R := Lib.hid (R.out.grew gd)
  replace P := Lib.hid (P.out.grew gd)
  replace Q := Lib.hid (Q.out.grew gd)
  replace z0 := Lib.hid (lt_grew z0.out gd)
  replace z1 := Lib.hid (lt_grew z1.out gd)
  replace z2 := Lib.hid (lt_grew z2.out gd)
  replace Na := Lib.hid (Na.out.kept gd.keeps)
  replace Nb := Lib.hid (Nb.out.kept gd.keeps)
  replace gd := Lib.hid gd
  have ZP := P
  have ZQ := Q
  go_region_held3 (fun w' => w'.cell? ⟨w.heap.size, 0, none⟩ = some (.bool b1) ∧ w'.cell? ⟨w.heap.size, 1, none⟩ = some (.slice A1 n1 c1) ∧ w'.cell? ⟨w.heap.size + 1, 0, none⟩ = some (.bool b2) ∧ w'.cell? ⟨w.heap.size + 1, 1, none⟩ = some (.slice A2 n2 c2))
    (first | (with_reducible exact ⟨ZP.out.p0, ZP.out.p1, ZQ.out.p0, ZQ.out.p1⟩) | (with_reducible exact ⟨g1.cell ZP.out.p0, g1.cell ZP.out.p1, g1.cell ZQ.out.p0, g1.cell ZQ.out.p1⟩) | (with_reducible exact ⟨(g1.trans g2).cell ZP.out.p0, (g1.trans g2).cell ZP.out.p1, (g1.trans g2).cell ZQ.out.p0, (g1.trans g2).cell ZQ.out.p1⟩) | (with_reducible exact ⟨other2 (o := 0) (by omega) ((g1.trans g2).cell ZP.out.p0), other2 (o := 0) (by omega) ((g1.trans g2).cell ZP.out.p1), other2 (o := 0) (by omega) ((g1.trans g2).cell ZQ.out.p0), other2 (o := 0) (by omega) ((g1.trans g2).cell ZQ.out.p1)⟩))
    (first | (go_at_call 229; refine (rMul_any _ _ N M _ _ _ Na.out Nb.out hkl.out).mono ?_; rintro e w1 ⟨V1, rfl, hV1, g1⟩; obtain ⟨A3, c3, rfl, X1⟩ := hV1.slice; clear hV1; replace R := Lib.hid (R.out.grew g1); replace P := Lib.hid (P.out.grew g1); replace Q := Lib.hid (Q.out.grew g1); replace z0 := Lib.hid (lt_grew z0.out g1); replace z1 := Lib.hid (lt_grew z1.out g1); replace z2 := Lib.hid (lt_grew z2.out g1); replace Na := Lib.hid (Na.out.kept g1.keeps); replace Nb := Lib.hid (Nb.out.kept g1.keeps)) | (go_at_call 190; refine (rmake_any _ _ (N * M) _ _ X1.out hk9.out).mono ?_; rintro e w2 ⟨V2, rfl, hV2, g2⟩; obtain ⟨b4, A4, n4, c4, rfl, X2, -⟩ := hV2.laid; clear hV2; replace R := Lib.hid (R.out.grew g2); replace P := Lib.hid (P.out.grew g2); replace Q := Lib.hid (Q.out.grew g2); replace z0 := Lib.hid (lt_grew z0.out g2); replace z1 := Lib.hid (lt_grew z1.out g2); replace z2 := Lib.hid (lt_grew z2.out g2); replace Na := Lib.hid (Na.out.kept g2.keeps); replace Nb := Lib.hid (Nb.out.kept g2.keeps); replace X1 := Lib.hid (X1.out.kept g2.keeps); obtain ⟨R0, R1, Rf0, Rf1, Rs⟩ := R.out))
  replace G0 := Lib.hid (((G0.out.trans gd.out).trans g1).trans g2)
  clear gd g1 g2 ZP ZQ
  refine gen_then ?_
  intro W9 hW9
  obtain ⟨q0, q1, qK, -, qs, qG⟩ := store2 (o := 0) R0 R1 hW9
  have GE := qG w (by omega) G0.out
  have QK := Lib.hid qK
  clear qK qG hW9 R0 R1
  go_wp2_with fail
  exact bodyPost_ret (v := .agg #[.bool b4, .slice A4 n4 c4]) (by simp [results, Tryz.results169, go_sem, q0, q1]) rfl ⟨_, rfl, by rw [← e1.out]; exact X2.out.kept QK.out, GE⟩
end Go.Proofs.YtngbcbncllfblaaGreat
namespace Go.Proofs.YtngbcbncllfblaaGreat
open Go.RowKit

theorem sgn_diff_ge (b : Bool) {N M : Nat} (h : M ≤ N) : sgn b (N - M) = sgn b N + sgn (!b) M := by
  unfold sgn; cases b <;> simp <;> omega
theorem sgn_diff_lt (b : Bool) {N M : Nat} (h : N < M) : sgn (!b) (M - N) = sgn b N + sgn (!b) M := by
  unfold sgn; cases b <;> simp <;> omega

set_option maxRecDepth 100000 in
set_option maxHeartbeats 8000000 in
theorem r2add_any (Va Vb : Value) (z y : Int) (k l : Nat) (w : World) (ha : WhlR w Va z k) (hb : WhlR w Vb y l) (hs : k < 68719476736 ∧ l < 68719476736) :
    Calls Tryz.prog 230 #[Va, Vb] w fun e w' => ∃ V, e = .returned V ∧ Whl w' V (z + y) ∧ Grew w w' := by
  obtain ⟨b1, A1, n1, c1, N, rfl, Na, Ez, hk⟩ := ha.open
  obtain ⟨b2, A2, n2, c2, M, rfl, Nb, Ey, hl⟩ := hb.open
  have k1 := Na.out.len_le (by omega)
  have k2 := Nb.out.len_le (by omega)
  have k3 := len_add (B := 4294967296) (by omega) N M 68719476735 (by omega) (by omega)
  have hk9 := Lib.hid (show len 4294967296 (N + M) < 137438953472 by omega)
  have hkl := Lib.hid (show n1 < 274877906944 ∧ n2 < 274877906944 by omega)
  have hkl2 := Lib.hid (show n2 < 274877906944 ∧ n1 < 274877906944 by omega)
  have kd1 := Lib.hid (show len 4294967296 (N - M) < 137438953472 by have := len_mono (B := 4294967296) (by omega) (Nat.sub_le N M); omega)
  have kd2 := Lib.hid (show len 4294967296 (M - N) < 137438953472 by have := len_mono (B := 4294967296) (by omega) (Nat.sub_le M N); omega)
  clear ha hb k1 k2 k3 hk hl hs
  by_cases hbb : b1 = b2
  · as_aux_lemma =>
    subst hbb
    have e1 : sgn b1 (N + M) = z + y := by rw [sgn_add, Ez.out, Ey.out]
    replace e1 := Lib.hid e1
    go_enter Tryz.func230, Tryz.ntmps230
    go_wp2_with fail
    refine gen_wp ?_
    intro W0 hW0
    have G0 : Grew w W0 := by rw [hW0]; exact (((Grew.refl w).alloc _).alloc _).alloc _
    have P : Box2 W0 (w.heap.size) 0 (.bool b1) (.slice A1 n1 c1) := by rw [hW0]; exact ⟨by simp [go_sem], by simp [go_sem]⟩
    replace P := Lib.hid P
    have Q : Box2 W0 (w.heap.size + 1) 0 (.bool b1) (.slice A2 n2 c2) := by rw [hW0]; exact ⟨by simp [go_sem], by simp [go_sem]⟩
    replace Q := Lib.hid Q
    have R : Res2 W0 (w.heap.size + 1 + 1) 0 (.bool false) (.slice none 0 0) := by rw [hW0]; exact ⟨by simp [go_sem], by simp [go_sem], by simp [go_sem], by simp [go_sem], by simp⟩
    replace R := Lib.hid R
    have z0 : w.heap.size < W0.heap.size := by rw [hW0]; simp <;> omega
    replace z0 := Lib.hid z0
    have z1 : w.heap.size + 1 < W0.heap.size := by rw [hW0]; simp <;> omega
    replace z1 := Lib.hid z1
    have z2 : w.heap.size + 1 + 1 < W0.heap.size := by rw [hW0]; simp <;> omega
    replace z2 := Lib.hid z2
    clear hW0
    replace Na := Lib.hid (Na.out.kept G0.keeps)
    replace Nb := Lib.hid (Nb.out.kept G0.keeps)
    replace G0 := Lib.hid G0
    have gd : Grew W0 W0.drew := (Grew.refl W0).drew
    replace R := Lib.hid (R.out.grew gd)
    replace P := Lib.hid (P.out.grew gd)
    replace Q := Lib.hid (Q.out.grew gd)
    replace z0 := Lib.hid (lt_grew z0.out gd)
    replace z1 := Lib.hid (lt_grew z1.out gd)
    replace z2 := Lib.hid (lt_grew z2.out gd)
    replace Na := Lib.hid (Na.out.kept gd.keeps)
    replace Nb := Lib.hid (Nb.out.kept gd.keeps)
    replace gd := Lib.hid gd
    have ZP := P
    have ZQ := Q
    go_region_held3 (fun w' => w'.cell? ⟨w.heap.size, 0, none⟩ = some (.bool b1) ∧ w'.cell? ⟨w.heap.size, 1, none⟩ = some (.slice A1 n1 c1) ∧ w'.cell? ⟨w.heap.size + 1, 0, none⟩ = some (.bool b1) ∧ w'.cell? ⟨w.heap.size + 1, 1, none⟩ = some (.slice A2 n2 c2))
      (first | (with_reducible exact ⟨ZP.out.p0, ZP.out.p1, ZQ.out.p0, ZQ.out.p1⟩) | (with_reducible exact ⟨g1.cell ZP.out.p0, g1.cell ZP.out.p1, g1.cell ZQ.out.p0, g1.cell ZQ.out.p1⟩) | (with_reducible exact ⟨(g1.trans g2).cell ZP.out.p0, (g1.trans g2).cell ZP.out.p1, (g1.trans g2).cell ZQ.out.p0, (g1.trans g2).cell ZQ.out.p1⟩) | (with_reducible exact ⟨other2 (o := 0) (by omega) ((g1.trans g2).cell ZP.out.p0), other2 (o := 0) (by omega) ((g1.trans g2).cell ZP.out.p1), other2 (o := 0) (by omega) ((g1.trans g2).cell ZQ.out.p0), other2 (o := 0) (by omega) ((g1.trans g2).cell ZQ.out.p1)⟩))
      (first | (go_at_call 191; refine (rnadd_any _ _ N M _ _ _ Na.out Nb.out hkl.out).mono ?_; rintro e w1 ⟨V1, rfl, hV1, g1⟩; obtain ⟨A3, c3, rfl, X1⟩ := hV1.slice; clear hV1; replace R := Lib.hid (R.out.grew g1); replace P := Lib.hid (P.out.grew g1); replace Q := Lib.hid (Q.out.grew g1); replace z0 := Lib.hid (lt_grew z0.out g1); replace z1 := Lib.hid (lt_grew z1.out g1); replace z2 := Lib.hid (lt_grew z2.out g1); replace Na := Lib.hid (Na.out.kept g1.keeps); replace Nb := Lib.hid (Nb.out.kept g1.keeps)) | (go_at_call 190; refine (rmake_any _ _ (N + M) _ _ X1.out hk9.out).mono ?_; rintro e w2 ⟨V2, rfl, hV2, g2⟩; obtain ⟨b4, A4, n4, c4, rfl, X2, -⟩ := hV2.laid; clear hV2; replace R := Lib.hid (R.out.grew g2); replace P := Lib.hid (P.out.grew g2); replace Q := Lib.hid (Q.out.grew g2); replace z0 := Lib.hid (lt_grew z0.out g2); replace z1 := Lib.hid (lt_grew z1.out g2); replace z2 := Lib.hid (lt_grew z2.out g2); replace Na := Lib.hid (Na.out.kept g2.keeps); replace Nb := Lib.hid (Nb.out.kept g2.keeps); replace X1 := Lib.hid (X1.out.kept g2.keeps); obtain ⟨R0, R1, Rf0, Rf1, Rs⟩ := R.out))
    replace G0 := Lib.hid (((G0.out.trans gd.out).trans g1).trans g2)
    clear gd g1 g2 ZP ZQ
    refine gen_then ?_
    intro W9 hW9
    obtain ⟨q0, q1, qK, -, qs, qG⟩ := store2 (o := 0) R0 R1 hW9
    have GE := qG w (by omega) G0.out
    have QK := Lib.hid qK
    clear qK qG hW9 R0 R1
    go_wp2_with fail
    exact bodyPost_ret (v := .agg #[.bool b4, .slice A4 n4 c4]) (by simp [results, Tryz.results230, go_sem, q0, q1]) rfl ⟨_, rfl, by rw [← e1.out]; exact X2.out.kept QK.out, GE⟩
  · obtain rfl : b2 = !b1 := by cases b1 <;> cases b2 <;> simp_all
    clear hbb
    go_enter Tryz.func230, Tryz.ntmps230
    go_wp2_with fail
    refine gen_calls ?_
    intro W0 hW0
    have G0 : Grew w W0 := by rw [hW0]; exact (((Grew.refl w).alloc _).alloc _).alloc _
    have P : Box2 W0 (w.heap.size) 0 (.bool b1) (.slice A1 n1 c1) := by rw [hW0]; exact ⟨by simp [go_sem], by simp [go_sem]⟩
    replace P := Lib.hid P
    have Q : Box2 W0 (w.heap.size + 1) 0 (.bool (!b1)) (.slice A2 n2 c2) := by rw [hW0]; exact ⟨by simp [go_sem], by simp [go_sem]⟩
    replace Q := Lib.hid Q
    have R : Res2 W0 (w.heap.size + 1 + 1) 0 (.bool false) (.slice none 0 0) := by rw [hW0]; exact ⟨by simp [go_sem], by simp [go_sem], by simp [go_sem], by simp [go_sem], by simp⟩
    replace R := Lib.hid R
    have z0 : w.heap.size < W0.heap.size := by rw [hW0]; simp <;> omega
    replace z0 := Lib.hid z0
    have z1 : w.heap.size + 1 < W0.heap.size := by rw [hW0]; simp <;> omega
    replace z1 := Lib.hid z1
    have z2 : w.heap.size + 1 + 1 < W0.heap.size := by rw [hW0]; simp <;> omega
    replace z2 := Lib.hid z2
    clear hW0
    replace Na := Lib.hid (Na.out.kept G0.keeps)
    replace Nb := Lib.hid (Nb.out.kept G0.keeps)
    replace G0 := Lib.hid G0
    refine (rCmp_any _ _ N M _ _ _ Na.out Nb.out hkl.out).mono ?_
    rintro e w1 ⟨rfl, g1⟩
    replace R := Lib.hid (R.out.grew g1)
    replace P := Lib.hid (P.out.grew g1)
    replace Q := Lib.hid (Q.out.grew g1)
    replace z0 := Lib.hid (lt_grew z0.out g1)
    replace z1 := Lib.hid (lt_grew z1.out g1)
    replace z2 := Lib.hid (lt_grew z2.out g1)
    replace Na := Lib.hid (Na.out.kept g1.keeps)
    replace Nb := Lib.hid (Nb.out.kept g1.keeps)
    replace G0 := Lib.hid (G0.out.trans g1)
    clear g1

    rcases Nat.lt_or_ge N M with hlt | hge
    · as_aux_lemma =>
      rw [cmpN_lt hlt]
      have e1 : sgn (!b1) (M - N) = z + y := by rw [sgn_diff_lt b1 hlt, Ez.out, Ey.out]
      replace e1 := Lib.hid e1
      have hle := Lib.hid (Nat.le_of_lt hlt)
      clear hlt
      obtain ⟨P0, P1⟩ := P.out
      obtain ⟨Q0, Q1⟩ := Q.out
      go_wp2_with fail
      clear P0 P1 Q0 Q1
      refine (rSub_yes _ _ M N _ _ _ Nb.out Na.out hkl2.out hle.out).mono ?_
      rintro e w2 ⟨V1, rfl, hV1, g2⟩
      obtain ⟨A3, c3, rfl, X1⟩ := hV1.slice
      clear hV1
      replace R := Lib.hid (R.out.grew g2)
      replace P := Lib.hid (P.out.grew g2)
      replace Q := Lib.hid (Q.out.grew g2)
      replace z0 := Lib.hid (lt_grew z0.out g2)
      replace z1 := Lib.hid (lt_grew z1.out g2)
      replace z2 := Lib.hid (lt_grew z2.out g2)
      replace Na := Lib.hid (Na.out.kept g2.keeps)
      replace Nb := Lib.hid (Nb.out.kept g2.keeps)
      replace G0 := Lib.hid (G0.out.trans g2)
      clear g2
      obtain ⟨P0, P1⟩ := P.out
      obtain ⟨Q0, Q1⟩ := Q.out
      go_wp2_with fail
      clear P0 P1 Q0 Q1
      refine (rmake_any (!b1) _ (M - N) _ _ X1.out kd2.out).mono ?_
      rintro e w3 ⟨V2, rfl, hV2, g3⟩
      obtain ⟨b4, A4, n4, c4, rfl, X2, -⟩ := hV2.laid
      clear hV2
      replace R := Lib.hid (R.out.grew g3)
      replace P := Lib.hid (P.out.grew g3)
      replace Q := Lib.hid (Q.out.grew g3)
      replace z0 := Lib.hid (lt_grew z0.out g3)
      replace z1 := Lib.hid (lt_grew z1.out g3)
      replace z2 := Lib.hid (lt_grew z2.out g3)
      replace Na := Lib.hid (Na.out.kept g3.keeps)
      replace Nb := Lib.hid (Nb.out.kept g3.keeps)
      replace X1 := Lib.hid (X1.out.kept g3.keeps)
      replace G0 := Lib.hid (G0.out.trans g3)
      clear g3
      obtain ⟨R0, R1, Rf0, Rf1, Rs⟩ := R.out
      go_wp2_with fail
      refine gen_post ?_
      intro W9 hW9
      obtain ⟨q0, q1, qK, -, qs, qG⟩ := store2 (o := 0) R0 R1 hW9
      have GE := qG w (by omega) G0.out
      have QK := Lib.hid qK
      clear qK qG hW9 R0 R1
      exact bodyPost_ret (v := .agg #[.bool b4, .slice A4 n4 c4]) (by simp [results, Tryz.results230, go_sem, q0, q1]) rfl ⟨_, rfl, by rw [← e1.out]; exact X2.out.kept QK.out, GE⟩
    · as_aux_lemma =>

      have hc0 : 0 ≤ cmpN N M := by
        unfold cmpN
        rw [if_neg (by omega)]
        split <;> omega
      generalize cmpN N M = cm at *
      have e1 : sgn b1 (N - M) = z + y := by rw [sgn_diff_ge b1 hge, Ez.out, Ey.out]
      replace e1 := Lib.hid e1
      replace hge := Lib.hid hge
      obtain ⟨P0, P1⟩ := P.out
      obtain ⟨Q0, Q1⟩ := Q.out
      go_wp2_with fail
      clear P0 P1 Q0 Q1
      refine (rSub_yes _ _ N M _ _ _ Na.out Nb.out hkl.out hge.out).mono ?_
      rintro e w2 ⟨V1, rfl, hV1, g2⟩
      obtain ⟨A3, c3, rfl, X1⟩ := hV1.slice
      clear hV1
      replace R := Lib.hid (R.out.grew g2)
      replace P := Lib.hid (P.out.grew g2)
      replace Q := Lib.hid (Q.out.grew g2)
      replace z0 := Lib.hid (lt_grew z0.out g2)
      replace z1 := Lib.hid (lt_grew z1.out g2)
      replace z2 := Lib.hid (lt_grew z2.out g2)
      replace Na := Lib.hid (Na.out.kept g2.keeps)
      replace Nb := Lib.hid (Nb.out.kept g2.keeps)
      replace G0 := Lib.hid (G0.out.trans g2)
      clear g2
      obtain ⟨P0, P1⟩ := P.out
      obtain ⟨Q0, Q1⟩ := Q.out
      go_wp2_with fail
      clear P0 P1 Q0 Q1
      refine (rmake_any b1 _ (N - M) _ _ X1.out kd1.out).mono ?_
      rintro e w3 ⟨V2, rfl, hV2, g3⟩
      obtain ⟨b4, A4, n4, c4, rfl, X2, -⟩ := hV2.laid
      clear hV2
      replace R := Lib.hid (R.out.grew g3)
      replace P := Lib.hid (P.out.grew g3)
      replace Q := Lib.hid (Q.out.grew g3)
      replace z0 := Lib.hid (lt_grew z0.out g3)
      replace z1 := Lib.hid (lt_grew z1.out g3)
      replace z2 := Lib.hid (lt_grew z2.out g3)
      replace Na := Lib.hid (Na.out.kept g3.keeps)
      replace Nb := Lib.hid (Nb.out.kept g3.keeps)
      replace X1 := Lib.hid (X1.out.kept g3.keeps)
      replace G0 := Lib.hid (G0.out.trans g3)
      clear g3
      obtain ⟨R0, R1, Rf0, Rf1, Rs⟩ := R.out
      go_wp2_with fail
      refine gen_post ?_
      intro W9 hW9
      obtain ⟨q0, q1, qK, -, qs, qG⟩ := store2 (o := 0) R0 R1 hW9
      have GE := qG w (by omega) G0.out
      have QK := Lib.hid qK
      clear qK qG hW9 R0 R1
      exact bodyPost_ret (v := .agg #[.bool b4, .slice A4 n4 c4]) (by simp [results, Tryz.results230, go_sem, q0, q1]) rfl ⟨_, rfl, by rw [← e1.out]; exact X2.out.kept QK.out, GE⟩

theorem WhlR.len {w : World} {V : Value} {z : Int} {k : Nat} (h : WhlR w V z k) : len 4294967296 z.natAbs ≤ k := by
  obtain ⟨neg, N, n, v, rfl, hn, h1, h2⟩ := h
  have := hn.len_le (by omega)
  rw [← h1, sgn_abs]; omega

set_option maxRecDepth 100000 in
set_option maxHeartbeats 8000000 in
theorem r2sub_any (Va Vb : Value) (z y : Int) (k l : Nat) (w : World) (ha : WhlR w Va z k) (hb : WhlR w Vb y l) (hs : k < 68719476736 ∧ l < 68719476736) :
    Calls Tryz.prog 228 #[Va, Vb] w fun e w' => ∃ V, e = .returned V ∧ Whl w' V (z - y) ∧ Grew w w' := by
  have hyl := hb.len
  obtain ⟨b1, A1, n1, c1, N, rfl, -, -, -⟩ := ha.open
  obtain ⟨b2, A2, n2, c2, M, rfl, -, -, -⟩ := hb.open
  have Ra := Lib.hid ha
  have Rb := Lib.hid hb
  have hl2 := Lib.hid (show l < 137438953472 by omega)
  have hny := Lib.hid (show len 4294967296 (-y).natAbs ≤ l by rw [Int.natAbs_neg]; exact hyl)
  have hs2 := Lib.hid hs
  clear ha hb hyl hs
  go_enter Tryz.func228, Tryz.ntmps228
  go_wp2_with fail
  refine gen_wp ?_
  intro W0 hW0
  have G0 : Grew w W0 := by rw [hW0]; exact (((Grew.refl w).alloc _).alloc _).alloc _
  have P : Box2 W0 (w.heap.size) 0 (.bool b1) (.slice A1 n1 c1) := by rw [hW0]; exact ⟨by simp [go_sem], by simp [go_sem]⟩
  replace P := Lib.hid P
  have Q : Box2 W0 (w.heap.size + 1) 0 (.bool b2) (.slice A2 n2 c2) := by rw [hW0]; exact ⟨by simp [go_sem], by simp [go_sem]⟩
  replace Q := Lib.hid Q
  have R : Res2 W0 (w.heap.size + 1 + 1) 0 (.bool false) (.slice none 0 0) := by rw [hW0]; exact ⟨by simp [go_sem], by simp [go_sem], by simp [go_sem], by simp [go_sem], by simp⟩
  replace R := Lib.hid R
  have z0 : w.heap.size < W0.heap.size := by rw [hW0]; simp <;> omega
  replace z0 := Lib.hid z0
  have z1 : w.heap.size + 1 < W0.heap.size := by rw [hW0]; simp <;> omega
  replace z1 := Lib.hid z1
  have z2 : w.heap.size + 1 + 1 < W0.heap.size := by rw [hW0]; simp <;> omega
  replace z2 := Lib.hid z2
  clear hW0
  replace Ra := Lib.hid (Ra.out.kept G0.keeps)
  replace Rb := Lib.hid (Rb.out.kept G0.keeps)
  replace G0 := Lib.hid G0
  have gd : Grew W0 W0.drew := (Grew.refl W0).drew
  replace R := Lib.hid (R.out.grew gd)
  replace P := Lib.hid (P.out.grew gd)
  replace Q := Lib.hid (Q.out.grew gd)
  replace z0 := Lib.hid (lt_grew z0.out gd)
  replace z1 := Lib.hid (lt_grew z1.out gd)
  replace z2 := Lib.hid (lt_grew z2.out gd)
  replace Ra := Lib.hid (Ra.out.kept gd.keeps)
  replace Rb := Lib.hid (Rb.out.kept gd.keeps)
  replace gd := Lib.hid gd
  have ZP := P
  have ZQ := Q
  go_region_held3 (fun w' => w'.cell? ⟨w.heap.size, 0, none⟩ = some (.bool b1) ∧ w'.cell? ⟨w.heap.size, 1, none⟩ = some (.slice A1 n1 c1) ∧ w'.cell? ⟨w.heap.size + 1, 0, none⟩ = some (.bool b2) ∧ w'.cell? ⟨w.heap.size + 1, 1, none⟩ = some (.slice A2 n2 c2))
    (first | (with_reducible exact ⟨ZP.out.p0, ZP.out.p1, ZQ.out.p0, ZQ.out.p1⟩) | (with_reducible exact ⟨g1.cell ZP.out.p0, g1.cell ZP.out.p1, g1.cell ZQ.out.p0, g1.cell ZQ.out.p1⟩) | (with_reducible exact ⟨(g1.trans g2).cell ZP.out.p0, (g1.trans g2).cell ZP.out.p1, (g1.trans g2).cell ZQ.out.p0, (g1.trans g2).cell ZQ.out.p1⟩) | (with_reducible exact ⟨other2 (o := 0) (by omega) ((g1.trans g2).cell ZP.out.p0), other2 (o := 0) (by omega) ((g1.trans g2).cell ZP.out.p1), other2 (o := 0) (by omega) ((g1.trans g2).cell ZQ.out.p0), other2 (o := 0) (by omega) ((g1.trans g2).cell ZQ.out.p1)⟩))
    (first | (go_at_call 277; refine (r2neg_any _ y l _ Rb.out hl2.out).mono ?_; rintro e w1 ⟨V1, rfl, hV1, g1⟩; obtain ⟨b3, A3, n3, c3, rfl, hX, -⟩ := hV1.laid; have X1 := Lib.hid (hX.out.r hny.out); clear hV1 hX; replace R := Lib.hid (R.out.grew g1); replace P := Lib.hid (P.out.grew g1); replace Q := Lib.hid (Q.out.grew g1); replace z0 := Lib.hid (lt_grew z0.out g1); replace z1 := Lib.hid (lt_grew z1.out g1); replace z2 := Lib.hid (lt_grew z2.out g1); replace Ra := Lib.hid (Ra.out.kept g1.keeps); replace Rb := Lib.hid (Rb.out.kept g1.keeps)) | (go_at_call 230; refine (r2add_any _ _ z (-y) k l _ Ra.out X1.out hs2.out).mono ?_; rintro e w2 ⟨V2, rfl, hV2, g2⟩; obtain ⟨b4, A4, n4, c4, rfl, X2, -⟩ := hV2.laid; clear hV2; replace R := Lib.hid (R.out.grew g2); replace P := Lib.hid (P.out.grew g2); replace Q := Lib.hid (Q.out.grew g2); replace z0 := Lib.hid (lt_grew z0.out g2); replace z1 := Lib.hid (lt_grew z1.out g2); replace z2 := Lib.hid (lt_grew z2.out g2); replace Ra := Lib.hid (Ra.out.kept g2.keeps); replace Rb := Lib.hid (Rb.out.kept g2.keeps); replace X1 := Lib.hid (X1.out.kept g2.keeps); obtain ⟨R0, R1, Rf0, Rf1, Rs⟩ := R.out))
  replace G0 := Lib.hid (((G0.out.trans gd.out).trans g1).trans g2)
  clear gd g1 g2 ZP ZQ
  refine gen_then ?_
  intro W9 hW9
  obtain ⟨q0, q1, qK, -, qs, qG⟩ := store2 (o := 0) R0 R1 hW9
  have GE := qG w (by omega) G0.out
  have QK := Lib.hid qK
  clear qK qG hW9 R0 R1
  go_wp2_with fail
  exact bodyPost_ret (v := .agg #[.bool b4, .slice A4 n4 c4]) (by simp [results, Tryz.results228, go_sem, q0, q1]) rfl ⟨_, rfl, by rw [Int.sub_eq_add_neg]; exact X2.out.kept QK.out, GE⟩

set_option maxRecDepth 100000 in
set_option maxHeartbeats 8000000 in
theorem r2cmp_any (Va Vb : Value) (z y : Int) (k l : Nat) (w : World) (ha : WhlR w Va z k) (hb : WhlR w Vb y l) (hs : k < 68719476735 ∧ l < 68719476735) :
    Calls Tryz.prog 168 #[Va, Vb] w fun e w' => e = .returned (.int .i64 (cmpZ z y)) ∧ Grew w w' := by
  have hzl := ha.len
  have hyl := hb.len
  have hd : len 4294967296 (z - y).natAbs ≤ 68719476736 := by
    rw [Int.sub_eq_add_neg]
    exact len_addz _ _ 68719476735 (by omega) (by rw [Int.natAbs_neg]; omega)
  obtain ⟨b1, A1, n1, c1, N, rfl, -, -, -⟩ := ha.open
  obtain ⟨b2, A2, n2, c2, M, rfl, -, -, -⟩ := hb.open
  have Ra := Lib.hid ha
  have Rb := Lib.hid hb
  clear ha hb hyl hzl
  go_enter Tryz.func168, Tryz.ntmps168
  go_wp2_with fail
  refine gen_calls ?_
  intro W0 hW0
  have G0 : Grew w W0 := by rw [hW0]; exact ((Grew.refl w).alloc _).alloc _
  have P : Box2 W0 (w.heap.size) 0 (.bool b1) (.slice A1 n1 c1) := by rw [hW0]; exact ⟨by simp [go_sem], by simp [go_sem]⟩
  replace P := Lib.hid P
  have Q : Box2 W0 (w.heap.size + 1) 0 (.bool b2) (.slice A2 n2 c2) := by rw [hW0]; exact ⟨by simp [go_sem], by simp [go_sem]⟩
  replace Q := Lib.hid Q
  have z0 : w.heap.size < W0.heap.size := by rw [hW0]; simp <;> omega
  replace z0 := Lib.hid z0
  have z1 : w.heap.size + 1 < W0.heap.size := by rw [hW0]; simp <;> omega
  replace z1 := Lib.hid z1
  clear hW0
  replace Ra := Lib.hid (Ra.out.kept G0.keeps)
  replace Rb := Lib.hid (Rb.out.kept G0.keeps)
  replace G0 := Lib.hid G0
  refine (r2sub_any _ _ z y k l _ Ra.out Rb.out (by omega)).mono ?_
  rintro e w1 ⟨V1, rfl, hV1, g1⟩
  obtain ⟨b3, A3, n3, c3, rfl, hX, -⟩ := hV1.laid
  have X1 := Lib.hid (hX.out.r hd)
  clear hV1 hX
  replace P := Lib.hid (P.out.grew g1)
  replace Q := Lib.hid (Q.out.grew g1)
  replace z0 := Lib.hid (lt_grew z0.out g1)
  replace z1 := Lib.hid (lt_grew z1.out g1)
  replace Ra := Lib.hid (Ra.out.kept g1.keeps)
  replace Rb := Lib.hid (Rb.out.kept g1.keeps)
  replace G0 := Lib.hid (G0.out.trans g1)
  clear g1
  go_wp2_with fail
  refine (r2sign_any _ (z - y) _ _ X1.out (by omega)).mono ?_
  rintro e w2 ⟨rfl, g2⟩
  replace P := Lib.hid (P.out.grew g2)
  replace Q := Lib.hid (Q.out.grew g2)
  replace z0 := Lib.hid (lt_grew z0.out g2)
  replace z1 := Lib.hid (lt_grew z1.out g2)
  replace Ra := Lib.hid (Ra.out.kept g2.keeps)
  replace Rb := Lib.hid (Rb.out.kept g2.keeps)
  replace X1 := Lib.hid (X1.out.kept g2.keeps)
  replace G0 := Lib.hid (G0.out.trans g2)
  clear g2
  go_wp2_with fail
  go_ret
  exact ⟨by rw [cmpZ_sub]; rfl, G0.out⟩
end Go.Proofs.YtngbcbncllfblaaGreat
namespace Go.Proofs.YtngbcbncllfblaaGreat
open Go.RowKit

theorem len_word {N : Nat} (h : N < 18446744073709551616) : len 4294967296 N ≤ 2 := len_le (by omega) (by simpa using h)

set_option maxRecDepth 100000 in
set_option maxHeartbeats 4000000 in
theorem r2of_pos (N : Nat) (w : World) (h : N < 9223372036854775808) :
    Calls Tryz.prog 137 #[.int .i64 (N : Int)] w fun e w' => ∃ V, e = .returned V ∧ Whl w' V (sgn false N) ∧ Grew w w' := by
  have hb : (N : Int) ≤ 9223372036854775807 := by omega
  have hl := Lib.hid (show len 4294967296 N < 137438953472 by have := len_word (N := N) (by omega); omega)
  go_enter Tryz.func137, Tryz.ntmps137
  go_wp2_with fail
  refine gen_calls ?_
  intro W0 hW0
  have G0 : Grew w W0 := by rw [hW0]; exact (Grew.refl w).alloc _
  have R : Res2 W0 (w.heap.size) 0 (.bool false) (.slice none 0 0) := by rw [hW0]; exact ⟨by simp [go_sem], by simp [go_sem], by simp [go_sem], by simp [go_sem], by simp⟩
  replace R := Lib.hid R
  have z0 : w.heap.size < W0.heap.size := by rw [hW0]; simp <;> omega
  replace z0 := Lib.hid z0
  clear hW0
  replace G0 := Lib.hid G0
  refine (r1of_any _ N _ rfl (by omega)).mono ?_
  rintro e w1 ⟨V1, rfl, hV1, g1⟩
  obtain ⟨A3, c3, rfl, X1⟩ := hV1.slice
  clear hV1
  replace R := Lib.hid (R.out.grew g1)
  replace z0 := Lib.hid (lt_grew z0.out g1)
  replace G0 := Lib.hid (G0.out.trans g1)
  clear g1
  go_wp2_with fail
  refine (rmake_any _ _ N _ _ X1.out hl.out).mono ?_
  rintro e w2 ⟨V2, rfl, hV2, g2⟩
  obtain ⟨b4, A4, n4, c4, rfl, X2, -⟩ := hV2.laid
  clear hV2
  replace R := Lib.hid (R.out.grew g2)
  replace z0 := Lib.hid (lt_grew z0.out g2)
  replace X1 := Lib.hid (X1.out.kept g2.keeps)
  replace G0 := Lib.hid (G0.out.trans g2)
  clear g2
  obtain ⟨R0, R1, Rf0, Rf1, Rs⟩ := R.out
  go_wp2_with fail
  refine gen_post ?_
  intro W9 hW9
  obtain ⟨q0, q1, qK, -, qs, qG⟩ := store2 (o := 0) R0 R1 hW9
  have GE := qG w (by omega) G0.out
  have QK := Lib.hid qK
  clear qK qG hW9 R0 R1
  exact bodyPost_ret (v := .agg #[.bool b4, .slice A4 n4 c4]) (by simp [results, Tryz.results137, go_sem, q0, q1]) rfl ⟨_, rfl, X2.out.kept QK.out, GE⟩

set_option maxRecDepth 100000 in
set_option maxHeartbeats 4000000 in
theorem r2of_neg (x : Int) (K : Nat) (w : World) (h : K < 9223372036854775808) (hx : x = -(K : Int) - 1) :
    Calls Tryz.prog 137 #[.int .i64 x] w fun e w' => ∃ V, e = .returned V ∧ Whl w' V (sgn true (K + 1)) ∧ Grew w w' := by
  have q0 : x < 0 := by omega
  have q1 : -9223372036854775808 ≤ x := by omega
  have hl1 := Lib.hid (show len 4294967296 K < 274877906944 ∧ 1 < 274877906944 by have := len_word (N := K) (by omega); omega)
  have hl := Lib.hid (show len 4294967296 (K + 1) < 137438953472 by have := len_word (N := K + 1) (by omega); omega)
  have HX := Lib.hid hx
  clear hx
  go_enter Tryz.func137, Tryz.ntmps137
  go_wp2_with fail
  refine gen_calls ?_
  intro W0 hW0
  have G0 : Grew w W0 := by rw [hW0]; exact (Grew.refl w).alloc _
  have R : Res2 W0 (w.heap.size) 0 (.bool false) (.slice none 0 0) := by rw [hW0]; exact ⟨by simp [go_sem], by simp [go_sem], by simp [go_sem], by simp [go_sem], by simp⟩
  replace R := Lib.hid R
  have z0 : w.heap.size < W0.heap.size := by rw [hW0]; simp <;> omega
  replace z0 := Lib.hid z0
  clear hW0
  replace G0 := Lib.hid G0
  refine (r1of_any _ K _ (by have := HX.out; omega) (by omega)).mono ?_
  rintro e w1 ⟨V1, rfl, hV1, g1⟩
  obtain ⟨A3, c3, rfl, X1⟩ := hV1.slice
  clear hV1
  replace R := Lib.hid (R.out.grew g1)
  replace z0 := Lib.hid (lt_grew z0.out g1)
  replace G0 := Lib.hid (G0.out.trans g1)
  clear g1
  go_wp2_with fail
  refine gen_calls ?_
  intro W1 hW1
  have gl : Grew w1 W1 := by rw [hW1]; exact (Grew.refl _).alloc _
  have y1 := Lib.hid (R.out).2.2.2.2
  replace R := Lib.hid (R.out.grew gl)
  replace z0 := Lib.hid (lt_grew z0.out gl)
  replace X1 := Lib.hid (X1.out.kept gl.keeps)
  have X5 : Num 4294967296 .u32 W1 (.slice (some ⟨w1.heap.size, 0, none⟩) 1 1) 1 1 := by rw [hW1]; exact num_one _ _
  replace X5 := Lib.hid X5
  clear hW1
  replace G0 := Lib.hid (G0.out.trans gl)
  clear gl
  refine (rnadd_any _ _ K 1 _ _ _ X1.out X5.out hl1.out).mono ?_
  rintro e w2 ⟨V3, rfl, hV3, g2⟩
  obtain ⟨A5, c5, rfl, X3⟩ := hV3.slice
  clear hV3
  replace R := Lib.hid (R.out.grew g2)
  replace z0 := Lib.hid (lt_grew z0.out g2)
  replace X1 := Lib.hid (X1.out.kept g2.keeps)
  replace X5 := Lib.hid (X5.out.kept g2.keeps)
  replace G0 := Lib.hid (G0.out.trans g2)
  clear g2
  go_wp2_with fail
  refine (rmake_any _ _ (K + 1) _ _ X3.out hl.out).mono ?_
  rintro e w3 ⟨V2, rfl, hV2, g3⟩
  obtain ⟨b4, A4, n4, c4, rfl, X2, -⟩ := hV2.laid
  clear hV2
  replace R := Lib.hid (R.out.grew g3)
  replace z0 := Lib.hid (lt_grew z0.out g3)
  replace X1 := Lib.hid (X1.out.kept g3.keeps)
  replace X5 := Lib.hid (X5.out.kept g3.keeps)
  replace X3 := Lib.hid (X3.out.kept g3.keeps)
  replace G0 := Lib.hid (G0.out.trans g3)
  clear g3
  obtain ⟨R0, R1, Rf0, Rf1, Rs⟩ := R.out
  go_wp2_with fail
  refine gen_post ?_
  intro W9 hW9
  obtain ⟨q0, q1, qK, -, qs, qG⟩ := store2 (o := 0) R0 R1 hW9
  have GE := qG w (by omega) G0.out
  have QK := Lib.hid qK
  clear qK qG hW9 R0 R1
  exact bodyPost_ret (v := .agg #[.bool b4, .slice A4 n4 c4]) (by simp [results, Tryz.results137, go_sem, q0, q1]) rfl ⟨_, rfl, X2.out.kept QK.out, GE⟩

theorem r2of_any (x : Int) (w : World) (h0 : -9223372036854775808 ≤ x) (h1 : x ≤ 9223372036854775807) :
    Calls Tryz.prog 137 #[.int .i64 x] w fun e w' => ∃ V, e = .returned V ∧ Whl w' V x ∧ Grew w w' := by
  rcases Int.lt_or_le x 0 with h | h
  · obtain ⟨K, hK⟩ : ∃ K : Nat, x = -(K : Int) - 1 := ⟨(-x - 1).toNat, by omega⟩
    have := r2of_neg x K w (by omega) hK
    rw [show sgn true (K + 1) = x from by unfold sgn; simp; omega] at this
    exact this
  · obtain ⟨N, rfl⟩ := Int.eq_ofNat_of_zero_le h
    exact r2of_pos N w (by omega)
end Go.Proofs.YtngbcbncllfblaaGreat
