/- r01.Same, r02.Same, r04.Same, r05.Same at what is the same. Condition: what comes in reads. r04.worth, up. Condition: what comes in reads. r04.up, Reduce. Condition: what comes in reads. r04.Int. Condition: an int. -/
import Derived.Test.YtmommicmblfibaaGreatJRowP
import Derived.Test.YtmommicmblfibaaGreatJGrid2
namespace Go.Proofs.YtmommicmblfibaaGreat
open Go.RowKit

set_option maxRecDepth 100000 in
set_option maxHeartbeats 4000000 in
theorem r1same_yes (A C : Option Addr) (N n c d : Nat) (w : World) (ha : Num 4294967296 .u32 w (.slice A n c) N n) (hb : Num 4294967296 .u32 w (.slice C n d) N n) :
    Calls Tryz.prog 69 #[.slice A n c, .slice C n d] w fun e w' => e = .returned (.bool true) ∧ Grew w w' := by
  obtain ⟨A', c', e1, a1, a2, a3, a4⟩ := ha
  obtain ⟨C', d', e2, b1, b2, b3, b4⟩ := hb
  injection e1 with i1 i2 i3
  injection e2 with j1 j2 j3
  subst i1; subst i3; subst j1; subst j3
  have hm : n ≤ 9223372036854775807 := by omega
  clear i2 j2 a3 b3
  go_enter Tryz.func69, Tryz.ntmps69
  go_wp2_with fail
  go_loopg [5] n (fun gk i wr => ∃ j : Nat, gk + j = n ∧ i = .int .i64 j ∧ Grew w wr)
  case atStart => exact ⟨0, rfl, rfl, Grew.refl _⟩
  case round =>
    obtain ⟨j, hj, rfl, hG⟩ := hrel
    by_cases hlt : j < n
    · obtain ⟨ba, oa, rfl, hca⟩ := a4 (by omega)
      obtain ⟨bb, ob, rfl, hcb⟩ := b4 (by omega)
      have hcx := hG.cell (hca j hlt)
      have hcy := hG.cell (hcb j hlt)
      clear hca hcb a4 b4
      generalize dig 4294967296 N j = x at *
      go_wp2_with fail
      go_quiet (fail)
      go_wp2
      go_roundg (gk - 1)
      case rel => exact ⟨j + 1, by omega, by go_num, by first | exact hG.drewN _ | exact (hG.drewN _).drewN _⟩
      case measure => omega
    · obtain rfl : j = n := by omega
      go_wp2_with fail
      go_ret
      exact ⟨rfl, hG⟩

set_option maxRecDepth 100000 in
set_option maxHeartbeats 4000000 in
theorem r2same_yes (b : Bool) (A C : Option Addr) (N n c d : Nat) (w : World) (ha : Num 4294967296 .u32 w (.slice A n c) N n) (hb : Num 4294967296 .u32 w (.slice C n d) N n) :
    Calls Tryz.prog 68 #[.agg #[.bool b, .slice A n c], .agg #[.bool b, .slice C n d]] w fun e w' => e = .returned (.bool true) ∧ Grew w w' := by
  have Fa := Lib.hid ha
  have Fb := Lib.hid hb
  clear ha hb
  go_enter Tryz.func68, Tryz.ntmps68
  go_wp2_with fail
  refine gen_calls ?_
  intro W0 hW0
  have G0 : Grew w W0 := by rw [hW0]; exact ((Grew.refl w).alloc _).alloc _
  have P : Box2 W0 (w.heap.size) 0 (.bool b) (.slice A n c) := by rw [hW0]; exact ⟨by simp [go_sem], by simp [go_sem]⟩
  replace P := Lib.hid P
  have Q : Box2 W0 (w.heap.size + 1) 0 (.bool b) (.slice C n d) := by rw [hW0]; exact ⟨by simp [go_sem], by simp [go_sem]⟩
  replace Q := Lib.hid Q
  have z0 : w.heap.size < W0.heap.size := by rw [hW0]; simp <;> omega
  replace z0 := Lib.hid z0
  have z1 : w.heap.size + 1 < W0.heap.size := by rw [hW0]; simp <;> omega
  replace z1 := Lib.hid z1
  clear hW0
  replace Fa := Lib.hid (Fa.out.kept G0.keeps)
  replace Fb := Lib.hid (Fb.out.kept G0.keeps)
  replace G0 := Lib.hid G0
  refine (r1same_yes A C N n c d _ Fa.out Fb.out).mono ?_
  rintro e w1 ⟨rfl, g1⟩
  replace P := Lib.hid (P.out.grew g1)
  replace Q := Lib.hid (Q.out.grew g1)
  replace z0 := Lib.hid (lt_grew z0.out g1)
  replace z1 := Lib.hid (lt_grew z1.out g1)
  replace Fa := Lib.hid (Fa.out.kept g1.keeps)
  replace Fb := Lib.hid (Fb.out.kept g1.keeps)
  replace G0 := Lib.hid (G0.out.trans g1)
  clear g1
  go_wp2_with fail
  go_ret
  exact ⟨rfl, G0.out⟩

/-- Two answers that are one fraction: the same signs and lengths, and both read. -/
theorem FracC.both {w : World} {V V' : Value} {q : Rat} (h : FracC w V q) (h' : FracC w V' q) : ∃ b A A' n c c' C C' m d d' N D, V = .agg #[.bool b, .slice A n c, .slice C m d] ∧ V' = .agg #[.bool b, .slice A' n c', .slice C' m d'] ∧
    Hid (Num 4294967296 .u32 w (.slice A n c) N n) ∧ Hid (Num 4294967296 .u32 w (.slice A' n c') N n) ∧ Hid (Num 4294967296 .u32 w (.slice C m d) D m) ∧ Hid (Num 4294967296 .u32 w (.slice C' m d') D m) := by
  obtain ⟨va, vd, rfl, h1, h2, -⟩ := h
  obtain ⟨va', vd', rfl, h1', h2', -⟩ := h'
  obtain ⟨A, c, rfl, -⟩ := id h1
  obtain ⟨C, d, rfl, -⟩ := id h2
  obtain ⟨A', c', rfl, -⟩ := id h1'
  obtain ⟨C', d', rfl, -⟩ := id h2'
  exact ⟨_, A, A', _, c, c', C, C', _, d, d', _, _, rfl, rfl, h1, h1', h2, h2'⟩

set_option maxRecDepth 100000 in
set_option maxHeartbeats 4000000 in
theorem r4same_yes (Va Vb : Value) (q : Rat) (w : World) (ha : FracC w Va q) (hb : FracC w Vb q) :
    Calls Tryz.prog 39 #[Va, Vb] w fun e w' => e = .returned (.bool true) ∧ Grew w w' := by
  obtain ⟨b1, A1, A2, n1, c1, c2, C1, C2, m1, d1, d2, N, D, rfl, rfl, Fa, Fb, Fc, Fd⟩ := ha.both hb
  clear ha hb
  go_enter Tryz.func39, Tryz.ntmps39
  go_wp2_with fail
  refine gen_calls ?_
  intro W0 hW0
  have G0 : Grew w W0 := by rw [hW0]; exact ((Grew.refl w).alloc _).alloc _
  have P : Box3 W0 (w.heap.size) 0 (.bool b1) (.slice A1 n1 c1) (.slice C1 m1 d1) := by rw [hW0]; exact ⟨by simp [go_sem], by simp [go_sem], by simp [go_sem]⟩
  replace P := Lib.hid P
  have Q : Box3 W0 (w.heap.size + 1) 0 (.bool b1) (.slice A2 n1 c2) (.slice C2 m1 d2) := by rw [hW0]; exact ⟨by simp [go_sem], by simp [go_sem], by simp [go_sem]⟩
  replace Q := Lib.hid Q
  have z0 : w.heap.size < W0.heap.size := by rw [hW0]; simp <;> omega
  replace z0 := Lib.hid z0
  have z1 : w.heap.size + 1 < W0.heap.size := by rw [hW0]; simp <;> omega
  replace z1 := Lib.hid z1
  clear hW0
  replace Fa := Lib.hid (Fa.out.kept G0.keeps)
  replace Fb := Lib.hid (Fb.out.kept G0.keeps)
  replace Fc := Lib.hid (Fc.out.kept G0.keeps)
  replace Fd := Lib.hid (Fd.out.kept G0.keeps)
  replace G0 := Lib.hid G0
  refine (r2same_yes b1 A1 A2 N n1 c1 c2 _ Fa.out Fb.out).mono ?_
  rintro e w1 ⟨rfl, g1⟩
  replace P := Lib.hid (P.out.grew g1)
  replace Q := Lib.hid (Q.out.grew g1)
  replace z0 := Lib.hid (lt_grew z0.out g1)
  replace z1 := Lib.hid (lt_grew z1.out g1)
  replace Fa := Lib.hid (Fa.out.kept g1.keeps)
  replace Fb := Lib.hid (Fb.out.kept g1.keeps)
  replace Fc := Lib.hid (Fc.out.kept g1.keeps)
  replace Fd := Lib.hid (Fd.out.kept g1.keeps)
  replace G0 := Lib.hid (G0.out.trans g1)
  clear g1
  obtain ⟨P0, P1, P2⟩ := P.out
  obtain ⟨Q0, Q1, Q2⟩ := Q.out
  go_wp2_with fail
  clear P0 P1 P2 Q0 Q1 Q2
  refine (r1same_yes C1 C2 D m1 d1 d2 _ Fc.out Fd.out).mono ?_
  rintro e w2 ⟨rfl, g2⟩
  replace P := Lib.hid (P.out.grew g2)
  replace Q := Lib.hid (Q.out.grew g2)
  replace z0 := Lib.hid (lt_grew z0.out g2)
  replace z1 := Lib.hid (lt_grew z1.out g2)
  replace Fa := Lib.hid (Fa.out.kept g2.keeps)
  replace Fb := Lib.hid (Fb.out.kept g2.keeps)
  replace Fc := Lib.hid (Fc.out.kept g2.keeps)
  replace Fd := Lib.hid (Fd.out.kept g2.keeps)
  replace G0 := Lib.hid (G0.out.trans g2)
  clear g2
  go_wp2_with fail
  go_ret
  exact ⟨rfl, G0.out⟩

set_option maxRecDepth 100000 in
set_option maxHeartbeats 4000000 in
theorem r5same_yes (Va Vb : Value) (x y : Rat) (w : World) (ha : SpotC w Va x y) (hb : SpotC w Vb x y) :
    Calls Tryz.prog 22 #[Va, Vb] w fun e w' => e = .returned (.bool true) ∧ Grew w w' := by
  obtain ⟨b1, A1, n1, c1, C1, m1, d1, b2, A2, n2, c2, C2, m2, d2, rfl, Fa, Fb, -⟩ := ha.laid
  obtain ⟨b3, A3, n3, c3, C3, m3, d3, b4, A4, n4, c4, C4, m4, d4, rfl, Fc, Fd, -⟩ := hb.laid
  clear ha hb
  go_enter Tryz.func22, Tryz.ntmps22
  go_wp2_with fail
  refine gen_calls ?_
  intro W0 hW0
  have G0 : Grew w W0 := by rw [hW0]; exact ((Grew.refl w).alloc _).alloc _
  have P : Box3 W0 (w.heap.size) 0 (.bool b1) (.slice A1 n1 c1) (.slice C1 m1 d1) := by rw [hW0]; exact ⟨by simp [go_sem], by simp [go_sem], by simp [go_sem]⟩
  replace P := Lib.hid P
  have Py : Box3 W0 (w.heap.size) 3 (.bool b2) (.slice A2 n2 c2) (.slice C2 m2 d2) := by rw [hW0]; exact ⟨by simp [go_sem], by simp [go_sem], by simp [go_sem]⟩
  replace Py := Lib.hid Py
  have Q : Box3 W0 (w.heap.size + 1) 0 (.bool b3) (.slice A3 n3 c3) (.slice C3 m3 d3) := by rw [hW0]; exact ⟨by simp [go_sem], by simp [go_sem], by simp [go_sem]⟩
  replace Q := Lib.hid Q
  have Qy : Box3 W0 (w.heap.size + 1) 3 (.bool b4) (.slice A4 n4 c4) (.slice C4 m4 d4) := by rw [hW0]; exact ⟨by simp [go_sem], by simp [go_sem], by simp [go_sem]⟩
  replace Qy := Lib.hid Qy
  have z0 : w.heap.size < W0.heap.size := by rw [hW0]; simp <;> omega
  replace z0 := Lib.hid z0
  have z1 : w.heap.size + 1 < W0.heap.size := by rw [hW0]; simp <;> omega
  replace z1 := Lib.hid z1
  clear hW0
  replace Fa := Lib.hid (Fa.out.kept G0.keeps)
  replace Fb := Lib.hid (Fb.out.kept G0.keeps)
  replace Fc := Lib.hid (Fc.out.kept G0.keeps)
  replace Fd := Lib.hid (Fd.out.kept G0.keeps)
  replace G0 := Lib.hid G0
  refine (r4same_yes _ _ x _ Fa.out Fc.out).mono ?_
  rintro e w1 ⟨rfl, g1⟩
  replace P := Lib.hid (P.out.grew g1)
  replace Py := Lib.hid (Py.out.grew g1)
  replace Q := Lib.hid (Q.out.grew g1)
  replace Qy := Lib.hid (Qy.out.grew g1)
  replace z0 := Lib.hid (lt_grew z0.out g1)
  replace z1 := Lib.hid (lt_grew z1.out g1)
  replace Fa := Lib.hid (Fa.out.kept g1.keeps)
  replace Fb := Lib.hid (Fb.out.kept g1.keeps)
  replace Fc := Lib.hid (Fc.out.kept g1.keeps)
  replace Fd := Lib.hid (Fd.out.kept g1.keeps)
  replace G0 := Lib.hid (G0.out.trans g1)
  clear g1
  obtain ⟨P0, P1, P2⟩ := P.out
  obtain ⟨Py0, Py1, Py2⟩ := Py.out
  obtain ⟨Q0, Q1, Q2⟩ := Q.out
  obtain ⟨Qy0, Qy1, Qy2⟩ := Qy.out
  go_wp2_with fail
  clear P0 P1 P2 Py0 Py1 Py2 Q0 Q1 Q2 Qy0 Qy1 Qy2
  refine (r4same_yes _ _ y _ Fb.out Fd.out).mono ?_
  rintro e w2 ⟨rfl, g2⟩
  replace P := Lib.hid (P.out.grew g2)
  replace Py := Lib.hid (Py.out.grew g2)
  replace Q := Lib.hid (Q.out.grew g2)
  replace Qy := Lib.hid (Qy.out.grew g2)
  replace z0 := Lib.hid (lt_grew z0.out g2)
  replace z1 := Lib.hid (lt_grew z1.out g2)
  replace Fa := Lib.hid (Fa.out.kept g2.keeps)
  replace Fb := Lib.hid (Fb.out.kept g2.keeps)
  replace Fc := Lib.hid (Fc.out.kept g2.keeps)
  replace Fd := Lib.hid (Fd.out.kept g2.keeps)
  replace G0 := Lib.hid (G0.out.trans g2)
  clear g2
  go_wp2_with fail
  go_ret
  exact ⟨rfl, G0.out⟩
end Go.Proofs.YtmommicmblfibaaGreat
namespace Go.Proofs.YtmommicmblfibaaGreat
open Go.RowKit

/-- A fraction as it comes in whose lower part is not 0. -/
def FracP (w : World) (V : Value) (q : Rat) (k : Nat) : Prop :=
  ∃ neg N D n m va vd, V = .agg #[.bool neg, va, vd] ∧ Num 4294967296 .u32 w va N n ∧ Num 4294967296 .u32 w vd D m ∧ mkRat (sgn neg N) D = q ∧ n ≤ k ∧ m ≤ k ∧ D ≠ 0

end Go.Proofs.YtmommicmblfibaaGreat
namespace Go.Proofs.YtmommicmblfibaaGreat
open Go.RowKit

end Go.Proofs.YtmommicmblfibaaGreat
namespace Go.Proofs.YtmommicmblfibaaGreat
open Go.RowKit

end Go.Proofs.YtmommicmblfibaaGreat
