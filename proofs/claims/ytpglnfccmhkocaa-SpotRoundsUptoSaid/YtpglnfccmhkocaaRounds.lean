/- SpotRounds, the walk. Condition: what comes in reads; fewer than 2^28 words. -/
import Derived.Test.YtpglnfccmhkocaaRoundsP
namespace Go.Proofs.Ytpglnfccmhkocaa
open Go.RowKit

set_option maxRecDepth 100000 in
set_option maxHeartbeats 8000000 in
theorem rounds_any (Va Vb Vc : Value) (ax ay bx b_y cx cy : Rat) (k : Nat) (w : World) (ha : SpotV w Va ax ay k) (hb : SpotV w Vb bx b_y k) (hc : SpotV w Vc cx cy k) (hk : 1 ≤ k) (hs : k < 268435456) :
    Calls Try.prog 4 #[Va, Vb, Vc] w fun e w' => e = .returned (.bool true) ∧ Grew w w' := by
  obtain ⟨b1, A1, n1, c1, C1, m1, d1, b2, A2, n2, c2, C2, m2, d2, rfl, Fa, Fb, Sa⟩ := ha.laid
  obtain ⟨b3, A3, n3, c3, C3, m3, d3, b4, A4, n4, c4, C4, m4, d4, rfl, Fc, Fd, Sb⟩ := hb.laid
  obtain ⟨b5, A5, n5, c5, C5, m5, d5, b6, A6, n6, c6, C6, m6, d6, rfl, -, -, Sc⟩ := hc.laid
  have mq1 := Lib.hid (((Fa.out.qb hk).add (Fc.out.qb hk)).mul QB_half)
  have mq2 := Lib.hid (((Fb.out.qb hk).add (Fd.out.qb hk)).mul QB_half)
  have hK : 1 ≤ k + k + 1 + 1 := by omega
  have hKs : k + k + 1 + 1 < 1073741824 := by omega
  have hks : k < 1073741824 := by omega
  have La := Lib.hid (Sa.out.mono (l := k + k + 1 + 1) (by omega))
  have Lb := Lib.hid (Sb.out.mono (l := k + k + 1 + 1) (by omega))
  have t1 := turnQ_rot ax ay bx b_y cx cy
  have t2 := turnQ_rev ax ay bx b_y cx cy
  have t3 := turnQ_mid ax ay bx b_y
  have t4 := onQ_mid ax ay bx b_y
  have t5 := onQ_a ax ay bx b_y
  have t6 := onQ_b ax ay bx b_y
  have tb := sgQ_bd ((bx - ax) * (cy - ay) - (b_y - ay) * (cx - ax))
  rw [← turnQ_eq] at tb
  obtain ⟨tb1, tb2⟩ := tb
  generalize hn : turnQ ax ay bx b_y cx cy = n at *
  replace hn := Lib.hid hn
  replace t1 := Lib.hid t1
  replace t2 := Lib.hid t2
  replace t3 := Lib.hid t3
  replace t4 := Lib.hid t4
  replace t5 := Lib.hid t5
  replace t6 := Lib.hid t6
  clear ha hb hc Fa Fb Fc Fd
  go_enter Try.func4, Try.ntmps4
  go_wp2_with fail
  refine gen_calls ?_
  intro W0 hW0
  have G0 : Grew w W0 := by rw [hW0]; exact (((Grew.refl w).alloc _).alloc _).alloc _
  have P : Box3 W0 (w.heap.size) 0 (.bool b1) (.slice A1 n1 c1) (.slice C1 m1 d1) := by rw [hW0]; exact ⟨by simp [go_sem], by simp [go_sem], by simp [go_sem]⟩
  replace P := Lib.hid P
  have Py : Box3 W0 (w.heap.size) 3 (.bool b2) (.slice A2 n2 c2) (.slice C2 m2 d2) := by rw [hW0]; exact ⟨by simp [go_sem], by simp [go_sem], by simp [go_sem]⟩
  replace Py := Lib.hid Py
  have Q : Box3 W0 (w.heap.size + 1) 0 (.bool b3) (.slice A3 n3 c3) (.slice C3 m3 d3) := by rw [hW0]; exact ⟨by simp [go_sem], by simp [go_sem], by simp [go_sem]⟩
  replace Q := Lib.hid Q
  have Qy : Box3 W0 (w.heap.size + 1) 3 (.bool b4) (.slice A4 n4 c4) (.slice C4 m4 d4) := by rw [hW0]; exact ⟨by simp [go_sem], by simp [go_sem], by simp [go_sem]⟩
  replace Qy := Lib.hid Qy
  have S : Box3 W0 (w.heap.size + 1 + 1) 0 (.bool b5) (.slice A5 n5 c5) (.slice C5 m5 d5) := by rw [hW0]; exact ⟨by simp [go_sem], by simp [go_sem], by simp [go_sem]⟩
  replace S := Lib.hid S
  have Sy : Box3 W0 (w.heap.size + 1 + 1) 3 (.bool b6) (.slice A6 n6 c6) (.slice C6 m6 d6) := by rw [hW0]; exact ⟨by simp [go_sem], by simp [go_sem], by simp [go_sem]⟩
  replace Sy := Lib.hid Sy
  have z0 : w.heap.size < W0.heap.size := by rw [hW0]; simp <;> omega
  replace z0 := Lib.hid z0
  have z1 : w.heap.size + 1 < W0.heap.size := by rw [hW0]; simp <;> omega
  replace z1 := Lib.hid z1
  have z2 : w.heap.size + 1 + 1 < W0.heap.size := by rw [hW0]; simp <;> omega
  replace z2 := Lib.hid z2
  clear hW0
  replace Sa := Lib.hid (Sa.out.kept G0.keeps)
  replace Sb := Lib.hid (Sb.out.kept G0.keeps)
  replace Sc := Lib.hid (Sc.out.kept G0.keeps)
  replace La := Lib.hid (La.out.kept G0.keeps)
  replace Lb := Lib.hid (Lb.out.kept G0.keeps)
  replace G0 := Lib.hid G0
  refine (turn_any _ _ _ ax ay bx b_y cx cy k _ Sa.out Sb.out Sc.out hk hks).mono ?_
  rintro e w1 ⟨rfl, g1⟩
  replace P := Lib.hid (P.out.grew g1)
  replace Py := Lib.hid (Py.out.grew g1)
  replace Q := Lib.hid (Q.out.grew g1)
  replace Qy := Lib.hid (Qy.out.grew g1)
  replace S := Lib.hid (S.out.grew g1)
  replace Sy := Lib.hid (Sy.out.grew g1)
  replace z0 := Lib.hid (lt_grew z0.out g1)
  replace z1 := Lib.hid (lt_grew z1.out g1)
  replace z2 := Lib.hid (lt_grew z2.out g1)
  replace Sa := Lib.hid (Sa.out.kept g1.keeps)
  replace Sb := Lib.hid (Sb.out.kept g1.keeps)
  replace Sc := Lib.hid (Sc.out.kept g1.keeps)
  replace La := Lib.hid (La.out.kept g1.keeps)
  replace Lb := Lib.hid (Lb.out.kept g1.keeps)
  replace G0 := Lib.hid (G0.out.trans g1)
  clear g1
  rw [show cmpQ ((bx - ax) * (cy - ay)) ((b_y - ay) * (cx - ax)) = n from hn.out]
  obtain ⟨P0, P1, P2⟩ := P.out
  obtain ⟨Py0, Py1, Py2⟩ := Py.out
  obtain ⟨Q0, Q1, Q2⟩ := Q.out
  obtain ⟨Qy0, Qy1, Qy2⟩ := Qy.out
  obtain ⟨S0, S1, S2⟩ := S.out
  obtain ⟨Sy0, Sy1, Sy2⟩ := Sy.out
  go_wp2_with fail
  clear P0 P1 P2 Py0 Py1 Py2 Q0 Q1 Q2 Qy0 Qy1 Qy2 S0 S1 S2 Sy0 Sy1 Sy2
  refine (mid_any _ _ ax ay bx b_y k _ Sa.out Sb.out hk hks).mono ?_
  rintro e w2 ⟨V1, rfl, hV1, g2⟩
  have hX := Lib.hid (hV1.v mq1.out mq2.out)
  obtain ⟨b7, A7, n7, c7, C7, m7, d7, b8, A8, n8, c8, C8, m8, d8, rfl, -, -, -⟩ := hV1.laid
  have Lm := hX
  clear hV1 hX
  replace P := Lib.hid (P.out.grew g2)
  replace Py := Lib.hid (Py.out.grew g2)
  replace Q := Lib.hid (Q.out.grew g2)
  replace Qy := Lib.hid (Qy.out.grew g2)
  replace S := Lib.hid (S.out.grew g2)
  replace Sy := Lib.hid (Sy.out.grew g2)
  replace z0 := Lib.hid (lt_grew z0.out g2)
  replace z1 := Lib.hid (lt_grew z1.out g2)
  replace z2 := Lib.hid (lt_grew z2.out g2)
  replace Sa := Lib.hid (Sa.out.kept g2.keeps)
  replace Sb := Lib.hid (Sb.out.kept g2.keeps)
  replace Sc := Lib.hid (Sc.out.kept g2.keeps)
  replace La := Lib.hid (La.out.kept g2.keeps)
  replace Lb := Lib.hid (Lb.out.kept g2.keeps)
  replace G0 := Lib.hid (G0.out.trans g2)
  clear g2
  obtain ⟨P0, P1, P2⟩ := P.out
  obtain ⟨Py0, Py1, Py2⟩ := Py.out
  obtain ⟨Q0, Q1, Q2⟩ := Q.out
  obtain ⟨Qy0, Qy1, Qy2⟩ := Qy.out
  obtain ⟨S0, S1, S2⟩ := S.out
  obtain ⟨Sy0, Sy1, Sy2⟩ := Sy.out
  have oz0 := z0.out
  have oz1 := z1.out
  have oz2 := z2.out
  go_wp2_with fail
  clear P0 P1 P2 Py0 Py1 Py2 Q0 Q1 Q2 Qy0 Qy1 Qy2 S0 S1 S2 Sy0 Sy1 Sy2 oz0 oz1 oz2
  refine gen_calls ?_
  intro W1 hW1
  have gl : Grew w2 W1 := by rw [hW1]; exact (Grew.refl _).alloc _
  replace P := Lib.hid (P.out.grew gl)
  replace Py := Lib.hid (Py.out.grew gl)
  replace Q := Lib.hid (Q.out.grew gl)
  replace Qy := Lib.hid (Qy.out.grew gl)
  replace S := Lib.hid (S.out.grew gl)
  replace Sy := Lib.hid (Sy.out.grew gl)
  replace z0 := Lib.hid (lt_grew z0.out gl)
  replace z1 := Lib.hid (lt_grew z1.out gl)
  replace z2 := Lib.hid (lt_grew z2.out gl)
  replace Sa := Lib.hid (Sa.out.kept gl.keeps)
  replace Sb := Lib.hid (Sb.out.kept gl.keeps)
  replace Sc := Lib.hid (Sc.out.kept gl.keeps)
  replace La := Lib.hid (La.out.kept gl.keeps)
  replace Lb := Lib.hid (Lb.out.kept gl.keeps)
  replace Lm := Lib.hid (Lm.out.kept gl.keeps)
  have M : Box3 W1 (w2.heap.size) 0 (.bool b7) (.slice A7 n7 c7) (.slice C7 m7 d7) := by rw [hW1]; exact ⟨by simp [go_sem], by simp [go_sem], by simp [go_sem]⟩
  replace M := Lib.hid M
  have My : Box3 W1 (w2.heap.size) 3 (.bool b8) (.slice A8 n8 c8) (.slice C8 m8 d8) := by rw [hW1]; exact ⟨by simp [go_sem], by simp [go_sem], by simp [go_sem]⟩
  replace My := Lib.hid My
  have z3 : w2.heap.size < W1.heap.size := by rw [hW1]; simp <;> omega
  replace z3 := Lib.hid z3
  clear hW1
  replace G0 := Lib.hid (G0.out.trans gl)
  clear gl
  refine (turn_any _ _ _ bx b_y cx cy ax ay k _ Sb.out Sc.out Sa.out hk hks).mono ?_
  rintro e w3 ⟨rfl, g3⟩
  replace P := Lib.hid (P.out.grew g3)
  replace Py := Lib.hid (Py.out.grew g3)
  replace Q := Lib.hid (Q.out.grew g3)
  replace Qy := Lib.hid (Qy.out.grew g3)
  replace S := Lib.hid (S.out.grew g3)
  replace Sy := Lib.hid (Sy.out.grew g3)
  replace M := Lib.hid (M.out.grew g3)
  replace My := Lib.hid (My.out.grew g3)
  replace z0 := Lib.hid (lt_grew z0.out g3)
  replace z1 := Lib.hid (lt_grew z1.out g3)
  replace z2 := Lib.hid (lt_grew z2.out g3)
  replace z3 := Lib.hid (lt_grew z3.out g3)
  replace Sa := Lib.hid (Sa.out.kept g3.keeps)
  replace Sb := Lib.hid (Sb.out.kept g3.keeps)
  replace Sc := Lib.hid (Sc.out.kept g3.keeps)
  replace La := Lib.hid (La.out.kept g3.keeps)
  replace Lb := Lib.hid (Lb.out.kept g3.keeps)
  replace Lm := Lib.hid (Lm.out.kept g3.keeps)
  replace G0 := Lib.hid (G0.out.trans g3)
  clear g3
  rw [show cmpQ ((cx - bx) * (ay - b_y)) ((cy - b_y) * (ax - bx)) = n from t1.out]
  obtain ⟨P0, P1, P2⟩ := P.out
  obtain ⟨Py0, Py1, Py2⟩ := Py.out
  obtain ⟨Q0, Q1, Q2⟩ := Q.out
  obtain ⟨Qy0, Qy1, Qy2⟩ := Qy.out
  obtain ⟨S0, S1, S2⟩ := S.out
  obtain ⟨Sy0, Sy1, Sy2⟩ := Sy.out
  obtain ⟨M0, M1, M2⟩ := M.out
  obtain ⟨My0, My1, My2⟩ := My.out
  go_wp2_with fail
  clear P0 P1 P2 Py0 Py1 Py2 Q0 Q1 Q2 Qy0 Qy1 Qy2 S0 S1 S2 Sy0 Sy1 Sy2 M0 M1 M2 My0 My1 My2
  refine (turn_any _ _ _ cx cy bx b_y ax ay k _ Sc.out Sb.out Sa.out hk hks).mono ?_
  rintro e w4 ⟨rfl, g4⟩
  replace P := Lib.hid (P.out.grew g4)
  replace Py := Lib.hid (Py.out.grew g4)
  replace Q := Lib.hid (Q.out.grew g4)
  replace Qy := Lib.hid (Qy.out.grew g4)
  replace S := Lib.hid (S.out.grew g4)
  replace Sy := Lib.hid (Sy.out.grew g4)
  replace M := Lib.hid (M.out.grew g4)
  replace My := Lib.hid (My.out.grew g4)
  replace z0 := Lib.hid (lt_grew z0.out g4)
  replace z1 := Lib.hid (lt_grew z1.out g4)
  replace z2 := Lib.hid (lt_grew z2.out g4)
  replace z3 := Lib.hid (lt_grew z3.out g4)
  replace Sa := Lib.hid (Sa.out.kept g4.keeps)
  replace Sb := Lib.hid (Sb.out.kept g4.keeps)
  replace Sc := Lib.hid (Sc.out.kept g4.keeps)
  replace La := Lib.hid (La.out.kept g4.keeps)
  replace Lb := Lib.hid (Lb.out.kept g4.keeps)
  replace Lm := Lib.hid (Lm.out.kept g4.keeps)
  replace G0 := Lib.hid (G0.out.trans g4)
  clear g4
  rw [show cmpQ ((bx - cx) * (ay - cy)) ((b_y - cy) * (ax - cx)) = -n from t2.out]
  obtain ⟨P0, P1, P2⟩ := P.out
  obtain ⟨Py0, Py1, Py2⟩ := Py.out
  obtain ⟨Q0, Q1, Q2⟩ := Q.out
  obtain ⟨Qy0, Qy1, Qy2⟩ := Qy.out
  obtain ⟨S0, S1, S2⟩ := S.out
  obtain ⟨Sy0, Sy1, Sy2⟩ := Sy.out
  obtain ⟨M0, M1, M2⟩ := M.out
  obtain ⟨My0, My1, My2⟩ := My.out
  go_wp2_with fail
  clear P0 P1 P2 Py0 Py1 Py2 Q0 Q1 Q2 Qy0 Qy1 Qy2 S0 S1 S2 Sy0 Sy1 Sy2 M0 M1 M2 My0 My1 My2
  refine (on_any _ _ _ ax ay bx b_y _ _ (k + k + 1 + 1) _ La.out Lb.out Lm.out hK hKs).mono ?_
  rintro e w5 ⟨rfl, g5⟩
  replace P := Lib.hid (P.out.grew g5)
  replace Py := Lib.hid (Py.out.grew g5)
  replace Q := Lib.hid (Q.out.grew g5)
  replace Qy := Lib.hid (Qy.out.grew g5)
  replace S := Lib.hid (S.out.grew g5)
  replace Sy := Lib.hid (Sy.out.grew g5)
  replace M := Lib.hid (M.out.grew g5)
  replace My := Lib.hid (My.out.grew g5)
  replace z0 := Lib.hid (lt_grew z0.out g5)
  replace z1 := Lib.hid (lt_grew z1.out g5)
  replace z2 := Lib.hid (lt_grew z2.out g5)
  replace z3 := Lib.hid (lt_grew z3.out g5)
  replace Sa := Lib.hid (Sa.out.kept g5.keeps)
  replace Sb := Lib.hid (Sb.out.kept g5.keeps)
  replace Sc := Lib.hid (Sc.out.kept g5.keeps)
  replace La := Lib.hid (La.out.kept g5.keeps)
  replace Lb := Lib.hid (Lb.out.kept g5.keeps)
  replace Lm := Lib.hid (Lm.out.kept g5.keeps)
  replace G0 := Lib.hid (G0.out.trans g5)
  clear g5
  rw [t4.out]
  obtain ⟨P0, P1, P2⟩ := P.out
  obtain ⟨Py0, Py1, Py2⟩ := Py.out
  obtain ⟨Q0, Q1, Q2⟩ := Q.out
  obtain ⟨Qy0, Qy1, Qy2⟩ := Qy.out
  obtain ⟨S0, S1, S2⟩ := S.out
  obtain ⟨Sy0, Sy1, Sy2⟩ := Sy.out
  obtain ⟨M0, M1, M2⟩ := M.out
  obtain ⟨My0, My1, My2⟩ := My.out
  go_wp2_with fail
  clear P0 P1 P2 Py0 Py1 Py2 Q0 Q1 Q2 Qy0 Qy1 Qy2 S0 S1 S2 Sy0 Sy1 Sy2 M0 M1 M2 My0 My1 My2
  refine (turn_any _ _ _ ax ay bx b_y _ _ (k + k + 1 + 1) _ La.out Lb.out Lm.out hK hKs).mono ?_
  rintro e w6 ⟨rfl, g6⟩
  replace P := Lib.hid (P.out.grew g6)
  replace Py := Lib.hid (Py.out.grew g6)
  replace Q := Lib.hid (Q.out.grew g6)
  replace Qy := Lib.hid (Qy.out.grew g6)
  replace S := Lib.hid (S.out.grew g6)
  replace Sy := Lib.hid (Sy.out.grew g6)
  replace M := Lib.hid (M.out.grew g6)
  replace My := Lib.hid (My.out.grew g6)
  replace z0 := Lib.hid (lt_grew z0.out g6)
  replace z1 := Lib.hid (lt_grew z1.out g6)
  replace z2 := Lib.hid (lt_grew z2.out g6)
  replace z3 := Lib.hid (lt_grew z3.out g6)
  replace Sa := Lib.hid (Sa.out.kept g6.keeps)
  replace Sb := Lib.hid (Sb.out.kept g6.keeps)
  replace Sc := Lib.hid (Sc.out.kept g6.keeps)
  replace La := Lib.hid (La.out.kept g6.keeps)
  replace Lb := Lib.hid (Lb.out.kept g6.keeps)
  replace Lm := Lib.hid (Lm.out.kept g6.keeps)
  replace G0 := Lib.hid (G0.out.trans g6)
  clear g6
  rw [show cmpQ ((bx - ax) * (((ay + b_y) * mkRat 1 2) - ay)) ((b_y - ay) * (((ax + bx) * mkRat 1 2) - ax)) = 0 from t3.out]
  obtain ⟨P0, P1, P2⟩ := P.out
  obtain ⟨Py0, Py1, Py2⟩ := Py.out
  obtain ⟨Q0, Q1, Q2⟩ := Q.out
  obtain ⟨Qy0, Qy1, Qy2⟩ := Qy.out
  obtain ⟨S0, S1, S2⟩ := S.out
  obtain ⟨Sy0, Sy1, Sy2⟩ := Sy.out
  obtain ⟨M0, M1, M2⟩ := M.out
  obtain ⟨My0, My1, My2⟩ := My.out
  go_wp2_with fail
  clear P0 P1 P2 Py0 Py1 Py2 Q0 Q1 Q2 Qy0 Qy1 Qy2 S0 S1 S2 Sy0 Sy1 Sy2 M0 M1 M2 My0 My1 My2
  refine (on_any _ _ _ ax ay bx b_y ax ay k _ Sa.out Sb.out Sa.out hk hks).mono ?_
  rintro e w7 ⟨rfl, g7⟩
  replace P := Lib.hid (P.out.grew g7)
  replace Py := Lib.hid (Py.out.grew g7)
  replace Q := Lib.hid (Q.out.grew g7)
  replace Qy := Lib.hid (Qy.out.grew g7)
  replace S := Lib.hid (S.out.grew g7)
  replace Sy := Lib.hid (Sy.out.grew g7)
  replace M := Lib.hid (M.out.grew g7)
  replace My := Lib.hid (My.out.grew g7)
  replace z0 := Lib.hid (lt_grew z0.out g7)
  replace z1 := Lib.hid (lt_grew z1.out g7)
  replace z2 := Lib.hid (lt_grew z2.out g7)
  replace z3 := Lib.hid (lt_grew z3.out g7)
  replace Sa := Lib.hid (Sa.out.kept g7.keeps)
  replace Sb := Lib.hid (Sb.out.kept g7.keeps)
  replace Sc := Lib.hid (Sc.out.kept g7.keeps)
  replace La := Lib.hid (La.out.kept g7.keeps)
  replace Lb := Lib.hid (Lb.out.kept g7.keeps)
  replace Lm := Lib.hid (Lm.out.kept g7.keeps)
  replace G0 := Lib.hid (G0.out.trans g7)
  clear g7
  rw [t5.out]
  obtain ⟨P0, P1, P2⟩ := P.out
  obtain ⟨Py0, Py1, Py2⟩ := Py.out
  obtain ⟨Q0, Q1, Q2⟩ := Q.out
  obtain ⟨Qy0, Qy1, Qy2⟩ := Qy.out
  obtain ⟨S0, S1, S2⟩ := S.out
  obtain ⟨Sy0, Sy1, Sy2⟩ := Sy.out
  obtain ⟨M0, M1, M2⟩ := M.out
  obtain ⟨My0, My1, My2⟩ := My.out
  go_wp2_with fail
  clear P0 P1 P2 Py0 Py1 Py2 Q0 Q1 Q2 Qy0 Qy1 Qy2 S0 S1 S2 Sy0 Sy1 Sy2 M0 M1 M2 My0 My1 My2
  refine (on_any _ _ _ ax ay bx b_y bx b_y k _ Sa.out Sb.out Sb.out hk hks).mono ?_
  rintro e w8 ⟨rfl, g8⟩
  replace P := Lib.hid (P.out.grew g8)
  replace Py := Lib.hid (Py.out.grew g8)
  replace Q := Lib.hid (Q.out.grew g8)
  replace Qy := Lib.hid (Qy.out.grew g8)
  replace S := Lib.hid (S.out.grew g8)
  replace Sy := Lib.hid (Sy.out.grew g8)
  replace M := Lib.hid (M.out.grew g8)
  replace My := Lib.hid (My.out.grew g8)
  replace z0 := Lib.hid (lt_grew z0.out g8)
  replace z1 := Lib.hid (lt_grew z1.out g8)
  replace z2 := Lib.hid (lt_grew z2.out g8)
  replace z3 := Lib.hid (lt_grew z3.out g8)
  replace Sa := Lib.hid (Sa.out.kept g8.keeps)
  replace Sb := Lib.hid (Sb.out.kept g8.keeps)
  replace Sc := Lib.hid (Sc.out.kept g8.keeps)
  replace La := Lib.hid (La.out.kept g8.keeps)
  replace Lb := Lib.hid (Lb.out.kept g8.keeps)
  replace Lm := Lib.hid (Lm.out.kept g8.keeps)
  replace G0 := Lib.hid (G0.out.trans g8)
  clear g8
  rw [t6.out]
  obtain ⟨P0, P1, P2⟩ := P.out
  obtain ⟨Py0, Py1, Py2⟩ := Py.out
  obtain ⟨Q0, Q1, Q2⟩ := Q.out
  obtain ⟨Qy0, Qy1, Qy2⟩ := Qy.out
  obtain ⟨S0, S1, S2⟩ := S.out
  obtain ⟨Sy0, Sy1, Sy2⟩ := Sy.out
  obtain ⟨M0, M1, M2⟩ := M.out
  obtain ⟨My0, My1, My2⟩ := My.out
  go_wp2_with fail
  clear P0 P1 P2 Py0 Py1 Py2 Q0 Q1 Q2 Qy0 Qy1 Qy2 S0 S1 S2 Sy0 Sy1 Sy2 M0 M1 M2 My0 My1 My2
  refine (lives05_any _).mono ?_
  rintro e w9 ⟨rfl, g9⟩
  replace P := Lib.hid (P.out.grew g9)
  replace Py := Lib.hid (Py.out.grew g9)
  replace Q := Lib.hid (Q.out.grew g9)
  replace Qy := Lib.hid (Qy.out.grew g9)
  replace S := Lib.hid (S.out.grew g9)
  replace Sy := Lib.hid (Sy.out.grew g9)
  replace M := Lib.hid (M.out.grew g9)
  replace My := Lib.hid (My.out.grew g9)
  replace z0 := Lib.hid (lt_grew z0.out g9)
  replace z1 := Lib.hid (lt_grew z1.out g9)
  replace z2 := Lib.hid (lt_grew z2.out g9)
  replace z3 := Lib.hid (lt_grew z3.out g9)
  replace Sa := Lib.hid (Sa.out.kept g9.keeps)
  replace Sb := Lib.hid (Sb.out.kept g9.keeps)
  replace Sc := Lib.hid (Sc.out.kept g9.keeps)
  replace La := Lib.hid (La.out.kept g9.keeps)
  replace Lb := Lib.hid (Lb.out.kept g9.keeps)
  replace Lm := Lib.hid (Lm.out.kept g9.keeps)
  replace G0 := Lib.hid (G0.out.trans g9)
  clear g9
  go_wp2_with fail
  go_ret
  exact ⟨by rfl, G0.out⟩
end Go.Proofs.Ytpglnfccmhkocaa
