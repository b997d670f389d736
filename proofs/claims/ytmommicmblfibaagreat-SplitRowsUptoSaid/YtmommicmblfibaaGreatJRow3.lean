/- r05.At, Cmp, Toward. Condition: what comes in reads; fewer than 2^26 words. spot.Cmp, Same, Toward. Condition: what comes in reads; fewer than 2^26 words. Edges as values: as they come in; a struct of twelve cells stored anew. Conditions: none. r05.clean, spot.clean, r05.Row. Condition: what comes in reads; fewer than 2^26 words, fewer than 2^36 spots. -/
import Derived.Test.YtmommicmblfibaaGreatJR4c
import Derived.Test.YtmommicmblfibaaGreatJR5At
import Derived.Test.YtmommicmblfibaaGreatJElE
import Derived.Test.YtmommicmblfibaaGreatJRowP
import Derived.Deep.LoopGhost
import Derived.Deep.RegionHeld3
namespace Go.Proofs.YtmommicmblfibaaGreat
open Go.RowKit

set_option maxRecDepth 100000 in
set_option maxHeartbeats 8000000 in
theorem rscmp_any (Va Vb : Value) (ax ay bx b_y : Rat) (k : Nat) (w : World) (ha : SpotR w Va ax ay k) (hb : SpotR w Vb bx b_y k) (hk : 1 ≤ k) (hs : k < 67108864) :
    Calls Tryz.prog 29 #[Va, Vb] w fun e w' => e = .returned (.int .i64 (spotCmp ax ay bx b_y)) ∧ Grew w w' := by
  obtain ⟨b1, A1, n1, c1, C1, m1, d1, b2, A2, n2, c2, C2, m2, d2, rfl, Fa, Fb, -⟩ := ha.laid
  obtain ⟨b3, A3, n3, c3, C3, m3, d3, b4, A4, n4, c4, C4, m4, d4, rfl, Fc, Fd, -⟩ := hb.laid
  clear ha hb
  have hk0 : 1 ≤ k ∧ 1 ≤ k := ⟨hk, hk⟩
  have hs0 : k < 1073741824 ∧ k < 1073741824 := by omega
  have eO : spotCmp ax ay bx b_y = if cmpQ ax bx = 0 then cmpQ ay b_y else cmpQ ax bx := rfl
  generalize spotCmp ax ay bx b_y = oo at *
  obtain ⟨x, hx⟩ : ∃ x, cmpQ ax bx = x := ⟨_, rfl⟩
  rw [hx] at eO
  replace hx := Lib.hid hx
  replace eO := Lib.hid eO
  go_enter Tryz.func29, Tryz.ntmps29
  go_wp2_with fail
  refine gen_calls ?_
  intro W0 hW0
  have G0 : Grew w W0 := by rw [hW0]; exact ((Grew.refl w).alloc _).alloc _
  have P : Box3 W0 (w.heap.size) 0 (.bool b1) (.slice A1 n1 c1) (.slice C1 m1 d1) := by rw [hW0]; exact ⟨by simp [go_sem], by simp [go_sem], by simp [go_sem]⟩
  replace P := Lib.hid P
  have Py : Box3 W0 (w.heap.size) 3 (.bool b2) (.slice A2 n2 c2) (.slice C2 m2 d2) := by rw [hW0]; exact ⟨by simp [go_sem], by simp [go_sem], by simp [go_sem]⟩
  replace Py := Lib.hid Py
  have Q : Box3 W0 (w.heap.size + 1) 0 (.bool b3) (.slice A3 n3 c3) (.slice C3 m3 d3) := by rw [hW0]; exact ⟨by simp [go_sem], by simp [go_sem], by simp [go_sem]⟩
  replace Q := Lib.hid Q
  have Qy : Box3 W0 (w.heap.size + 1) 3 (.bool b4) (.slice A4 n4 c4) (.slice C4 m4 d4) := by rw [hW0]; exact ⟨by simp [go_sem], by simp [go_sem], by simp [go_sem]⟩
  replace Qy := Lib.hid Qy
  have z0 : w.heap.size < W0.heap.size := by rw [hW0]; simp <;> omega
  replace z0 := Lib.hid z0
  have z1 : w.heap.size + 1 < W0.heap.size := by rw [hW0]; simp <;> omega
  replace z1 := Lib.hid z1
  clear hW0
  replace Fa := Lib.hid (Fa.out.kept G0.keeps)
  replace Fb := Lib.hid (Fb.out.kept G0.keeps)
  replace Fc := Lib.hid (Fc.out.kept G0.keeps)
  replace Fd := Lib.hid (Fd.out.kept G0.keeps)
  replace G0 := Lib.hid G0
  refine (rfcmp_any _ _ ax bx k k _ Fa.out Fc.out hk0 hs0).mono ?_
  rintro e w1 ⟨rfl, g1⟩
  replace P := Lib.hid (P.out.grew g1)
  replace Py := Lib.hid (Py.out.grew g1)
  replace Q := Lib.hid (Q.out.grew g1)
  replace Qy := Lib.hid (Qy.out.grew g1)
  replace z0 := Lib.hid (lt_grew z0.out g1)
  replace z1 := Lib.hid (lt_grew z1.out g1)
  replace Fa := Lib.hid (Fa.out.kept g1.keeps)
  replace Fb := Lib.hid (Fb.out.kept g1.keeps)
  replace Fc := Lib.hid (Fc.out.kept g1.keeps)
  replace Fd := Lib.hid (Fd.out.kept g1.keeps)
  replace G0 := Lib.hid (G0.out.trans g1)
  clear g1
  rw [hx.out]

  by_cases h0 : x = 0
  · as_aux_lemma =>
    subst h0
    have eO' := Lib.hid (eO.out.trans (if_pos rfl))
    obtain ⟨P0, P1, P2⟩ := P.out
    obtain ⟨Py0, Py1, Py2⟩ := Py.out
    obtain ⟨Q0, Q1, Q2⟩ := Q.out
    obtain ⟨Qy0, Qy1, Qy2⟩ := Qy.out
    go_wp2_with fail
    clear P0 P1 P2 Py0 Py1 Py2 Q0 Q1 Q2 Qy0 Qy1 Qy2
    refine (rfcmp_any _ _ ay b_y k k _ Fb.out Fd.out hk0 hs0).mono ?_
    rintro e w2 ⟨rfl, g2⟩
    replace P := Lib.hid (P.out.grew g2)
    replace Py := Lib.hid (Py.out.grew g2)
    replace Q := Lib.hid (Q.out.grew g2)
    replace Qy := Lib.hid (Qy.out.grew g2)
    replace z0 := Lib.hid (lt_grew z0.out g2)
    replace z1 := Lib.hid (lt_grew z1.out g2)
    replace Fa := Lib.hid (Fa.out.kept g2.keeps)
    replace Fb := Lib.hid (Fb.out.kept g2.keeps)
    replace Fc := Lib.hid (Fc.out.kept g2.keeps)
    replace Fd := Lib.hid (Fd.out.kept g2.keeps)
    replace G0 := Lib.hid (G0.out.trans g2)
    clear g2
    go_wp2_with fail
    go_ret
    exact ⟨by rw [eO'.out]; rfl, G0.out⟩
  · as_aux_lemma =>

    have eO' := Lib.hid (eO.out.trans (if_neg h0))
    have hxb : (x == 0) = false := by simpa using h0
    obtain ⟨P0, P1, P2⟩ := P.out
    obtain ⟨Py0, Py1, Py2⟩ := Py.out
    obtain ⟨Q0, Q1, Q2⟩ := Q.out
    obtain ⟨Qy0, Qy1, Qy2⟩ := Qy.out
    go_wp2_with fail
    clear P0 P1 P2 Py0 Py1 Py2 Q0 Q1 Q2 Qy0 Qy1 Qy2
    refine (rfcmp_any _ _ ax bx k k _ Fa.out Fc.out hk0 hs0).mono ?_
    rintro e w2 ⟨rfl, g2⟩
    replace P := Lib.hid (P.out.grew g2)
    replace Py := Lib.hid (Py.out.grew g2)
    replace Q := Lib.hid (Q.out.grew g2)
    replace Qy := Lib.hid (Qy.out.grew g2)
    replace z0 := Lib.hid (lt_grew z0.out g2)
    replace z1 := Lib.hid (lt_grew z1.out g2)
    replace Fa := Lib.hid (Fa.out.kept g2.keeps)
    replace Fb := Lib.hid (Fb.out.kept g2.keeps)
    replace Fc := Lib.hid (Fc.out.kept g2.keeps)
    replace Fd := Lib.hid (Fd.out.kept g2.keeps)
    replace G0 := Lib.hid (G0.out.trans g2)
    clear g2
    rw [hx.out]
    go_wp2_with fail
    go_ret
    exact ⟨by rw [eO'.out]; rfl, G0.out⟩

end Go.Proofs.YtmommicmblfibaaGreat
namespace Go.Proofs.YtmommicmblfibaaGreat
open Go.RowKit

set_option maxRecDepth 100000 in
set_option maxHeartbeats 8000000 in
theorem scmp_any (Va Vb : Value) (ax ay bx b_y : Rat) (k : Nat) (w : World) (ha : SpotV w Va ax ay k) (hb : SpotV w Vb bx b_y k) (hk : 1 ≤ k) (hs : k < 67108864) :
    Calls Tryz.prog 19 #[Va, Vb] w fun e w' => e = .returned (.int .i64 (spotCmp ax ay bx b_y)) ∧ Grew w w' := by
  obtain ⟨b1, A1, n1, c1, C1, m1, d1, b2, A2, n2, c2, C2, m2, d2, rfl, Fa, Fb, -⟩ := ha.laid
  obtain ⟨b3, A3, n3, c3, C3, m3, d3, b4, A4, n4, c4, C4, m4, d4, rfl, Fc, Fd, -⟩ := hb.laid
  clear ha hb
  have hs2 : k + k < 549755813888 := by omega
  have eO : spotCmp ax ay bx b_y = if cmpQ ax bx = 0 then cmpQ ay b_y else cmpQ ax bx := rfl
  generalize spotCmp ax ay bx b_y = oo at *
  obtain ⟨x, hx⟩ : ∃ x, cmpQ ax bx = x := ⟨_, rfl⟩
  rw [hx] at eO
  replace hx := Lib.hid hx
  replace eO := Lib.hid eO
  go_enter Tryz.func19, Tryz.ntmps19
  go_wp2_with fail
  refine gen_calls ?_
  intro W0 hW0
  have G0 : Grew w W0 := by rw [hW0]; exact ((Grew.refl w).alloc _).alloc _
  have P : Box3 W0 (w.heap.size) 0 (.bool b1) (.slice A1 n1 c1) (.slice C1 m1 d1) := by rw [hW0]; exact ⟨by simp [go_sem], by simp [go_sem], by simp [go_sem]⟩
  replace P := Lib.hid P
  have Py : Box3 W0 (w.heap.size) 3 (.bool b2) (.slice A2 n2 c2) (.slice C2 m2 d2) := by rw [hW0]; exact ⟨by simp [go_sem], by simp [go_sem], by simp [go_sem]⟩
  replace Py := Lib.hid Py
  have Q : Box3 W0 (w.heap.size + 1) 0 (.bool b3) (.slice A3 n3 c3) (.slice C3 m3 d3) := by rw [hW0]; exact ⟨by simp [go_sem], by simp [go_sem], by simp [go_sem]⟩
  replace Q := Lib.hid Q
  have Qy : Box3 W0 (w.heap.size + 1) 3 (.bool b4) (.slice A4 n4 c4) (.slice C4 m4 d4) := by rw [hW0]; exact ⟨by simp [go_sem], by simp [go_sem], by simp [go_sem]⟩
  replace Qy := Lib.hid Qy
  have z0 : w.heap.size < W0.heap.size := by rw [hW0]; simp <;> omega
  replace z0 := Lib.hid z0
  have z1 : w.heap.size + 1 < W0.heap.size := by rw [hW0]; simp <;> omega
  replace z1 := Lib.hid z1
  clear hW0
  replace Fa := Lib.hid (Fa.out.kept G0.keeps)
  replace Fb := Lib.hid (Fb.out.kept G0.keeps)
  replace Fc := Lib.hid (Fc.out.kept G0.keeps)
  replace Fd := Lib.hid (Fd.out.kept G0.keeps)
  replace G0 := Lib.hid G0
  refine (fcmp_any _ _ ax bx k k _ Fa.out Fc.out hk hk hs2).mono ?_
  rintro e w1 ⟨rfl, g1⟩
  replace P := Lib.hid (P.out.grew g1)
  replace Py := Lib.hid (Py.out.grew g1)
  replace Q := Lib.hid (Q.out.grew g1)
  replace Qy := Lib.hid (Qy.out.grew g1)
  replace z0 := Lib.hid (lt_grew z0.out g1)
  replace z1 := Lib.hid (lt_grew z1.out g1)
  replace Fa := Lib.hid (Fa.out.kept g1.keeps)
  replace Fb := Lib.hid (Fb.out.kept g1.keeps)
  replace Fc := Lib.hid (Fc.out.kept g1.keeps)
  replace Fd := Lib.hid (Fd.out.kept g1.keeps)
  replace G0 := Lib.hid (G0.out.trans g1)
  clear g1
  rw [hx.out]

  by_cases h0 : x = 0
  · as_aux_lemma =>
    subst h0
    have eO' := Lib.hid (eO.out.trans (if_pos rfl))
    obtain ⟨P0, P1, P2⟩ := P.out
    obtain ⟨Py0, Py1, Py2⟩ := Py.out
    obtain ⟨Q0, Q1, Q2⟩ := Q.out
    obtain ⟨Qy0, Qy1, Qy2⟩ := Qy.out
    go_wp2_with fail
    clear P0 P1 P2 Py0 Py1 Py2 Q0 Q1 Q2 Qy0 Qy1 Qy2
    refine (fcmp_any _ _ ay b_y k k _ Fb.out Fd.out hk hk hs2).mono ?_
    rintro e w2 ⟨rfl, g2⟩
    replace P := Lib.hid (P.out.grew g2)
    replace Py := Lib.hid (Py.out.grew g2)
    replace Q := Lib.hid (Q.out.grew g2)
    replace Qy := Lib.hid (Qy.out.grew g2)
    replace z0 := Lib.hid (lt_grew z0.out g2)
    replace z1 := Lib.hid (lt_grew z1.out g2)
    replace Fa := Lib.hid (Fa.out.kept g2.keeps)
    replace Fb := Lib.hid (Fb.out.kept g2.keeps)
    replace Fc := Lib.hid (Fc.out.kept g2.keeps)
    replace Fd := Lib.hid (Fd.out.kept g2.keeps)
    replace G0 := Lib.hid (G0.out.trans g2)
    clear g2
    go_wp2_with fail
    go_ret
    exact ⟨by rw [eO'.out]; rfl, G0.out⟩
  · as_aux_lemma =>

    have eO' := Lib.hid (eO.out.trans (if_neg h0))
    have hxb : (x == 0) = false := by simpa using h0
    obtain ⟨P0, P1, P2⟩ := P.out
    obtain ⟨Py0, Py1, Py2⟩ := Py.out
    obtain ⟨Q0, Q1, Q2⟩ := Q.out
    obtain ⟨Qy0, Qy1, Qy2⟩ := Qy.out
    go_wp2_with fail
    clear P0 P1 P2 Py0 Py1 Py2 Q0 Q1 Q2 Qy0 Qy1 Qy2
    go_ret
    exact ⟨by rw [eO'.out]; rfl, G0.out⟩

set_option maxRecDepth 100000 in
set_option maxHeartbeats 8000000 in
theorem ssame_any (Va Vb : Value) (ax ay bx b_y : Rat) (k : Nat) (w : World) (ha : SpotV w Va ax ay k) (hb : SpotV w Vb bx b_y k) (hk : 1 ≤ k) (hs : k < 67108864) :
    Calls Tryz.prog 21 #[Va, Vb] w fun e w' => e = .returned (.bool (spotCmp ax ay bx b_y == 0)) ∧ Grew w w' := by
  obtain ⟨b1, A1, n1, c1, C1, m1, d1, b2, A2, n2, c2, C2, m2, d2, rfl, -, -, Sa⟩ := ha.laid
  obtain ⟨b3, A3, n3, c3, C3, m3, d3, b4, A4, n4, c4, C4, m4, d4, rfl, -, -, Sb⟩ := hb.laid
  clear ha hb
  go_enter Tryz.func21, Tryz.ntmps21
  go_wp2_with fail
  refine gen_calls ?_
  intro W0 hW0
  have G0 : Grew w W0 := by rw [hW0]; exact ((Grew.refl w).alloc _).alloc _
  have P : Box3 W0 (w.heap.size) 0 (.bool b1) (.slice A1 n1 c1) (.slice C1 m1 d1) := by rw [hW0]; exact ⟨by simp [go_sem], by simp [go_sem], by simp [go_sem]⟩
  replace P := Lib.hid P
  have Py : Box3 W0 (w.heap.size) 3 (.bool b2) (.slice A2 n2 c2) (.slice C2 m2 d2) := by rw [hW0]; exact ⟨by simp [go_sem], by simp [go_sem], by simp [go_sem]⟩
  replace Py := Lib.hid Py
  have Q : Box3 W0 (w.heap.size + 1) 0 (.bool b3) (.slice A3 n3 c3) (.slice C3 m3 d3) := by rw [hW0]; exact ⟨by simp [go_sem], by simp [go_sem], by simp [go_sem]⟩
  replace Q := Lib.hid Q
  have Qy : Box3 W0 (w.heap.size + 1) 3 (.bool b4) (.slice A4 n4 c4) (.slice C4 m4 d4) := by rw [hW0]; exact ⟨by simp [go_sem], by simp [go_sem], by simp [go_sem]⟩
  replace Qy := Lib.hid Qy
  have z0 : w.heap.size < W0.heap.size := by rw [hW0]; simp <;> omega
  replace z0 := Lib.hid z0
  have z1 : w.heap.size + 1 < W0.heap.size := by rw [hW0]; simp <;> omega
  replace z1 := Lib.hid z1
  clear hW0
  replace Sa := Lib.hid (Sa.out.kept G0.keeps)
  replace Sb := Lib.hid (Sb.out.kept G0.keeps)
  replace G0 := Lib.hid G0
  refine (scmp_any _ _ ax ay bx b_y k _ Sa.out Sb.out hk hs).mono ?_
  rintro e w1 ⟨rfl, g1⟩
  replace P := Lib.hid (P.out.grew g1)
  replace Py := Lib.hid (Py.out.grew g1)
  replace Q := Lib.hid (Q.out.grew g1)
  replace Qy := Lib.hid (Qy.out.grew g1)
  replace z0 := Lib.hid (lt_grew z0.out g1)
  replace z1 := Lib.hid (lt_grew z1.out g1)
  replace Sa := Lib.hid (Sa.out.kept g1.keeps)
  replace Sb := Lib.hid (Sb.out.kept g1.keeps)
  replace G0 := Lib.hid (G0.out.trans g1)
  clear g1
  go_wp2_with fail
  go_ret
  exact ⟨rfl, G0.out⟩

end Go.Proofs.YtmommicmblfibaaGreat
namespace Go.Proofs.YtmommicmblfibaaGreat
open Go.RowKit

theorem store12 {w w' : World} {r : Nat} {x1 x2 x3 x4 : Bool} {A1 A2 A3 A4 C1 C2 C3 C4 : Option Addr} {n1 n2 n3 n4 c1 c2 c3 c4 m1 m2 m3 m4 d1 d2 d3 d4 : Nat} {u0 u1 u2 u3 u4 u5 u6 u7 u8 u9 u10 u11 : Value}
    (h0 : w.cell? ⟨r, 0, none⟩ = some (.bool x1)) (h1 : w.cell? ⟨r, 1, none⟩ = some (.slice A1 n1 c1)) (h2 : w.cell? ⟨r, 2, none⟩ = some (.slice C1 m1 d1))
    (h3 : w.cell? ⟨r, 3, none⟩ = some (.bool x2)) (h4 : w.cell? ⟨r, 4, none⟩ = some (.slice A2 n2 c2)) (h5 : w.cell? ⟨r, 5, none⟩ = some (.slice C2 m2 d2))
    (h6 : w.cell? ⟨r, 6, none⟩ = some (.bool x3)) (h7 : w.cell? ⟨r, 7, none⟩ = some (.slice A3 n3 c3)) (h8 : w.cell? ⟨r, 8, none⟩ = some (.slice C3 m3 d3))
    (h9 : w.cell? ⟨r, 9, none⟩ = some (.bool x4)) (h10 : w.cell? ⟨r, 10, none⟩ = some (.slice A4 n4 c4)) (h11 : w.cell? ⟨r, 11, none⟩ = some (.slice C4 m4 d4))
    (h : w' = (((((((((((w.setCell ⟨r, 0, none⟩ u0).setCell ⟨r, 1, none⟩ u1).setCell ⟨r, 2, none⟩ u2).setCell ⟨r, 3, none⟩ u3).setCell ⟨r, 4, none⟩ u4).setCell ⟨r, 5, none⟩ u5).setCell ⟨r, 6, none⟩ u6).setCell ⟨r, 7, none⟩ u7).setCell ⟨r, 8, none⟩ u8).setCell ⟨r, 9, none⟩ u9).setCell ⟨r, 10, none⟩ u10).setCell ⟨r, 11, none⟩ u11) :
    w'.cell? ⟨r, 0, none⟩ = some u0 ∧ w'.cell? ⟨r, 1, none⟩ = some u1 ∧ w'.cell? ⟨r, 2, none⟩ = some u2 ∧ w'.cell? ⟨r, 3, none⟩ = some u3 ∧ w'.cell? ⟨r, 4, none⟩ = some u4 ∧ w'.cell? ⟨r, 5, none⟩ = some u5 ∧
      w'.cell? ⟨r, 6, none⟩ = some u6 ∧ w'.cell? ⟨r, 7, none⟩ = some u7 ∧ w'.cell? ⟨r, 8, none⟩ = some u8 ∧ w'.cell? ⟨r, 9, none⟩ = some u9 ∧ w'.cell? ⟨r, 10, none⟩ = some u10 ∧ w'.cell? ⟨r, 11, none⟩ = some u11 ∧
      Keeps w w' ∧ (∀ a, a.heap.size ≤ r → Grew a w → Grew a w') := by
  obtain ⟨q0, q1, q2, qK, -, qf, -, qG⟩ := store3 (o := 0) (u0 := u0) (u1 := u1) (u2 := u2) h0 h1 h2 rfl
  obtain ⟨q3, q4, q5, qK1, -, qf1, -, qG1⟩ := store3 (o := 3) (u0 := u3) (u1 := u4) (u2 := u5) ((qf _ (by omega)).trans h3) ((qf _ (by omega)).trans h4) ((qf _ (by omega)).trans h5) rfl
  obtain ⟨q6, q7, q8, qK2, -, qf2, -, qG2⟩ := store3 (o := 6) (u0 := u6) (u1 := u7) (u2 := u8) ((qf1 _ (by omega)).trans ((qf _ (by omega)).trans h6)) ((qf1 _ (by omega)).trans ((qf _ (by omega)).trans h7)) ((qf1 _ (by omega)).trans ((qf _ (by omega)).trans h8)) rfl
  obtain ⟨q9, q10, q11, qK3, -, qf3, -, qG3⟩ := store3 (o := 9) (u0 := u9) (u1 := u10) (u2 := u11) ((qf2 _ (by omega)).trans ((qf1 _ (by omega)).trans ((qf _ (by omega)).trans h9))) ((qf2 _ (by omega)).trans ((qf1 _ (by omega)).trans ((qf _ (by omega)).trans h10))) ((qf2 _ (by omega)).trans ((qf1 _ (by omega)).trans ((qf _ (by omega)).trans h11))) h
  exact ⟨(qf3 _ (by omega)).trans ((qf2 _ (by omega)).trans ((qf1 _ (by omega)).trans q0)), (qf3 _ (by omega)).trans ((qf2 _ (by omega)).trans ((qf1 _ (by omega)).trans q1)), (qf3 _ (by omega)).trans ((qf2 _ (by omega)).trans ((qf1 _ (by omega)).trans q2)),
    (qf3 _ (by omega)).trans ((qf2 _ (by omega)).trans q3), (qf3 _ (by omega)).trans ((qf2 _ (by omega)).trans q4), (qf3 _ (by omega)).trans ((qf2 _ (by omega)).trans q5),
    (qf3 _ (by omega)).trans q6, (qf3 _ (by omega)).trans q7, (qf3 _ (by omega)).trans q8, q9, q10, q11, ((qK.trans qK1).trans qK2).trans qK3, fun a ha g => qG3 a (.inr ha) (qG2 a (.inr ha) (qG1 a (.inr ha) (qG a (.inr ha) g)))⟩

/-- An edge as it comes in, all parts of at most k words. -/
abbrev EdgeR (k : Nat) := EdgeP (fun w V x y => SpotR w V x y k)
theorem EdgeP.mono {P P' : World → Value → Rat → Rat → Prop} {w w' : World} {us : Array Value} {e : EdgeQ} (h : EdgeP P w us e) (hP : ∀ V x y, P w V x y → P' w' V x y) : EdgeP P' w' us e := by
  obtain ⟨u1, u2, rfl, h1, h2⟩ := h
  exact ⟨u1, u2, rfl, hP _ _ _ h1, hP _ _ _ h2⟩
/-- An edge's words. -/
def EB (k : Nat) (e : EdgeQ) : Prop := (QB e.1.1 k ∧ QB e.1.2 k) ∧ QB e.2.1 k ∧ QB e.2.2 k
theorem edge_r {k : Nat} {w : World} {us : Array Value} {e : EdgeQ} (h : Edge12R w us e) (b : EB k e) : EdgeR k w us e := by
  obtain ⟨u1, u2, rfl, h1, h2⟩ := h
  exact ⟨u1, u2, rfl, h1.r b.1.1 b.1.2, h2.r b.2.1 b.2.2⟩
theorem edgeR_kept {k : Nat} {w w' : World} {us : Array Value} {e : EdgeQ} (h : EdgeR k w us e) (g : Keeps w w') : EdgeR k w' us e := h.mono fun _ _ _ h => SpotR.kept h g
/-- The parts, written out. -/
theorem EdgeR.laid {k : Nat} {w : World} {us : Array Value} {e : EdgeQ} (h : EdgeR k w us e) :
    ∃ b1 A1 n1 c1 C1 m1 d1 b2 A2 n2 c2 C2 m2 d2 b3 A3 n3 c3 C3 m3 d3 b4 A4 n4 c4 C4 m4 d4, us = #[.bool b1, .slice A1 n1 c1, .slice C1 m1 d1, .bool b2, .slice A2 n2 c2, .slice C2 m2 d2, .bool b3, .slice A3 n3 c3, .slice C3 m3 d3, .bool b4, .slice A4 n4 c4, .slice C4 m4 d4] ∧
      Hid (SpotR w (.agg #[.bool b1, .slice A1 n1 c1, .slice C1 m1 d1, .bool b2, .slice A2 n2 c2, .slice C2 m2 d2]) e.1.1 e.1.2 k) ∧ Hid (SpotR w (.agg #[.bool b3, .slice A3 n3 c3, .slice C3 m3 d3, .bool b4, .slice A4 n4 c4, .slice C4 m4 d4]) e.2.1 e.2.2 k) := by
  obtain ⟨u1, u2, rfl, h1, h2⟩ := h
  have k1 := h1
  have k2 := h2
  obtain ⟨b1, A1, n1, c1, C1, m1, d1, b2, A2, n2, c2, C2, m2, d2, e1, -, -⟩ := k1
  obtain ⟨b3, A3, n3, c3, C3, m3, d3, b4, A4, n4, c4, C4, m4, d4, e2, -, -⟩ := k2
  injection e1 with e1
  injection e2 with e2
  subst e1
  subst e2
  exact ⟨b1, A1, n1, c1, C1, m1, d1, b2, A2, n2, c2, C2, m2, d2, b3, A3, n3, c3, C3, m3, d3, b4, A4, n4, c4, C4, m4, d4, rfl, h1, h2⟩
theorem edge_mk {w : World} {b1 b2 b3 b4 : Bool} {A1 A2 A3 A4 C1 C2 C3 C4 : Option Addr} {n1 n2 n3 n4 c1 c2 c3 c4 m1 m2 m3 m4 d1 d2 d3 d4 : Nat} {e : EdgeQ}
    (h1 : SpotC w (.agg #[.bool b1, .slice A1 n1 c1, .slice C1 m1 d1, .bool b2, .slice A2 n2 c2, .slice C2 m2 d2]) e.1.1 e.1.2) (h2 : SpotC w (.agg #[.bool b3, .slice A3 n3 c3, .slice C3 m3 d3, .bool b4, .slice A4 n4 c4, .slice C4 m4 d4]) e.2.1 e.2.2) :
    Edge12R w #[.bool b1, .slice A1 n1 c1, .slice C1 m1 d1, .bool b2, .slice A2 n2 c2, .slice C2 m2 d2, .bool b3, .slice A3 n3 c3, .slice C3 m3 d3, .bool b4, .slice A4 n4 c4, .slice C4 m4 d4] e := ⟨_, _, rfl, h1, h2⟩
end Go.Proofs.YtmommicmblfibaaGreat
namespace Go.Proofs.YtmommicmblfibaaGreat
open Go.RowKit

set_option maxRecDepth 100000 in
set_option maxHeartbeats 4000000 in
theorem rclean_any (Va : Value) (x y : Rat) (k : Nat) (w : World) (ha : SpotR w Va x y k) (hs : k < 67108864) :
    Calls Tryz.prog 61 #[Va] w fun e w' => ∃ V, e = .returned V ∧ SpotC w' V x y ∧ Grew w w' := by
  obtain ⟨b1, A1, n1, c1, C1, m1, d1, b2, A2, n2, c2, C2, m2, d2, rfl, Fa, Fb, -⟩ := ha.laid
  clear ha
  go_enter Tryz.func61, Tryz.ntmps61
  go_wp2_with fail
  refine gen_wp ?_
  intro W0 hW0
  have G0 : Grew w W0 := by rw [hW0]; exact ((Grew.refl w).alloc _).alloc _
  have P : Box3 W0 (w.heap.size) 0 (.bool b1) (.slice A1 n1 c1) (.slice C1 m1 d1) := by rw [hW0]; exact ⟨by simp [go_sem], by simp [go_sem], by simp [go_sem]⟩
  replace P := Lib.hid P
  have Py : Box3 W0 (w.heap.size) 3 (.bool b2) (.slice A2 n2 c2) (.slice C2 m2 d2) := by rw [hW0]; exact ⟨by simp [go_sem], by simp [go_sem], by simp [go_sem]⟩
  replace Py := Lib.hid Py
  have R : Res3 W0 (w.heap.size + 1) 0 (.bool false) (.slice none 0 0) (.slice none 0 0) := by rw [hW0]; exact ⟨by simp [go_sem], by simp [go_sem], by simp [go_sem], by simp [go_sem], by simp [go_sem], by simp [go_sem], by simp⟩
  replace R := Lib.hid R
  have R_ : Res3 W0 (w.heap.size + 1) 3 (.bool false) (.slice none 0 0) (.slice none 0 0) := by rw [hW0]; exact ⟨by simp [go_sem], by simp [go_sem], by simp [go_sem], by simp [go_sem], by simp [go_sem], by simp [go_sem], by simp⟩
  replace R_ := Lib.hid R_
  have z0 : w.heap.size < W0.heap.size := by rw [hW0]; simp <;> omega
  replace z0 := Lib.hid z0
  have z1 : w.heap.size + 1 < W0.heap.size := by rw [hW0]; simp <;> omega
  replace z1 := Lib.hid z1
  clear hW0
  replace Fa := Lib.hid (Fa.out.kept G0.keeps)
  replace Fb := Lib.hid (Fb.out.kept G0.keeps)
  replace G0 := Lib.hid G0
  have gd : Grew W0 W0.drew := (Grew.refl W0).drew
  replace R := Lib.hid (R.out.grew gd)
  replace R_ := Lib.hid (R_.out.grew gd)
  replace P := Lib.hid (P.out.grew gd)
  replace Py := Lib.hid (Py.out.grew gd)
  replace z0 := Lib.hid (lt_grew z0.out gd)
  replace z1 := Lib.hid (lt_grew z1.out gd)
  replace Fa := Lib.hid (Fa.out.kept gd.keeps)
  replace Fb := Lib.hid (Fb.out.kept gd.keeps)
  replace gd := Lib.hid gd
  have ZP := P
  have ZPy := Py
  go_region_held3 (fun w' => w'.cell? ⟨w.heap.size, 0, none⟩ = some (.bool b1) ∧ w'.cell? ⟨w.heap.size, 1, none⟩ = some (.slice A1 n1 c1) ∧ w'.cell? ⟨w.heap.size, 2, none⟩ = some (.slice C1 m1 d1) ∧ w'.cell? ⟨w.heap.size, 3, none⟩ = some (.bool b2) ∧ w'.cell? ⟨w.heap.size, 4, none⟩ = some (.slice A2 n2 c2) ∧ w'.cell? ⟨w.heap.size, 5, none⟩ = some (.slice C2 m2 d2))
    (first | (with_reducible exact ⟨ZP.out.p0, ZP.out.p1, ZP.out.p2, ZPy.out.p0, ZPy.out.p1, ZPy.out.p2⟩) | (with_reducible exact ⟨g1.cell ZP.out.p0, g1.cell ZP.out.p1, g1.cell ZP.out.p2, g1.cell ZPy.out.p0, g1.cell ZPy.out.p1, g1.cell ZPy.out.p2⟩) | (with_reducible exact ⟨(g1.trans g2).cell ZP.out.p0, (g1.trans g2).cell ZP.out.p1, (g1.trans g2).cell ZP.out.p2, (g1.trans g2).cell ZPy.out.p0, (g1.trans g2).cell ZPy.out.p1, (g1.trans g2).cell ZPy.out.p2⟩) | (with_reducible exact ⟨other3 (o := 3) (by omega) (other3 (o := 0) (by omega) ((g1.trans g2).cell ZP.out.p0)), other3 (o := 3) (by omega) (other3 (o := 0) (by omega) ((g1.trans g2).cell ZP.out.p1)), other3 (o := 3) (by omega) (other3 (o := 0) (by omega) ((g1.trans g2).cell ZP.out.p2)), other3 (o := 3) (by omega) (other3 (o := 0) (by omega) ((g1.trans g2).cell ZPy.out.p0)), other3 (o := 3) (by omega) (other3 (o := 0) (by omega) ((g1.trans g2).cell ZPy.out.p1)), other3 (o := 3) (by omega) (other3 (o := 0) (by omega) ((g1.trans g2).cell ZPy.out.p2))⟩))
    (first | (have chk := g1; clear chk; go_at_call 57; refine (rfreduce_any _ y k _ Fb.out (by omega)).mono ?_; rintro e w2 ⟨V2, rfl, hV2, g2⟩; obtain ⟨b14, A14, n14, c14, C14, m14, d14, rfl, X2⟩ := hV2.laid; clear hV2; replace R := Lib.hid (R.out.grew g2); replace R_ := Lib.hid (R_.out.grew g2); replace P := Lib.hid (P.out.grew g2); replace Py := Lib.hid (Py.out.grew g2); replace z0 := Lib.hid (lt_grew z0.out g2); replace z1 := Lib.hid (lt_grew z1.out g2); replace Fa := Lib.hid (Fa.out.kept g2.keeps); replace Fb := Lib.hid (Fb.out.kept g2.keeps); replace X1 := Lib.hid (X1.out.kept g2.keeps); obtain ⟨R0, R1, R2, Rf0, Rf1, Rf2, Rs⟩ := R.out; obtain ⟨R_0, R_1, R_2, R_f0, R_f1, R_f2, R_s⟩ := R_.out) | (go_at_call 57; refine (rfreduce_any _ x k _ Fa.out (by omega)).mono ?_; rintro e w1 ⟨V1, rfl, hV1, g1⟩; obtain ⟨b13, A13, n13, c13, C13, m13, d13, rfl, X1⟩ := hV1.laid; clear hV1; replace R := Lib.hid (R.out.grew g1); replace R_ := Lib.hid (R_.out.grew g1); replace P := Lib.hid (P.out.grew g1); replace Py := Lib.hid (Py.out.grew g1); replace z0 := Lib.hid (lt_grew z0.out g1); replace z1 := Lib.hid (lt_grew z1.out g1); replace Fa := Lib.hid (Fa.out.kept g1.keeps); replace Fb := Lib.hid (Fb.out.kept g1.keeps)))
  replace G0 := Lib.hid (((G0.out.trans gd.out).trans g1).trans g2)
  clear gd g1 g2 ZP ZPy
  refine gen_then ?_
  intro W9 hW9
  obtain ⟨q0, q1, q2, q3, q4, q5, qK, qG⟩ := store6 R0 R1 R2 R_0 R_1 R_2 hW9
  have GE := qG w (by omega) G0.out
  have QK := Lib.hid qK
  clear qK qG hW9 R0 R1 R2 R_0 R_1 R_2
  go_wp2_with fail
  exact bodyPost_ret (v := .agg #[.bool b13, .slice A13 n13 c13, .slice C13 m13 d13, .bool b14, .slice A14 n14 c14, .slice C14 m14 d14]) (by simp [results, Tryz.results61, go_sem, q0, q1, q2, q3, q4, q5]) rfl ⟨_, rfl, SpotC.mk (X1.out.kept QK.out) (X2.out.kept QK.out), GE⟩
end Go.Proofs.YtmommicmblfibaaGreat
