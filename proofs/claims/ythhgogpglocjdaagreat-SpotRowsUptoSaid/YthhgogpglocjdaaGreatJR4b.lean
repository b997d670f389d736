/- r02.Add, Sub, Cmp, Of. Condition: what comes in reads; fewer than 2^36 words. r02.Of. Condition: an int. r04.worth, up. Condition: what comes in reads. r04.up, Reduce. Condition: what comes in reads. -/
import Derived.Test.YthhgogpglocjdaaGreatJR2a
namespace Go.Proofs.YthhgogpglocjdaaGreat
open Go.RowKit

theorem sgn_diff_ge (b : Bool) {N M : Nat} (h : M ≤ N) : sgn b (N - M) = sgn b N + sgn (!b) M := by
  unfold sgn; cases b <;> simp <;> omega
theorem sgn_diff_lt (b : Bool) {N M : Nat} (h : N < M) : sgn (!b) (M - N) = sgn b N + sgn (!b) M := by
  unfold sgn; cases b <;> simp <;> omega

set_option maxRecDepth 100000 in
set_option maxHeartbeats 8000000 in
theorem r2add_any (Va Vb : Value) (z y : Int) (k l : Nat) (w : World) (ha : WhlR w Va z k) (hb : WhlR w Vb y l) (hs : k < 68719476736 ∧ l < 68719476736) :
    Calls Tryz.prog 79 #[Va, Vb] w fun e w' => ∃ V, e = .returned V ∧ Whl w' V (z + y) ∧ Grew w w' := by
  obtain ⟨b1, A1, n1, c1, N, rfl, Na, Ez, hk⟩ := ha.open
  obtain ⟨b2, A2, n2, c2, M, rfl, Nb, Ey, hl⟩ := hb.open
  have k1 := Na.out.len_le (by omega)
  have k2 := Nb.out.len_le (by omega)
  have k3 := len_add (B := 4294967296) (by omega) N M 68719476735 (by omega) (by omega)
  have hk9 := Lib.hid (show len 4294967296 (N + M) < 137438953472 by omega)
  have hkl := Lib.hid (show n1 < 274877906944 ∧ n2 < 274877906944 by omega)
  have hkl2 := Lib.hid (show n2 < 274877906944 ∧ n1 < 274877906944 by omega)
  have kd1 := Lib.hid (show len 4294967296 (N - M) < 137438953472 by have := len_mono (B := 4294967296) (by omega) (Nat.sub_le N M); omega)
  have kd2 := Lib.hid (show len 4294967296 (M - N) < 137438953472 by have := len_mono (B := 4294967296) (by omega) (Nat.sub_le M N); omega)
  clear ha hb k1 k2 k3 hk hl hs
  by_cases hbb : b1 = b2
  · as_aux_lemma =>
    subst hbb
    have e1 : sgn b1 (N + M) = z + y := by rw [sgn_add, Ez.out, Ey.out]
    replace e1 := Lib.hid e1
    go_enter Tryz.func79, Tryz.ntmps79
    go_wp2_with fail
    refine gen_wp ?_
    intro W0 hW0
    have G0 : Grew w W0 := by rw [hW0]; exact (((Grew.refl w).alloc _).alloc _).alloc _
    have P : Box2 W0 (w.heap.size) 0 (.bool b1) (.slice A1 n1 c1) := by rw [hW0]; exact ⟨by simp [go_sem], by simp [go_sem]⟩
    replace P := Lib.hid P
    have Q : Box2 W0 (w.heap.size + 1) 0 (.bool b1) (.slice A2 n2 c2) := by rw [hW0]; exact ⟨by simp [go_sem], by simp [go_sem]⟩
    replace Q := Lib.hid Q
    have R : Res2 W0 (w.heap.size + 1 + 1) 0 (.bool false) (.slice none 0 0) := by rw [hW0]; exact ⟨by simp [go_sem], by simp [go_sem], by simp [go_sem], by simp [go_sem], by simp⟩
    replace R := Lib.hid R
    have z0 : w.heap.size < W0.heap.size := by rw [hW0]; simp <;> omega
    replace z0 := Lib.hid z0
    have z1 : w.heap.size + 1 < W0.heap.size := by rw [hW0]; simp <;> omega
    replace z1 := Lib.hid z1
    have z2 : w.heap.size + 1 + 1 < W0.heap.size := by rw [hW0]; simp <;> omega
    replace z2 := Lib.hid z2
    clear hW0
    replace Na := Lib.hid (Na.out.kept G0.keeps)
    replace Nb := Lib.hid (Nb.out.kept G0.keeps)
    replace G0 := Lib.hid G0
    have gd : Grew W0 W0.drew := (Grew.refl W0).drew
    replace R := Lib.hid (R.out.grew gd)
    replace P := Lib.hid (P.out.grew gd)
    replace Q := Lib.hid (Q.out.grew gd)
    replace z0 := Lib.hid (lt_grew z0.out gd)
    replace z1 := Lib.hid (lt_grew z1.out gd)
    replace z2 := Lib.hid (lt_grew z2.out gd)
    replace Na := Lib.hid (Na.out.kept gd.keeps)
    replace Nb := Lib.hid (Nb.out.kept gd.keeps)
    replace gd := Lib.hid gd
    have ZP := P
    have ZQ := Q
    go_region_held3 (fun w' => w'.cell? ⟨w.heap.size, 0, none⟩ = some (.bool b1) ∧ w'.cell? ⟨w.heap.size, 1, none⟩ = some (.slice A1 n1 c1) ∧ w'.cell? ⟨w.heap.size + 1, 0, none⟩ = some (.bool b1) ∧ w'.cell? ⟨w.heap.size + 1, 1, none⟩ = some (.slice A2 n2 c2))
      (first | (with_reducible exact ⟨ZP.out.p0, ZP.out.p1, ZQ.out.p0, ZQ.out.p1⟩) | (with_reducible exact ⟨g1.cell ZP.out.p0, g1.cell ZP.out.p1, g1.cell ZQ.out.p0, g1.cell ZQ.out.p1⟩) | (with_reducible exact ⟨(g1.trans g2).cell ZP.out.p0, (g1.trans g2).cell ZP.out.p1, (g1.trans g2).cell ZQ.out.p0, (g1.trans g2).cell ZQ.out.p1⟩) | (with_reducible exact ⟨other2 (o := 0) (by omega) ((g1.trans g2).cell ZP.out.p0), other2 (o := 0) (by omega) ((g1.trans g2).cell ZP.out.p1), other2 (o := 0) (by omega) ((g1.trans g2).cell ZQ.out.p0), other2 (o := 0) (by omega) ((g1.trans g2).cell ZQ.out.p1)⟩))
      (first | (go_at_call 115; refine (rnadd_any _ _ N M _ _ _ Na.out Nb.out hkl.out).mono ?_; rintro e w1 ⟨V1, rfl, hV1, g1⟩; obtain ⟨A3, c3, rfl, X1⟩ := hV1.slice; clear hV1; replace R := Lib.hid (R.out.grew g1); replace P := Lib.hid (P.out.grew g1); replace Q := Lib.hid (Q.out.grew g1); replace z0 := Lib.hid (lt_grew z0.out g1); replace z1 := Lib.hid (lt_grew z1.out g1); replace z2 := Lib.hid (lt_grew z2.out g1); replace Na := Lib.hid (Na.out.kept g1.keeps); replace Nb := Lib.hid (Nb.out.kept g1.keeps)) | (go_at_call 84; refine (rmake_any _ _ (N + M) _ _ X1.out hk9.out).mono ?_; rintro e w2 ⟨V2, rfl, hV2, g2⟩; obtain ⟨b4, A4, n4, c4, rfl, X2, -⟩ := hV2.laid; clear hV2; replace R := Lib.hid (R.out.grew g2); replace P := Lib.hid (P.out.grew g2); replace Q := Lib.hid (Q.out.grew g2); replace z0 := Lib.hid (lt_grew z0.out g2); replace z1 := Lib.hid (lt_grew z1.out g2); replace z2 := Lib.hid (lt_grew z2.out g2); replace Na := Lib.hid (Na.out.kept g2.keeps); replace Nb := Lib.hid (Nb.out.kept g2.keeps); replace X1 := Lib.hid (X1.out.kept g2.keeps); obtain ⟨R0, R1, Rf0, Rf1, Rs⟩ := R.out))
    replace G0 := Lib.hid (((G0.out.trans gd.out).trans g1).trans g2)
    clear gd g1 g2 ZP ZQ
    refine gen_then ?_
    intro W9 hW9
    obtain ⟨q0, q1, qK, -, qs, qG⟩ := store2 (o := 0) R0 R1 hW9
    have GE := qG w (by omega) G0.out
    have QK := Lib.hid qK
    clear qK qG hW9 R0 R1
    go_wp2_with fail
    exact bodyPost_ret (v := .agg #[.bool b4, .slice A4 n4 c4]) (by simp [results, Tryz.results79, go_sem, q0, q1]) rfl ⟨_, rfl, by rw [← e1.out]; exact X2.out.kept QK.out, GE⟩
  · obtain rfl : b2 = !b1 := by cases b1 <;> cases b2 <;> simp_all
    clear hbb
    go_enter Tryz.func79, Tryz.ntmps79
    go_wp2_with fail
    refine gen_calls ?_
    intro W0 hW0
    have G0 : Grew w W0 := by rw [hW0]; exact (((Grew.refl w).alloc _).alloc _).alloc _
    have P : Box2 W0 (w.heap.size) 0 (.bool b1) (.slice A1 n1 c1) := by rw [hW0]; exact ⟨by simp [go_sem], by simp [go_sem]⟩
    replace P := Lib.hid P
    have Q : Box2 W0 (w.heap.size + 1) 0 (.bool (!b1)) (.slice A2 n2 c2) := by rw [hW0]; exact ⟨by simp [go_sem], by simp [go_sem]⟩
    replace Q := Lib.hid Q
    have R : Res2 W0 (w.heap.size + 1 + 1) 0 (.bool false) (.slice none 0 0) := by rw [hW0]; exact ⟨by simp [go_sem], by simp [go_sem], by simp [go_sem], by simp [go_sem], by simp⟩
    replace R := Lib.hid R
    have z0 : w.heap.size < W0.heap.size := by rw [hW0]; simp <;> omega
    replace z0 := Lib.hid z0
    have z1 : w.heap.size + 1 < W0.heap.size := by rw [hW0]; simp <;> omega
    replace z1 := Lib.hid z1
    have z2 : w.heap.size + 1 + 1 < W0.heap.size := by rw [hW0]; simp <;> omega
    replace z2 := Lib.hid z2
    clear hW0
    replace Na := Lib.hid (Na.out.kept G0.keeps)
    replace Nb := Lib.hid (Nb.out.kept G0.keeps)
    replace G0 := Lib.hid G0
    refine (rCmp_any _ _ N M _ _ _ Na.out Nb.out hkl.out).mono ?_
    rintro e w1 ⟨rfl, g1⟩
    replace R := Lib.hid (R.out.grew g1)
    replace P := Lib.hid (P.out.grew g1)
    replace Q := Lib.hid (Q.out.grew g1)
    replace z0 := Lib.hid (lt_grew z0.out g1)
    replace z1 := Lib.hid (lt_grew z1.out g1)
    replace z2 := Lib.hid (lt_grew z2.out g1)
    replace Na := Lib.hid (Na.out.kept g1.keeps)
    replace Nb := Lib.hid (Nb.out.kept g1.keeps)
    replace G0 := Lib.hid (G0.out.trans g1)
    clear g1

    rcases Nat.lt_or_ge N M with hlt | hge
    · as_aux_lemma =>
      rw [cmpN_lt hlt]
      have e1 : sgn (!b1) (M - N) = z + y := by rw [sgn_diff_lt b1 hlt, Ez.out, Ey.out]
      replace e1 := Lib.hid e1
      have hle := Lib.hid (Nat.le_of_lt hlt)
      clear hlt
      obtain ⟨P0, P1⟩ := P.out
      obtain ⟨Q0, Q1⟩ := Q.out
      go_wp2_with fail
      clear P0 P1 Q0 Q1
      refine (rSub_yes _ _ M N _ _ _ Nb.out Na.out hkl2.out hle.out).mono ?_
      rintro e w2 ⟨V1, rfl, hV1, g2⟩
      obtain ⟨A3, c3, rfl, X1⟩ := hV1.slice
      clear hV1
      replace R := Lib.hid (R.out.grew g2)
      replace P := Lib.hid (P.out.grew g2)
      replace Q := Lib.hid (Q.out.grew g2)
      replace z0 := Lib.hid (lt_grew z0.out g2)
      replace z1 := Lib.hid (lt_grew z1.out g2)
      replace z2 := Lib.hid (lt_grew z2.out g2)
      replace Na := Lib.hid (Na.out.kept g2.keeps)
      replace Nb := Lib.hid (Nb.out.kept g2.keeps)
      replace G0 := Lib.hid (G0.out.trans g2)
      clear g2
      obtain ⟨P0, P1⟩ := P.out
      obtain ⟨Q0, Q1⟩ := Q.out
      go_wp2_with fail
      clear P0 P1 Q0 Q1
      refine (rmake_any (!b1) _ (M - N) _ _ X1.out kd2.out).mono ?_
      rintro e w3 ⟨V2, rfl, hV2, g3⟩
      obtain ⟨b4, A4, n4, c4, rfl, X2, -⟩ := hV2.laid
      clear hV2
      replace R := Lib.hid (R.out.grew g3)
      replace P := Lib.hid (P.out.grew g3)
      replace Q := Lib.hid (Q.out.grew g3)
      replace z0 := Lib.hid (lt_grew z0.out g3)
      replace z1 := Lib.hid (lt_grew z1.out g3)
      replace z2 := Lib.hid (lt_grew z2.out g3)
      replace Na := Lib.hid (Na.out.kept g3.keeps)
      replace Nb := Lib.hid (Nb.out.kept g3.keeps)
      replace X1 := Lib.hid (X1.out.kept g3.keeps)
      replace G0 := Lib.hid (G0.out.trans g3)
      clear g3
      obtain ⟨R0, R1, Rf0, Rf1, Rs⟩ := R.out
      go_wp2_with fail
      refine gen_post ?_
      intro W9 hW9
      obtain ⟨q0, q1, qK, -, qs, qG⟩ := store2 (o := 0) R0 R1 hW9
      have GE := qG w (by omega) G0.out
      have QK := Lib.hid qK
      clear qK qG hW9 R0 R1
      exact bodyPost_ret (v := .agg #[.bool b4, .slice A4 n4 c4]) (by simp [results, Tryz.results79, go_sem, q0, q1]) rfl ⟨_, rfl, by rw [← e1.out]; exact X2.out.kept QK.out, GE⟩
    · as_aux_lemma =>

      have hc0 : 0 ≤ cmpN N M := by
        unfold cmpN
        rw [if_neg (by omega)]
        split <;> omega
      generalize cmpN N M = cm at *
      have e1 : sgn b1 (N - M) = z + y := by rw [sgn_diff_ge b1 hge, Ez.out, Ey.out]
      replace e1 := Lib.hid e1
      replace hge := Lib.hid hge
      obtain ⟨P0, P1⟩ := P.out
      obtain ⟨Q0, Q1⟩ := Q.out
      go_wp2_with fail
      clear P0 P1 Q0 Q1
      refine (rSub_yes _ _ N M _ _ _ Na.out Nb.out hkl.out hge.out).mono ?_
      rintro e w2 ⟨V1, rfl, hV1, g2⟩
      obtain ⟨A3, c3, rfl, X1⟩ := hV1.slice
      clear hV1
      replace R := Lib.hid (R.out.grew g2)
      replace P := Lib.hid (P.out.grew g2)
      replace Q := Lib.hid (Q.out.grew g2)
      replace z0 := Lib.hid (lt_grew z0.out g2)
      replace z1 := Lib.hid (lt_grew z1.out g2)
      replace z2 := Lib.hid (lt_grew z2.out g2)
      replace Na := Lib.hid (Na.out.kept g2.keeps)
      replace Nb := Lib.hid (Nb.out.kept g2.keeps)
      replace G0 := Lib.hid (G0.out.trans g2)
      clear g2
      obtain ⟨P0, P1⟩ := P.out
      obtain ⟨Q0, Q1⟩ := Q.out
      go_wp2_with fail
      clear P0 P1 Q0 Q1
      refine (rmake_any b1 _ (N - M) _ _ X1.out kd1.out).mono ?_
      rintro e w3 ⟨V2, rfl, hV2, g3⟩
      obtain ⟨b4, A4, n4, c4, rfl, X2, -⟩ := hV2.laid
      clear hV2
      replace R := Lib.hid (R.out.grew g3)
      replace P := Lib.hid (P.out.grew g3)
      replace Q := Lib.hid (Q.out.grew g3)
      replace z0 := Lib.hid (lt_grew z0.out g3)
      replace z1 := Lib.hid (lt_grew z1.out g3)
      replace z2 := Lib.hid (lt_grew z2.out g3)
      replace Na := Lib.hid (Na.out.kept g3.keeps)
      replace Nb := Lib.hid (Nb.out.kept g3.keeps)
      replace X1 := Lib.hid (X1.out.kept g3.keeps)
      replace G0 := Lib.hid (G0.out.trans g3)
      clear g3
      obtain ⟨R0, R1, Rf0, Rf1, Rs⟩ := R.out
      go_wp2_with fail
      refine gen_post ?_
      intro W9 hW9
      obtain ⟨q0, q1, qK, -, qs, qG⟩ := store2 (o := 0) R0 R1 hW9
      have GE := qG w (by omega) G0.out
      have QK := Lib.hid qK
      clear qK qG hW9 R0 R1
      exact bodyPost_ret (v := .agg #[.bool b4, .slice A4 n4 c4]) (by simp [results, Tryz.results79, go_sem, q0, q1]) rfl ⟨_, rfl, by rw [← e1.out]; exact X2.out.kept QK.out, GE⟩

theorem WhlR.canon {w : World} {V : Value} {z : Int} {k : Nat} (h : Whl w V z) (e : len 4294967296 z.natAbs ≤ k) : WhlR w V z k := h.r e
theorem WhlR.len {w : World} {V : Value} {z : Int} {k : Nat} (h : WhlR w V z k) : len 4294967296 z.natAbs ≤ k := by
  obtain ⟨neg, N, n, v, rfl, hn, h1, h2⟩ := h
  have := hn.len_le (by omega)
  rw [← h1, sgn_abs]; omega

set_option maxRecDepth 100000 in
set_option maxHeartbeats 8000000 in
theorem r2sub_any (Va Vb : Value) (z y : Int) (k l : Nat) (w : World) (ha : WhlR w Va z k) (hb : WhlR w Vb y l) (hs : k < 68719476736 ∧ l < 68719476736) :
    Calls Tryz.prog 83 #[Va, Vb] w fun e w' => ∃ V, e = .returned V ∧ Whl w' V (z - y) ∧ Grew w w' := by
  have hyl := hb.len
  obtain ⟨b1, A1, n1, c1, N, rfl, -, -, -⟩ := ha.open
  obtain ⟨b2, A2, n2, c2, M, rfl, -, -, -⟩ := hb.open
  have Ra := Lib.hid ha
  have Rb := Lib.hid hb
  have hl2 := Lib.hid (show l < 137438953472 by omega)
  have hny := Lib.hid (show len 4294967296 (-y).natAbs ≤ l by rw [Int.natAbs_neg]; exact hyl)
  have hs2 := Lib.hid hs
  clear ha hb hyl hs
  go_enter Tryz.func83, Tryz.ntmps83
  go_wp2_with fail
  refine gen_wp ?_
  intro W0 hW0
  have G0 : Grew w W0 := by rw [hW0]; exact (((Grew.refl w).alloc _).alloc _).alloc _
  have P : Box2 W0 (w.heap.size) 0 (.bool b1) (.slice A1 n1 c1) := by rw [hW0]; exact ⟨by simp [go_sem], by simp [go_sem]⟩
  replace P := Lib.hid P
  have Q : Box2 W0 (w.heap.size + 1) 0 (.bool b2) (.slice A2 n2 c2) := by rw [hW0]; exact ⟨by simp [go_sem], by simp [go_sem]⟩
  replace Q := Lib.hid Q
  have R : Res2 W0 (w.heap.size + 1 + 1) 0 (.bool false) (.slice none 0 0) := by rw [hW0]; exact ⟨by simp [go_sem], by simp [go_sem], by simp [go_sem], by simp [go_sem], by simp⟩
  replace R := Lib.hid R
  have z0 : w.heap.size < W0.heap.size := by rw [hW0]; simp <;> omega
  replace z0 := Lib.hid z0
  have z1 : w.heap.size + 1 < W0.heap.size := by rw [hW0]; simp <;> omega
  replace z1 := Lib.hid z1
  have z2 : w.heap.size + 1 + 1 < W0.heap.size := by rw [hW0]; simp <;> omega
  replace z2 := Lib.hid z2
  clear hW0
  replace Ra := Lib.hid (Ra.out.kept G0.keeps)
  replace Rb := Lib.hid (Rb.out.kept G0.keeps)
  replace G0 := Lib.hid G0
  have gd : Grew W0 W0.drew := (Grew.refl W0).drew
  replace R := Lib.hid (R.out.grew gd)
  replace P := Lib.hid (P.out.grew gd)
  replace Q := Lib.hid (Q.out.grew gd)
  replace z0 := Lib.hid (lt_grew z0.out gd)
  replace z1 := Lib.hid (lt_grew z1.out gd)
  replace z2 := Lib.hid (lt_grew z2.out gd)
  replace Ra := Lib.hid (Ra.out.kept gd.keeps)
  replace Rb := Lib.hid (Rb.out.kept gd.keeps)
  replace gd := Lib.hid gd
  have ZP := P
  have ZQ := Q
  go_region_held3 (fun w' => w'.cell? ⟨w.heap.size, 0, none⟩ = some (.bool b1) ∧ w'.cell? ⟨w.heap.size, 1, none⟩ = some (.slice A1 n1 c1) ∧ w'.cell? ⟨w.heap.size + 1, 0, none⟩ = some (.bool b2) ∧ w'.cell? ⟨w.heap.size + 1, 1, none⟩ = some (.slice A2 n2 c2))
    (first | (with_reducible exact ⟨ZP.out.p0, ZP.out.p1, ZQ.out.p0, ZQ.out.p1⟩) | (with_reducible exact ⟨g1.cell ZP.out.p0, g1.cell ZP.out.p1, g1.cell ZQ.out.p0, g1.cell ZQ.out.p1⟩) | (with_reducible exact ⟨(g1.trans g2).cell ZP.out.p0, (g1.trans g2).cell ZP.out.p1, (g1.trans g2).cell ZQ.out.p0, (g1.trans g2).cell ZQ.out.p1⟩) | (with_reducible exact ⟨other2 (o := 0) (by omega) ((g1.trans g2).cell ZP.out.p0), other2 (o := 0) (by omega) ((g1.trans g2).cell ZP.out.p1), other2 (o := 0) (by omega) ((g1.trans g2).cell ZQ.out.p0), other2 (o := 0) (by omega) ((g1.trans g2).cell ZQ.out.p1)⟩))
    (first | (go_at_call 85; refine (r2neg_any _ y l _ Rb.out hl2.out).mono ?_; rintro e w1 ⟨V1, rfl, hV1, g1⟩; obtain ⟨b3, A3, n3, c3, rfl, hX, -⟩ := hV1.laid; have X1 := Lib.hid (hX.out.r hny.out); clear hV1 hX; replace R := Lib.hid (R.out.grew g1); replace P := Lib.hid (P.out.grew g1); replace Q := Lib.hid (Q.out.grew g1); replace z0 := Lib.hid (lt_grew z0.out g1); replace z1 := Lib.hid (lt_grew z1.out g1); replace z2 := Lib.hid (lt_grew z2.out g1); replace Ra := Lib.hid (Ra.out.kept g1.keeps); replace Rb := Lib.hid (Rb.out.kept g1.keeps)) | (go_at_call 79; refine (r2add_any _ _ z (-y) k l _ Ra.out X1.out hs2.out).mono ?_; rintro e w2 ⟨V2, rfl, hV2, g2⟩; obtain ⟨b4, A4, n4, c4, rfl, X2, -⟩ := hV2.laid; clear hV2; replace R := Lib.hid (R.out.grew g2); replace P := Lib.hid (P.out.grew g2); replace Q := Lib.hid (Q.out.grew g2); replace z0 := Lib.hid (lt_grew z0.out g2); replace z1 := Lib.hid (lt_grew z1.out g2); replace z2 := Lib.hid (lt_grew z2.out g2); replace Ra := Lib.hid (Ra.out.kept g2.keeps); replace Rb := Lib.hid (Rb.out.kept g2.keeps); replace X1 := Lib.hid (X1.out.kept g2.keeps); obtain ⟨R0, R1, Rf0, Rf1, Rs⟩ := R.out))
  replace G0 := Lib.hid (((G0.out.trans gd.out).trans g1).trans g2)
  clear gd g1 g2 ZP ZQ
  refine gen_then ?_
  intro W9 hW9
  obtain ⟨q0, q1, qK, -, qs, qG⟩ := store2 (o := 0) R0 R1 hW9
  have GE := qG w (by omega) G0.out
  have QK := Lib.hid qK
  clear qK qG hW9 R0 R1
  go_wp2_with fail
  exact bodyPost_ret (v := .agg #[.bool b4, .slice A4 n4 c4]) (by simp [results, Tryz.results83, go_sem, q0, q1]) rfl ⟨_, rfl, by rw [Int.sub_eq_add_neg]; exact X2.out.kept QK.out, GE⟩

set_option maxRecDepth 100000 in
set_option maxHeartbeats 8000000 in
theorem r2cmp_any (Va Vb : Value) (z y : Int) (k l : Nat) (w : World) (ha : WhlR w Va z k) (hb : WhlR w Vb y l) (hs : k < 68719476735 ∧ l < 68719476735) :
    Calls Tryz.prog 54 #[Va, Vb] w fun e w' => e = .returned (.int .i64 (cmpZ z y)) ∧ Grew w w' := by
  have hzl := ha.len
  have hyl := hb.len
  have hd : len 4294967296 (z - y).natAbs ≤ 68719476736 := by
    rw [Int.sub_eq_add_neg]
    exact len_addz _ _ 68719476735 (by omega) (by rw [Int.natAbs_neg]; omega)
  obtain ⟨b1, A1, n1, c1, N, rfl, -, -, -⟩ := ha.open
  obtain ⟨b2, A2, n2, c2, M, rfl, -, -, -⟩ := hb.open
  have Ra := Lib.hid ha
  have Rb := Lib.hid hb
  clear ha hb hyl hzl
  go_enter Tryz.func54, Tryz.ntmps54
  go_wp2_with fail
  refine gen_calls ?_
  intro W0 hW0
  have G0 : Grew w W0 := by rw [hW0]; exact ((Grew.refl w).alloc _).alloc _
  have P : Box2 W0 (w.heap.size) 0 (.bool b1) (.slice A1 n1 c1) := by rw [hW0]; exact ⟨by simp [go_sem], by simp [go_sem]⟩
  replace P := Lib.hid P
  have Q : Box2 W0 (w.heap.size + 1) 0 (.bool b2) (.slice A2 n2 c2) := by rw [hW0]; exact ⟨by simp [go_sem], by simp [go_sem]⟩
  replace Q := Lib.hid Q
  have z0 : w.heap.size < W0.heap.size := by rw [hW0]; simp <;> omega
  replace z0 := Lib.hid z0
  have z1 : w.heap.size + 1 < W0.heap.size := by rw [hW0]; simp <;> omega
  replace z1 := Lib.hid z1
  clear hW0
  replace Ra := Lib.hid (Ra.out.kept G0.keeps)
  replace Rb := Lib.hid (Rb.out.kept G0.keeps)
  replace G0 := Lib.hid G0
  refine (r2sub_any _ _ z y k l _ Ra.out Rb.out (by omega)).mono ?_
  rintro e w1 ⟨V1, rfl, hV1, g1⟩
  obtain ⟨b3, A3, n3, c3, rfl, hX, -⟩ := hV1.laid
  have X1 := Lib.hid (hX.out.r hd)
  clear hV1 hX
  replace P := Lib.hid (P.out.grew g1)
  replace Q := Lib.hid (Q.out.grew g1)
  replace z0 := Lib.hid (lt_grew z0.out g1)
  replace z1 := Lib.hid (lt_grew z1.out g1)
  replace Ra := Lib.hid (Ra.out.kept g1.keeps)
  replace Rb := Lib.hid (Rb.out.kept g1.keeps)
  replace G0 := Lib.hid (G0.out.trans g1)
  clear g1
  go_wp2_with fail
  refine (r2sign_any _ (z - y) _ _ X1.out (by omega)).mono ?_
  rintro e w2 ⟨rfl, g2⟩
  replace P := Lib.hid (P.out.grew g2)
  replace Q := Lib.hid (Q.out.grew g2)
  replace z0 := Lib.hid (lt_grew z0.out g2)
  replace z1 := Lib.hid (lt_grew z1.out g2)
  replace Ra := Lib.hid (Ra.out.kept g2.keeps)
  replace Rb := Lib.hid (Rb.out.kept g2.keeps)
  replace X1 := Lib.hid (X1.out.kept g2.keeps)
  replace G0 := Lib.hid (G0.out.trans g2)
  clear g2
  go_wp2_with fail
  go_ret
  exact ⟨by rw [cmpZ_sub]; rfl, G0.out⟩
end Go.Proofs.YthhgogpglocjdaaGreat
namespace Go.Proofs.YthhgogpglocjdaaGreat
open Go.RowKit

theorem len_word {N : Nat} (h : N < 18446744073709551616) : len 4294967296 N ≤ 2 := len_le (by omega) (by simpa using h)

set_option maxRecDepth 100000 in
set_option maxHeartbeats 4000000 in
theorem r2of_pos (N : Nat) (w : World) (h : N < 9223372036854775808) :
    Calls Tryz.prog 78 #[.int .i64 (N : Int)] w fun e w' => ∃ V, e = .returned V ∧ Whl w' V (sgn false N) ∧ Grew w w' := by
  have hb : (N : Int) ≤ 9223372036854775807 := by omega
  have hl := Lib.hid (show len 4294967296 N < 137438953472 by have := len_word (N := N) (by omega); omega)
  go_enter Tryz.func78, Tryz.ntmps78
  go_wp2_with fail
  refine gen_calls ?_
  intro W0 hW0
  have G0 : Grew w W0 := by rw [hW0]; exact (Grew.refl w).alloc _
  have R : Res2 W0 (w.heap.size) 0 (.bool false) (.slice none 0 0) := by rw [hW0]; exact ⟨by simp [go_sem], by simp [go_sem], by simp [go_sem], by simp [go_sem], by simp⟩
  replace R := Lib.hid R
  have z0 : w.heap.size < W0.heap.size := by rw [hW0]; simp <;> omega
  replace z0 := Lib.hid z0
  clear hW0
  replace G0 := Lib.hid G0
  refine (r1of_any _ N _ rfl (by omega)).mono ?_
  rintro e w1 ⟨V1, rfl, hV1, g1⟩
  obtain ⟨A3, c3, rfl, X1⟩ := hV1.slice
  clear hV1
  replace R := Lib.hid (R.out.grew g1)
  replace z0 := Lib.hid (lt_grew z0.out g1)
  replace G0 := Lib.hid (G0.out.trans g1)
  clear g1
  go_wp2_with fail
  refine (rmake_any _ _ N _ _ X1.out hl.out).mono ?_
  rintro e w2 ⟨V2, rfl, hV2, g2⟩
  obtain ⟨b4, A4, n4, c4, rfl, X2, -⟩ := hV2.laid
  clear hV2
  replace R := Lib.hid (R.out.grew g2)
  replace z0 := Lib.hid (lt_grew z0.out g2)
  replace X1 := Lib.hid (X1.out.kept g2.keeps)
  replace G0 := Lib.hid (G0.out.trans g2)
  clear g2
  obtain ⟨R0, R1, Rf0, Rf1, Rs⟩ := R.out
  go_wp2_with fail
  refine gen_post ?_
  intro W9 hW9
  obtain ⟨q0, q1, qK, -, qs, qG⟩ := store2 (o := 0) R0 R1 hW9
  have GE := qG w (by omega) G0.out
  have QK := Lib.hid qK
  clear qK qG hW9 R0 R1
  exact bodyPost_ret (v := .agg #[.bool b4, .slice A4 n4 c4]) (by simp [results, Tryz.results78, go_sem, q0, q1]) rfl ⟨_, rfl, X2.out.kept QK.out, GE⟩

set_option maxRecDepth 100000 in
set_option maxHeartbeats 4000000 in
theorem r2of_neg (x : Int) (K : Nat) (w : World) (h : K < 9223372036854775808) (hx : x = -(K : Int) - 1) :
    Calls Tryz.prog 78 #[.int .i64 x] w fun e w' => ∃ V, e = .returned V ∧ Whl w' V (sgn true (K + 1)) ∧ Grew w w' := by
  have q0 : x < 0 := by omega
  have q1 : -9223372036854775808 ≤ x := by omega
  have hl1 := Lib.hid (show len 4294967296 K < 274877906944 ∧ 1 < 274877906944 by have := len_word (N := K) (by omega); omega)
  have hl := Lib.hid (show len 4294967296 (K + 1) < 137438953472 by have := len_word (N := K + 1) (by omega); omega)
  have HX := Lib.hid hx
  clear hx
  go_enter Tryz.func78, Tryz.ntmps78
  go_wp2_with fail
  refine gen_calls ?_
  intro W0 hW0
  have G0 : Grew w W0 := by rw [hW0]; exact (Grew.refl w).alloc _
  have R : Res2 W0 (w.heap.size) 0 (.bool false) (.slice none 0 0) := by rw [hW0]; exact ⟨by simp [go_sem], by simp [go_sem], by simp [go_sem], by simp [go_sem], by simp⟩
  replace R := Lib.hid R
  have z0 : w.heap.size < W0.heap.size := by rw [hW0]; simp <;> omega
  replace z0 := Lib.hid z0
  clear hW0
  replace G0 := Lib.hid G0
  refine (r1of_any _ K _ (by have := HX.out; omega) (by omega)).mono ?_
  rintro e w1 ⟨V1, rfl, hV1, g1⟩
  obtain ⟨A3, c3, rfl, X1⟩ := hV1.slice
  clear hV1
  replace R := Lib.hid (R.out.grew g1)
  replace z0 := Lib.hid (lt_grew z0.out g1)
  replace G0 := Lib.hid (G0.out.trans g1)
  clear g1
  go_wp2_with fail
  refine gen_calls ?_
  intro W1 hW1
  have gl : Grew w1 W1 := by rw [hW1]; exact (Grew.refl _).alloc _
  have y1 := Lib.hid (R.out).2.2.2.2
  replace R := Lib.hid (R.out.grew gl)
  replace z0 := Lib.hid (lt_grew z0.out gl)
  replace X1 := Lib.hid (X1.out.kept gl.keeps)
  have X5 : Num 4294967296 .u32 W1 (.slice (some ⟨w1.heap.size, 0, none⟩) 1 1) 1 1 := by rw [hW1]; exact num_one _ _
  replace X5 := Lib.hid X5
  clear hW1
  replace G0 := Lib.hid (G0.out.trans gl)
  clear gl
  refine (rnadd_any _ _ K 1 _ _ _ X1.out X5.out hl1.out).mono ?_
  rintro e w2 ⟨V3, rfl, hV3, g2⟩
  obtain ⟨A5, c5, rfl, X3⟩ := hV3.slice
  clear hV3
  replace R := Lib.hid (R.out.grew g2)
  replace z0 := Lib.hid (lt_grew z0.out g2)
  replace X1 := Lib.hid (X1.out.kept g2.keeps)
  replace X5 := Lib.hid (X5.out.kept g2.keeps)
  replace G0 := Lib.hid (G0.out.trans g2)
  clear g2
  go_wp2_with fail
  refine (rmake_any _ _ (K + 1) _ _ X3.out hl.out).mono ?_
  rintro e w3 ⟨V2, rfl, hV2, g3⟩
  obtain ⟨b4, A4, n4, c4, rfl, X2, -⟩ := hV2.laid
  clear hV2
  replace R := Lib.hid (R.out.grew g3)
  replace z0 := Lib.hid (lt_grew z0.out g3)
  replace X1 := Lib.hid (X1.out.kept g3.keeps)
  replace X5 := Lib.hid (X5.out.kept g3.keeps)
  replace X3 := Lib.hid (X3.out.kept g3.keeps)
  replace G0 := Lib.hid (G0.out.trans g3)
  clear g3
  obtain ⟨R0, R1, Rf0, Rf1, Rs⟩ := R.out
  go_wp2_with fail
  refine gen_post ?_
  intro W9 hW9
  obtain ⟨q0, q1, qK, -, qs, qG⟩ := store2 (o := 0) R0 R1 hW9
  have GE := qG w (by omega) G0.out
  have QK := Lib.hid qK
  clear qK qG hW9 R0 R1
  exact bodyPost_ret (v := .agg #[.bool b4, .slice A4 n4 c4]) (by simp [results, Tryz.results78, go_sem, q0, q1]) rfl ⟨_, rfl, X2.out.kept QK.out, GE⟩

theorem r2of_any (x : Int) (w : World) (h0 : -9223372036854775808 ≤ x) (h1 : x ≤ 9223372036854775807) :
    Calls Tryz.prog 78 #[.int .i64 x] w fun e w' => ∃ V, e = .returned V ∧ Whl w' V x ∧ Grew w w' := by
  rcases Int.lt_or_le x 0 with h | h
  · obtain ⟨K, hK⟩ : ∃ K : Nat, x = -(K : Int) - 1 := ⟨(-x - 1).toNat, by omega⟩
    have := r2of_neg x K w (by omega) hK
    rw [show sgn true (K + 1) = x from by unfold sgn; simp; omega] at this
    exact this
  · obtain ⟨N, rfl⟩ := Int.eq_ofNat_of_zero_le h
    exact r2of_pos N w (by omega)
end Go.Proofs.YthhgogpglocjdaaGreat
namespace Go.Proofs.YthhgogpglocjdaaGreat
open Go.RowKit

/-- A fraction as it comes in whose lower part is not 0. -/
def FracP (w : World) (V : Value) (q : Rat) (k : Nat) : Prop :=
  ∃ neg N D n m va vd, V = .agg #[.bool neg, va, vd] ∧ Num 4294967296 .u32 w va N n ∧ Num 4294967296 .u32 w vd D m ∧ mkRat (sgn neg N) D = q ∧ n ≤ k ∧ m ≤ k ∧ D ≠ 0

theorem num_nil (w : World) : Num 4294967296 .u32 w (.slice none 0 0) 0 0 := by
  exact ⟨none, 0, rfl, by simp, by simp, by simp⟩

set_option maxRecDepth 100000 in
set_option maxHeartbeats 4000000 in
theorem rworth_any (Va : Value) (p : Rat) (k : Nat) (w : World) (ha : FracR w Va p k) (hk : 1 ≤ k) (hs : k < 274877906944) :
    Calls Tryz.prog 53 #[Va] w fun e w' => ∃ V, e = .returned V ∧ FracP w' V p k ∧ Grew w w' := by
  obtain ⟨b1, N, D, n1, m1, va, vd, rfl, Na, Da, Ep, kn, km⟩ := ha
  obtain ⟨A1, c1, rfl, Ra⟩ := Na.slice
  obtain ⟨C1, d1, rfl, Rb⟩ := Da.slice
  clear Na Da
  replace Ep := Lib.hid Ep
  go_enter Tryz.func53, Tryz.ntmps53
  go_wp2_with fail
  refine gen_calls ?_
  intro W0 hW0
  have G0 : Grew w W0 := by rw [hW0]; exact ((Grew.refl w).alloc _).alloc _
  have P : Box3 W0 (w.heap.size) 0 (.bool b1) (.slice A1 n1 c1) (.slice C1 m1 d1) := by rw [hW0]; exact ⟨by simp [go_sem], by simp [go_sem], by simp [go_sem]⟩
  replace P := Lib.hid P
  have R : Res3 W0 (w.heap.size + 1) 0 (.bool false) (.slice none 0 0) (.slice none 0 0) := by rw [hW0]; exact ⟨by simp [go_sem], by simp [go_sem], by simp [go_sem], by simp [go_sem], by simp [go_sem], by simp [go_sem], by simp⟩
  replace R := Lib.hid R
  have z0 : w.heap.size < W0.heap.size := by rw [hW0]; simp <;> omega
  replace z0 := Lib.hid z0
  have z1 : w.heap.size + 1 < W0.heap.size := by rw [hW0]; simp <;> omega
  replace z1 := Lib.hid z1
  clear hW0
  replace Ra := Lib.hid (Ra.out.kept G0.keeps)
  replace Rb := Lib.hid (Rb.out.kept G0.keeps)
  replace G0 := Lib.hid G0
  refine (rbits_any _ D m1 _ Rb.out (by omega)).mono ?_
  rintro e w1 ⟨b, rfl, hb0, g1⟩
  replace R := Lib.hid (R.out.grew g1)
  replace P := Lib.hid (P.out.grew g1)
  replace z0 := Lib.hid (lt_grew z0.out g1)
  replace z1 := Lib.hid (lt_grew z1.out g1)
  replace Ra := Lib.hid (Ra.out.kept g1.keeps)
  replace Rb := Lib.hid (Rb.out.kept g1.keeps)
  replace G0 := Lib.hid (G0.out.trans g1)
  clear g1
  by_cases h0 : D = 0
  · as_aux_lemma =>
    have hb : b = 0 := hb0.2 h0
    subst hb
    clear hb0

    obtain ⟨W1, hW1⟩ : ∃ V, V = w1.alloc (.cells #[.int .u32 1] 91) := ⟨_, rfl⟩
    have gl : Grew w1 W1 := by rw [hW1]; exact (Grew.refl _).alloc _
    have y1 := Lib.hid (R.out).2.2.2.2.2.2
    replace R := Lib.hid (R.out.grew gl)
    replace P := Lib.hid (P.out.grew gl)
    replace z0 := Lib.hid (lt_grew z0.out gl)
    replace z1 := Lib.hid (lt_grew z1.out gl)
    replace Ra := Lib.hid (Ra.out.kept gl.keeps)
    replace Rb := Lib.hid (Rb.out.kept gl.keeps)
    have X5 : Num 4294967296 .u32 W1 (.slice (some ⟨w1.heap.size, 0, none⟩) 1 1) 1 1 := by rw [hW1]; exact num_one _ _
    replace X5 := Lib.hid X5
    skip
    replace G0 := Lib.hid (G0.out.trans gl)
    clear gl
    subst hW1
    obtain ⟨P0, P1, P2⟩ := P.out
    obtain ⟨R0, R1, R2, Rf0, Rf1, Rf2, Rs⟩ := R.out
    go_wp2_with fail
    clear P0 P1 P2
    refine gen_post ?_
    intro W9 hW9
    obtain ⟨q0, q1, q2, qK, -, -, qs, qG⟩ := store3 (o := 0) R0 R1 R2 hW9
    have GE := qG w (.inr (by omega)) G0.out
    have QK := Lib.hid qK
    clear qK qG hW9 R0 R1 R2
    exact bodyPost_ret (v := .agg #[.bool false, .slice none 0 0, .slice (some ⟨w1.heap.size, 0, none⟩) 1 1]) (by simp [results, Tryz.results53, go_sem, q0, q1, q2]) rfl ⟨_, rfl, ⟨false, 0, 1, 0, 1, _, _, rfl, num_nil _, QK.out _ _ _ _ _ X5.out, by rw [← Ep.out, h0, Rat.mkRat_zero]; rfl, by omega, hk, by omega⟩, GE⟩

  · as_aux_lemma =>
    have hb : (b : Int) ≠ 0 := fun e => h0 (hb0.1 (by omega))
    generalize (b : Int) = bi at *
    clear hb0
    obtain ⟨P0, P1, P2⟩ := P.out
    obtain ⟨R0, R1, R2, Rf0, Rf1, Rf2, Rs⟩ := R.out
    go_wp2_with fail
    clear P0 P1 P2
    refine gen_post ?_
    intro W9 hW9
    obtain ⟨q0, q1, q2, qK, -, -, qs, qG⟩ := store3 (o := 0) R0 R1 R2 hW9
    have GE := qG w (.inr (by omega)) G0.out
    have QK := Lib.hid qK
    clear qK qG hW9 R0 R1 R2
    exact bodyPost_ret (v := .agg #[.bool b1, .slice A1 n1 c1, .slice C1 m1 d1]) (by simp [results, Tryz.results53, go_sem, q0, q1, q2]) rfl ⟨_, rfl, ⟨b1, N, D, n1, m1, _, _, rfl, QK.out _ _ _ _ _ Ra.out, QK.out _ _ _ _ _ Rb.out, Ep.out, kn, km, h0⟩, GE⟩
end Go.Proofs.YthhgogpglocjdaaGreat
namespace Go.Proofs.YthhgogpglocjdaaGreat
open Go.RowKit

set_option maxRecDepth 100000 in
set_option maxHeartbeats 4000000 in
theorem rup_any (b1 : Bool) (A1 C1 : Option Addr) (n1 c1 m1 d1 D : Nat) (w : World) (hb : Num 4294967296 .u32 w (.slice C1 m1 d1) D m1) :
    Calls Tryz.prog 56 #[.agg #[.bool b1, .slice A1 n1 c1, .slice C1 m1 d1]] w fun e w' => e = .returned (.agg #[.bool false, .slice C1 m1 d1]) ∧ Grew w w' := by
  replace hb := Lib.hid hb
  go_enter Tryz.func56, Tryz.ntmps56
  go_wp2_with fail
  exact bodyPost_ret (v := .agg #[.bool false, .slice C1 m1 d1]) (by simp [results, Tryz.results56, go_sem]) rfl ⟨rfl, ((Grew.refl w).alloc _).alloc _⟩

theorem sgn_neg_dec {b : Bool} {N : Nat} (h : N ≠ 0) : decide (sgn b N < 0) = b := by
  unfold sgn; cases b <;> simp <;> omega

set_option maxRecDepth 100000 in
set_option maxHeartbeats 4000000 in
theorem rfreduce_any (Va : Value) (p : Rat) (k : Nat) (w : World) (ha : FracR w Va p k) (hs : k < 4294967296) :
    Calls Tryz.prog 66 #[Va] w fun e w' => ∃ V, e = .returned V ∧ FracC w' V p ∧ Grew w w' := by
  obtain ⟨b1, N, D, n1, m1, va, vd, rfl, Na, Da, Ep, kn, km⟩ := ha
  obtain ⟨A1, c1, rfl, Ra⟩ := Na.slice
  obtain ⟨C1, d1, rfl, Rb⟩ := Da.slice
  have hz : sgn b1 N = 0 ↔ N = 0 := by unfold sgn; cases b1 <;> simp
  clear Na Da
  replace Ep := Lib.hid Ep
  go_enter Tryz.func66, Tryz.ntmps66
  go_wp2_with fail
  refine gen_calls ?_
  intro W0 hW0
  have G0 : Grew w W0 := by rw [hW0]; exact ((Grew.refl w).alloc _).alloc _
  have P : Box3 W0 (w.heap.size) 0 (.bool b1) (.slice A1 n1 c1) (.slice C1 m1 d1) := by rw [hW0]; exact ⟨by simp [go_sem], by simp [go_sem], by simp [go_sem]⟩
  replace P := Lib.hid P
  have R : Res3 W0 (w.heap.size + 1) 0 (.bool false) (.slice none 0 0) (.slice none 0 0) := by rw [hW0]; exact ⟨by simp [go_sem], by simp [go_sem], by simp [go_sem], by simp [go_sem], by simp [go_sem], by simp [go_sem], by simp⟩
  replace R := Lib.hid R
  have z0 : w.heap.size < W0.heap.size := by rw [hW0]; simp <;> omega
  replace z0 := Lib.hid z0
  have z1 : w.heap.size + 1 < W0.heap.size := by rw [hW0]; simp <;> omega
  replace z1 := Lib.hid z1
  clear hW0
  replace Ra := Lib.hid (Ra.out.kept G0.keeps)
  replace Rb := Lib.hid (Rb.out.kept G0.keeps)
  replace G0 := Lib.hid G0
  refine (rbits_any _ D m1 _ Rb.out (by omega)).mono ?_
  rintro e w1 ⟨b, rfl, hb0, g1⟩
  replace R := Lib.hid (R.out.grew g1)
  replace P := Lib.hid (P.out.grew g1)
  replace z0 := Lib.hid (lt_grew z0.out g1)
  replace z1 := Lib.hid (lt_grew z1.out g1)
  replace Ra := Lib.hid (Ra.out.kept g1.keeps)
  replace Rb := Lib.hid (Rb.out.kept g1.keeps)
  replace G0 := Lib.hid (G0.out.trans g1)
  clear g1

  by_cases h0 : D = 0
  · as_aux_lemma =>
    have hb : b = 0 := hb0.2 h0
    subst hb
    clear hb0
    have hp : p = 0 := by rw [← Ep.out, h0, Rat.mkRat_zero]
    obtain ⟨W1, hW1⟩ : ∃ V, V = w1.alloc (.cells #[.int .u32 1] 91) := ⟨_, rfl⟩
    have gl : Grew w1 W1 := by rw [hW1]; exact (Grew.refl _).alloc _
    have y1 := Lib.hid (R.out).2.2.2.2.2.2
    replace R := Lib.hid (R.out.grew gl)
    replace P := Lib.hid (P.out.grew gl)
    replace z0 := Lib.hid (lt_grew z0.out gl)
    replace z1 := Lib.hid (lt_grew z1.out gl)
    replace Ra := Lib.hid (Ra.out.kept gl.keeps)
    replace Rb := Lib.hid (Rb.out.kept gl.keeps)
    have X5 : Num 4294967296 .u32 W1 (.slice (some ⟨w1.heap.size, 0, none⟩) 1 1) 1 1 := by rw [hW1]; exact num_one _ _
    replace X5 := Lib.hid X5
    skip
    replace G0 := Lib.hid (G0.out.trans gl)
    clear gl
    subst hW1
    obtain ⟨P0, P1, P2⟩ := P.out
    obtain ⟨R0, R1, R2, Rf0, Rf1, Rf2, Rs⟩ := R.out
    go_wp2_with fail
    clear P0 P1 P2
    refine gen_post ?_
    intro W9 hW9
    obtain ⟨q0, q1, q2, qK, -, -, qs, qG⟩ := store3 (o := 0) R0 R1 R2 hW9
    have GE := qG w (.inr (by omega)) G0.out
    have QK := Lib.hid qK
    clear qK qG hW9 R0 R1 R2
    exact bodyPost_ret (v := .agg #[.bool false, .slice none 0 0, .slice (some ⟨w1.heap.size, 0, none⟩) 1 1]) (by simp [results, Tryz.results66, go_sem, q0, q1, q2]) rfl ⟨_, rfl, hp ▸ FracC.mk (z := 0) ⟨_, rfl, num_nil _⟩ (QK.out _ _ _ _ _ X5.out) rfl rfl rfl, GE⟩
  · as_aux_lemma =>

    have hb : (b : Int) ≠ 0 := fun e => h0 (hb0.1 (by omega))
    generalize (b : Int) = bi at *
    clear hb0
    obtain ⟨P0, P1, P2⟩ := P.out
    go_wp2_with fail
    clear P0 P1 P2
    refine (rbits_any _ N n1 _ Ra.out (by omega)).mono ?_
    rintro e w2 ⟨b2, rfl, hb2, g2⟩
    replace R := Lib.hid (R.out.grew g2)
    replace P := Lib.hid (P.out.grew g2)
    replace z0 := Lib.hid (lt_grew z0.out g2)
    replace z1 := Lib.hid (lt_grew z1.out g2)
    replace Ra := Lib.hid (Ra.out.kept g2.keeps)
    replace Rb := Lib.hid (Rb.out.kept g2.keeps)
    replace G0 := Lib.hid (G0.out.trans g2)
    clear g2

    by_cases h1 : N = 0
    · as_aux_lemma =>
      have hb3 : b2 = 0 := hb2.2 h1
      subst hb3
      clear hb2
      have hp : p = 0 := by rw [← Ep.out, hz.2 h1]; exact Rat.zero_mkRat _
      obtain ⟨W1, hW1⟩ : ∃ V, V = w2.alloc (.cells #[.int .u32 1] 91) := ⟨_, rfl⟩
      have gl : Grew w2 W1 := by rw [hW1]; exact (Grew.refl _).alloc _
      have y1 := Lib.hid (R.out).2.2.2.2.2.2
      replace R := Lib.hid (R.out.grew gl)
      replace P := Lib.hid (P.out.grew gl)
      replace z0 := Lib.hid (lt_grew z0.out gl)
      replace z1 := Lib.hid (lt_grew z1.out gl)
      replace Ra := Lib.hid (Ra.out.kept gl.keeps)
      replace Rb := Lib.hid (Rb.out.kept gl.keeps)
      have X5 : Num 4294967296 .u32 W1 (.slice (some ⟨w2.heap.size, 0, none⟩) 1 1) 1 1 := by rw [hW1]; exact num_one _ _
      replace X5 := Lib.hid X5
      skip
      replace G0 := Lib.hid (G0.out.trans gl)
      clear gl
      subst hW1
      obtain ⟨P0, P1, P2⟩ := P.out
      obtain ⟨R0, R1, R2, Rf0, Rf1, Rf2, Rs⟩ := R.out
      go_wp2_with fail
      clear P0 P1 P2
      refine gen_post ?_
      intro W9 hW9
      obtain ⟨q0, q1, q2, qK, -, -, qs, qG⟩ := store3 (o := 0) R0 R1 R2 hW9
      have GE := qG w (.inr (by omega)) G0.out
      have QK := Lib.hid qK
      clear qK qG hW9 R0 R1 R2
      exact bodyPost_ret (v := .agg #[.bool false, .slice none 0 0, .slice (some ⟨w2.heap.size, 0, none⟩) 1 1]) (by simp [results, Tryz.results66, go_sem, q0, q1, q2]) rfl ⟨_, rfl, hp ▸ FracC.mk (z := 0) ⟨_, rfl, num_nil _⟩ (QK.out _ _ _ _ _ X5.out) rfl rfl rfl, GE⟩
    · as_aux_lemma =>

      have hb3 : (b2 : Int) ≠ 0 := fun e => h1 (hb2.1 (by omega))
      generalize (b2 : Int) = bj at *
      clear hb2
      have f1 : (bi == 0) = false := by simp [hb]
      have f2 : (bj == 0) = false := by simp [hb3]
      rw [f1]
      have hgl : len 4294967296 (N / Nat.gcd N D) < 137438953472 := by
        have h1 := len_mono (B := 4294967296) (by omega) (Nat.div_le_self N (Nat.gcd N D))
        have := Ra.out.len_le (by omega)
        omega
      have e1 : sgn b1 (N / Nat.gcd N D) = p.num := by
        have := mkRat_num_sgn (sgn b1 N) D h0
        rw [sgn_neg_dec h1, sgn_abs, Ep.out] at this
        exact this
      have e2 : D / Nat.gcd N D = p.den := by
        have := mkRat_den_gcd (sgn b1 N) D h0
        rw [sgn_abs, Ep.out] at this
        exact this
      replace hgl := Lib.hid hgl
      replace e1 := Lib.hid e1
      replace e2 := Lib.hid e2
      obtain ⟨P0, P1, P2⟩ := P.out
      go_wp2_with fail
      clear P0 P1 P2
      refine (rReduce_any _ _ N D n1 m1 _ Ra.out Rb.out (by omega) h0).mono ?_
      rintro e w3 ⟨x, y, rfl, hX, hY, g3⟩
      obtain ⟨A3, c3, rfl, X1⟩ := hX.slice
      obtain ⟨C3, d3, rfl, Y1⟩ := hY.slice
      clear hX hY
      replace R := Lib.hid (R.out.grew g3)
      replace P := Lib.hid (P.out.grew g3)
      replace z0 := Lib.hid (lt_grew z0.out g3)
      replace z1 := Lib.hid (lt_grew z1.out g3)
      replace Ra := Lib.hid (Ra.out.kept g3.keeps)
      replace Rb := Lib.hid (Rb.out.kept g3.keeps)
      replace G0 := Lib.hid (G0.out.trans g3)
      clear g3
      obtain ⟨P0, P1, P2⟩ := P.out
      go_wp2_with fail
      clear P0 P1 P2
      refine (rmake_any _ _ (N / Nat.gcd N D) _ _ X1.out hgl.out).mono ?_
      rintro e w4 ⟨V2, rfl, hV2, g4⟩
      obtain ⟨b4, A4, n4, c4, rfl, X2, -⟩ := hV2.laid
      clear hV2
      replace R := Lib.hid (R.out.grew g4)
      replace P := Lib.hid (P.out.grew g4)
      replace z0 := Lib.hid (lt_grew z0.out g4)
      replace z1 := Lib.hid (lt_grew z1.out g4)
      replace Ra := Lib.hid (Ra.out.kept g4.keeps)
      replace Rb := Lib.hid (Rb.out.kept g4.keeps)
      replace X1 := Lib.hid (X1.out.kept g4.keeps)
      replace Y1 := Lib.hid (Y1.out.kept g4.keeps)
      replace G0 := Lib.hid (G0.out.trans g4)
      clear g4
      obtain ⟨P0, P1, P2⟩ := P.out
      obtain ⟨R0, R1, R2, Rf0, Rf1, Rf2, Rs⟩ := R.out
      go_wp2_with fail
      clear P0 P1 P2
      refine gen_post ?_
      intro W9 hW9
      obtain ⟨q0, q1, q2, qK, -, -, qs, qG⟩ := store3 (o := 0) R0 R1 R2 hW9
      have GE := qG w (.inr (by omega)) G0.out
      have QK := Lib.hid qK
      clear qK qG hW9 R0 R1 R2
      exact bodyPost_ret (v := .agg #[.bool b4, .slice A4 n4 c4, .slice C3 (len 4294967296 (D / Nat.gcd N D)) d3]) (by simp [results, Tryz.results66, go_sem, q0, q1, q2]) rfl ⟨_, rfl, FracC.mk (X2.out.kept QK.out) (QK.out _ _ _ _ _ Y1.out) rfl e1.out e2.out, GE⟩
end Go.Proofs.YthhgogpglocjdaaGreat
