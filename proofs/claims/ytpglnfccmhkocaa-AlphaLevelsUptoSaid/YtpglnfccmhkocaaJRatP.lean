/- r02.Add, Sub, Cmp, Of. Condition: what comes in reads; fewer than 2^36 words. r02.Of. Condition: an int. whole.Div by what is above 0; whole.Int. Condition: what comes in reads. Plain: signs of fractions. Conditions: none. -/
import Derived.Test.YtpglnfccmhkocaaJR2a
import Derived.Test.YtpglnfccmhkocaaJRefDiv
namespace Go.Proofs.Ytpglnfccmhkocaa
open Go.RowKit

theorem sgn_diff_ge (b : Bool) {N M : Nat} (h : M ≤ N) : sgn b (N - M) = sgn b N + sgn (!b) M := by
  unfold sgn; cases b <;> simp <;> omega
theorem sgn_diff_lt (b : Bool) {N M : Nat} (h : N < M) : sgn (!b) (M - N) = sgn b N + sgn (!b) M := by
  unfold sgn; cases b <;> simp <;> omega

set_option maxRecDepth 100000 in
set_option maxHeartbeats 8000000 in
theorem r2add_any (Va Vb : Value) (z y : Int) (k l : Nat) (w : World) (ha : WhlR w Va z k) (hb : WhlR w Vb y l) (hs : k < 68719476736 ∧ l < 68719476736) :
    Calls Try.prog 67 #[Va, Vb] w fun e w' => ∃ V, e = .returned V ∧ Whl w' V (z + y) ∧ Grew w w' := by
  obtain ⟨b1, A1, n1, c1, N, rfl, Na, Ez, hk⟩ := ha.open
  obtain ⟨b2, A2, n2, c2, M, rfl, Nb, Ey, hl⟩ := hb.open
  have k1 := Na.out.len_le (by omega)
  have k2 := Nb.out.len_le (by omega)
  have k3 := len_add (B := 4294967296) (by omega) N M 68719476735 (by omega) (by omega)
  have hk9 := Lib.hid (show len 4294967296 (N + M) < 137438953472 by omega)
  have hkl := Lib.hid (show n1 < 274877906944 ∧ n2 < 274877906944 by omega)
  have hkl2 := Lib.hid (show n2 < 274877906944 ∧ n1 < 274877906944 by omega)
  have kd1 := Lib.hid (show len 4294967296 (N - M) < 137438953472 by have := len_mono (B := 4294967296) (by omega) (Nat.sub_le N M); omega)
  have kd2 := Lib.hid (show len 4294967296 (M - N) < 137438953472 by have := len_mono (B := 4294967296) (by omega) (Nat.sub_le M N); omega)
  clear ha hb k1 k2 k3 hk hl hs
  by_cases hbb : b1 = b2
  · as_aux_lemma =>
    subst hbb
    have e1 : sgn b1 (N + M) = z + y := by rw [sgn_add, Ez.out, Ey.out]
    replace e1 := Lib.hid e1
    go_enter Try.func67, Try.ntmps67
    go_wp2_with fail
    refine gen_wp ?_
    intro W0 hW0
    have G0 : Grew w W0 := by rw [hW0]; exact (((Grew.refl w).alloc _).alloc _).alloc _
    have P : Box2 W0 (w.heap.size) 0 (.bool b1) (.slice A1 n1 c1) := by rw [hW0]; exact ⟨by simp [go_sem], by simp [go_sem]⟩
    replace P := Lib.hid P
    have Q : Box2 W0 (w.heap.size + 1) 0 (.bool b1) (.slice A2 n2 c2) := by rw [hW0]; exact ⟨by simp [go_sem], by simp [go_sem]⟩
    replace Q := Lib.hid Q
    have R : Res2 W0 (w.heap.size + 1 + 1) 0 (.bool false) (.slice none 0 0) := by rw [hW0]; exact ⟨by simp [go_sem], by simp [go_sem], by simp [go_sem], by simp [go_sem], by simp⟩
    replace R := Lib.hid R
    have z0 : w.heap.size < W0.heap.size := by rw [hW0]; simp <;> omega
    replace z0 := Lib.hid z0
    have z1 : w.heap.size + 1 < W0.heap.size := by rw [hW0]; simp <;> omega
    replace z1 := Lib.hid z1
    have z2 : w.heap.size + 1 + 1 < W0.heap.size := by rw [hW0]; simp <;> omega
    replace z2 := Lib.hid z2
    clear hW0
    replace Na := Lib.hid (Na.out.kept G0.keeps)
    replace Nb := Lib.hid (Nb.out.kept G0.keeps)
    replace G0 := Lib.hid G0
    have gd : Grew W0 W0.drew := (Grew.refl W0).drew
    replace R := Lib.hid (R.out.grew gd)
    replace P := Lib.hid (P.out.grew gd)
    replace Q := Lib.hid (Q.out.grew gd)
    replace z0 := Lib.hid (lt_grew z0.out gd)
    replace z1 := Lib.hid (lt_grew z1.out gd)
    replace z2 := Lib.hid (lt_grew z2.out gd)
    replace Na := Lib.hid (Na.out.kept gd.keeps)
    replace Nb := Lib.hid (Nb.out.kept gd.keeps)
    replace gd := Lib.hid gd
    have ZP := P
    have ZQ := Q
    go_region_held3 (fun w' => w'.cell? ⟨w.heap.size, 0, none⟩ = some (.bool b1) ∧ w'.cell? ⟨w.heap.size, 1, none⟩ = some (.slice A1 n1 c1) ∧ w'.cell? ⟨w.heap.size + 1, 0, none⟩ = some (.bool b1) ∧ w'.cell? ⟨w.heap.size + 1, 1, none⟩ = some (.slice A2 n2 c2))
      (first | (with_reducible exact ⟨ZP.out.p0, ZP.out.p1, ZQ.out.p0, ZQ.out.p1⟩) | (with_reducible exact ⟨g1.cell ZP.out.p0, g1.cell ZP.out.p1, g1.cell ZQ.out.p0, g1.cell ZQ.out.p1⟩) | (with_reducible exact ⟨(g1.trans g2).cell ZP.out.p0, (g1.trans g2).cell ZP.out.p1, (g1.trans g2).cell ZQ.out.p0, (g1.trans g2).cell ZQ.out.p1⟩) | (with_reducible exact ⟨other2 (o := 0) (by omega) ((g1.trans g2).cell ZP.out.p0), other2 (o := 0) (by omega) ((g1.trans g2).cell ZP.out.p1), other2 (o := 0) (by omega) ((g1.trans g2).cell ZQ.out.p0), other2 (o := 0) (by omega) ((g1.trans g2).cell ZQ.out.p1)⟩))
      (first | (go_at_call 97; refine (rnadd_any _ _ N M _ _ _ Na.out Nb.out hkl.out).mono ?_; rintro e w1 ⟨V1, rfl, hV1, g1⟩; obtain ⟨A3, c3, rfl, X1⟩ := hV1.slice; clear hV1; replace R := Lib.hid (R.out.grew g1); replace P := Lib.hid (P.out.grew g1); replace Q := Lib.hid (Q.out.grew g1); replace z0 := Lib.hid (lt_grew z0.out g1); replace z1 := Lib.hid (lt_grew z1.out g1); replace z2 := Lib.hid (lt_grew z2.out g1); replace Na := Lib.hid (Na.out.kept g1.keeps); replace Nb := Lib.hid (Nb.out.kept g1.keeps)) | (go_at_call 96; refine (rmake_any _ _ (N + M) _ _ X1.out hk9.out).mono ?_; rintro e w2 ⟨V2, rfl, hV2, g2⟩; obtain ⟨b4, A4, n4, c4, rfl, X2, -⟩ := hV2.laid; clear hV2; replace R := Lib.hid (R.out.grew g2); replace P := Lib.hid (P.out.grew g2); replace Q := Lib.hid (Q.out.grew g2); replace z0 := Lib.hid (lt_grew z0.out g2); replace z1 := Lib.hid (lt_grew z1.out g2); replace z2 := Lib.hid (lt_grew z2.out g2); replace Na := Lib.hid (Na.out.kept g2.keeps); replace Nb := Lib.hid (Nb.out.kept g2.keeps); replace X1 := Lib.hid (X1.out.kept g2.keeps); obtain ⟨R0, R1, Rf0, Rf1, Rs⟩ := R.out))
    replace G0 := Lib.hid (((G0.out.trans gd.out).trans g1).trans g2)
    clear gd g1 g2 ZP ZQ
    refine gen_then ?_
    intro W9 hW9
    obtain ⟨q0, q1, qK, -, qs, qG⟩ := store2 (o := 0) R0 R1 hW9
    have GE := qG w (by omega) G0.out
    have QK := Lib.hid qK
    clear qK qG hW9 R0 R1
    go_wp2_with fail
    exact bodyPost_ret (v := .agg #[.bool b4, .slice A4 n4 c4]) (by simp [results, Try.results67, go_sem, q0, q1]) rfl ⟨_, rfl, by rw [← e1.out]; exact X2.out.kept QK.out, GE⟩
  · obtain rfl : b2 = !b1 := by cases b1 <;> cases b2 <;> simp_all
    clear hbb
    go_enter Try.func67, Try.ntmps67
    go_wp2_with fail
    refine gen_calls ?_
    intro W0 hW0
    have G0 : Grew w W0 := by rw [hW0]; exact (((Grew.refl w).alloc _).alloc _).alloc _
    have P : Box2 W0 (w.heap.size) 0 (.bool b1) (.slice A1 n1 c1) := by rw [hW0]; exact ⟨by simp [go_sem], by simp [go_sem]⟩
    replace P := Lib.hid P
    have Q : Box2 W0 (w.heap.size + 1) 0 (.bool (!b1)) (.slice A2 n2 c2) := by rw [hW0]; exact ⟨by simp [go_sem], by simp [go_sem]⟩
    replace Q := Lib.hid Q
    have R : Res2 W0 (w.heap.size + 1 + 1) 0 (.bool false) (.slice none 0 0) := by rw [hW0]; exact ⟨by simp [go_sem], by simp [go_sem], by simp [go_sem], by simp [go_sem], by simp⟩
    replace R := Lib.hid R
    have z0 : w.heap.size < W0.heap.size := by rw [hW0]; simp <;> omega
    replace z0 := Lib.hid z0
    have z1 : w.heap.size + 1 < W0.heap.size := by rw [hW0]; simp <;> omega
    replace z1 := Lib.hid z1
    have z2 : w.heap.size + 1 + 1 < W0.heap.size := by rw [hW0]; simp <;> omega
    replace z2 := Lib.hid z2
    clear hW0
    replace Na := Lib.hid (Na.out.kept G0.keeps)
    replace Nb := Lib.hid (Nb.out.kept G0.keeps)
    replace G0 := Lib.hid G0
    refine (rCmp_any _ _ N M _ _ _ Na.out Nb.out hkl.out).mono ?_
    rintro e w1 ⟨rfl, g1⟩
    replace R := Lib.hid (R.out.grew g1)
    replace P := Lib.hid (P.out.grew g1)
    replace Q := Lib.hid (Q.out.grew g1)
    replace z0 := Lib.hid (lt_grew z0.out g1)
    replace z1 := Lib.hid (lt_grew z1.out g1)
    replace z2 := Lib.hid (lt_grew z2.out g1)
    replace Na := Lib.hid (Na.out.kept g1.keeps)
    replace Nb := Lib.hid (Nb.out.kept g1.keeps)
    replace G0 := Lib.hid (G0.out.trans g1)
    clear g1

    rcases Nat.lt_or_ge N M with hlt | hge
    · as_aux_lemma =>
      rw [cmpN_lt hlt]
      have e1 : sgn (!b1) (M - N) = z + y := by rw [sgn_diff_lt b1 hlt, Ez.out, Ey.out]
      replace e1 := Lib.hid e1
      have hle := Lib.hid (Nat.le_of_lt hlt)
      clear hlt
      obtain ⟨P0, P1⟩ := P.out
      obtain ⟨Q0, Q1⟩ := Q.out
      go_wp2_with fail
      clear P0 P1 Q0 Q1
      refine (rSub_yes _ _ M N _ _ _ Nb.out Na.out hkl2.out hle.out).mono ?_
      rintro e w2 ⟨V1, rfl, hV1, g2⟩
      obtain ⟨A3, c3, rfl, X1⟩ := hV1.slice
      clear hV1
      replace R := Lib.hid (R.out.grew g2)
      replace P := Lib.hid (P.out.grew g2)
      replace Q := Lib.hid (Q.out.grew g2)
      replace z0 := Lib.hid (lt_grew z0.out g2)
      replace z1 := Lib.hid (lt_grew z1.out g2)
      replace z2 := Lib.hid (lt_grew z2.out g2)
      replace Na := Lib.hid (Na.out.kept g2.keeps)
      replace Nb := Lib.hid (Nb.out.kept g2.keeps)
      replace G0 := Lib.hid (G0.out.trans g2)
      clear g2
      obtain ⟨P0, P1⟩ := P.out
      obtain ⟨Q0, Q1⟩ := Q.out
      go_wp2_with fail
      clear P0 P1 Q0 Q1
      refine (rmake_any (!b1) _ (M - N) _ _ X1.out kd2.out).mono ?_
      rintro e w3 ⟨V2, rfl, hV2, g3⟩
      obtain ⟨b4, A4, n4, c4, rfl, X2, -⟩ := hV2.laid
      clear hV2
      replace R := Lib.hid (R.out.grew g3)
      replace P := Lib.hid (P.out.grew g3)
      replace Q := Lib.hid (Q.out.grew g3)
      replace z0 := Lib.hid (lt_grew z0.out g3)
      replace z1 := Lib.hid (lt_grew z1.out g3)
      replace z2 := Lib.hid (lt_grew z2.out g3)
      replace Na := Lib.hid (Na.out.kept g3.keeps)
      replace Nb := Lib.hid (Nb.out.kept g3.keeps)
      replace X1 := Lib.hid (X1.out.kept g3.keeps)
      replace G0 := Lib.hid (G0.out.trans g3)
      clear g3
      obtain ⟨R0, R1, Rf0, Rf1, Rs⟩ := R.out
      go_wp2_with fail
      refine gen_post ?_
      intro W9 hW9
      obtain ⟨q0, q1, qK, -, qs, qG⟩ := store2 (o := 0) R0 R1 hW9
      have GE := qG w (by omega) G0.out
      have QK := Lib.hid qK
      clear qK qG hW9 R0 R1
      exact bodyPost_ret (v := .agg #[.bool b4, .slice A4 n4 c4]) (by simp [results, Try.results67, go_sem, q0, q1]) rfl ⟨_, rfl, by rw [← e1.out]; exact X2.out.kept QK.out, GE⟩
    · as_aux_lemma =>

      have hc0 : 0 ≤ cmpN N M := by
        unfold cmpN
        rw [if_neg (by omega)]
        split <;> omega
      generalize cmpN N M = cm at *
      have e1 : sgn b1 (N - M) = z + y := by rw [sgn_diff_ge b1 hge, Ez.out, Ey.out]
      replace e1 := Lib.hid e1
      replace hge := Lib.hid hge
      obtain ⟨P0, P1⟩ := P.out
      obtain ⟨Q0, Q1⟩ := Q.out
      go_wp2_with fail
      clear P0 P1 Q0 Q1
      refine (rSub_yes _ _ N M _ _ _ Na.out Nb.out hkl.out hge.out).mono ?_
      rintro e w2 ⟨V1, rfl, hV1, g2⟩
      obtain ⟨A3, c3, rfl, X1⟩ := hV1.slice
      clear hV1
      replace R := Lib.hid (R.out.grew g2)
      replace P := Lib.hid (P.out.grew g2)
      replace Q := Lib.hid (Q.out.grew g2)
      replace z0 := Lib.hid (lt_grew z0.out g2)
      replace z1 := Lib.hid (lt_grew z1.out g2)
      replace z2 := Lib.hid (lt_grew z2.out g2)
      replace Na := Lib.hid (Na.out.kept g2.keeps)
      replace Nb := Lib.hid (Nb.out.kept g2.keeps)
      replace G0 := Lib.hid (G0.out.trans g2)
      clear g2
      obtain ⟨P0, P1⟩ := P.out
      obtain ⟨Q0, Q1⟩ := Q.out
      go_wp2_with fail
      clear P0 P1 Q0 Q1
      refine (rmake_any b1 _ (N - M) _ _ X1.out kd1.out).mono ?_
      rintro e w3 ⟨V2, rfl, hV2, g3⟩
      obtain ⟨b4, A4, n4, c4, rfl, X2, -⟩ := hV2.laid
      clear hV2
      replace R := Lib.hid (R.out.grew g3)
      replace P := Lib.hid (P.out.grew g3)
      replace Q := Lib.hid (Q.out.grew g3)
      replace z0 := Lib.hid (lt_grew z0.out g3)
      replace z1 := Lib.hid (lt_grew z1.out g3)
      replace z2 := Lib.hid (lt_grew z2.out g3)
      replace Na := Lib.hid (Na.out.kept g3.keeps)
      replace Nb := Lib.hid (Nb.out.kept g3.keeps)
      replace X1 := Lib.hid (X1.out.kept g3.keeps)
      replace G0 := Lib.hid (G0.out.trans g3)
      clear g3
      obtain ⟨R0, R1, Rf0, Rf1, Rs⟩ := R.out
      go_wp2_with fail
      refine gen_post ?_
      intro W9 hW9
      obtain ⟨q0, q1, qK, -, qs, qG⟩ := store2 (o := 0) R0 R1 hW9
      have GE := qG w (by omega) G0.out
      have QK := Lib.hid qK
      clear qK qG hW9 R0 R1
      exact bodyPost_ret (v := .agg #[.bool b4, .slice A4 n4 c4]) (by simp [results, Try.results67, go_sem, q0, q1]) rfl ⟨_, rfl, by rw [← e1.out]; exact X2.out.kept QK.out, GE⟩

theorem WhlR.canon {w : World} {V : Value} {z : Int} {k : Nat} (h : Whl w V z) (e : len 4294967296 z.natAbs ≤ k) : WhlR w V z k := h.r e
theorem WhlR.len {w : World} {V : Value} {z : Int} {k : Nat} (h : WhlR w V z k) : len 4294967296 z.natAbs ≤ k := by
  obtain ⟨neg, N, n, v, rfl, hn, h1, h2⟩ := h
  have := hn.len_le (by omega)
  rw [← h1, sgn_abs]; omega

set_option maxRecDepth 100000 in
set_option maxHeartbeats 8000000 in
theorem r2sub_any (Va Vb : Value) (z y : Int) (k l : Nat) (w : World) (ha : WhlR w Va z k) (hb : WhlR w Vb y l) (hs : k < 68719476736 ∧ l < 68719476736) :
    Calls Try.prog 95 #[Va, Vb] w fun e w' => ∃ V, e = .returned V ∧ Whl w' V (z - y) ∧ Grew w w' := by
  have hyl := hb.len
  obtain ⟨b1, A1, n1, c1, N, rfl, -, -, -⟩ := ha.open
  obtain ⟨b2, A2, n2, c2, M, rfl, -, -, -⟩ := hb.open
  have Ra := Lib.hid ha
  have Rb := Lib.hid hb
  have hl2 := Lib.hid (show l < 137438953472 by omega)
  have hny := Lib.hid (show len 4294967296 (-y).natAbs ≤ l by rw [Int.natAbs_neg]; exact hyl)
  have hs2 := Lib.hid hs
  clear ha hb hyl hs
  go_enter Try.func95, Try.ntmps95
  go_wp2_with fail
  refine gen_wp ?_
  intro W0 hW0
  have G0 : Grew w W0 := by rw [hW0]; exact (((Grew.refl w).alloc _).alloc _).alloc _
  have P : Box2 W0 (w.heap.size) 0 (.bool b1) (.slice A1 n1 c1) := by rw [hW0]; exact ⟨by simp [go_sem], by simp [go_sem]⟩
  replace P := Lib.hid P
  have Q : Box2 W0 (w.heap.size + 1) 0 (.bool b2) (.slice A2 n2 c2) := by rw [hW0]; exact ⟨by simp [go_sem], by simp [go_sem]⟩
  replace Q := Lib.hid Q
  have R : Res2 W0 (w.heap.size + 1 + 1) 0 (.bool false) (.slice none 0 0) := by rw [hW0]; exact ⟨by simp [go_sem], by simp [go_sem], by simp [go_sem], by simp [go_sem], by simp⟩
  replace R := Lib.hid R
  have z0 : w.heap.size < W0.heap.size := by rw [hW0]; simp <;> omega
  replace z0 := Lib.hid z0
  have z1 : w.heap.size + 1 < W0.heap.size := by rw [hW0]; simp <;> omega
  replace z1 := Lib.hid z1
  have z2 : w.heap.size + 1 + 1 < W0.heap.size := by rw [hW0]; simp <;> omega
  replace z2 := Lib.hid z2
  clear hW0
  replace Ra := Lib.hid (Ra.out.kept G0.keeps)
  replace Rb := Lib.hid (Rb.out.kept G0.keeps)
  replace G0 := Lib.hid G0
  have gd : Grew W0 W0.drew := (Grew.refl W0).drew
  replace R := Lib.hid (R.out.grew gd)
  replace P := Lib.hid (P.out.grew gd)
  replace Q := Lib.hid (Q.out.grew gd)
  replace z0 := Lib.hid (lt_grew z0.out gd)
  replace z1 := Lib.hid (lt_grew z1.out gd)
  replace z2 := Lib.hid (lt_grew z2.out gd)
  replace Ra := Lib.hid (Ra.out.kept gd.keeps)
  replace Rb := Lib.hid (Rb.out.kept gd.keeps)
  replace gd := Lib.hid gd
  have ZP := P
  have ZQ := Q
  go_region_held3 (fun w' => w'.cell? ⟨w.heap.size, 0, none⟩ = some (.bool b1) ∧ w'.cell? ⟨w.heap.size, 1, none⟩ = some (.slice A1 n1 c1) ∧ w'.cell? ⟨w.heap.size + 1, 0, none⟩ = some (.bool b2) ∧ w'.cell? ⟨w.heap.size + 1, 1, none⟩ = some (.slice A2 n2 c2))
    (first | (with_reducible exact ⟨ZP.out.p0, ZP.out.p1, ZQ.out.p0, ZQ.out.p1⟩) | (with_reducible exact ⟨g1.cell ZP.out.p0, g1.cell ZP.out.p1, g1.cell ZQ.out.p0, g1.cell ZQ.out.p1⟩) | (with_reducible exact ⟨(g1.trans g2).cell ZP.out.p0, (g1.trans g2).cell ZP.out.p1, (g1.trans g2).cell ZQ.out.p0, (g1.trans g2).cell ZQ.out.p1⟩) | (with_reducible exact ⟨other2 (o := 0) (by omega) ((g1.trans g2).cell ZP.out.p0), other2 (o := 0) (by omega) ((g1.trans g2).cell ZP.out.p1), other2 (o := 0) (by omega) ((g1.trans g2).cell ZQ.out.p0), other2 (o := 0) (by omega) ((g1.trans g2).cell ZQ.out.p1)⟩))
    (first | (go_at_call 119; refine (r2neg_any _ y l _ Rb.out hl2.out).mono ?_; rintro e w1 ⟨V1, rfl, hV1, g1⟩; obtain ⟨b3, A3, n3, c3, rfl, hX, -⟩ := hV1.laid; have X1 := Lib.hid (hX.out.r hny.out); clear hV1 hX; replace R := Lib.hid (R.out.grew g1); replace P := Lib.hid (P.out.grew g1); replace Q := Lib.hid (Q.out.grew g1); replace z0 := Lib.hid (lt_grew z0.out g1); replace z1 := Lib.hid (lt_grew z1.out g1); replace z2 := Lib.hid (lt_grew z2.out g1); replace Ra := Lib.hid (Ra.out.kept g1.keeps); replace Rb := Lib.hid (Rb.out.kept g1.keeps)) | (go_at_call 67; refine (r2add_any _ _ z (-y) k l _ Ra.out X1.out hs2.out).mono ?_; rintro e w2 ⟨V2, rfl, hV2, g2⟩; obtain ⟨b4, A4, n4, c4, rfl, X2, -⟩ := hV2.laid; clear hV2; replace R := Lib.hid (R.out.grew g2); replace P := Lib.hid (P.out.grew g2); replace Q := Lib.hid (Q.out.grew g2); replace z0 := Lib.hid (lt_grew z0.out g2); replace z1 := Lib.hid (lt_grew z1.out g2); replace z2 := Lib.hid (lt_grew z2.out g2); replace Ra := Lib.hid (Ra.out.kept g2.keeps); replace Rb := Lib.hid (Rb.out.kept g2.keeps); replace X1 := Lib.hid (X1.out.kept g2.keeps); obtain ⟨R0, R1, Rf0, Rf1, Rs⟩ := R.out))
  replace G0 := Lib.hid (((G0.out.trans gd.out).trans g1).trans g2)
  clear gd g1 g2 ZP ZQ
  refine gen_then ?_
  intro W9 hW9
  obtain ⟨q0, q1, qK, -, qs, qG⟩ := store2 (o := 0) R0 R1 hW9
  have GE := qG w (by omega) G0.out
  have QK := Lib.hid qK
  clear qK qG hW9 R0 R1
  go_wp2_with fail
  exact bodyPost_ret (v := .agg #[.bool b4, .slice A4 n4 c4]) (by simp [results, Try.results95, go_sem, q0, q1]) rfl ⟨_, rfl, by rw [Int.sub_eq_add_neg]; exact X2.out.kept QK.out, GE⟩

set_option maxRecDepth 100000 in
set_option maxHeartbeats 8000000 in
theorem r2cmp_any (Va Vb : Value) (z y : Int) (k l : Nat) (w : World) (ha : WhlR w Va z k) (hb : WhlR w Vb y l) (hs : k < 68719476735 ∧ l < 68719476735) :
    Calls Try.prog 61 #[Va, Vb] w fun e w' => e = .returned (.int .i64 (cmpZ z y)) ∧ Grew w w' := by
  have hzl := ha.len
  have hyl := hb.len
  have hd : len 4294967296 (z - y).natAbs ≤ 68719476736 := by
    rw [Int.sub_eq_add_neg]
    exact len_addz _ _ 68719476735 (by omega) (by rw [Int.natAbs_neg]; omega)
  obtain ⟨b1, A1, n1, c1, N, rfl, -, -, -⟩ := ha.open
  obtain ⟨b2, A2, n2, c2, M, rfl, -, -, -⟩ := hb.open
  have Ra := Lib.hid ha
  have Rb := Lib.hid hb
  clear ha hb hyl hzl
  go_enter Try.func61, Try.ntmps61
  go_wp2_with fail
  refine gen_calls ?_
  intro W0 hW0
  have G0 : Grew w W0 := by rw [hW0]; exact ((Grew.refl w).alloc _).alloc _
  have P : Box2 W0 (w.heap.size) 0 (.bool b1) (.slice A1 n1 c1) := by rw [hW0]; exact ⟨by simp [go_sem], by simp [go_sem]⟩
  replace P := Lib.hid P
  have Q : Box2 W0 (w.heap.size + 1) 0 (.bool b2) (.slice A2 n2 c2) := by rw [hW0]; exact ⟨by simp [go_sem], by simp [go_sem]⟩
  replace Q := Lib.hid Q
  have z0 : w.heap.size < W0.heap.size := by rw [hW0]; simp <;> omega
  replace z0 := Lib.hid z0
  have z1 : w.heap.size + 1 < W0.heap.size := by rw [hW0]; simp <;> omega
  replace z1 := Lib.hid z1
  clear hW0
  replace Ra := Lib.hid (Ra.out.kept G0.keeps)
  replace Rb := Lib.hid (Rb.out.kept G0.keeps)
  replace G0 := Lib.hid G0
  refine (r2sub_any _ _ z y k l _ Ra.out Rb.out (by omega)).mono ?_
  rintro e w1 ⟨V1, rfl, hV1, g1⟩
  obtain ⟨b3, A3, n3, c3, rfl, hX, -⟩ := hV1.laid
  have X1 := Lib.hid (hX.out.r hd)
  clear hV1 hX
  replace P := Lib.hid (P.out.grew g1)
  replace Q := Lib.hid (Q.out.grew g1)
  replace z0 := Lib.hid (lt_grew z0.out g1)
  replace z1 := Lib.hid (lt_grew z1.out g1)
  replace Ra := Lib.hid (Ra.out.kept g1.keeps)
  replace Rb := Lib.hid (Rb.out.kept g1.keeps)
  replace G0 := Lib.hid (G0.out.trans g1)
  clear g1
  go_wp2_with fail
  refine (r2sign_any _ (z - y) _ _ X1.out (by omega)).mono ?_
  rintro e w2 ⟨rfl, g2⟩
  replace P := Lib.hid (P.out.grew g2)
  replace Q := Lib.hid (Q.out.grew g2)
  replace z0 := Lib.hid (lt_grew z0.out g2)
  replace z1 := Lib.hid (lt_grew z1.out g2)
  replace Ra := Lib.hid (Ra.out.kept g2.keeps)
  replace Rb := Lib.hid (Rb.out.kept g2.keeps)
  replace X1 := Lib.hid (X1.out.kept g2.keeps)
  replace G0 := Lib.hid (G0.out.trans g2)
  clear g2
  go_wp2_with fail
  go_ret
  exact ⟨by rw [cmpZ_sub]; rfl, G0.out⟩
end Go.Proofs.Ytpglnfccmhkocaa
namespace Go.Proofs.Ytpglnfccmhkocaa
open Go.RowKit

theorem len_word {N : Nat} (h : N < 18446744073709551616) : len 4294967296 N ≤ 2 := len_le (by omega) (by simpa using h)

set_option maxRecDepth 100000 in
set_option maxHeartbeats 4000000 in
theorem r2of_pos (N : Nat) (w : World) (h : N < 9223372036854775808) :
    Calls Try.prog 64 #[.int .i64 (N : Int)] w fun e w' => ∃ V, e = .returned V ∧ Whl w' V (sgn false N) ∧ Grew w w' := by
  have hb : (N : Int) ≤ 9223372036854775807 := by omega
  have hl := Lib.hid (show len 4294967296 N < 137438953472 by have := len_word (N := N) (by omega); omega)
  go_enter Try.func64, Try.ntmps64
  go_wp2_with fail
  refine gen_calls ?_
  intro W0 hW0
  have G0 : Grew w W0 := by rw [hW0]; exact (Grew.refl w).alloc _
  have R : Res2 W0 (w.heap.size) 0 (.bool false) (.slice none 0 0) := by rw [hW0]; exact ⟨by simp [go_sem], by simp [go_sem], by simp [go_sem], by simp [go_sem], by simp⟩
  replace R := Lib.hid R
  have z0 : w.heap.size < W0.heap.size := by rw [hW0]; simp <;> omega
  replace z0 := Lib.hid z0
  clear hW0
  replace G0 := Lib.hid G0
  refine (r1of_any _ N _ rfl (by omega)).mono ?_
  rintro e w1 ⟨V1, rfl, hV1, g1⟩
  obtain ⟨A3, c3, rfl, X1⟩ := hV1.slice
  clear hV1
  replace R := Lib.hid (R.out.grew g1)
  replace z0 := Lib.hid (lt_grew z0.out g1)
  replace G0 := Lib.hid (G0.out.trans g1)
  clear g1
  go_wp2_with fail
  refine (rmake_any _ _ N _ _ X1.out hl.out).mono ?_
  rintro e w2 ⟨V2, rfl, hV2, g2⟩
  obtain ⟨b4, A4, n4, c4, rfl, X2, -⟩ := hV2.laid
  clear hV2
  replace R := Lib.hid (R.out.grew g2)
  replace z0 := Lib.hid (lt_grew z0.out g2)
  replace X1 := Lib.hid (X1.out.kept g2.keeps)
  replace G0 := Lib.hid (G0.out.trans g2)
  clear g2
  obtain ⟨R0, R1, Rf0, Rf1, Rs⟩ := R.out
  go_wp2_with fail
  refine gen_post ?_
  intro W9 hW9
  obtain ⟨q0, q1, qK, -, qs, qG⟩ := store2 (o := 0) R0 R1 hW9
  have GE := qG w (by omega) G0.out
  have QK := Lib.hid qK
  clear qK qG hW9 R0 R1
  exact bodyPost_ret (v := .agg #[.bool b4, .slice A4 n4 c4]) (by simp [results, Try.results64, go_sem, q0, q1]) rfl ⟨_, rfl, X2.out.kept QK.out, GE⟩

set_option maxRecDepth 100000 in
set_option maxHeartbeats 4000000 in
theorem r2of_neg (x : Int) (K : Nat) (w : World) (h : K < 9223372036854775808) (hx : x = -(K : Int) - 1) :
    Calls Try.prog 64 #[.int .i64 x] w fun e w' => ∃ V, e = .returned V ∧ Whl w' V (sgn true (K + 1)) ∧ Grew w w' := by
  have q0 : x < 0 := by omega
  have q1 : -9223372036854775808 ≤ x := by omega
  have hl1 := Lib.hid (show len 4294967296 K < 274877906944 ∧ 1 < 274877906944 by have := len_word (N := K) (by omega); omega)
  have hl := Lib.hid (show len 4294967296 (K + 1) < 137438953472 by have := len_word (N := K + 1) (by omega); omega)
  have HX := Lib.hid hx
  clear hx
  go_enter Try.func64, Try.ntmps64
  go_wp2_with fail
  refine gen_calls ?_
  intro W0 hW0
  have G0 : Grew w W0 := by rw [hW0]; exact (Grew.refl w).alloc _
  have R : Res2 W0 (w.heap.size) 0 (.bool false) (.slice none 0 0) := by rw [hW0]; exact ⟨by simp [go_sem], by simp [go_sem], by simp [go_sem], by simp [go_sem], by simp⟩
  replace R := Lib.hid R
  have z0 : w.heap.size < W0.heap.size := by rw [hW0]; simp <;> omega
  replace z0 := Lib.hid z0
  clear hW0
  replace G0 := Lib.hid G0
  refine (r1of_any _ K _ (by have := HX.out; omega) (by omega)).mono ?_
  rintro e w1 ⟨V1, rfl, hV1, g1⟩
  obtain ⟨A3, c3, rfl, X1⟩ := hV1.slice
  clear hV1
  replace R := Lib.hid (R.out.grew g1)
  replace z0 := Lib.hid (lt_grew z0.out g1)
  replace G0 := Lib.hid (G0.out.trans g1)
  clear g1
  go_wp2_with fail
  refine gen_calls ?_
  intro W1 hW1
  have gl : Grew w1 W1 := by rw [hW1]; exact (Grew.refl _).alloc _
  have y1 := Lib.hid (R.out).2.2.2.2
  replace R := Lib.hid (R.out.grew gl)
  replace z0 := Lib.hid (lt_grew z0.out gl)
  replace X1 := Lib.hid (X1.out.kept gl.keeps)
  have X5 : Num 4294967296 .u32 W1 (.slice (some ⟨w1.heap.size, 0, none⟩) 1 1) 1 1 := by rw [hW1]; exact num_one _ _
  replace X5 := Lib.hid X5
  clear hW1
  replace G0 := Lib.hid (G0.out.trans gl)
  clear gl
  refine (rnadd_any _ _ K 1 _ _ _ X1.out X5.out hl1.out).mono ?_
  rintro e w2 ⟨V3, rfl, hV3, g2⟩
  obtain ⟨A5, c5, rfl, X3⟩ := hV3.slice
  clear hV3
  replace R := Lib.hid (R.out.grew g2)
  replace z0 := Lib.hid (lt_grew z0.out g2)
  replace X1 := Lib.hid (X1.out.kept g2.keeps)
  replace X5 := Lib.hid (X5.out.kept g2.keeps)
  replace G0 := Lib.hid (G0.out.trans g2)
  clear g2
  go_wp2_with fail
  refine (rmake_any _ _ (K + 1) _ _ X3.out hl.out).mono ?_
  rintro e w3 ⟨V2, rfl, hV2, g3⟩
  obtain ⟨b4, A4, n4, c4, rfl, X2, -⟩ := hV2.laid
  clear hV2
  replace R := Lib.hid (R.out.grew g3)
  replace z0 := Lib.hid (lt_grew z0.out g3)
  replace X1 := Lib.hid (X1.out.kept g3.keeps)
  replace X5 := Lib.hid (X5.out.kept g3.keeps)
  replace X3 := Lib.hid (X3.out.kept g3.keeps)
  replace G0 := Lib.hid (G0.out.trans g3)
  clear g3
  obtain ⟨R0, R1, Rf0, Rf1, Rs⟩ := R.out
  go_wp2_with fail
  refine gen_post ?_
  intro W9 hW9
  obtain ⟨q0, q1, qK, -, qs, qG⟩ := store2 (o := 0) R0 R1 hW9
  have GE := qG w (by omega) G0.out
  have QK := Lib.hid qK
  clear qK qG hW9 R0 R1
  exact bodyPost_ret (v := .agg #[.bool b4, .slice A4 n4 c4]) (by simp [results, Try.results64, go_sem, q0, q1]) rfl ⟨_, rfl, X2.out.kept QK.out, GE⟩

theorem r2of_any (x : Int) (w : World) (h0 : -9223372036854775808 ≤ x) (h1 : x ≤ 9223372036854775807) :
    Calls Try.prog 64 #[.int .i64 x] w fun e w' => ∃ V, e = .returned V ∧ Whl w' V x ∧ Grew w w' := by
  rcases Int.lt_or_le x 0 with h | h
  · obtain ⟨K, hK⟩ : ∃ K : Nat, x = -(K : Int) - 1 := ⟨(-x - 1).toNat, by omega⟩
    have := r2of_neg x K w (by omega) hK
    rw [show sgn true (K + 1) = x from by unfold sgn; simp; omega] at this
    exact this
  · obtain ⟨N, rfl⟩ := Int.eq_ofNat_of_zero_le h
    exact r2of_pos N w (by omega)
end Go.Proofs.Ytpglnfccmhkocaa
namespace Go.Proofs.Ytpglnfccmhkocaa
open Go.RowKit

theorem store22 {w w' : World} {r s : Nat} {x y : Bool} {A B : Option Addr} {n c n' c' : Nat} {u0 u1 v0 v1 : Value} (h0 : w.cell? ⟨r, 0, none⟩ = some (.bool x)) (h1 : w.cell? ⟨r, 1, none⟩ = some (.slice A n c))
    (k0 : w.cell? ⟨s, 0, none⟩ = some (.bool y)) (k1 : w.cell? ⟨s, 1, none⟩ = some (.slice B n' c')) (hne : r ≠ s)
    (h : w' = (((w.setCell ⟨r, 0, none⟩ u0).setCell ⟨r, 1, none⟩ u1).setCell ⟨s, 0, none⟩ v0).setCell ⟨s, 1, none⟩ v1) :
    w'.cell? ⟨r, 0, none⟩ = some u0 ∧ w'.cell? ⟨r, 1, none⟩ = some u1 ∧ w'.cell? ⟨s, 0, none⟩ = some v0 ∧ w'.cell? ⟨s, 1, none⟩ = some v1 ∧ Keeps w w' ∧ (∀ a, a.heap.size ≤ r → a.heap.size ≤ s → Grew a w → Grew a w') := by
  obtain ⟨q0, q1, qK, qf, qs, qG⟩ := store2 (o := 0) (u0 := u0) (u1 := u1) h0 h1 rfl
  obtain ⟨p0, p1, pK, pf, ps, pG⟩ := store2 (o := 0) ((qf _ _ hne.symm).trans k0) ((qf _ _ hne.symm).trans k1) h
  exact ⟨(pf _ _ hne).trans q0, (pf _ _ hne).trans q1, p0, p1, qK.trans pK, fun a h1 h2 g => pG a h2 (qG a h1 g)⟩

theorem store22D {w w' : World} {r s : Nat} {x y : Bool} {A B : Option Addr} {n c n' c' : Nat} {u0 u1 v0 v1 : Value} (h0 : w.cell? ⟨r, 0, none⟩ = some (.bool x)) (h1 : w.cell? ⟨r, 1, none⟩ = some (.slice A n c))
    (k0 : w.cell? ⟨s, 0, none⟩ = some (.bool y)) (k1 : w.cell? ⟨s, 1, none⟩ = some (.slice B n' c')) (hne : r ≠ s)
    (h : w' = ((((w.setCell ⟨r, 0, none⟩ u0).setCell ⟨r, 1, none⟩ u1).setCell ⟨s, 0, none⟩ v0).setCell ⟨s, 1, none⟩ v1).drew) :
    w'.cell? ⟨r, 0, none⟩ = some u0 ∧ w'.cell? ⟨r, 1, none⟩ = some u1 ∧ w'.cell? ⟨s, 0, none⟩ = some v0 ∧ w'.cell? ⟨s, 1, none⟩ = some v1 ∧ Keeps w w' ∧ (∀ a, a.heap.size ≤ r → a.heap.size ≤ s → Grew a w → Grew a w') := by
  obtain ⟨T, hT⟩ : ∃ T, T = (((w.setCell ⟨r, 0, none⟩ u0).setCell ⟨r, 1, none⟩ u1).setCell ⟨s, 0, none⟩ v0).setCell ⟨s, 1, none⟩ v1 := ⟨_, rfl⟩
  rw [← hT] at h
  obtain ⟨q0, q1, q2, q3, qK, qG⟩ := store22 h0 h1 k0 k1 hne hT
  clear hT
  subst h
  exact ⟨q0, q1, q2, q3, qK.trans ((Grew.refl _).drew).keeps, fun a h1 h2 g => (qG a h1 h2 g).drew⟩

theorem neg_ediv_pos {N M : Nat} (hM : M ≠ 0) (h : N % M ≠ 0) : (-(N : Int)) / (M : Int) = -((N / M + 1 : Nat) : Int) ∧ (-(N : Int)) % (M : Int) = ((M - N % M : Nat) : Int) := by
  have h1 := Nat.mod_lt N (Nat.pos_of_ne_zero hM)
  have h2 := Nat.div_add_mod N M
  have h3 : (-(N : Int)) = (M : Int) * (-((N / M + 1 : Nat) : Int)) + ((M - N % M : Nat) : Int) := by
    have : ((N : Nat) : Int) = (M : Int) * ((N / M : Nat) : Int) + ((N % M : Nat) : Int) := by
      have e := congrArg (fun t : Nat => (t : Int)) h2.symm
      simpa [Int.natCast_add, Int.natCast_mul] using e
    have e2 : ((M - N % M : Nat) : Int) = (M : Int) - ((N % M : Nat) : Int) := by omega
    rw [e2, this]
    generalize ((N / M : Nat) : Int) = q at *
    simp only [Int.natCast_add, Int.natCast_one, Int.mul_neg, Int.mul_add, Int.mul_one]
    omega
  exact (Int.ediv_emod_unique (by omega : (0 : Int) < M)).2 ⟨by rw [h3]; omega, by omega, by omega⟩
theorem neg_ediv_zero {N M : Nat} (hM : M ≠ 0) (h : N % M = 0) : (-(N : Int)) / (M : Int) = -((N / M : Nat) : Int) ∧ (-(N : Int)) % (M : Int) = 0 := by
  have h2 := Nat.div_add_mod N M
  have h3 : (-(N : Int)) = (M : Int) * (-((N / M : Nat) : Int)) := by
    have : ((N : Nat) : Int) = (M : Int) * ((N / M : Nat) : Int) := by
      have e := congrArg (fun t : Nat => (t : Int)) h2.symm
      rw [h] at e
      simpa [Int.natCast_mul] using e
    rw [this, Int.mul_neg]
  exact (Int.ediv_emod_unique (by omega : (0 : Int) < M)).2 ⟨by rw [h3]; omega, by omega, by omega⟩

set_option maxRecDepth 100000 in
set_option maxHeartbeats 4000000 in
theorem wdiv_any (b1 : Bool) (A1 C2 : Option Addr) (N M n1 c1 m2 d2 : Nat) (w : World) (ha : Num 4294967296 .u32 w (.slice A1 n1 c1) N n1) (hb : Num 4294967296 .u32 w (.slice C2 m2 d2) M m2)
    (h0 : M ≠ 0) (h1 : len 4294967296 N < 536870912) (h2 : len 4294967296 M < 536870912) :
    Calls Try.prog 92 #[.agg #[.bool b1, .slice A1 n1 c1], .agg #[.bool false, .slice C2 m2 d2]] w fun e w' => ∃ V V', e = .returned (.tuple #[V, V', .bool true]) ∧ Whl w' V (sgn b1 N / (M : Int)) ∧ Whl w' V' (sgn b1 N % (M : Int)) ∧ Grew w w' := by
  have Fa := Lib.hid ha
  have Fb := Lib.hid hb
  have l1 := Lib.hid (show len 4294967296 N < 549755813888 by omega)
  clear ha hb
  go_enter Try.func92, Try.ntmps92
  go_wp2_with fail
  refine gen_calls ?_
  intro W0 hW0
  have G0 : Grew w W0 := by rw [hW0]; exact ((((Grew.refl w).alloc _).alloc _).alloc _).alloc _
  have P : Box2 W0 (w.heap.size) 0 (.bool b1) (.slice A1 n1 c1) := by rw [hW0]; exact ⟨by simp [go_sem], by simp [go_sem]⟩
  replace P := Lib.hid P
  have Q : Box2 W0 (w.heap.size + 1) 0 (.bool false) (.slice C2 m2 d2) := by rw [hW0]; exact ⟨by simp [go_sem], by simp [go_sem]⟩
  replace Q := Lib.hid Q
  have R : Res2 W0 (w.heap.size + 1 + 1) 0 (.bool false) (.slice none 0 0) := by rw [hW0]; exact ⟨by simp [go_sem], by simp [go_sem], by simp [go_sem], by simp [go_sem], by simp⟩
  replace R := Lib.hid R
  have T : Res2 W0 (w.heap.size + 1 + 1 + 1) 0 (.bool false) (.slice none 0 0) := by rw [hW0]; exact ⟨by simp [go_sem], by simp [go_sem], by simp [go_sem], by simp [go_sem], by simp⟩
  replace T := Lib.hid T
  have z0 : w.heap.size < W0.heap.size := by rw [hW0]; simp <;> omega
  replace z0 := Lib.hid z0
  have z1 : w.heap.size + 1 < W0.heap.size := by rw [hW0]; simp <;> omega
  replace z1 := Lib.hid z1
  have z2 : w.heap.size + 1 + 1 < W0.heap.size := by rw [hW0]; simp <;> omega
  replace z2 := Lib.hid z2
  have z3 : w.heap.size + 1 + 1 + 1 < W0.heap.size := by rw [hW0]; simp <;> omega
  replace z3 := Lib.hid z3
  clear hW0
  replace Fa := Lib.hid (Fa.out.kept G0.keeps)
  replace Fb := Lib.hid (Fb.out.kept G0.keeps)
  replace G0 := Lib.hid G0
  refine (div_any _ _ N M _ _ _ Fa.out Fb.out h0 l1.out).mono ?_
  rintro e w1 ⟨q, r, rfl, hq, hr, g1⟩
  obtain ⟨A3, c3, rfl, Xq⟩ := hq.slice
  obtain ⟨A4, c4, rfl, Xr⟩ := hr.slice
  clear hq hr
  replace R := Lib.hid (R.out.grew g1)
  replace T := Lib.hid (T.out.grew g1)
  replace P := Lib.hid (P.out.grew g1)
  replace Q := Lib.hid (Q.out.grew g1)
  replace z0 := Lib.hid (lt_grew z0.out g1)
  replace z1 := Lib.hid (lt_grew z1.out g1)
  replace z2 := Lib.hid (lt_grew z2.out g1)
  replace z3 := Lib.hid (lt_grew z3.out g1)
  replace Fa := Lib.hid (Fa.out.kept g1.keeps)
  replace Fb := Lib.hid (Fb.out.kept g1.keeps)
  replace G0 := Lib.hid (G0.out.trans g1)
  clear g1

  by_cases hneg : b1 = true ∧ N % M ≠ 0
  · as_aux_lemma =>
    obtain ⟨rfl, hne⟩ := hneg
    have e1 := Lib.hid (neg_ediv_pos h0 hne)
    have l2 := len_mono (B := 4294967296) (by omega) (Nat.div_le_self N M)
    have l3 := len_mono (B := 4294967296) (by omega) (Nat.le_of_lt (Nat.mod_lt N (Nat.pos_of_ne_zero h0)))
    have l4 : len 4294967296 (N % M) ≠ 0 := fun e => hne ((len_eq_zero (by omega)).1 e)
    have l5 := Lib.hid (show len 4294967296 (N / M) < 549755813888 ∧ len 4294967296 1 < 549755813888 by rw [len_one]; omega)
    have l6 := Lib.hid (Nat.le_of_lt (Nat.mod_lt N (Nat.pos_of_ne_zero h0)))
    have l7 := Lib.hid (show len 4294967296 M < 1099511627776 by omega)
    generalize hL : len 4294967296 (N % M) = L at *
    replace hL := Lib.hid hL
    clear h1 h2 l2 l3 hne
    obtain ⟨P0, P1⟩ := P.out
    obtain ⟨Q0, Q1⟩ := Q.out
    go_wp2_with fail
    clear P0 P1 Q0 Q1
    refine gen_calls ?_
    intro W1 hW1
    have gl : Grew w1 W1 := by rw [hW1]; exact (Grew.refl _).alloc _
    have y1 := Lib.hid (R.out).2.2.2.2
    have y1_1 := Lib.hid (T.out).2.2.2.2
    replace R := Lib.hid (R.out.grew gl)
    replace T := Lib.hid (T.out.grew gl)
    replace P := Lib.hid (P.out.grew gl)
    replace Q := Lib.hid (Q.out.grew gl)
    replace z0 := Lib.hid (lt_grew z0.out gl)
    replace z1 := Lib.hid (lt_grew z1.out gl)
    replace z2 := Lib.hid (lt_grew z2.out gl)
    replace z3 := Lib.hid (lt_grew z3.out gl)
    replace Fa := Lib.hid (Fa.out.kept gl.keeps)
    replace Fb := Lib.hid (Fb.out.kept gl.keeps)
    replace Xq := Lib.hid (Xq.out.kept gl.keeps)
    replace Xr := Lib.hid (Xr.out.kept gl.keeps)
    have X5 : Num 4294967296 .u32 W1 (.slice (some ⟨w1.heap.size, 0, none⟩) 1 1) 1 1 := by rw [hW1]; exact num_one _ _
    replace X5 := Lib.hid X5
    clear hW1
    replace G0 := Lib.hid (G0.out.trans gl)
    clear gl
    refine (add_any _ _ (N / M) 1 _ _ _ Xq.out X5.out (by have := l5.out; omega) (by have := l5.out; omega)).mono ?_
    rintro e w2 ⟨v5, rfl, h5, g2⟩
    obtain ⟨A6, c6, rfl, X6⟩ := h5.slice
    clear h5
    replace R := Lib.hid (R.out.grew g2)
    replace T := Lib.hid (T.out.grew g2)
    replace P := Lib.hid (P.out.grew g2)
    replace Q := Lib.hid (Q.out.grew g2)
    replace z0 := Lib.hid (lt_grew z0.out g2)
    replace z1 := Lib.hid (lt_grew z1.out g2)
    replace z2 := Lib.hid (lt_grew z2.out g2)
    replace z3 := Lib.hid (lt_grew z3.out g2)
    replace Fa := Lib.hid (Fa.out.kept g2.keeps)
    replace Fb := Lib.hid (Fb.out.kept g2.keeps)
    replace Xq := Lib.hid (Xq.out.kept g2.keeps)
    replace Xr := Lib.hid (Xr.out.kept g2.keeps)
    replace X5 := Lib.hid (X5.out.kept g2.keeps)
    replace G0 := Lib.hid (G0.out.trans g2)
    clear g2
    obtain ⟨P0, P1⟩ := P.out
    obtain ⟨Q0, Q1⟩ := Q.out
    go_wp2_with fail
    clear P0 P1 Q0 Q1
    refine (sub_yes _ _ M (N % M) _ _ _ Fb.out Xr.out l6.out l7.out).mono ?_
    rintro e w3 ⟨v7, rfl, h7, g3⟩
    obtain ⟨A7, c7, rfl, X7⟩ := h7.slice
    clear h7
    replace R := Lib.hid (R.out.grew g3)
    replace T := Lib.hid (T.out.grew g3)
    replace P := Lib.hid (P.out.grew g3)
    replace Q := Lib.hid (Q.out.grew g3)
    replace z0 := Lib.hid (lt_grew z0.out g3)
    replace z1 := Lib.hid (lt_grew z1.out g3)
    replace z2 := Lib.hid (lt_grew z2.out g3)
    replace z3 := Lib.hid (lt_grew z3.out g3)
    replace Fa := Lib.hid (Fa.out.kept g3.keeps)
    replace Fb := Lib.hid (Fb.out.kept g3.keeps)
    replace Xq := Lib.hid (Xq.out.kept g3.keeps)
    replace Xr := Lib.hid (Xr.out.kept g3.keeps)
    replace X5 := Lib.hid (X5.out.kept g3.keeps)
    replace X6 := Lib.hid (X6.out.kept g3.keeps)
    replace G0 := Lib.hid (G0.out.trans g3)
    clear g3
    obtain ⟨P0, P1⟩ := P.out
    obtain ⟨Q0, Q1⟩ := Q.out
    go_wp2_with fail
    clear P0 P1 Q0 Q1
    refine (clean_any true _ (N / M + 1) _ X6.out).mono ?_
    rintro e w4 ⟨V8, rfl, hV8, g4⟩
    obtain ⟨b8, A8, n8, c8, rfl, X8, -⟩ := hV8.laid
    clear hV8
    replace R := Lib.hid (R.out.grew g4)
    replace T := Lib.hid (T.out.grew g4)
    replace P := Lib.hid (P.out.grew g4)
    replace Q := Lib.hid (Q.out.grew g4)
    replace z0 := Lib.hid (lt_grew z0.out g4)
    replace z1 := Lib.hid (lt_grew z1.out g4)
    replace z2 := Lib.hid (lt_grew z2.out g4)
    replace z3 := Lib.hid (lt_grew z3.out g4)
    replace Fa := Lib.hid (Fa.out.kept g4.keeps)
    replace Fb := Lib.hid (Fb.out.kept g4.keeps)
    replace Xq := Lib.hid (Xq.out.kept g4.keeps)
    replace Xr := Lib.hid (Xr.out.kept g4.keeps)
    replace X5 := Lib.hid (X5.out.kept g4.keeps)
    replace X6 := Lib.hid (X6.out.kept g4.keeps)
    replace X7 := Lib.hid (X7.out.kept g4.keeps)
    replace G0 := Lib.hid (G0.out.trans g4)
    clear g4
    obtain ⟨P0, P1⟩ := P.out
    obtain ⟨Q0, Q1⟩ := Q.out
    go_wp2_with fail
    clear P0 P1 Q0 Q1
    refine (clean_any false _ (M - N % M) _ X7.out).mono ?_
    rintro e w5 ⟨V9, rfl, hV9, g5⟩
    obtain ⟨b9, A9, n9, c9, rfl, X9, -⟩ := hV9.laid
    clear hV9
    replace R := Lib.hid (R.out.grew g5)
    replace T := Lib.hid (T.out.grew g5)
    replace P := Lib.hid (P.out.grew g5)
    replace Q := Lib.hid (Q.out.grew g5)
    replace z0 := Lib.hid (lt_grew z0.out g5)
    replace z1 := Lib.hid (lt_grew z1.out g5)
    replace z2 := Lib.hid (lt_grew z2.out g5)
    replace z3 := Lib.hid (lt_grew z3.out g5)
    replace Fa := Lib.hid (Fa.out.kept g5.keeps)
    replace Fb := Lib.hid (Fb.out.kept g5.keeps)
    replace Xq := Lib.hid (Xq.out.kept g5.keeps)
    replace Xr := Lib.hid (Xr.out.kept g5.keeps)
    replace X5 := Lib.hid (X5.out.kept g5.keeps)
    replace X6 := Lib.hid (X6.out.kept g5.keeps)
    replace X7 := Lib.hid (X7.out.kept g5.keeps)
    replace X8 := Lib.hid (X8.out.kept g5.keeps)
    replace G0 := Lib.hid (G0.out.trans g5)
    clear g5
    obtain ⟨R0, R1, Rf0, Rf1, Rs⟩ := R.out
    obtain ⟨T0, T1, Tf0, Tf1, Ts⟩ := T.out
    go_wp2_with fail
    refine gen_post ?_
    intro W9 hW9
    (first | obtain ⟨q0, q1, q2, q3, qK, qG⟩ := store22 R0 R1 T0 T1 (by omega) hW9 | obtain ⟨q0, q1, q2, q3, qK, qG⟩ := store22D R0 R1 T0 T1 (by omega) hW9)
    have GE := qG w (by omega) (by omega) G0.out
    have QK := Lib.hid qK
    clear qK qG hW9 R0 R1 T0 T1
    exact bodyPost_ret (v := .tuple #[.agg #[.bool b8, .slice A8 n8 c8], .agg #[.bool b9, .slice A9 n9 c9], .bool true]) (by simp [results, Try.results92, go_sem, q0, q1, q2, q3]) rfl ⟨_, _, rfl, by rw [show sgn true N / (M : Int) = sgn true (N / M + 1) from e1.out.1]; exact X8.out.kept QK.out, by rw [show sgn true N % (M : Int) = sgn false (M - N % M) from e1.out.2]; exact X9.out.kept QK.out, GE⟩
  · as_aux_lemma =>

    have e1 : sgn b1 N / (M : Int) = sgn b1 (N / M) ∧ sgn b1 N % (M : Int) = sgn false (N % M) := by
      cases b1
      · exact ⟨(Int.natCast_ediv N M).symm, (Int.natCast_emod N M).symm⟩
      · have h0' : N % M = 0 := by
          refine Decidable.byContradiction fun h => hneg ⟨rfl, h⟩
        have := neg_ediv_zero h0 h0'
        rw [h0']
        exact this
    replace e1 := Lib.hid e1
    cases b1
    · as_aux_lemma =>

      clear hneg h1 h2
      obtain ⟨P0, P1⟩ := P.out
      obtain ⟨Q0, Q1⟩ := Q.out
      go_wp2_with fail
      clear P0 P1 Q0 Q1
      refine (clean_any false _ (N / M) _ Xq.out).mono ?_
      rintro e w2 ⟨V8, rfl, hV8, g2⟩
      obtain ⟨b8, A8, n8, c8, rfl, X8, -⟩ := hV8.laid
      clear hV8
      replace R := Lib.hid (R.out.grew g2)
      replace T := Lib.hid (T.out.grew g2)
      replace P := Lib.hid (P.out.grew g2)
      replace Q := Lib.hid (Q.out.grew g2)
      replace z0 := Lib.hid (lt_grew z0.out g2)
      replace z1 := Lib.hid (lt_grew z1.out g2)
      replace z2 := Lib.hid (lt_grew z2.out g2)
      replace z3 := Lib.hid (lt_grew z3.out g2)
      replace Fa := Lib.hid (Fa.out.kept g2.keeps)
      replace Fb := Lib.hid (Fb.out.kept g2.keeps)
      replace Xq := Lib.hid (Xq.out.kept g2.keeps)
      replace Xr := Lib.hid (Xr.out.kept g2.keeps)
      replace G0 := Lib.hid (G0.out.trans g2)
      clear g2
      obtain ⟨P0, P1⟩ := P.out
      obtain ⟨Q0, Q1⟩ := Q.out
      go_wp2_with fail
      clear P0 P1 Q0 Q1
      refine (clean_any false _ (N % M) _ Xr.out).mono ?_
      rintro e w3 ⟨V9, rfl, hV9, g3⟩
      obtain ⟨b9, A9, n9, c9, rfl, X9, -⟩ := hV9.laid
      clear hV9
      replace R := Lib.hid (R.out.grew g3)
      replace T := Lib.hid (T.out.grew g3)
      replace P := Lib.hid (P.out.grew g3)
      replace Q := Lib.hid (Q.out.grew g3)
      replace z0 := Lib.hid (lt_grew z0.out g3)
      replace z1 := Lib.hid (lt_grew z1.out g3)
      replace z2 := Lib.hid (lt_grew z2.out g3)
      replace z3 := Lib.hid (lt_grew z3.out g3)
      replace Fa := Lib.hid (Fa.out.kept g3.keeps)
      replace Fb := Lib.hid (Fb.out.kept g3.keeps)
      replace Xq := Lib.hid (Xq.out.kept g3.keeps)
      replace Xr := Lib.hid (Xr.out.kept g3.keeps)
      replace X8 := Lib.hid (X8.out.kept g3.keeps)
      replace G0 := Lib.hid (G0.out.trans g3)
      clear g3
      obtain ⟨R0, R1, Rf0, Rf1, Rs⟩ := R.out
      obtain ⟨T0, T1, Tf0, Tf1, Ts⟩ := T.out
      go_wp2_with fail
      refine gen_post ?_
      intro W9 hW9
      (first | obtain ⟨q0, q1, q2, q3, qK, qG⟩ := store22 R0 R1 T0 T1 (by omega) hW9 | obtain ⟨q0, q1, q2, q3, qK, qG⟩ := store22D R0 R1 T0 T1 (by omega) hW9)
      have GE := qG w (by omega) (by omega) G0.out
      have QK := Lib.hid qK
      clear qK qG hW9 R0 R1 T0 T1
      exact bodyPost_ret (v := .tuple #[.agg #[.bool b8, .slice A8 n8 c8], .agg #[.bool b9, .slice A9 n9 c9], .bool true]) (by simp [results, Try.results92, go_sem, q0, q1, q2, q3]) rfl ⟨_, _, rfl, by rw [e1.out.1]; exact X8.out.kept QK.out, by rw [e1.out.2]; exact X9.out.kept QK.out, GE⟩
    · as_aux_lemma =>

      have h0' : N % M = 0 := by
        refine Decidable.byContradiction fun h => hneg ⟨rfl, h⟩
      have hL2 := Lib.hid (show len 4294967296 (N % M) = 0 by rw [h0', len_zero])
      have hL : len 4294967296 (N % M) = 0 := hL2.out
      generalize len 4294967296 (N % M) = L at hL Xr ⊢
      subst hL
      clear hneg h1 h2 h0'
      obtain ⟨P0, P1⟩ := P.out
      obtain ⟨Q0, Q1⟩ := Q.out
      go_wp2_with fail
      clear P0 P1 Q0 Q1
      refine (clean_any true _ (N / M) _ Xq.out).mono ?_
      rintro e w2 ⟨V8, rfl, hV8, g2⟩
      obtain ⟨b8, A8, n8, c8, rfl, X8, -⟩ := hV8.laid
      clear hV8
      replace R := Lib.hid (R.out.grew g2)
      replace T := Lib.hid (T.out.grew g2)
      replace P := Lib.hid (P.out.grew g2)
      replace Q := Lib.hid (Q.out.grew g2)
      replace z0 := Lib.hid (lt_grew z0.out g2)
      replace z1 := Lib.hid (lt_grew z1.out g2)
      replace z2 := Lib.hid (lt_grew z2.out g2)
      replace z3 := Lib.hid (lt_grew z3.out g2)
      replace Fa := Lib.hid (Fa.out.kept g2.keeps)
      replace Fb := Lib.hid (Fb.out.kept g2.keeps)
      replace Xq := Lib.hid (Xq.out.kept g2.keeps)
      replace Xr := Lib.hid (Xr.out.kept g2.keeps)
      replace G0 := Lib.hid (G0.out.trans g2)
      clear g2
      obtain ⟨P0, P1⟩ := P.out
      obtain ⟨Q0, Q1⟩ := Q.out
      go_wp2_with fail
      clear P0 P1 Q0 Q1
      refine (clean_any false _ (N % M) _ (by rw [hL2.out]; exact Xr.out)).mono ?_
      rintro e w3 ⟨V9, rfl, hV9, g3⟩
      obtain ⟨b9, A9, n9, c9, rfl, X9, -⟩ := hV9.laid
      clear hV9
      replace R := Lib.hid (R.out.grew g3)
      replace T := Lib.hid (T.out.grew g3)
      replace P := Lib.hid (P.out.grew g3)
      replace Q := Lib.hid (Q.out.grew g3)
      replace z0 := Lib.hid (lt_grew z0.out g3)
      replace z1 := Lib.hid (lt_grew z1.out g3)
      replace z2 := Lib.hid (lt_grew z2.out g3)
      replace z3 := Lib.hid (lt_grew z3.out g3)
      replace Fa := Lib.hid (Fa.out.kept g3.keeps)
      replace Fb := Lib.hid (Fb.out.kept g3.keeps)
      replace Xq := Lib.hid (Xq.out.kept g3.keeps)
      replace Xr := Lib.hid (Xr.out.kept g3.keeps)
      replace X8 := Lib.hid (X8.out.kept g3.keeps)
      replace G0 := Lib.hid (G0.out.trans g3)
      clear g3
      obtain ⟨R0, R1, Rf0, Rf1, Rs⟩ := R.out
      obtain ⟨T0, T1, Tf0, Tf1, Ts⟩ := T.out
      go_wp2_with fail
      refine gen_post ?_
      intro W9 hW9
      (first | obtain ⟨q0, q1, q2, q3, qK, qG⟩ := store22 R0 R1 T0 T1 (by omega) hW9 | obtain ⟨q0, q1, q2, q3, qK, qG⟩ := store22D R0 R1 T0 T1 (by omega) hW9)
      have GE := qG w (by omega) (by omega) G0.out
      have QK := Lib.hid qK
      clear qK qG hW9 R0 R1 T0 T1
      exact bodyPost_ret (v := .tuple #[.agg #[.bool b8, .slice A8 n8 c8], .agg #[.bool b9, .slice A9 n9 c9], .bool true]) (by simp [results, Try.results92, go_sem, q0, q1, q2, q3]) rfl ⟨_, _, rfl, by rw [e1.out.1]; exact X8.out.kept QK.out, by rw [e1.out.2]; exact X9.out.kept QK.out, GE⟩

def intOk (z : Int) : Bool := decide (-9223372036854775808 ≤ z) && decide (z ≤ 9223372036854775807)
def intV (z : Int) : Int := if intOk z = true then z else 0
theorem int_yes {z : Int} (h : -9223372036854775808 ≤ z ∧ z ≤ 9223372036854775807) : intV z = z ∧ intOk z = true := by
  have : intOk z = true := by unfold intOk; simp [h.1, h.2]
  exact ⟨if_pos this, this⟩
theorem int_no {z : Int} (h : ¬ (-9223372036854775808 ≤ z ∧ z ≤ 9223372036854775807)) : intV z = 0 ∧ intOk z = false := by
  have : intOk z = false := by unfold intOk; simp; omega
  exact ⟨if_neg (by rw [this]; simp), this⟩

theorem uint_g (va : Value) (N n : Nat) (w : World) (ha : Num 4294967296 .u32 w va N n) :
    Calls Try.prog 53 #[va] w fun e w' => e = .returned (.tuple #[.int .u64 (uintV N : Nat), .bool (uintOk N)]) ∧ Grew w w' :=
  (uint_any va N n w ha).mono fun _ _ ⟨h1, h2⟩ => ⟨h1, h2 ▸ Grew.refl w⟩

set_option maxRecDepth 100000 in
set_option maxHeartbeats 4000000 in
theorem wint_any (b1 : Bool) (A1 : Option Addr) (N n1 c1 : Nat) (w : World) (ha : Num 4294967296 .u32 w (.slice A1 n1 c1) N n1) :
    Calls Try.prog 19 #[.agg #[.bool b1, .slice A1 n1 c1]] w fun e w' => e = .returned (.tuple #[.int .i64 (intV (sgn b1 N)), .bool (intOk (sgn b1 N))]) ∧ Grew w w' := by
  have Fa := Lib.hid ha
  clear ha
  by_cases hl : len 4294967296 N ≤ 2
  · have hN := lt_pow_of_len (B := 4294967296) (by omega) hl
    have hN2 : N < 18446744073709551616 := by simpa using hN
    have hu := Lib.hid (uint_yes hl)
    clear hN hl
    cases b1
    · by_cases h : N ≤ 9223372036854775807
      · as_aux_lemma =>
        have e := Lib.hid (int_yes (z := sgn false N) (by unfold sgn; simp; omega))
        go_enter Try.func19, Try.ntmps19
        go_wp2_with fail
        refine gen_calls ?_
        intro W0 hW0
        have G0 : Grew w W0 := by rw [hW0]; exact (Grew.refl w).alloc _
        have P : Box2 W0 (w.heap.size) 0 (.bool false) (.slice A1 n1 c1) := by rw [hW0]; exact ⟨by simp [go_sem], by simp [go_sem]⟩
        replace P := Lib.hid P
        have z0 : w.heap.size < W0.heap.size := by rw [hW0]; simp <;> omega
        replace z0 := Lib.hid z0
        clear hW0
        replace Fa := Lib.hid (Fa.out.kept G0.keeps)
        replace G0 := Lib.hid G0
        refine (uint_g _ N _ _ Fa.out).mono ?_
        rintro e w1 ⟨rfl, g1⟩
        replace P := Lib.hid (P.out.grew g1)
        replace z0 := Lib.hid (lt_grew z0.out g1)
        replace Fa := Lib.hid (Fa.out.kept g1.keeps)
        replace G0 := Lib.hid (G0.out.trans g1)
        clear g1
        rw [hu.out.1, hu.out.2]
        obtain ⟨P0, P1⟩ := P.out
        go_wp2_with fail
        clear P0 P1
        go_ret2
        exact ⟨by rw [e.out.1, e.out.2]; rfl, G0.out⟩
      · as_aux_lemma =>
        have e := Lib.hid (int_no (z := sgn false N) (by unfold sgn; simp; omega))
        go_enter Try.func19, Try.ntmps19
        go_wp2_with fail
        refine gen_calls ?_
        intro W0 hW0
        have G0 : Grew w W0 := by rw [hW0]; exact (Grew.refl w).alloc _
        have P : Box2 W0 (w.heap.size) 0 (.bool false) (.slice A1 n1 c1) := by rw [hW0]; exact ⟨by simp [go_sem], by simp [go_sem]⟩
        replace P := Lib.hid P
        have z0 : w.heap.size < W0.heap.size := by rw [hW0]; simp <;> omega
        replace z0 := Lib.hid z0
        clear hW0
        replace Fa := Lib.hid (Fa.out.kept G0.keeps)
        replace G0 := Lib.hid G0
        refine (uint_g _ N _ _ Fa.out).mono ?_
        rintro e w1 ⟨rfl, g1⟩
        replace P := Lib.hid (P.out.grew g1)
        replace z0 := Lib.hid (lt_grew z0.out g1)
        replace Fa := Lib.hid (Fa.out.kept g1.keeps)
        replace G0 := Lib.hid (G0.out.trans g1)
        clear g1
        rw [hu.out.1, hu.out.2]
        obtain ⟨P0, P1⟩ := P.out
        go_wp2_with fail
        clear P0 P1
        go_ret2
        exact ⟨by rw [e.out.1, e.out.2]; rfl, G0.out⟩
    · by_cases h : N ≤ 9223372036854775807
      · as_aux_lemma =>
        have e := Lib.hid (int_yes (z := sgn true N) (by unfold sgn; simp; omega))
        go_enter Try.func19, Try.ntmps19
        go_wp2_with fail
        refine gen_calls ?_
        intro W0 hW0
        have G0 : Grew w W0 := by rw [hW0]; exact (Grew.refl w).alloc _
        have P : Box2 W0 (w.heap.size) 0 (.bool true) (.slice A1 n1 c1) := by rw [hW0]; exact ⟨by simp [go_sem], by simp [go_sem]⟩
        replace P := Lib.hid P
        have z0 : w.heap.size < W0.heap.size := by rw [hW0]; simp <;> omega
        replace z0 := Lib.hid z0
        clear hW0
        replace Fa := Lib.hid (Fa.out.kept G0.keeps)
        replace G0 := Lib.hid G0
        refine (uint_g _ N _ _ Fa.out).mono ?_
        rintro e w1 ⟨rfl, g1⟩
        replace P := Lib.hid (P.out.grew g1)
        replace z0 := Lib.hid (lt_grew z0.out g1)
        replace Fa := Lib.hid (Fa.out.kept g1.keeps)
        replace G0 := Lib.hid (G0.out.trans g1)
        clear g1
        rw [hu.out.1, hu.out.2]
        obtain ⟨P0, P1⟩ := P.out
        go_wp2_with fail
        clear P0 P1
        go_ret2
        exact ⟨by rw [e.out.1, e.out.2]; rfl, G0.out⟩
      · by_cases h2 : N = 9223372036854775808
        · as_aux_lemma =>
          subst h2
          have e := Lib.hid (int_yes (z := sgn true 9223372036854775808) (by unfold sgn; simp))
          go_enter Try.func19, Try.ntmps19
          go_wp2_with fail
          refine gen_calls ?_
          intro W0 hW0
          have G0 : Grew w W0 := by rw [hW0]; exact (Grew.refl w).alloc _
          have P : Box2 W0 (w.heap.size) 0 (.bool true) (.slice A1 n1 c1) := by rw [hW0]; exact ⟨by simp [go_sem], by simp [go_sem]⟩
          replace P := Lib.hid P
          have z0 : w.heap.size < W0.heap.size := by rw [hW0]; simp <;> omega
          replace z0 := Lib.hid z0
          clear hW0
          replace Fa := Lib.hid (Fa.out.kept G0.keeps)
          replace G0 := Lib.hid G0
          refine (uint_g _ 9223372036854775808 _ _ Fa.out).mono ?_
          rintro e w1 ⟨rfl, g1⟩
          replace P := Lib.hid (P.out.grew g1)
          replace z0 := Lib.hid (lt_grew z0.out g1)
          replace Fa := Lib.hid (Fa.out.kept g1.keeps)
          replace G0 := Lib.hid (G0.out.trans g1)
          clear g1
          rw [hu.out.1, hu.out.2]
          obtain ⟨P0, P1⟩ := P.out
          go_wp2_with fail
          clear P0 P1
          go_ret2
          exact ⟨by rw [e.out.1, e.out.2]; rfl, G0.out⟩
        · as_aux_lemma =>
          have e := Lib.hid (int_no (z := sgn true N) (by unfold sgn; simp; omega))
          go_enter Try.func19, Try.ntmps19
          go_wp2_with fail
          refine gen_calls ?_
          intro W0 hW0
          have G0 : Grew w W0 := by rw [hW0]; exact (Grew.refl w).alloc _
          have P : Box2 W0 (w.heap.size) 0 (.bool true) (.slice A1 n1 c1) := by rw [hW0]; exact ⟨by simp [go_sem], by simp [go_sem]⟩
          replace P := Lib.hid P
          have z0 : w.heap.size < W0.heap.size := by rw [hW0]; simp <;> omega
          replace z0 := Lib.hid z0
          clear hW0
          replace Fa := Lib.hid (Fa.out.kept G0.keeps)
          replace G0 := Lib.hid G0
          refine (uint_g _ N _ _ Fa.out).mono ?_
          rintro e w1 ⟨rfl, g1⟩
          replace P := Lib.hid (P.out.grew g1)
          replace z0 := Lib.hid (lt_grew z0.out g1)
          replace Fa := Lib.hid (Fa.out.kept g1.keeps)
          replace G0 := Lib.hid (G0.out.trans g1)
          clear g1
          rw [hu.out.1, hu.out.2]
          obtain ⟨P0, P1⟩ := P.out
          go_wp2_with fail
          clear P0 P1
          go_ret2
          exact ⟨by rw [e.out.1, e.out.2]; rfl, G0.out⟩
  · as_aux_lemma =>
    have hN : ¬ N < 18446744073709551616 := fun h => hl (len_word h)
    have hu := Lib.hid (uint_no hl)
    have e := Lib.hid (int_no (z := sgn b1 N) (by unfold sgn; split <;> omega))
    clear hN hl
    go_enter Try.func19, Try.ntmps19
    go_wp2_with fail
    refine gen_calls ?_
    intro W0 hW0
    have G0 : Grew w W0 := by rw [hW0]; exact (Grew.refl w).alloc _
    have P : Box2 W0 (w.heap.size) 0 (.bool b1) (.slice A1 n1 c1) := by rw [hW0]; exact ⟨by simp [go_sem], by simp [go_sem]⟩
    replace P := Lib.hid P
    have z0 : w.heap.size < W0.heap.size := by rw [hW0]; simp <;> omega
    replace z0 := Lib.hid z0
    clear hW0
    replace Fa := Lib.hid (Fa.out.kept G0.keeps)
    replace G0 := Lib.hid G0
    refine (uint_g _ N _ _ Fa.out).mono ?_
    rintro e w1 ⟨rfl, g1⟩
    replace P := Lib.hid (P.out.grew g1)
    replace z0 := Lib.hid (lt_grew z0.out g1)
    replace Fa := Lib.hid (Fa.out.kept g1.keeps)
    replace G0 := Lib.hid (G0.out.trans g1)
    clear g1
    rw [hu.out.1, hu.out.2]
    obtain ⟨P0, P1⟩ := P.out
    go_wp2_with fail
    clear P0 P1
    go_ret2
    exact ⟨by rw [e.out.1, e.out.2]; rfl, G0.out⟩
end Go.Proofs.Ytpglnfccmhkocaa
namespace Go.Proofs.Ytpglnfccmhkocaa
open Go.RowKit

theorem sgQ_int (z : Int) : sgQ (z : Rat) = sg z := by
  have h := sgQ_mkRat z 1 (by omega)
  rwa [show mkRat z 1 = (z : Rat) from (Rat.mkRat_one z)] at h
theorem sgQ_scale {a s : Rat} (h : 0 < s) : sgQ (a * s) = sgQ a := by
  unfold sgQ
  have h1 : a * s < 0 ↔ a < 0 := by
    constructor
    · intro e
      refine Rat.not_le.1 fun g => ?_
      have := Rat.mul_nonneg g (Rat.le_of_lt h)
      grind
    · intro e
      have := Rat.mul_pos (show 0 < -a by grind) h
      grind
  have h2 : 0 < a * s ↔ 0 < a := by
    constructor
    · intro e
      refine Rat.not_le.1 fun g => ?_
      have := Rat.mul_nonneg (show 0 ≤ -a by grind) (Rat.le_of_lt h)
      grind
    · intro e
      exact Rat.mul_pos e h
  by_cases g : a < 0
  · rw [if_pos g, if_pos (h1.2 g)]
  · rw [if_neg g, if_neg (fun e => g (h1.1 e))]
    by_cases g' : 0 < a
    · rw [if_pos g', if_pos (h2.2 g')]
    · rw [if_neg g', if_neg (fun e => g' (h2.1 e))]
theorem mkRat_times (n : Int) (d : Nat) (h : d ≠ 0) : mkRat n d * ((d : Int) : Rat) = (n : Rat) := by
  rw [Rat.mkRat_eq_div]
  exact Rat.div_mul_cancel (fun e => h (by have e2 : ((d : Int) : Rat) = ((0 : Int) : Rat) := e; have := Rat.intCast_inj.1 e2; omega))

/-- The greatest whole number that isn't above. -/
theorem floor_mkRat (z : Int) (D : Nat) (h : D ≠ 0) : (mkRat z D).floor = z / (D : Int) := by
  have hp : (0 : Int) < (D : Int) := by omega
  have key : ∀ x : Int, x ≤ (mkRat z D).floor ↔ x ≤ z / (D : Int) := by
    intro x
    rw [Rat.le_floor_iff, Int.le_ediv_iff_mul_le hp]
    have e1 := mkRat_times z D h
    have p1 : (0 : Rat) < ((D : Int) : Rat) := by have : (((0 : Int)) : Rat) < ((D : Int) : Rat) := Rat.intCast_lt_intCast.2 hp; exact this
    have e2 : (mkRat z D - (x : Rat)) * ((D : Int) : Rat) = ((z - x * (D : Int) : Int) : Rat) := by
      rw [Rat.intCast_sub, Rat.intCast_mul, ← e1]; grind
    have e3 := sgQ_scale (a := mkRat z D - (x : Rat)) p1
    rw [e2, sgQ_int] at e3
    have e4 : (x : Rat) ≤ mkRat z D ↔ ¬ mkRat z D - (x : Rat) < 0 := by grind
    rw [e4]
    unfold sgQ sg at e3
    constructor
    · intro g
      rw [if_neg g] at e3
      repeat' split at e3
      all_goals omega
    · intro g g'
      rw [if_pos g'] at e3
      repeat' split at e3
      all_goals omega
  exact Int.le_antisymm ((key _).1 (Int.le_refl _)) ((key _).2 (Int.le_refl _))
end Go.Proofs.Ytpglnfccmhkocaa
