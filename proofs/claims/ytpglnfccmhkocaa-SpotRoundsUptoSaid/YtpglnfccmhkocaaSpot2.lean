/- spot.within, spot.On. Condition: what comes in reads; fewer than 2^30 words. -/
import Derived.Test.YtpglnfccmhkocaaSpot1
namespace Go.Proofs.Ytpglnfccmhkocaa
open Go.RowKit

theorem cmpQ_gt {a b : Rat} (h : b < a) : cmpQ a b = 1 := by
  unfold cmpQ; rw [if_neg (by grind), if_pos h]
theorem cmpQ_le {a b : Rat} (h : ¬ b < a) : cmpQ a b ≤ 0 := by
  unfold cmpQ; split <;> (try split) <;> first | omega | contradiction

/-- Is c between a and b, or one of them? -/
def midQ (a b c : Rat) : Bool := !decide (c < a) && !decide (b < c)
def withinQ (a b c : Rat) : Bool := if b < a then midQ b a c else midQ a b c

set_option maxRecDepth 100000 in
set_option maxHeartbeats 8000000 in
theorem within_any (Va Vb Vc : Value) (p q r : Rat) (k : Nat) (w : World) (ha : FracV w Va p k) (hb : FracV w Vb q k) (hc : FracV w Vc r k) (hk : 1 ≤ k) (hs : k < 1073741824) :
    Calls Try.prog 40 #[Va, Vb, Vc] w fun e w' => e = .returned (.bool (withinQ p q r)) ∧ Grew w w' := by
  obtain ⟨b1, A1, n1, c1, C1, m1, d1, rfl, Fa⟩ := ha.laid
  obtain ⟨b2, A2, n2, c2, C2, m2, d2, rfl, Fb⟩ := hb.laid
  obtain ⟨b3, A3, n3, c3, C3, m3, d3, rfl, Fc⟩ := hc.laid
  clear ha hb hc
  have hs2 : k + k < 549755813888 := by omega
  go_enter Try.func40, Try.ntmps40
  go_wp2_with fail
  refine gen_calls ?_
  intro W0 hW0
  have G0 : Grew w W0 := by rw [hW0]; exact (((Grew.refl w).alloc _).alloc _).alloc _
  have P : Box3 W0 (w.heap.size) 0 (.bool b1) (.slice A1 n1 c1) (.slice C1 m1 d1) := by rw [hW0]; exact ⟨by simp [go_sem], by simp [go_sem], by simp [go_sem]⟩
  replace P := Lib.hid P
  have Pr : Res3 W0 (w.heap.size) 0 (.bool b1) (.slice A1 n1 c1) (.slice C1 m1 d1) := by rw [hW0]; exact ⟨by simp [go_sem], by simp [go_sem], by simp [go_sem], by simp [go_sem], by simp [go_sem], by simp [go_sem], by simp <;> omega⟩
  replace Pr := Lib.hid Pr
  have Q : Box3 W0 (w.heap.size + 1) 0 (.bool b2) (.slice A2 n2 c2) (.slice C2 m2 d2) := by rw [hW0]; exact ⟨by simp [go_sem], by simp [go_sem], by simp [go_sem]⟩
  replace Q := Lib.hid Q
  have Qr : Res3 W0 (w.heap.size + 1) 0 (.bool b2) (.slice A2 n2 c2) (.slice C2 m2 d2) := by rw [hW0]; exact ⟨by simp [go_sem], by simp [go_sem], by simp [go_sem], by simp [go_sem], by simp [go_sem], by simp [go_sem], by simp <;> omega⟩
  replace Qr := Lib.hid Qr
  have S : Box3 W0 (w.heap.size + 1 + 1) 0 (.bool b3) (.slice A3 n3 c3) (.slice C3 m3 d3) := by rw [hW0]; exact ⟨by simp [go_sem], by simp [go_sem], by simp [go_sem]⟩
  replace S := Lib.hid S
  have z0 : w.heap.size < W0.heap.size := by rw [hW0]; simp <;> omega
  replace z0 := Lib.hid z0
  have z1 : w.heap.size + 1 < W0.heap.size := by rw [hW0]; simp <;> omega
  replace z1 := Lib.hid z1
  have z2 : w.heap.size + 1 + 1 < W0.heap.size := by rw [hW0]; simp <;> omega
  replace z2 := Lib.hid z2
  clear hW0
  replace Fa := Lib.hid (Fa.out.kept G0.keeps)
  replace Fb := Lib.hid (Fb.out.kept G0.keeps)
  replace Fc := Lib.hid (Fc.out.kept G0.keeps)
  replace G0 := Lib.hid G0
  refine (fcmp_any _ _ p q k k _ Fa.out Fb.out hk hk hs2).mono ?_
  rintro e w1 ⟨rfl, g1⟩
  replace Pr := Lib.hid (Pr.out.grew g1)
  replace Qr := Lib.hid (Qr.out.grew g1)
  replace P := Lib.hid (P.out.grew g1)
  replace Q := Lib.hid (Q.out.grew g1)
  replace S := Lib.hid (S.out.grew g1)
  replace z0 := Lib.hid (lt_grew z0.out g1)
  replace z1 := Lib.hid (lt_grew z1.out g1)
  replace z2 := Lib.hid (lt_grew z2.out g1)
  replace Fa := Lib.hid (Fa.out.kept g1.keeps)
  replace Fb := Lib.hid (Fb.out.kept g1.keeps)
  replace Fc := Lib.hid (Fc.out.kept g1.keeps)
  replace G0 := Lib.hid (G0.out.trans g1)
  clear g1

  by_cases hpq : q < p
  · as_aux_lemma =>
    have e0 : withinQ p q r = midQ q p r := if_pos hpq
    replace e0 := Lib.hid e0
    rw [cmpQ_gt hpq]
    clear hpq
    obtain ⟨a0, a1, a2, af0, af1, af2, az⟩ := Pr.out
    obtain ⟨t0, t1, t2, tf0, tf1, tf2, ts⟩ := Qr.out
    go_upto_region 3 with fail
    refine gen_wp ?_
    intro W1 hW1
    obtain ⟨nP, nQ, nK, nf, nG, nz⟩ := store33 Pr.out Qr.out (by omega) hW1
    have nS := (S.out).kept (fun p => nf _ p (by omega) (by omega))
    replace G0 := Lib.hid (nG w (by omega) (by omega) G0.out)
    replace P := Lib.hid nP
    replace Q := Lib.hid nQ
    replace S := Lib.hid nS
    replace Fa := Lib.hid (Fa.out.kept nK)
    replace Fb := Lib.hid (Fb.out.kept nK)
    replace Fc := Lib.hid (Fc.out.kept nK)
    replace z0 := Lib.hid (show w.heap.size < W1.heap.size by rw [nz]; exact z0.out)
    replace z1 := Lib.hid (show w.heap.size + 1 < W1.heap.size by rw [nz]; exact z1.out)
    replace z2 := Lib.hid (show w.heap.size + 1 + 1 < W1.heap.size by rw [nz]; exact z2.out)
    clear a0 a1 a2 af0 af1 af2 az t0 t1 t2 tf0 tf1 tf2 ts nf nG nK nP nQ nS nz hW1 Pr Qr
    -- the world is W1
    obtain ⟨P0, P1, P2⟩ := P.out
    obtain ⟨Q0, Q1, Q2⟩ := Q.out
    obtain ⟨S0, S1, S2⟩ := S.out
    go_wp2_with fail
    clear P0 P1 P2 Q0 Q1 Q2 S0 S1 S2
    refine (fcmp_any _ _ q r k k _ Fb.out Fc.out hk hk hs2).mono ?_
    rintro e w2 ⟨rfl, g2⟩
    replace P := Lib.hid (P.out.grew g2)
    replace Q := Lib.hid (Q.out.grew g2)
    replace S := Lib.hid (S.out.grew g2)
    replace z0 := Lib.hid (lt_grew z0.out g2)
    replace z1 := Lib.hid (lt_grew z1.out g2)
    replace z2 := Lib.hid (lt_grew z2.out g2)
    replace Fa := Lib.hid (Fa.out.kept g2.keeps)
    replace Fb := Lib.hid (Fb.out.kept g2.keeps)
    replace Fc := Lib.hid (Fc.out.kept g2.keeps)
    replace G0 := Lib.hid (G0.out.trans g2)
    clear g2

    by_cases h1 : r < q
    · as_aux_lemma =>
      have e1 : midQ q p r = false := by unfold midQ; rw [decide_eq_true h1]; rfl
      replace e1 := Lib.hid (e0.out.trans e1)
      rw [cmpQ_gt h1]
      clear h1
      obtain ⟨P0, P1, P2⟩ := P.out
      obtain ⟨Q0, Q1, Q2⟩ := Q.out
      obtain ⟨S0, S1, S2⟩ := S.out
      go_wp2_with fail
      clear P0 P1 P2 Q0 Q1 Q2 S0 S1 S2
      go_ret
      exact ⟨by rw [e1.out]; rfl, G0.out⟩
    · as_aux_lemma =>

      have c1 := cmpQ_le h1
      have f1 := Lib.hid h1
      generalize cmpQ q r = cc at *
      clear h1
      obtain ⟨P0, P1, P2⟩ := P.out
      obtain ⟨Q0, Q1, Q2⟩ := Q.out
      obtain ⟨S0, S1, S2⟩ := S.out
      go_wp2_with fail
      clear P0 P1 P2 Q0 Q1 Q2 S0 S1 S2
      refine (fcmp_any _ _ r p k k _ Fc.out Fa.out hk hk hs2).mono ?_
      rintro e w3 ⟨rfl, g3⟩
      replace P := Lib.hid (P.out.grew g3)
      replace Q := Lib.hid (Q.out.grew g3)
      replace S := Lib.hid (S.out.grew g3)
      replace z0 := Lib.hid (lt_grew z0.out g3)
      replace z1 := Lib.hid (lt_grew z1.out g3)
      replace z2 := Lib.hid (lt_grew z2.out g3)
      replace Fa := Lib.hid (Fa.out.kept g3.keeps)
      replace Fb := Lib.hid (Fb.out.kept g3.keeps)
      replace Fc := Lib.hid (Fc.out.kept g3.keeps)
      replace G0 := Lib.hid (G0.out.trans g3)
      clear g3
      by_cases h2 : p < r
      · as_aux_lemma =>
        have e1 : midQ q p r = false := by unfold midQ; rw [decide_eq_true h2]; simp
        replace e1 := Lib.hid (e0.out.trans e1)
        rw [cmpQ_gt h2]
        clear h2
        go_wp2_with fail
        go_ret
        exact ⟨by rw [e1.out]; rfl, G0.out⟩
      · as_aux_lemma =>
        have e1 : midQ q p r = true := by unfold midQ; rw [decide_eq_false f1.out, decide_eq_false h2]; rfl
        replace e1 := Lib.hid (e0.out.trans e1)
        have c2 := cmpQ_le h2
        generalize cmpQ r p = cd at *
        clear h2
        go_wp2_with fail
        go_ret
        exact ⟨by rw [e1.out]; rfl, G0.out⟩
  · as_aux_lemma =>


    have e0 : withinQ p q r = midQ p q r := if_neg hpq
    replace e0 := Lib.hid e0
    have c0 := cmpQ_le hpq
    generalize cmpQ p q = c9 at *
    clear hpq
    obtain ⟨P0, P1, P2⟩ := P.out
    obtain ⟨Q0, Q1, Q2⟩ := Q.out
    obtain ⟨S0, S1, S2⟩ := S.out
    go_wp2_with fail
    clear P0 P1 P2 Q0 Q1 Q2 S0 S1 S2
    refine (fcmp_any _ _ p r k k _ Fa.out Fc.out hk hk hs2).mono ?_
    rintro e w2 ⟨rfl, g2⟩
    replace Pr := Lib.hid (Pr.out.grew g2)
    replace Qr := Lib.hid (Qr.out.grew g2)
    replace P := Lib.hid (P.out.grew g2)
    replace Q := Lib.hid (Q.out.grew g2)
    replace S := Lib.hid (S.out.grew g2)
    replace z0 := Lib.hid (lt_grew z0.out g2)
    replace z1 := Lib.hid (lt_grew z1.out g2)
    replace z2 := Lib.hid (lt_grew z2.out g2)
    replace Fa := Lib.hid (Fa.out.kept g2.keeps)
    replace Fb := Lib.hid (Fb.out.kept g2.keeps)
    replace Fc := Lib.hid (Fc.out.kept g2.keeps)
    replace G0 := Lib.hid (G0.out.trans g2)
    clear g2

    by_cases h1 : r < p
    · as_aux_lemma =>
      have e1 : midQ p q r = false := by unfold midQ; rw [decide_eq_true h1]; rfl
      replace e1 := Lib.hid (e0.out.trans e1)
      rw [cmpQ_gt h1]
      clear h1
      obtain ⟨P0, P1, P2⟩ := P.out
      obtain ⟨Q0, Q1, Q2⟩ := Q.out
      obtain ⟨S0, S1, S2⟩ := S.out
      go_wp2_with fail
      clear P0 P1 P2 Q0 Q1 Q2 S0 S1 S2
      go_ret
      exact ⟨by rw [e1.out]; rfl, G0.out⟩
    · as_aux_lemma =>

      have c1 := cmpQ_le h1
      have f1 := Lib.hid h1
      generalize cmpQ p r = cc at *
      clear h1
      obtain ⟨P0, P1, P2⟩ := P.out
      obtain ⟨Q0, Q1, Q2⟩ := Q.out
      obtain ⟨S0, S1, S2⟩ := S.out
      go_wp2_with fail
      clear P0 P1 P2 Q0 Q1 Q2 S0 S1 S2
      refine (fcmp_any _ _ r q k k _ Fc.out Fb.out hk hk hs2).mono ?_
      rintro e w3 ⟨rfl, g3⟩
      replace Pr := Lib.hid (Pr.out.grew g3)
      replace Qr := Lib.hid (Qr.out.grew g3)
      replace P := Lib.hid (P.out.grew g3)
      replace Q := Lib.hid (Q.out.grew g3)
      replace S := Lib.hid (S.out.grew g3)
      replace z0 := Lib.hid (lt_grew z0.out g3)
      replace z1 := Lib.hid (lt_grew z1.out g3)
      replace z2 := Lib.hid (lt_grew z2.out g3)
      replace Fa := Lib.hid (Fa.out.kept g3.keeps)
      replace Fb := Lib.hid (Fb.out.kept g3.keeps)
      replace Fc := Lib.hid (Fc.out.kept g3.keeps)
      replace G0 := Lib.hid (G0.out.trans g3)
      clear g3
      by_cases h2 : q < r
      · as_aux_lemma =>
        have e1 : midQ p q r = false := by unfold midQ; rw [decide_eq_true h2]; simp
        replace e1 := Lib.hid (e0.out.trans e1)
        rw [cmpQ_gt h2]
        clear h2
        go_wp2_with fail
        go_ret
        exact ⟨by rw [e1.out]; rfl, G0.out⟩
      · as_aux_lemma =>
        have e1 : midQ p q r = true := by unfold midQ; rw [decide_eq_false f1.out, decide_eq_false h2]; rfl
        replace e1 := Lib.hid (e0.out.trans e1)
        have c2 := cmpQ_le h2
        generalize cmpQ r q = cd at *
        clear h2
        go_wp2_with fail
        go_ret
        exact ⟨by rw [e1.out]; rfl, G0.out⟩
end Go.Proofs.Ytpglnfccmhkocaa
