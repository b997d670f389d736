/- r04.Mul. Condition: what comes in reads. r04.Add. Condition: what comes in reads. r04.Cmp. Condition: what comes in reads. r04.Sign, Half. Condition: what comes in reads. -/
import Derived.Test.YtmommicmblfibaaGreatJR4c
set_option maxRecDepth 100000
namespace Go.Proofs.YtmommicmblfibaaGreat
open Go.RowKit
theorem Res3.f0 {w : World} {r o : Nat} {u0 u1 u2 : Value} (h : Res3 w r o u0 u1 u2) : w.frozen? ⟨r, o, none⟩ = false := by obtain ⟨-, -, -, f, -⟩ := h; exact f
theorem Res3.f1 {w : World} {r o : Nat} {u0 u1 u2 : Value} (h : Res3 w r o u0 u1 u2) : w.frozen? ⟨r, o + 1, none⟩ = false := by obtain ⟨-, -, -, -, f, -⟩ := h; exact f
theorem Res3.f2 {w : World} {r o : Nat} {u0 u1 u2 : Value} (h : Res3 w r o u0 u1 u2) : w.frozen? ⟨r, o + 2, none⟩ = false := by obtain ⟨-, -, -, -, -, f, -⟩ := h; exact f
theorem FracP.laid {w : World} {V : Value} {q : Rat} {k : Nat} (h : FracP w V q k) : ∃ b A n c C m d, V = .agg #[.bool b, .slice A n c, .slice C m d] ∧ Hid (FracP w (.agg #[.bool b, .slice A n c, .slice C m d]) q k) := by
 obtain ⟨b1, N, D, n1, m1, va, vd, rfl, Na, Da, h⟩ := h
 obtain ⟨A1, c1, rfl, Ra⟩ := Na.slice
 obtain ⟨C1, d1, rfl, Rb⟩ := Da.slice
 exact ⟨b1, A1, n1, c1, C1, m1, d1, rfl, ⟨b1, N, D, n1, m1, _, _, rfl, Na, Da, h⟩⟩
theorem FracP.kept {w w' : World} {V : Value} {q : Rat} {l : Nat} (h : FracP w V q l) (k : Keeps w w') : FracP w' V q l := by
 obtain ⟨neg, N, D, n, m, va, vd, e, h1, h2, h3⟩ := h
 exact ⟨neg, N, D, n, m, va, vd, e, k _ _ _ _ _ h1, k _ _ _ _ _ h2, h3⟩
theorem FracR.laid {w : World} {V : Value} {q : Rat} {k : Nat} (h : FracR w V q k) : ∃ b A n c C m d, V = .agg #[.bool b, .slice A n c, .slice C m d] ∧ Hid (FracR w (.agg #[.bool b, .slice A n c, .slice C m d]) q k) := by
 obtain ⟨b1, N, D, n1, m1, va, vd, rfl, Na, Da, h⟩ := h
 obtain ⟨A1, c1, rfl, Ra⟩ := Na.slice
 obtain ⟨C1, d1, rfl, Rb⟩ := Da.slice
 exact ⟨b1, A1, n1, c1, C1, m1, d1, rfl, ⟨b1, N, D, n1, m1, _, _, rfl, Na, Da, h⟩⟩
theorem FracR.mk {w : World} {b : Bool} {A C : Option Addr} {n c m d D K : Nat} {z : Int} {q : Rat} (hw : Whl w (.agg #[.bool b, .slice A n c]) z) (hd : Num 4294967296 .u32 w (.slice C m d) D m)
  (h : mkRat z D = q) (h1 : len 4294967296 z.natAbs ≤ K) (h2 : m ≤ K) : FracR w (.agg #[.bool b, .slice A n c, .slice C m d]) q K := by
 obtain ⟨v, e, hn⟩ := hw
 simp at e
 obtain ⟨rfl, rfl⟩ := e
 exact ⟨_, _, _, _, _, _, _, rfl, hn, hd, by rw [sgn_of]; exact h, h1, h2⟩
theorem FracP.parts {w : World} {b : Bool} {A C : Option Addr} {n c m d k : Nat} {q : Rat} (h : FracP w (.agg #[.bool b, .slice A n c, .slice C m d]) q k) :
  ∃ N D, Hid (mkRat (sgn b N) D = q) ∧ D ≠ 0 ∧ Hid (WhlR w (.agg #[.bool b, .slice A n c]) (sgn b N) k) ∧ Hid (Num 4294967296 .u32 w (.slice C m d) D m) ∧ m ≤ k := by
 obtain ⟨b', N, D, n', m', va, vd, e, Na, Da, E, h1, h2, h3⟩ := h
 simp at e
 obtain ⟨rfl, rfl, rfl⟩ := e
 obtain ⟨A', c', e', -⟩ := Da.slice
 injection e' with e1 e2 e3
 subst e2
 exact ⟨N, D, E, h3, ⟨_, _, _, _, rfl, Na, rfl, h1⟩, Da, h2⟩
set_option maxHeartbeats 4000000 in
theorem rfmul_any (Va Vb : Value) (p q : Rat) (k l : Nat) (w : World) (ha : FracR w Va p k) (hb : FracR w Vb q l) (hk : 1 ≤ k ∧ 1 ≤ l) (hs : k < 1073741824 ∧ l < 1073741824) :
  Calls Tryz.prog 125 #[Va, Vb] w fun e w' => ∃ V, e = .returned V ∧ FracC w' V (p * q) ∧ Grew w w' := by
 obtain ⟨b1, A1, n1, c1, C1, m1, d1, rfl, Fa⟩ := ha.laid
 obtain ⟨b2, A2, n2, c2, C2, m2, d2, rfl, Fb⟩ := hb.laid
 clear ha hb
 go_enter Tryz.func125, Tryz.ntmps125
 go_upto_region 1 with fail
 go_cut [6] (fun s6 wx => ∃ V1 b3 A3 n3 c3 C3 m3 d3 b4 A4 n4 c4 C4 m4 d4, s6 = V1 ∧ FracP wx (.agg #[.bool b3, .slice A3 n3 c3, .slice C3 m3 d3]) p k ∧ FracP wx (.agg #[.bool b4, .slice A4 n4 c4, .slice C4 m4 d4]) q l ∧ Grew w wx ∧ Box3 wx w.heap.size 0 (.bool b3) (.slice A3 n3 c3) (.slice C3 m3 d3) ∧ Box3 wx (w.heap.size + 1) 0 (.bool b4) (.slice A4 n4 c4) (.slice C4 m4 d4) ∧ Res3 wx (w.heap.size + 1 + 1) 0 (.bool false) (.slice none 0 0) (.slice none 0 0))
 refine gen_wp ?_
 intro W0 hW0
 have G0 : Grew w W0 := by rw [hW0]; exact (((Grew.refl w).alloc _).alloc _).alloc _
 have P : Box3 W0 (w.heap.size) 0 (.bool b1) (.slice A1 n1 c1) (.slice C1 m1 d1) := by rw [hW0]; exact ⟨by simp [go_sem], by simp [go_sem], by simp [go_sem]⟩
 replace P := hZ P
 have Pr : Res3 W0 (w.heap.size) 0 (.bool b1) (.slice A1 n1 c1) (.slice C1 m1 d1) := by rw [hW0]; exact ⟨by simp [go_sem], by simp [go_sem], by simp [go_sem], by simp [go_sem], by simp [go_sem], by simp [go_sem], by simp <;> omega⟩
 replace Pr := hZ Pr
 have Q : Box3 W0 (w.heap.size + 1) 0 (.bool b2) (.slice A2 n2 c2) (.slice C2 m2 d2) := by rw [hW0]; exact ⟨by simp [go_sem], by simp [go_sem], by simp [go_sem]⟩
 replace Q := hZ Q
 have Qr : Res3 W0 (w.heap.size + 1) 0 (.bool b2) (.slice A2 n2 c2) (.slice C2 m2 d2) := by rw [hW0]; exact ⟨by simp [go_sem], by simp [go_sem], by simp [go_sem], by simp [go_sem], by simp [go_sem], by simp [go_sem], by simp <;> omega⟩
 replace Qr := hZ Qr
 have R : Res3 W0 (w.heap.size + 1 + 1) 0 (.bool false) (.slice none 0 0) (.slice none 0 0) := by rw [hW0]; exact ⟨by simp [go_sem], by simp [go_sem], by simp [go_sem], by simp [go_sem], by simp [go_sem], by simp [go_sem], by simp⟩
 replace R := hZ R
 have z0 : w.heap.size < W0.heap.size := by rw [hW0]; simp <;> omega
 replace z0 := hZ z0
 have z1 : w.heap.size + 1 < W0.heap.size := by rw [hW0]; simp <;> omega
 replace z1 := hZ z1
 have z2 : w.heap.size + 1 + 1 < W0.heap.size := by rw [hW0]; simp <;> omega
 replace z2 := hZ z2
 clear hW0
 replace Fa := hZ (Fa.out.kept G0.keeps)
 replace Fb := hZ (Fb.out.kept G0.keeps)
 replace G0 := hZ G0
 ·skip
  have hk1 := hZ hk
  have hs1 := hZ (show k < 274877906944 ∧ l < 274877906944 by omega)
  have gd : Grew W0 W0.drew := (Grew.refl W0).drew
  replace R := hZ (R.out.grew gd)
  replace Pr := hZ (Pr.out.grew gd)
  replace Qr := hZ (Qr.out.grew gd)
  replace P := hZ (P.out.grew gd)
  replace Q := hZ (Q.out.grew gd)
  replace z0 := hZ (lt_grew z0.out gd)
  replace z1 := hZ (lt_grew z1.out gd)
  replace z2 := hZ (lt_grew z2.out gd)
  replace Fa := hZ (Fa.out.kept gd.keeps)
  replace Fb := hZ (Fb.out.kept gd.keeps)
  obtain ⟨P0, P1, P2⟩ := P.out
  obtain ⟨Q0, Q1, Q2⟩ := Q.out
  go_region_law (first | ((try go_simp); go_at_call 85; with_reducible refine (rworth_any _ p k _ Fa.out hk1.out.1 hs1.out.1).mono ?_; rintro e w1 ⟨V1, he1, hV1, g1⟩; obtain ⟨b3, A3, n3, c3, C3, m3, d3, hE1, X1⟩ := hV1.laid; rw [he1, hE1]; clear hV1 he1 hE1; replace R := hZ (R.out.grew g1); replace Pr := hZ (Pr.out.grew g1); replace Qr := hZ (Qr.out.grew g1); replace P := hZ (P.out.grew g1); replace Q := hZ (Q.out.grew g1); replace z0 := hZ (lt_grew z0.out g1); replace z1 := hZ (lt_grew z1.out g1); replace z2 := hZ (lt_grew z2.out g1); replace Fa := hZ (Fa.out.kept g1.keeps); replace Fb := hZ (Fb.out.kept g1.keeps); have P0 := P.out.p0; have P1 := P.out.p1; have P2 := P.out.p2; have Q0 := Q.out.p0; have Q1 := Q.out.p1; have Q2 := Q.out.p2) | (go_loud ((try go_simp); go_at_call 85; with_reducible refine (rworth_any _ q l _ Fb.out hk1.out.2 hs1.out.2).mono ?_; rintro e w2 ⟨V2, he2, hV2, g2⟩; obtain ⟨b4, A4, n4, c4, C4, m4, d4, hE2, X2⟩ := hV2.laid; rw [he2, hE2]; clear hV2 he2 hE2; replace R := hZ (R.out.grew g2); replace Pr := hZ (Pr.out.grew g2); replace Qr := hZ (Qr.out.grew g2); replace P := hZ (P.out.grew g2); replace Q := hZ (Q.out.grew g2); replace z0 := hZ (lt_grew z0.out g2); replace z1 := hZ (lt_grew z1.out g2); replace z2 := hZ (lt_grew z2.out g2); replace Fa := hZ (Fa.out.kept g2.keeps); replace Fb := hZ (Fb.out.kept g2.keeps); replace X1 := hZ (X1.out.kept g2.keeps); have P0 := P.out.p0; have P1 := P.out.p1; have P2 := P.out.p2; have Q0 := Q.out.p0; have Q1 := Q.out.p1; have Q2 := Q.out.p2; have Prf0 := Pr.out.f0; have Prf1 := Pr.out.f1; have Prf2 := Pr.out.f2; have Qrf0 := Qr.out.f0; have Qrf1 := Qr.out.f1; have Qrf2 := Qr.out.f2)))
  all_goals
   have GC := hZ (((G0.out.trans gd).trans g1).trans g2)
   clear G0 gd g1 g2
   refine gen_then ?_
   intro W9 hW9
   obtain ⟨BP, BQ, K9, F9, GG, sz⟩ := store33 Pr.out Qr.out (by omega) hW9
   have hR9 : Res3 W9 (w.heap.size + 1 + 1) 0 (.bool false) (.slice none 0 0) (.slice none 0 0) := by
    obtain ⟨r0, r1, r2, f0, f1, f2, s⟩ := R.out
    exact ⟨(F9 _ _ (by omega) (by omega)).trans r0, (F9 _ _ (by omega) (by omega)).trans r1, (F9 _ _ (by omega) (by omega)).trans r2, by rw [hW9]; simpa using f0, by rw [hW9]; simpa using f1, by rw [hW9]; simpa using f2, by rw [sz]; exact s⟩
   have G9 := GG w (by omega) (by omega) GC.out
   clear hW9 F9 GG sz
   go_wp2_with fail
   go_meet
   exact ⟨_, b3, A3, n3, c3, C3, m3, d3, b4, A4, n4, c4, C4, m4, d4, rfl, X1.out.kept K9, X2.out.kept K9, G9, BP, BQ, hR9⟩
 ·obtain ⟨V1, b3, A3, n3, c3, C3, m3, d3, b4, A4, n4, c4, C4, m4, d4, rfl, X1, X2, G9, BP, BQ, hR9⟩ := hcut
  obtain ⟨N, D, E1, hD, Na, Da, hm⟩ := X1.parts
  obtain ⟨M, E, E2, hE, Nb, Eb, hm2⟩ := X2.parts
  have P := hZ BP
  have Q := hZ BQ
  have R := hZ hR9
  have G0 := hZ G9
  have E3 : mkRat (sgn b3 N * sgn b4 M) (D * E) = p * q := by rw [mkRat_mul, E1.out, E2.out]
  replace E3 := hZ E3
  have hz1 := hZ (show len 4294967296 (sgn b3 N * sgn b4 M).natAbs ≤ k + l by
   rw [Int.natAbs_mul]; exact len_mul (B := 4294967296) (by omega) _ _ k l Na.out.len Nb.out.len)
  have hd1 := hZ (show len 4294967296 (D * E) ≤ k + l from
   len_mul (B := 4294967296) (by omega) D E k l (Nat.le_trans (Da.out.len_le (by omega)) hm) (Nat.le_trans (Eb.out.len_le (by omega)) hm2))
  have hs2 := hZ (show k < 34359738368 ∧ l < 34359738368 by omega)
  have hs3 := hZ (show m3 < 137438953472 ∧ m4 < 137438953472 by omega)
  have hs4 := hZ (show k + l < 4294967296 by omega)
  have y9 := hZ (show w.heap.size + 1 + 1 < wc.heap.size from hR9.2.2.2.2.2.2)
  clear X1 X2 BP BQ hR9 G9
  skip
  go_upto_region 2 with fail
  have gd : Grew wc wc.drew := (Grew.refl wc).drew
  replace R := hZ (R.out.grew gd)
  replace P := hZ (P.out.grew gd)
  replace Q := hZ (Q.out.grew gd)
  replace Na := hZ (Na.out.kept gd.keeps)
  replace Nb := hZ (Nb.out.kept gd.keeps)
  replace Da := hZ (Da.out.kept gd.keeps)
  replace Eb := hZ (Eb.out.kept gd.keeps)
  replace gd := hZ gd
  have ZP := P
  have ZQ := Q
  go_region_held3 (fun w' => w'.cell? ⟨w.heap.size, 0, none⟩ = some (.bool b3) ∧ w'.cell? ⟨w.heap.size, 1, none⟩ = some (.slice A3 n3 c3) ∧ w'.cell? ⟨w.heap.size, 2, none⟩ = some (.slice C3 m3 d3) ∧ w'.cell? ⟨w.heap.size + 1, 0, none⟩ = some (.bool b4) ∧ w'.cell? ⟨w.heap.size + 1, 1, none⟩ = some (.slice A4 n4 c4) ∧ w'.cell? ⟨w.heap.size + 1, 2, none⟩ = some (.slice C4 m4 d4))
   (first | (with_reducible exact ⟨ZP.out.p0, ZP.out.p1, ZP.out.p2, ZQ.out.p0, ZQ.out.p1, ZQ.out.p2⟩) | (with_reducible exact ⟨g3.cell ZP.out.p0, g3.cell ZP.out.p1, g3.cell ZP.out.p2, g3.cell ZQ.out.p0, g3.cell ZQ.out.p1, g3.cell ZQ.out.p2⟩) | (with_reducible exact ⟨(g3.trans g4).cell ZP.out.p0, (g3.trans g4).cell ZP.out.p1, (g3.trans g4).cell ZP.out.p2, (g3.trans g4).cell ZQ.out.p0, (g3.trans g4).cell ZQ.out.p1, (g3.trans g4).cell ZQ.out.p2⟩) | (with_reducible exact ⟨((g3.trans g4).trans g5).cell ZP.out.p0, ((g3.trans g4).trans g5).cell ZP.out.p1, ((g3.trans g4).trans g5).cell ZP.out.p2, ((g3.trans g4).trans g5).cell ZQ.out.p0, ((g3.trans g4).trans g5).cell ZQ.out.p1, ((g3.trans g4).trans g5).cell ZQ.out.p2⟩) | (with_reducible exact ⟨other3 (o := 0) (by omega) (((g3.trans g4).trans g5).cell ZP.out.p0), other3 (o := 0) (by omega) (((g3.trans g4).trans g5).cell ZP.out.p1), other3 (o := 0) (by omega) (((g3.trans g4).trans g5).cell ZP.out.p2), other3 (o := 0) (by omega) (((g3.trans g4).trans g5).cell ZQ.out.p0), other3 (o := 0) (by omega) (((g3.trans g4).trans g5).cell ZQ.out.p1), other3 (o := 0) (by omega) (((g3.trans g4).trans g5).cell ZQ.out.p2)⟩))
   (first | (go_at_call 87; refine (r2mul_any _ _ _ _ k l _ Na.out Nb.out hs2.out).mono ?_; rintro e w3 ⟨V3, rfl, hV3, g3⟩; obtain ⟨b5, A5, n5, c5, rfl, X3, -⟩ := hV3.laid; clear hV3; replace R := hZ (R.out.grew g3); replace P := hZ (P.out.grew g3); replace Q := hZ (Q.out.grew g3); replace Na := hZ (Na.out.kept g3.keeps); replace Nb := hZ (Nb.out.kept g3.keeps); replace Da := hZ (Da.out.kept g3.keeps); replace Eb := hZ (Eb.out.kept g3.keeps)) | (go_at_call 132; refine (rMul_any _ _ D E _ _ _ Da.out Eb.out hs3.out).mono ?_; rintro e w4 ⟨V4, rfl, hV4, g4⟩; obtain ⟨A6, c6, rfl, Y3⟩ := hV4.slice; clear hV4; replace R := hZ (R.out.grew g4); replace P := hZ (P.out.grew g4); replace Q := hZ (Q.out.grew g4); replace Na := hZ (Na.out.kept g4.keeps); replace Nb := hZ (Nb.out.kept g4.keeps); replace Da := hZ (Da.out.kept g4.keeps); replace Eb := hZ (Eb.out.kept g4.keeps); replace X3 := hZ (X3.out.kept g4.keeps)) | (go_at_call 57; refine (rfreduce_any _ _ _ _ (FracR.mk X3.out Y3.out E3.out hz1.out hd1.out) hs4.out).mono ?_; rintro e w5 ⟨V5, rfl, hV5, g5⟩; obtain ⟨b7, A7, n7, c7, C7, m7, d7, rfl, X5⟩ := hV5.laid; clear hV5; replace R := hZ (R.out.grew g5); replace P := hZ (P.out.grew g5); replace Q := hZ (Q.out.grew g5); replace Na := hZ (Na.out.kept g5.keeps); replace Nb := hZ (Nb.out.kept g5.keeps); replace Da := hZ (Da.out.kept g5.keeps); replace Eb := hZ (Eb.out.kept g5.keeps); replace X3 := hZ (X3.out.kept g5.keeps); replace Y3 := hZ (Y3.out.kept g5.keeps); obtain ⟨R0, R1, R2, Rf0, Rf1, Rf2, Rs⟩ := R.out))
  replace G0 := hZ ((((G0.out.trans gd.out).trans g3).trans g4).trans g5)
  clear gd g3 g4 g5 ZP ZQ
  refine gen_then ?_
  intro W9 hW9
  obtain ⟨q0, q1, q2, qK, -, -, qs, qG⟩ := store3 (o := 0) R0 R1 R2 hW9
  have GE := qG w (.inr (by omega)) G0.out
  have QK := hZ qK
  clear qK qG hW9 R0 R1 R2
  go_wp2_with fail
  exact bodyPost_ret (v := .agg #[.bool b7, .slice A7 n7 c7, .slice C7 m7 d7]) (by simp [results, Tryz.results125, go_sem, q0, q1, q2]) rfl ⟨_, rfl, X5.out.kept QK.out, GE⟩
theorem WhlR.up {w : World} {C : Option Addr} {m d D k : Nat} (h : Num 4294967296 .u32 w (.slice C m d) D m) (hm : m ≤ k) : WhlR w (.agg #[.bool false, .slice C m d]) (D : Int) k :=
 ⟨_, _, _, _, rfl, h, by simp [sgn], hm⟩
set_option maxHeartbeats 4000000 in
theorem rfadd_any (Va Vb : Value) (p q : Rat) (k l : Nat) (w : World) (ha : FracR w Va p k) (hb : FracR w Vb q l) (hk : 1 ≤ k ∧ 1 ≤ l) (hs : k < 1073741824 ∧ l < 1073741824) :
  Calls Tryz.prog 124 #[Va, Vb] w fun e w' => ∃ V, e = .returned V ∧ FracC w' V (p + q) ∧ Grew w w' := by
 obtain ⟨b1, A1, n1, c1, C1, m1, d1, rfl, Fa⟩ := ha.laid
 obtain ⟨b2, A2, n2, c2, C2, m2, d2, rfl, Fb⟩ := hb.laid
 clear ha hb
 go_enter Tryz.func124, Tryz.ntmps124
 go_upto_region 1 with fail
 go_cut [6] (fun s6 wx => ∃ V1 b3 A3 n3 c3 C3 m3 d3 b4 A4 n4 c4 C4 m4 d4, s6 = V1 ∧ FracP wx (.agg #[.bool b3, .slice A3 n3 c3, .slice C3 m3 d3]) p k ∧ FracP wx (.agg #[.bool b4, .slice A4 n4 c4, .slice C4 m4 d4]) q l ∧ Grew w wx ∧ Box3 wx w.heap.size 0 (.bool b3) (.slice A3 n3 c3) (.slice C3 m3 d3) ∧ Box3 wx (w.heap.size + 1) 0 (.bool b4) (.slice A4 n4 c4) (.slice C4 m4 d4) ∧ Res3 wx (w.heap.size + 1 + 1) 0 (.bool false) (.slice none 0 0) (.slice none 0 0))
 refine gen_wp ?_
 intro W0 hW0
 have G0 : Grew w W0 := by rw [hW0]; exact (((Grew.refl w).alloc _).alloc _).alloc _
 have P : Box3 W0 (w.heap.size) 0 (.bool b1) (.slice A1 n1 c1) (.slice C1 m1 d1) := by rw [hW0]; exact ⟨by simp [go_sem], by simp [go_sem], by simp [go_sem]⟩
 replace P := hZ P
 have Pr : Res3 W0 (w.heap.size) 0 (.bool b1) (.slice A1 n1 c1) (.slice C1 m1 d1) := by rw [hW0]; exact ⟨by simp [go_sem], by simp [go_sem], by simp [go_sem], by simp [go_sem], by simp [go_sem], by simp [go_sem], by simp <;> omega⟩
 replace Pr := hZ Pr
 have Q : Box3 W0 (w.heap.size + 1) 0 (.bool b2) (.slice A2 n2 c2) (.slice C2 m2 d2) := by rw [hW0]; exact ⟨by simp [go_sem], by simp [go_sem], by simp [go_sem]⟩
 replace Q := hZ Q
 have Qr : Res3 W0 (w.heap.size + 1) 0 (.bool b2) (.slice A2 n2 c2) (.slice C2 m2 d2) := by rw [hW0]; exact ⟨by simp [go_sem], by simp [go_sem], by simp [go_sem], by simp [go_sem], by simp [go_sem], by simp [go_sem], by simp <;> omega⟩
 replace Qr := hZ Qr
 have R : Res3 W0 (w.heap.size + 1 + 1) 0 (.bool false) (.slice none 0 0) (.slice none 0 0) := by rw [hW0]; exact ⟨by simp [go_sem], by simp [go_sem], by simp [go_sem], by simp [go_sem], by simp [go_sem], by simp [go_sem], by simp⟩
 replace R := hZ R
 have z0 : w.heap.size < W0.heap.size := by rw [hW0]; simp <;> omega
 replace z0 := hZ z0
 have z1 : w.heap.size + 1 < W0.heap.size := by rw [hW0]; simp <;> omega
 replace z1 := hZ z1
 have z2 : w.heap.size + 1 + 1 < W0.heap.size := by rw [hW0]; simp <;> omega
 replace z2 := hZ z2
 clear hW0
 replace Fa := hZ (Fa.out.kept G0.keeps)
 replace Fb := hZ (Fb.out.kept G0.keeps)
 replace G0 := hZ G0
 ·skip
  have hk1 := hZ hk
  have hs1 := hZ (show k < 274877906944 ∧ l < 274877906944 by omega)
  have gd : Grew W0 W0.drew := (Grew.refl W0).drew
  replace R := hZ (R.out.grew gd)
  replace Pr := hZ (Pr.out.grew gd)
  replace Qr := hZ (Qr.out.grew gd)
  replace P := hZ (P.out.grew gd)
  replace Q := hZ (Q.out.grew gd)
  replace z0 := hZ (lt_grew z0.out gd)
  replace z1 := hZ (lt_grew z1.out gd)
  replace z2 := hZ (lt_grew z2.out gd)
  replace Fa := hZ (Fa.out.kept gd.keeps)
  replace Fb := hZ (Fb.out.kept gd.keeps)
  obtain ⟨P0, P1, P2⟩ := P.out
  obtain ⟨Q0, Q1, Q2⟩ := Q.out
  go_region_law (first | ((try go_simp); go_at_call 85; with_reducible refine (rworth_any _ p k _ Fa.out hk1.out.1 hs1.out.1).mono ?_; rintro e w1 ⟨V1, he1, hV1, g1⟩; obtain ⟨b3, A3, n3, c3, C3, m3, d3, hE1, X1⟩ := hV1.laid; rw [he1, hE1]; clear hV1 he1 hE1; replace R := hZ (R.out.grew g1); replace Pr := hZ (Pr.out.grew g1); replace Qr := hZ (Qr.out.grew g1); replace P := hZ (P.out.grew g1); replace Q := hZ (Q.out.grew g1); replace z0 := hZ (lt_grew z0.out g1); replace z1 := hZ (lt_grew z1.out g1); replace z2 := hZ (lt_grew z2.out g1); replace Fa := hZ (Fa.out.kept g1.keeps); replace Fb := hZ (Fb.out.kept g1.keeps); have P0 := P.out.p0; have P1 := P.out.p1; have P2 := P.out.p2; have Q0 := Q.out.p0; have Q1 := Q.out.p1; have Q2 := Q.out.p2) | (go_loud ((try go_simp); go_at_call 85; with_reducible refine (rworth_any _ q l _ Fb.out hk1.out.2 hs1.out.2).mono ?_; rintro e w2 ⟨V2, he2, hV2, g2⟩; obtain ⟨b4, A4, n4, c4, C4, m4, d4, hE2, X2⟩ := hV2.laid; rw [he2, hE2]; clear hV2 he2 hE2; replace R := hZ (R.out.grew g2); replace Pr := hZ (Pr.out.grew g2); replace Qr := hZ (Qr.out.grew g2); replace P := hZ (P.out.grew g2); replace Q := hZ (Q.out.grew g2); replace z0 := hZ (lt_grew z0.out g2); replace z1 := hZ (lt_grew z1.out g2); replace z2 := hZ (lt_grew z2.out g2); replace Fa := hZ (Fa.out.kept g2.keeps); replace Fb := hZ (Fb.out.kept g2.keeps); replace X1 := hZ (X1.out.kept g2.keeps); have P0 := P.out.p0; have P1 := P.out.p1; have P2 := P.out.p2; have Q0 := Q.out.p0; have Q1 := Q.out.p1; have Q2 := Q.out.p2; have Prf0 := Pr.out.f0; have Prf1 := Pr.out.f1; have Prf2 := Pr.out.f2; have Qrf0 := Qr.out.f0; have Qrf1 := Qr.out.f1; have Qrf2 := Qr.out.f2)))
  all_goals
   have GC := hZ (((G0.out.trans gd).trans g1).trans g2)
   clear G0 gd g1 g2
   refine gen_then ?_
   intro W9 hW9
   obtain ⟨BP, BQ, K9, F9, GG, sz⟩ := store33 Pr.out Qr.out (by omega) hW9
   have hR9 : Res3 W9 (w.heap.size + 1 + 1) 0 (.bool false) (.slice none 0 0) (.slice none 0 0) := by
    obtain ⟨r0, r1, r2, f0, f1, f2, s⟩ := R.out
    exact ⟨(F9 _ _ (by omega) (by omega)).trans r0, (F9 _ _ (by omega) (by omega)).trans r1, (F9 _ _ (by omega) (by omega)).trans r2, by rw [hW9]; simpa using f0, by rw [hW9]; simpa using f1, by rw [hW9]; simpa using f2, by rw [sz]; exact s⟩
   have G9 := GG w (by omega) (by omega) GC.out
   clear hW9 F9 GG sz
   go_wp2_with fail
   go_meet
   exact ⟨_, b3, A3, n3, c3, C3, m3, d3, b4, A4, n4, c4, C4, m4, d4, rfl, X1.out.kept K9, X2.out.kept K9, G9, BP, BQ, hR9⟩
 ·obtain ⟨V1, b3, A3, n3, c3, C3, m3, d3, b4, A4, n4, c4, C4, m4, d4, rfl, X1, X2, G9, BP, BQ, hR9⟩ := hcut
  obtain ⟨N, D, E1, hD, Na, Da, hm⟩ := X1.parts
  obtain ⟨M, E, E2, hE, Nb, Eb, hm2⟩ := X2.parts
  have P := hZ BP
  have Q := hZ BQ
  have R := hZ hR9
  have G0 := hZ G9
  have E3 : mkRat (sgn b3 N * E + sgn b4 M * D) (D * E) = p + q := by rw [mkRat_add _ _ _ _ hD hE, E1.out, E2.out]
  replace E3 := hZ E3
  have lD := Nat.le_trans (Da.out.len_le (by omega)) hm
  have lE := Nat.le_trans (Eb.out.len_le (by omega)) hm2
  have hz1 := hZ (show len 4294967296 (sgn b3 N * (E : Int)).natAbs ≤ k + l by
   rw [Int.natAbs_mul]; exact len_mul (B := 4294967296) (by omega) _ _ k l Na.out.len lE)
  have hz2 := hZ (show len 4294967296 (sgn b4 M * (D : Int)).natAbs ≤ k + l by
   rw [Int.natAbs_mul, Nat.add_comm k l]; exact len_mul (B := 4294967296) (by omega) _ _ l k Nb.out.len lD)
  have hz3 := hZ (show len 4294967296 (sgn b3 N * (E : Int) + sgn b4 M * (D : Int)).natAbs ≤ k + l + 1 from len_addz _ _ (k + l) hz1.out hz2.out)
  have hd1 := hZ (show len 4294967296 (D * E) ≤ k + l + 1 from
   Nat.le_succ_of_le (len_mul (B := 4294967296) (by omega) D E k l lD lE))
  have hs2 := hZ (show k < 34359738368 ∧ l < 34359738368 by omega)
  have hs5 := hZ (show l < 34359738368 ∧ k < 34359738368 by omega)
  have hs6 := hZ (show k + l < 68719476736 ∧ k + l < 68719476736 by omega)
  have hs3 := hZ (show m3 < 137438953472 ∧ m4 < 137438953472 by omega)
  have hs4 := hZ (show k + l + 1 < 4294967296 by omega)
  clear lD lE
  have y9 := hZ (show w.heap.size + 1 + 1 < wc.heap.size from hR9.2.2.2.2.2.2)
  clear X1 X2 BP BQ hR9 G9
  skip
  go_upto_region 2 with fail
  have gd : Grew wc wc.drew := (Grew.refl wc).drew
  replace R := hZ (R.out.grew gd)
  replace P := hZ (P.out.grew gd)
  replace Q := hZ (Q.out.grew gd)
  replace Na := hZ (Na.out.kept gd.keeps)
  replace Nb := hZ (Nb.out.kept gd.keeps)
  replace Da := hZ (Da.out.kept gd.keeps)
  replace Eb := hZ (Eb.out.kept gd.keeps)
  replace gd := hZ gd
  have ZP := P
  have ZQ := Q
  go_region_held3 (fun w' => w'.cell? ⟨w.heap.size, 0, none⟩ = some (.bool b3) ∧ w'.cell? ⟨w.heap.size, 1, none⟩ = some (.slice A3 n3 c3) ∧ w'.cell? ⟨w.heap.size, 2, none⟩ = some (.slice C3 m3 d3) ∧ w'.cell? ⟨w.heap.size + 1, 0, none⟩ = some (.bool b4) ∧ w'.cell? ⟨w.heap.size + 1, 1, none⟩ = some (.slice A4 n4 c4) ∧ w'.cell? ⟨w.heap.size + 1, 2, none⟩ = some (.slice C4 m4 d4))
   (first | (with_reducible exact ⟨ZP.out.p0, ZP.out.p1, ZP.out.p2, ZQ.out.p0, ZQ.out.p1, ZQ.out.p2⟩) | (with_reducible exact ⟨g3.cell ZP.out.p0, g3.cell ZP.out.p1, g3.cell ZP.out.p2, g3.cell ZQ.out.p0, g3.cell ZQ.out.p1, g3.cell ZQ.out.p2⟩) | (with_reducible exact ⟨(g3.trans g4).cell ZP.out.p0, (g3.trans g4).cell ZP.out.p1, (g3.trans g4).cell ZP.out.p2, (g3.trans g4).cell ZQ.out.p0, (g3.trans g4).cell ZQ.out.p1, (g3.trans g4).cell ZQ.out.p2⟩) | (with_reducible exact ⟨((g3.trans g4).trans g5).cell ZP.out.p0, ((g3.trans g4).trans g5).cell ZP.out.p1, ((g3.trans g4).trans g5).cell ZP.out.p2, ((g3.trans g4).trans g5).cell ZQ.out.p0, ((g3.trans g4).trans g5).cell ZQ.out.p1, ((g3.trans g4).trans g5).cell ZQ.out.p2⟩) | (with_reducible exact ⟨(((g3.trans g4).trans g5).trans g6).cell ZP.out.p0, (((g3.trans g4).trans g5).trans g6).cell ZP.out.p1, (((g3.trans g4).trans g5).trans g6).cell ZP.out.p2, (((g3.trans g4).trans g5).trans g6).cell ZQ.out.p0, (((g3.trans g4).trans g5).trans g6).cell ZQ.out.p1, (((g3.trans g4).trans g5).trans g6).cell ZQ.out.p2⟩) | (with_reducible exact ⟨((((g3.trans g4).trans g5).trans g6).trans g7).cell ZP.out.p0, ((((g3.trans g4).trans g5).trans g6).trans g7).cell ZP.out.p1, ((((g3.trans g4).trans g5).trans g6).trans g7).cell ZP.out.p2, ((((g3.trans g4).trans g5).trans g6).trans g7).cell ZQ.out.p0, ((((g3.trans g4).trans g5).trans g6).trans g7).cell ZQ.out.p1, ((((g3.trans g4).trans g5).trans g6).trans g7).cell ZQ.out.p2⟩) | (with_reducible exact ⟨(((((g3.trans g4).trans g5).trans g6).trans g7).trans g8).cell ZP.out.p0, (((((g3.trans g4).trans g5).trans g6).trans g7).trans g8).cell ZP.out.p1, (((((g3.trans g4).trans g5).trans g6).trans g7).trans g8).cell ZP.out.p2, (((((g3.trans g4).trans g5).trans g6).trans g7).trans g8).cell ZQ.out.p0, (((((g3.trans g4).trans g5).trans g6).trans g7).trans g8).cell ZQ.out.p1, (((((g3.trans g4).trans g5).trans g6).trans g7).trans g8).cell ZQ.out.p2⟩) | (with_reducible exact ⟨((((((g3.trans g4).trans g5).trans g6).trans g7).trans g8).trans g9).cell ZP.out.p0, ((((((g3.trans g4).trans g5).trans g6).trans g7).trans g8).trans g9).cell ZP.out.p1, ((((((g3.trans g4).trans g5).trans g6).trans g7).trans g8).trans g9).cell ZP.out.p2, ((((((g3.trans g4).trans g5).trans g6).trans g7).trans g8).trans g9).cell ZQ.out.p0, ((((((g3.trans g4).trans g5).trans g6).trans g7).trans g8).trans g9).cell ZQ.out.p1, ((((((g3.trans g4).trans g5).trans g6).trans g7).trans g8).trans g9).cell ZQ.out.p2⟩) | (with_reducible exact ⟨other3 (o := 0) (by omega) (((((((g3.trans g4).trans g5).trans g6).trans g7).trans g8).trans g9).cell ZP.out.p0), other3 (o := 0) (by omega) (((((((g3.trans g4).trans g5).trans g6).trans g7).trans g8).trans g9).cell ZP.out.p1), other3 (o := 0) (by omega) (((((((g3.trans g4).trans g5).trans g6).trans g7).trans g8).trans g9).cell ZP.out.p2), other3 (o := 0) (by omega) (((((((g3.trans g4).trans g5).trans g6).trans g7).trans g8).trans g9).cell ZQ.out.p0), other3 (o := 0) (by omega) (((((((g3.trans g4).trans g5).trans g6).trans g7).trans g8).trans g9).cell ZQ.out.p1), other3 (o := 0) (by omega) (((((((g3.trans g4).trans g5).trans g6).trans g7).trans g8).trans g9).cell ZQ.out.p2)⟩))
   (first | (go_at_call 88; with_reducible refine (rup_any b4 A4 C4 n4 c4 m4 d4 E _ Eb.out).mono ?_; rintro e w3 ⟨rfl, g3⟩; replace R := hZ (R.out.grew g3); replace P := hZ (P.out.grew g3); replace Q := hZ (Q.out.grew g3); replace Na := hZ (Na.out.kept g3.keeps); replace Nb := hZ (Nb.out.kept g3.keeps); replace Da := hZ (Da.out.kept g3.keeps); replace Eb := hZ (Eb.out.kept g3.keeps)) | (go_at_call 87; with_reducible refine (r2mul_any _ _ _ _ k l _ Na.out (WhlR.up Eb.out hm2) hs2.out).mono ?_; rintro e w4 ⟨V3, rfl, hV3, g4⟩; obtain ⟨b5, A5, n5, c5, rfl, X3, -⟩ := hV3.laid; clear hV3; replace R := hZ (R.out.grew g4); replace P := hZ (P.out.grew g4); replace Q := hZ (Q.out.grew g4); replace Na := hZ (Na.out.kept g4.keeps); replace Nb := hZ (Nb.out.kept g4.keeps); replace Da := hZ (Da.out.kept g4.keeps); replace Eb := hZ (Eb.out.kept g4.keeps)) | (go_at_call 88; with_reducible refine (rup_any b3 A3 C3 n3 c3 m3 d3 D _ Da.out).mono ?_; rintro e w5 ⟨rfl, g5⟩; replace R := hZ (R.out.grew g5); replace P := hZ (P.out.grew g5); replace Q := hZ (Q.out.grew g5); replace Na := hZ (Na.out.kept g5.keeps); replace Nb := hZ (Nb.out.kept g5.keeps); replace Da := hZ (Da.out.kept g5.keeps); replace Eb := hZ (Eb.out.kept g5.keeps); replace X3 := hZ (X3.out.kept g5.keeps)) | (go_at_call 87; with_reducible refine (r2mul_any _ _ _ _ l k _ Nb.out (WhlR.up Da.out hm) hs5.out).mono ?_; rintro e w6 ⟨V4, rfl, hV4, g6⟩; obtain ⟨b8, A8, n8, c8, rfl, X4, -⟩ := hV4.laid; clear hV4; replace R := hZ (R.out.grew g6); replace P := hZ (P.out.grew g6); replace Q := hZ (Q.out.grew g6); replace Na := hZ (Na.out.kept g6.keeps); replace Nb := hZ (Nb.out.kept g6.keeps); replace Da := hZ (Da.out.kept g6.keeps); replace Eb := hZ (Eb.out.kept g6.keeps); replace X3 := hZ (X3.out.kept g6.keeps)) | (go_at_call 161; with_reducible refine (r2add_any _ _ _ _ (k + l) (k + l) _ (X3.out.r hz1.out) (X4.out.r hz2.out) hs6.out).mono ?_; rintro e w7 ⟨V6, rfl, hV6, g7⟩; obtain ⟨b9, A9, n9, c9, rfl, X6, -⟩ := hV6.laid; clear hV6; replace R := hZ (R.out.grew g7); replace P := hZ (P.out.grew g7); replace Q := hZ (Q.out.grew g7); replace Na := hZ (Na.out.kept g7.keeps); replace Nb := hZ (Nb.out.kept g7.keeps); replace Da := hZ (Da.out.kept g7.keeps); replace Eb := hZ (Eb.out.kept g7.keeps); replace X3 := hZ (X3.out.kept g7.keeps); replace X4 := hZ (X4.out.kept g7.keeps)) | (go_at_call 132; with_reducible refine (rMul_any _ _ D E _ _ _ Da.out Eb.out hs3.out).mono ?_; rintro e w8 ⟨V7, rfl, hV7, g8⟩; obtain ⟨A6, c6, rfl, Y3⟩ := hV7.slice; clear hV7; replace R := hZ (R.out.grew g8); replace P := hZ (P.out.grew g8); replace Q := hZ (Q.out.grew g8); replace Na := hZ (Na.out.kept g8.keeps); replace Nb := hZ (Nb.out.kept g8.keeps); replace Da := hZ (Da.out.kept g8.keeps); replace Eb := hZ (Eb.out.kept g8.keeps); replace X3 := hZ (X3.out.kept g8.keeps); replace X4 := hZ (X4.out.kept g8.keeps); replace X6 := hZ (X6.out.kept g8.keeps)) | (go_at_call 57; with_reducible refine (rfreduce_any _ _ _ _ (FracR.mk X6.out Y3.out E3.out hz3.out hd1.out) hs4.out).mono ?_; rintro e w9 ⟨V5, rfl, hV5, g9⟩; obtain ⟨b7, A7, n7, c7, C7, m7, d7, rfl, X5⟩ := hV5.laid; clear hV5; replace R := hZ (R.out.grew g9); replace P := hZ (P.out.grew g9); replace Q := hZ (Q.out.grew g9); replace Na := hZ (Na.out.kept g9.keeps); replace Nb := hZ (Nb.out.kept g9.keeps); replace Da := hZ (Da.out.kept g9.keeps); replace Eb := hZ (Eb.out.kept g9.keeps); replace X3 := hZ (X3.out.kept g9.keeps); replace X4 := hZ (X4.out.kept g9.keeps); replace X6 := hZ (X6.out.kept g9.keeps); replace Y3 := hZ (Y3.out.kept g9.keeps); have R0 := R.out.p0; have R1 := R.out.p1; have R2 := R.out.p2; have Rf0 := R.out.f0; have Rf1 := R.out.f1; have Rf2 := R.out.f2))
  replace G0 := hZ ((((((((G0.out.trans gd.out).trans g3).trans g4).trans g5).trans g6).trans g7).trans g8).trans g9)
  clear gd g3 g4 g5 g6 g7 g8 g9 ZP ZQ
  refine gen_then ?_
  intro W9 hW9
  obtain ⟨q0, q1, q2, qK, -, -, qs, qG⟩ := store3 (o := 0) R0 R1 R2 hW9
  have GE := qG w (.inr (by omega)) G0.out
  have QK := hZ qK
  clear qK qG hW9 R0 R1 R2
  go_wp2_with fail
  exact bodyPost_ret (v := .agg #[.bool b7, .slice A7 n7 c7, .slice C7 m7 d7]) (by simp [results, Tryz.results124, go_sem, q0, q1, q2]) rfl ⟨_, rfl, X5.out.kept QK.out, GE⟩
set_option maxHeartbeats 4000000 in
theorem rfcmp_any (Va Vb : Value) (p q : Rat) (k l : Nat) (w : World) (ha : FracR w Va p k) (hb : FracR w Vb q l) (hk : 1 ≤ k ∧ 1 ≤ l) (hs : k < 1073741824 ∧ l < 1073741824) :
  Calls Tryz.prog 54 #[Va, Vb] w fun e w' => e = .returned (.int .i64 (cmpQ p q)) ∧ Grew w w' := by
 obtain ⟨b1, A1, n1, c1, C1, m1, d1, rfl, Fa⟩ := ha.laid
 obtain ⟨b2, A2, n2, c2, C2, m2, d2, rfl, Fb⟩ := hb.laid
 clear ha hb
 go_enter Tryz.func54, Tryz.ntmps54
 go_upto_region 1 with fail
 go_cut [6] (fun s6 wx => ∃ V1 b3 A3 n3 c3 C3 m3 d3 b4 A4 n4 c4 C4 m4 d4, s6 = V1 ∧ FracP wx (.agg #[.bool b3, .slice A3 n3 c3, .slice C3 m3 d3]) p k ∧ FracP wx (.agg #[.bool b4, .slice A4 n4 c4, .slice C4 m4 d4]) q l ∧ Grew w wx ∧ Box3 wx w.heap.size 0 (.bool b3) (.slice A3 n3 c3) (.slice C3 m3 d3) ∧ Box3 wx (w.heap.size + 1) 0 (.bool b4) (.slice A4 n4 c4) (.slice C4 m4 d4))
 refine gen_wp ?_
 intro W0 hW0
 have G0 : Grew w W0 := by rw [hW0]; exact ((Grew.refl w).alloc _).alloc _
 have P : Box3 W0 (w.heap.size) 0 (.bool b1) (.slice A1 n1 c1) (.slice C1 m1 d1) := by rw [hW0]; exact ⟨by simp [go_sem], by simp [go_sem], by simp [go_sem]⟩
 replace P := hZ P
 have Pr : Res3 W0 (w.heap.size) 0 (.bool b1) (.slice A1 n1 c1) (.slice C1 m1 d1) := by rw [hW0]; exact ⟨by simp [go_sem], by simp [go_sem], by simp [go_sem], by simp [go_sem], by simp [go_sem], by simp [go_sem], by simp <;> omega⟩
 replace Pr := hZ Pr
 have Q : Box3 W0 (w.heap.size + 1) 0 (.bool b2) (.slice A2 n2 c2) (.slice C2 m2 d2) := by rw [hW0]; exact ⟨by simp [go_sem], by simp [go_sem], by simp [go_sem]⟩
 replace Q := hZ Q
 have Qr : Res3 W0 (w.heap.size + 1) 0 (.bool b2) (.slice A2 n2 c2) (.slice C2 m2 d2) := by rw [hW0]; exact ⟨by simp [go_sem], by simp [go_sem], by simp [go_sem], by simp [go_sem], by simp [go_sem], by simp [go_sem], by simp <;> omega⟩
 replace Qr := hZ Qr
 have z0 : w.heap.size < W0.heap.size := by rw [hW0]; simp <;> omega
 replace z0 := hZ z0
 have z1 : w.heap.size + 1 < W0.heap.size := by rw [hW0]; simp <;> omega
 replace z1 := hZ z1
 clear hW0
 replace Fa := hZ (Fa.out.kept G0.keeps)
 replace Fb := hZ (Fb.out.kept G0.keeps)
 replace G0 := hZ G0
 ·skip
  have hk1 := hZ hk
  have hs1 := hZ (show k < 274877906944 ∧ l < 274877906944 by omega)
  have gd : Grew W0 W0.drew := (Grew.refl W0).drew
  replace Pr := hZ (Pr.out.grew gd)
  replace Qr := hZ (Qr.out.grew gd)
  replace P := hZ (P.out.grew gd)
  replace Q := hZ (Q.out.grew gd)
  replace z0 := hZ (lt_grew z0.out gd)
  replace z1 := hZ (lt_grew z1.out gd)
  replace Fa := hZ (Fa.out.kept gd.keeps)
  replace Fb := hZ (Fb.out.kept gd.keeps)
  obtain ⟨P0, P1, P2⟩ := P.out
  obtain ⟨Q0, Q1, Q2⟩ := Q.out
  go_region_law (first | ((try go_simp); go_at_call 85; with_reducible refine (rworth_any _ p k _ Fa.out hk1.out.1 hs1.out.1).mono ?_; rintro e w1 ⟨V1, he1, hV1, g1⟩; obtain ⟨b3, A3, n3, c3, C3, m3, d3, hE1, X1⟩ := hV1.laid; rw [he1, hE1]; clear hV1 he1 hE1; replace Pr := hZ (Pr.out.grew g1); replace Qr := hZ (Qr.out.grew g1); replace P := hZ (P.out.grew g1); replace Q := hZ (Q.out.grew g1); replace z0 := hZ (lt_grew z0.out g1); replace z1 := hZ (lt_grew z1.out g1); replace Fa := hZ (Fa.out.kept g1.keeps); replace Fb := hZ (Fb.out.kept g1.keeps); have P0 := P.out.p0; have P1 := P.out.p1; have P2 := P.out.p2; have Q0 := Q.out.p0; have Q1 := Q.out.p1; have Q2 := Q.out.p2) | (go_loud ((try go_simp); go_at_call 85; with_reducible refine (rworth_any _ q l _ Fb.out hk1.out.2 hs1.out.2).mono ?_; rintro e w2 ⟨V2, he2, hV2, g2⟩; obtain ⟨b4, A4, n4, c4, C4, m4, d4, hE2, X2⟩ := hV2.laid; rw [he2, hE2]; clear hV2 he2 hE2; replace Pr := hZ (Pr.out.grew g2); replace Qr := hZ (Qr.out.grew g2); replace P := hZ (P.out.grew g2); replace Q := hZ (Q.out.grew g2); replace z0 := hZ (lt_grew z0.out g2); replace z1 := hZ (lt_grew z1.out g2); replace Fa := hZ (Fa.out.kept g2.keeps); replace Fb := hZ (Fb.out.kept g2.keeps); replace X1 := hZ (X1.out.kept g2.keeps); have P0 := P.out.p0; have P1 := P.out.p1; have P2 := P.out.p2; have Q0 := Q.out.p0; have Q1 := Q.out.p1; have Q2 := Q.out.p2; have Prf0 := Pr.out.f0; have Prf1 := Pr.out.f1; have Prf2 := Pr.out.f2; have Qrf0 := Qr.out.f0; have Qrf1 := Qr.out.f1; have Qrf2 := Qr.out.f2)))
  all_goals
   have GC := hZ (((G0.out.trans gd).trans g1).trans g2)
   clear G0 gd g1 g2
   refine gen_then ?_
   intro W9 hW9
   obtain ⟨BP, BQ, K9, F9, GG, sz⟩ := store33 Pr.out Qr.out (by omega) hW9
   have G9 := GG w (by omega) (by omega) GC.out
   clear hW9 F9 GG sz
   go_wp2_with fail
   go_meet
   exact ⟨_, b3, A3, n3, c3, C3, m3, d3, b4, A4, n4, c4, C4, m4, d4, rfl, X1.out.kept K9, X2.out.kept K9, G9, BP, BQ⟩
 ·obtain ⟨V1, b3, A3, n3, c3, C3, m3, d3, b4, A4, n4, c4, C4, m4, d4, rfl, X1, X2, G9, BP, BQ⟩ := hcut
  obtain ⟨N, D, E1, hD, Na, Da, hm⟩ := X1.parts
  obtain ⟨M, E, E2, hE, Nb, Eb, hm2⟩ := X2.parts
  have P := hZ BP
  have Q := hZ BQ
  have G0 := hZ G9
  have E3 : cmpZ (sgn b3 N * (E : Int)) (sgn b4 M * (D : Int)) = cmpQ p q := by rw [← E1.out, ← E2.out]; exact (cmpQ_mkRat _ _ _ _ hD hE).symm
  replace E3 := hZ E3
  have lD := Nat.le_trans (Da.out.len_le (by omega)) hm
  have lE := Nat.le_trans (Eb.out.len_le (by omega)) hm2
  have hz1 := hZ (show len 4294967296 (sgn b3 N * (E : Int)).natAbs ≤ k + l by
   rw [Int.natAbs_mul]; exact len_mul (B := 4294967296) (by omega) _ _ k l Na.out.len lE)
  have hz2 := hZ (show len 4294967296 (sgn b4 M * (D : Int)).natAbs ≤ k + l by
   rw [Int.natAbs_mul, Nat.add_comm k l]; exact len_mul (B := 4294967296) (by omega) _ _ l k Nb.out.len lD)
  have hs2 := hZ (show k < 34359738368 ∧ l < 34359738368 by omega)
  have hs5 := hZ (show l < 34359738368 ∧ k < 34359738368 by omega)
  have hs6 := hZ (show k + l < 68719476735 ∧ k + l < 68719476735 by omega)
  clear lD lE
  clear X1 X2 BP BQ G9
  skip
  go_upto_region 2 with fail
  have gd : Grew wc wc.drew := (Grew.refl wc).drew
  replace P := hZ (P.out.grew gd)
  replace Q := hZ (Q.out.grew gd)
  replace Na := hZ (Na.out.kept gd.keeps)
  replace Nb := hZ (Nb.out.kept gd.keeps)
  replace Da := hZ (Da.out.kept gd.keeps)
  replace Eb := hZ (Eb.out.kept gd.keeps)
  replace gd := hZ gd
  have ZP := P
  have ZQ := Q
  go_region_held3 (fun w' => w'.cell? ⟨w.heap.size, 0, none⟩ = some (.bool b3) ∧ w'.cell? ⟨w.heap.size, 1, none⟩ = some (.slice A3 n3 c3) ∧ w'.cell? ⟨w.heap.size, 2, none⟩ = some (.slice C3 m3 d3) ∧ w'.cell? ⟨w.heap.size + 1, 0, none⟩ = some (.bool b4) ∧ w'.cell? ⟨w.heap.size + 1, 1, none⟩ = some (.slice A4 n4 c4) ∧ w'.cell? ⟨w.heap.size + 1, 2, none⟩ = some (.slice C4 m4 d4))
   (first | (with_reducible exact ⟨ZP.out.p0, ZP.out.p1, ZP.out.p2, ZQ.out.p0, ZQ.out.p1, ZQ.out.p2⟩) | (with_reducible exact ⟨g3.cell ZP.out.p0, g3.cell ZP.out.p1, g3.cell ZP.out.p2, g3.cell ZQ.out.p0, g3.cell ZQ.out.p1, g3.cell ZQ.out.p2⟩) | (with_reducible exact ⟨(g3.trans g4).cell ZP.out.p0, (g3.trans g4).cell ZP.out.p1, (g3.trans g4).cell ZP.out.p2, (g3.trans g4).cell ZQ.out.p0, (g3.trans g4).cell ZQ.out.p1, (g3.trans g4).cell ZQ.out.p2⟩) | (with_reducible exact ⟨((g3.trans g4).trans g5).cell ZP.out.p0, ((g3.trans g4).trans g5).cell ZP.out.p1, ((g3.trans g4).trans g5).cell ZP.out.p2, ((g3.trans g4).trans g5).cell ZQ.out.p0, ((g3.trans g4).trans g5).cell ZQ.out.p1, ((g3.trans g4).trans g5).cell ZQ.out.p2⟩) | (with_reducible exact ⟨(((g3.trans g4).trans g5).trans g6).cell ZP.out.p0, (((g3.trans g4).trans g5).trans g6).cell ZP.out.p1, (((g3.trans g4).trans g5).trans g6).cell ZP.out.p2, (((g3.trans g4).trans g5).trans g6).cell ZQ.out.p0, (((g3.trans g4).trans g5).trans g6).cell ZQ.out.p1, (((g3.trans g4).trans g5).trans g6).cell ZQ.out.p2⟩) | (with_reducible exact ⟨((((g3.trans g4).trans g5).trans g6).trans g7).cell ZP.out.p0, ((((g3.trans g4).trans g5).trans g6).trans g7).cell ZP.out.p1, ((((g3.trans g4).trans g5).trans g6).trans g7).cell ZP.out.p2, ((((g3.trans g4).trans g5).trans g6).trans g7).cell ZQ.out.p0, ((((g3.trans g4).trans g5).trans g6).trans g7).cell ZQ.out.p1, ((((g3.trans g4).trans g5).trans g6).trans g7).cell ZQ.out.p2⟩))
   (first | (go_at_call 88; with_reducible refine (rup_any b4 A4 C4 n4 c4 m4 d4 E _ Eb.out).mono ?_; rintro e w3 ⟨rfl, g3⟩; replace P := hZ (P.out.grew g3); replace Q := hZ (Q.out.grew g3); replace Na := hZ (Na.out.kept g3.keeps); replace Nb := hZ (Nb.out.kept g3.keeps); replace Da := hZ (Da.out.kept g3.keeps); replace Eb := hZ (Eb.out.kept g3.keeps)) | (go_at_call 87; with_reducible refine (r2mul_any _ _ _ _ k l _ Na.out (WhlR.up Eb.out hm2) hs2.out).mono ?_; rintro e w4 ⟨V3, rfl, hV3, g4⟩; obtain ⟨b5, A5, n5, c5, rfl, X3, -⟩ := hV3.laid; clear hV3; replace P := hZ (P.out.grew g4); replace Q := hZ (Q.out.grew g4); replace Na := hZ (Na.out.kept g4.keeps); replace Nb := hZ (Nb.out.kept g4.keeps); replace Da := hZ (Da.out.kept g4.keeps); replace Eb := hZ (Eb.out.kept g4.keeps)) | (go_at_call 88; with_reducible refine (rup_any b3 A3 C3 n3 c3 m3 d3 D _ Da.out).mono ?_; rintro e w5 ⟨rfl, g5⟩; replace P := hZ (P.out.grew g5); replace Q := hZ (Q.out.grew g5); replace Na := hZ (Na.out.kept g5.keeps); replace Nb := hZ (Nb.out.kept g5.keeps); replace Da := hZ (Da.out.kept g5.keeps); replace Eb := hZ (Eb.out.kept g5.keeps); replace X3 := hZ (X3.out.kept g5.keeps)) | (go_at_call 87; with_reducible refine (r2mul_any _ _ _ _ l k _ Nb.out (WhlR.up Da.out hm) hs5.out).mono ?_; rintro e w6 ⟨V4, rfl, hV4, g6⟩; obtain ⟨b8, A8, n8, c8, rfl, X4, -⟩ := hV4.laid; clear hV4; replace P := hZ (P.out.grew g6); replace Q := hZ (Q.out.grew g6); replace Na := hZ (Na.out.kept g6.keeps); replace Nb := hZ (Nb.out.kept g6.keeps); replace Da := hZ (Da.out.kept g6.keeps); replace Eb := hZ (Eb.out.kept g6.keeps); replace X3 := hZ (X3.out.kept g6.keeps)) | (go_at_call 86; with_reducible refine (r2cmp_any _ _ _ _ (k + l) (k + l) _ (X3.out.r hz1.out) (X4.out.r hz2.out) hs6.out).mono ?_; rintro e w7 ⟨rfl, g7⟩; replace P := hZ (P.out.grew g7); replace Q := hZ (Q.out.grew g7); replace Na := hZ (Na.out.kept g7.keeps); replace Nb := hZ (Nb.out.kept g7.keeps); replace Da := hZ (Da.out.kept g7.keeps); replace Eb := hZ (Eb.out.kept g7.keeps); replace X3 := hZ (X3.out.kept g7.keeps); replace X4 := hZ (X4.out.kept g7.keeps)))
  replace G0 := hZ ((((((G0.out.trans gd.out).trans g3).trans g4).trans g5).trans g6).trans g7)
  clear gd g3 g4 g5 g6 g7 ZP ZQ
  go_wp2_with fail
  go_ret
  exact ⟨by rw [E3.out]; rfl, G0.out⟩
set_option maxHeartbeats 4000000 in
theorem rfsign_any (Va : Value) (p : Rat) (k : Nat) (w : World) (ha : FracR w Va p k) (hk : 1 ≤ k) (hs : k < 137438953472) :
  Calls Tryz.prog 163 #[Va] w fun e w' => e = .returned (.int .i64 (sgQ p)) ∧ Grew w w' := by
 obtain ⟨b1, A1, n1, c1, C1, m1, d1, rfl, Fa⟩ := ha.laid
 clear ha
 go_enter Tryz.func163, Tryz.ntmps163
 go_wp2_with fail
 refine gen_calls ?_
 intro W0 hW0
 have G0 : Grew w W0 := by rw [hW0]; exact (Grew.refl w).alloc _
 have P : Box3 W0 (w.heap.size) 0 (.bool b1) (.slice A1 n1 c1) (.slice C1 m1 d1) := by rw [hW0]; exact ⟨by simp [go_sem], by simp [go_sem], by simp [go_sem]⟩
 replace P := hZ P
 have z0 : w.heap.size < W0.heap.size := by rw [hW0]; simp <;> omega
 replace z0 := hZ z0
 clear hW0
 replace Fa := hZ (Fa.out.kept G0.keeps)
 replace G0 := hZ G0
 refine (rworth_any _ p k _ Fa.out hk (by omega)).mono ?_
 rintro e w1 ⟨V1, rfl, hV1, g1⟩
 obtain ⟨b3, A3, n3, c3, C3, m3, d3, rfl, X1⟩ := hV1.laid
 clear hV1
 replace P := hZ (P.out.grew g1)
 replace z0 := hZ (lt_grew z0.out g1)
 replace Fa := hZ (Fa.out.kept g1.keeps)
 replace G0 := hZ (G0.out.trans g1)
 clear g1
 obtain ⟨N, D, E1, hD, Na, Da, hm⟩ := X1.out.parts
 have e1 : sg (sgn b3 N) = sgQ p := by rw [← E1.out, sgQ_mkRat _ _ hD]
 replace e1 := hZ e1
 clear X1
 skip
 have hfd : ∀ w : World, (Instr.field 33 (.agg #[.bool b3, .slice A3 n3 c3, .slice C3 m3 d3]) 0).run Tryz.prog w = .ok (.agg #[.bool b3, .slice A3 n3 c3]) w := fun _ => by first | rfl | kernel_rfl
 go_wp2_with fail
 refine (r2sign_any _ _ _ _ Na.out hs).mono ?_
 rintro e w2 ⟨rfl, g2⟩
 replace P := hZ (P.out.grew g2)
 replace z0 := hZ (lt_grew z0.out g2)
 replace Fa := hZ (Fa.out.kept g2.keeps)
 replace Na := hZ (Na.out.kept g2.keeps)
 replace G0 := hZ (G0.out.trans g2)
 clear g2
 go_wp2_with fail
 go_ret
 exact ⟨by rw [← e1.out]; rfl, G0.out⟩
end Go.Proofs.YtmommicmblfibaaGreat
