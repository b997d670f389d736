/- r04.Div. Condition: what comes in reads; the second is not 0. A region that draws, by an invariant. Conditions: none. Locals of six cells inside a region that draws, told by what is listed. Conditions: none. -/
import Derived.Test.YtmommicmblfibaaGreatJCross8
import Derived.Test.YtmommicmblfibaaGreatJKit2
import Derived.Orders
import Derived.Test.YtmommicmblfibaaGreatJCross2
set_option maxRecDepth 100000
namespace Go.Proofs.YtmommicmblfibaaGreat
open Go.RowKit
set_option maxHeartbeats 4000000 in
theorem r4div_any (Va Vb : Value) (p q : Rat) (k l : Nat) (w : World) (ha : FracR w Va p k) (hb : FracR w Vb q l) (hk : 1 ≤ k ∧ 1 ≤ l) (hq0 : q ≠ 0) (hs : k < 268435456 ∧ l < 268435456) :
  Calls Tryz.prog 81 #[Va, Vb] w fun e w' => ∃ V, e = .returned (.tuple #[V, .int .i64 0]) ∧ FracC w' V (p / q) ∧ Grew w w' := by
 obtain ⟨b1, A1, n1, c1, C1, m1, d1, rfl, Fa⟩ := ha.laid
 obtain ⟨b2, A2, n2, c2, C2, m2, d2, rfl, Fb⟩ := hb.laid
 clear ha hb
 go_enter Tryz.func81, Tryz.ntmps81
 go_upto_region 1 with fail
 go_cut [6] (fun s6 wx => ∃ V1 b3 A3 n3 c3 C3 m3 d3 b4 A4 n4 c4 C4 m4 d4, s6 = V1 ∧ FracP wx (.agg #[.bool b3, .slice A3 n3 c3, .slice C3 m3 d3]) p k ∧ FracP wx (.agg #[.bool b4, .slice A4 n4 c4, .slice C4 m4 d4]) q l ∧ Grew w wx ∧ Box3 wx w.heap.size 0 (.bool b3) (.slice A3 n3 c3) (.slice C3 m3 d3) ∧ Box3 wx (w.heap.size + 1) 0 (.bool b4) (.slice A4 n4 c4) (.slice C4 m4 d4) ∧ Res3 wx (w.heap.size + 1 + 1) 0 (.bool false) (.slice none 0 0) (.slice none 0 0))
 refine gen_wp ?_
 intro W0 hW0
 have G0 : Grew w W0 := by rw [hW0]; exact (((Grew.refl w).alloc _).alloc _).alloc _
 have P : Box3 W0 (w.heap.size) 0 (.bool b1) (.slice A1 n1 c1) (.slice C1 m1 d1) := by rw [hW0]; exact ⟨by simp [go_sem], by simp [go_sem], by simp [go_sem]⟩
 replace P := hZ P
 have Pr : Res3 W0 (w.heap.size) 0 (.bool b1) (.slice A1 n1 c1) (.slice C1 m1 d1) := by rw [hW0]; exact ⟨by simp [go_sem], by simp [go_sem], by simp [go_sem], by simp [go_sem], by simp [go_sem], by simp [go_sem], by simp <;> omega⟩
 replace Pr := hZ Pr
 have Q : Box3 W0 (w.heap.size + 1) 0 (.bool b2) (.slice A2 n2 c2) (.slice C2 m2 d2) := by rw [hW0]; exact ⟨by simp [go_sem], by simp [go_sem], by simp [go_sem]⟩
 replace Q := hZ Q
 have Qr : Res3 W0 (w.heap.size + 1) 0 (.bool b2) (.slice A2 n2 c2) (.slice C2 m2 d2) := by rw [hW0]; exact ⟨by simp [go_sem], by simp [go_sem], by simp [go_sem], by simp [go_sem], by simp [go_sem], by simp [go_sem], by simp <;> omega⟩
 replace Qr := hZ Qr
 have R : Res3 W0 (w.heap.size + 1 + 1) 0 (.bool false) (.slice none 0 0) (.slice none 0 0) := by rw [hW0]; exact ⟨by simp [go_sem], by simp [go_sem], by simp [go_sem], by simp [go_sem], by simp [go_sem], by simp [go_sem], by simp⟩
 replace R := hZ R
 have z0 : w.heap.size < W0.heap.size := by rw [hW0]; simp <;> omega
 replace z0 := hZ z0
 have z1 : w.heap.size + 1 < W0.heap.size := by rw [hW0]; simp <;> omega
 replace z1 := hZ z1
 have z2 : w.heap.size + 1 + 1 < W0.heap.size := by rw [hW0]; simp <;> omega
 replace z2 := hZ z2
 clear hW0
 replace Fa := hZ (Fa.out.kept G0.keeps)
 replace Fb := hZ (Fb.out.kept G0.keeps)
 replace G0 := hZ G0
 ·skip
  have hk1 := hZ hk
  have hs1 := hZ (show k < 274877906944 ∧ l < 274877906944 by omega)
  have gd : Grew W0 W0.drew := (Grew.refl W0).drew
  replace R := hZ (R.out.grew gd)
  replace Pr := hZ (Pr.out.grew gd)
  replace Qr := hZ (Qr.out.grew gd)
  replace P := hZ (P.out.grew gd)
  replace Q := hZ (Q.out.grew gd)
  replace z0 := hZ (lt_grew z0.out gd)
  replace z1 := hZ (lt_grew z1.out gd)
  replace z2 := hZ (lt_grew z2.out gd)
  replace Fa := hZ (Fa.out.kept gd.keeps)
  replace Fb := hZ (Fb.out.kept gd.keeps)
  obtain ⟨P0, P1, P2⟩ := P.out
  obtain ⟨Q0, Q1, Q2⟩ := Q.out
  go_region_law (first | ((try go_simp); go_at_call 85; with_reducible refine (rworth_any _ p k _ Fa.out hk1.out.1 hs1.out.1).mono ?_; rintro e w1 ⟨V1, he1, hV1, g1⟩; obtain ⟨b3, A3, n3, c3, C3, m3, d3, hE1, X1⟩ := hV1.laid; rw [he1, hE1]; clear hV1 he1 hE1; replace R := hZ (R.out.grew g1); replace Pr := hZ (Pr.out.grew g1); replace Qr := hZ (Qr.out.grew g1); replace P := hZ (P.out.grew g1); replace Q := hZ (Q.out.grew g1); replace z0 := hZ (lt_grew z0.out g1); replace z1 := hZ (lt_grew z1.out g1); replace z2 := hZ (lt_grew z2.out g1); replace Fa := hZ (Fa.out.kept g1.keeps); replace Fb := hZ (Fb.out.kept g1.keeps); have P0 := P.out.p0; have P1 := P.out.p1; have P2 := P.out.p2; have Q0 := Q.out.p0; have Q1 := Q.out.p1; have Q2 := Q.out.p2) | (go_loud ((try go_simp); go_at_call 85; with_reducible refine (rworth_any _ q l _ Fb.out hk1.out.2 hs1.out.2).mono ?_; rintro e w2 ⟨V2, he2, hV2, g2⟩; obtain ⟨b4, A4, n4, c4, C4, m4, d4, hE2, X2⟩ := hV2.laid; rw [he2, hE2]; clear hV2 he2 hE2; replace R := hZ (R.out.grew g2); replace Pr := hZ (Pr.out.grew g2); replace Qr := hZ (Qr.out.grew g2); replace P := hZ (P.out.grew g2); replace Q := hZ (Q.out.grew g2); replace z0 := hZ (lt_grew z0.out g2); replace z1 := hZ (lt_grew z1.out g2); replace z2 := hZ (lt_grew z2.out g2); replace Fa := hZ (Fa.out.kept g2.keeps); replace Fb := hZ (Fb.out.kept g2.keeps); replace X1 := hZ (X1.out.kept g2.keeps); have P0 := P.out.p0; have P1 := P.out.p1; have P2 := P.out.p2; have Q0 := Q.out.p0; have Q1 := Q.out.p1; have Q2 := Q.out.p2; have Prf0 := Pr.out.f0; have Prf1 := Pr.out.f1; have Prf2 := Pr.out.f2; have Qrf0 := Qr.out.f0; have Qrf1 := Qr.out.f1; have Qrf2 := Qr.out.f2)))
  all_goals
   have GC := hZ (((G0.out.trans gd).trans g1).trans g2)
   clear G0 gd g1 g2
   refine gen_then ?_
   intro W9 hW9
   obtain ⟨BP, BQ, K9, F9, GG, sz⟩ := store33 Pr.out Qr.out (by omega) hW9
   have hR9 : Res3 W9 (w.heap.size + 1 + 1) 0 (.bool false) (.slice none 0 0) (.slice none 0 0) := by
    obtain ⟨r0, r1, r2, f0, f1, f2, s⟩ := R.out
    exact ⟨(F9 _ _ (by omega) (by omega)).trans r0, (F9 _ _ (by omega) (by omega)).trans r1, (F9 _ _ (by omega) (by omega)).trans r2, by rw [hW9]; simpa using f0, by rw [hW9]; simpa using f1, by rw [hW9]; simpa using f2, by rw [sz]; exact s⟩
   have G9 := GG w (by omega) (by omega) GC.out
   clear hW9 F9 GG sz
   go_wp2_with fail
   go_meet
   exact ⟨_, b3, A3, n3, c3, C3, m3, d3, b4, A4, n4, c4, C4, m4, d4, rfl, X1.out.kept K9, X2.out.kept K9, G9, BP, BQ, hR9⟩
 ·obtain ⟨V1, b3, A3, n3, c3, C3, m3, d3, b4, A4, n4, c4, C4, m4, d4, rfl, X1, X2, G9, BP, BQ, hR9⟩ := hcut
  obtain ⟨N, D, E1, hD, Na, Da, hm⟩ := X1.parts
  obtain ⟨M, E, E2, hE, Nb, Eb, hm2⟩ := X2.parts
  have P := hZ BP
  have Q := hZ BQ
  have R := hZ hR9
  have G0 := hZ G9
  have lD := Nat.le_trans (Da.out.len_le (by omega)) hm
  have lE := Nat.le_trans (Eb.out.len_le (by omega)) hm2
  have hz1 := hZ (show len 4294967296 (sgn b3 N * (E : Int)).natAbs ≤ k + l by
   rw [Int.natAbs_mul]; exact len_mul (B := 4294967296) (by omega) _ _ k l Na.out.len lE)
  have hz2 := hZ (show len 4294967296 (sgn b4 M * (D : Int)).natAbs ≤ k + l by
   rw [Int.natAbs_mul, Nat.add_comm k l]; exact len_mul (B := 4294967296) (by omega) _ _ l k Nb.out.len lD)
  have hM0 : sgn b4 M ≠ 0 := fun e => hq0 (by rw [← E2.out, e, Rat.zero_mkRat])
  have hy0 : sgn b4 M * (D : Int) ≠ 0 := Int.mul_ne_zero hM0 (by omega)
  have E3 : ((sgn b3 N * (E : Int) : Int) : Rat) / ((sgn b4 M * (D : Int) : Int) : Rat) = p / q := by
   have e1 := mkRat_times (sgn b3 N) D hD
   have e2 := mkRat_times (sgn b4 M) E hE
   rw [E1.out] at e1
   rw [E2.out] at e2
   have d0 : ((D : Int) : Rat) ≠ 0 := fun e => hD (by have e9 : ((D : Int) : Rat) = ((0 : Int) : Rat) := e; have := Rat.intCast_inj.1 e9; omega)
   have d1 : ((E : Int) : Rat) ≠ 0 := fun e => hE (by have e9 : ((E : Int) : Rat) = ((0 : Int) : Rat) := e; have := Rat.intCast_inj.1 e9; omega)
   rw [Rat.intCast_mul, Rat.intCast_mul, ← e1, ← e2]
   generalize ((D : Int) : Rat) = x at *
   generalize ((E : Int) : Rat) = y at *
   clear e1 e2
   grind
  replace E3 := hZ E3
  have hs8 := hZ (show k + l < 1073741824 by omega)
  have hs2 := hZ (show k < 34359738368 ∧ l < 34359738368 by omega)
  have hs5 := hZ (show l < 34359738368 ∧ k < 34359738368 by omega)
  have hs6 := hZ (show k + l < 68719476736 ∧ k + l < 68719476736 by omega)
  have hs3 := hZ (show m3 < 137438953472 ∧ m4 < 137438953472 by omega)
  have hs4 := hZ (show k + l + 1 < 4294967296 by omega)
  clear lD lE
  have y9 := hZ (show w.heap.size + 1 + 1 < wc.heap.size from hR9.2.2.2.2.2.2)
  clear X1 X2 BP BQ hR9 G9
  skip
  go_upto_region 2 with fail
  have gd : Grew wc wc.drew := (Grew.refl wc).drew
  replace R := hZ (R.out.grew gd)
  replace P := hZ (P.out.grew gd)
  replace Q := hZ (Q.out.grew gd)
  replace Na := hZ (Na.out.kept gd.keeps)
  replace Nb := hZ (Nb.out.kept gd.keeps)
  replace Da := hZ (Da.out.kept gd.keeps)
  replace Eb := hZ (Eb.out.kept gd.keeps)
  replace gd := hZ gd
  have ZP := P
  have ZQ := Q
  go_region_held3 (fun w' => w'.cell? ⟨w.heap.size, 0, none⟩ = some (.bool b3) ∧ w'.cell? ⟨w.heap.size, 1, none⟩ = some (.slice A3 n3 c3) ∧ w'.cell? ⟨w.heap.size, 2, none⟩ = some (.slice C3 m3 d3) ∧ w'.cell? ⟨w.heap.size + 1, 0, none⟩ = some (.bool b4) ∧ w'.cell? ⟨w.heap.size + 1, 1, none⟩ = some (.slice A4 n4 c4) ∧ w'.cell? ⟨w.heap.size + 1, 2, none⟩ = some (.slice C4 m4 d4))
   (first | (with_reducible exact ⟨ZP.out.p0, ZP.out.p1, ZP.out.p2, ZQ.out.p0, ZQ.out.p1, ZQ.out.p2⟩) | (with_reducible exact ⟨g3.cell ZP.out.p0, g3.cell ZP.out.p1, g3.cell ZP.out.p2, g3.cell ZQ.out.p0, g3.cell ZQ.out.p1, g3.cell ZQ.out.p2⟩) | (with_reducible exact ⟨(g3.trans g4).cell ZP.out.p0, (g3.trans g4).cell ZP.out.p1, (g3.trans g4).cell ZP.out.p2, (g3.trans g4).cell ZQ.out.p0, (g3.trans g4).cell ZQ.out.p1, (g3.trans g4).cell ZQ.out.p2⟩) | (with_reducible exact ⟨((g3.trans g4).trans g5).cell ZP.out.p0, ((g3.trans g4).trans g5).cell ZP.out.p1, ((g3.trans g4).trans g5).cell ZP.out.p2, ((g3.trans g4).trans g5).cell ZQ.out.p0, ((g3.trans g4).trans g5).cell ZQ.out.p1, ((g3.trans g4).trans g5).cell ZQ.out.p2⟩) | (with_reducible exact ⟨(((g3.trans g4).trans g5).trans g6).cell ZP.out.p0, (((g3.trans g4).trans g5).trans g6).cell ZP.out.p1, (((g3.trans g4).trans g5).trans g6).cell ZP.out.p2, (((g3.trans g4).trans g5).trans g6).cell ZQ.out.p0, (((g3.trans g4).trans g5).trans g6).cell ZQ.out.p1, (((g3.trans g4).trans g5).trans g6).cell ZQ.out.p2⟩) | (with_reducible exact ⟨((((g3.trans g4).trans g5).trans g6).trans g7).cell ZP.out.p0, ((((g3.trans g4).trans g5).trans g6).trans g7).cell ZP.out.p1, ((((g3.trans g4).trans g5).trans g6).trans g7).cell ZP.out.p2, ((((g3.trans g4).trans g5).trans g6).trans g7).cell ZQ.out.p0, ((((g3.trans g4).trans g5).trans g6).trans g7).cell ZQ.out.p1, ((((g3.trans g4).trans g5).trans g6).trans g7).cell ZQ.out.p2⟩) | (with_reducible exact ⟨other3 (o := 0) (by omega) (((((g3.trans g4).trans g5).trans g6).trans g7).cell ZP.out.p0), other3 (o := 0) (by omega) (((((g3.trans g4).trans g5).trans g6).trans g7).cell ZP.out.p1), other3 (o := 0) (by omega) (((((g3.trans g4).trans g5).trans g6).trans g7).cell ZP.out.p2), other3 (o := 0) (by omega) (((((g3.trans g4).trans g5).trans g6).trans g7).cell ZQ.out.p0), other3 (o := 0) (by omega) (((((g3.trans g4).trans g5).trans g6).trans g7).cell ZQ.out.p1), other3 (o := 0) (by omega) (((((g3.trans g4).trans g5).trans g6).trans g7).cell ZQ.out.p2)⟩))
   (first | (have chk := g6; clear chk; go_at_call 126; refine (r4makez_any _ _ (sgn b3 N * (E : Int)) (sgn b4 M * (D : Int)) (k + l) _ X3.out X4.out hy0 hz1.out hz2.out hs8.out).mono ?_; rintro e w7 ⟨V5, rfl, hV5, g7⟩; rw [E3.out] at hV5; obtain ⟨b7, A7, n7, c7, C7, m7, d7, rfl, X5⟩ := hV5.laid; clear hV5; replace R := hZ (R.out.grew g7); replace P := hZ (P.out.grew g7); replace Q := hZ (Q.out.grew g7); replace Na := hZ (Na.out.kept g7.keeps); replace Nb := hZ (Nb.out.kept g7.keeps); replace Da := hZ (Da.out.kept g7.keeps); replace Eb := hZ (Eb.out.kept g7.keeps); replace X3 := hZ (X3.out.kept g7.keeps); replace X4 := hZ (X4.out.kept g7.keeps); obtain ⟨R0, R1, R2, Rf0, Rf1, Rf2, Rs⟩ := R.out) | (have chk := g5; clear chk; go_at_call 87; refine (r2mul_any _ _ _ _ l k _ Nb.out (WhlR.up Da.out hm) hs5.out).mono ?_; rintro e w6 ⟨V4, rfl, hV4, g6⟩; obtain ⟨b8, A8, n8, c8, rfl, X4, -⟩ := hV4.laid; clear hV4; replace R := hZ (R.out.grew g6); replace P := hZ (P.out.grew g6); replace Q := hZ (Q.out.grew g6); replace Na := hZ (Na.out.kept g6.keeps); replace Nb := hZ (Nb.out.kept g6.keeps); replace Da := hZ (Da.out.kept g6.keeps); replace Eb := hZ (Eb.out.kept g6.keeps); replace X3 := hZ (X3.out.kept g6.keeps)) | (have chk := g4; clear chk; go_at_call 88; refine (rup_any b3 A3 C3 n3 c3 m3 d3 D _ Da.out).mono ?_; rintro e w5 ⟨rfl, g5⟩; replace R := hZ (R.out.grew g5); replace P := hZ (P.out.grew g5); replace Q := hZ (Q.out.grew g5); replace Na := hZ (Na.out.kept g5.keeps); replace Nb := hZ (Nb.out.kept g5.keeps); replace Da := hZ (Da.out.kept g5.keeps); replace Eb := hZ (Eb.out.kept g5.keeps); replace X3 := hZ (X3.out.kept g5.keeps)) | (have chk := g3; clear chk; go_at_call 87; refine (r2mul_any _ _ _ _ k l _ Na.out (WhlR.up Eb.out hm2) hs2.out).mono ?_; rintro e w4 ⟨V3, rfl, hV3, g4⟩; obtain ⟨b5, A5, n5, c5, rfl, X3, -⟩ := hV3.laid; clear hV3; replace R := hZ (R.out.grew g4); replace P := hZ (P.out.grew g4); replace Q := hZ (Q.out.grew g4); replace Na := hZ (Na.out.kept g4.keeps); replace Nb := hZ (Nb.out.kept g4.keeps); replace Da := hZ (Da.out.kept g4.keeps); replace Eb := hZ (Eb.out.kept g4.keeps)) | (go_at_call 88; refine (rup_any b4 A4 C4 n4 c4 m4 d4 E _ Eb.out).mono ?_; rintro e w3 ⟨rfl, g3⟩; replace R := hZ (R.out.grew g3); replace P := hZ (P.out.grew g3); replace Q := hZ (Q.out.grew g3); replace Na := hZ (Na.out.kept g3.keeps); replace Nb := hZ (Nb.out.kept g3.keeps); replace Da := hZ (Da.out.kept g3.keeps); replace Eb := hZ (Eb.out.kept g3.keeps)))
  replace G0 := hZ ((((((G0.out.trans gd.out).trans g3).trans g4).trans g5).trans g6).trans g7)
  clear gd g3 g4 g5 g6 g7 ZP ZQ
  refine gen_then ?_
  intro W9 hW9
  obtain ⟨q0, q1, q2, qK, -, -, qs, qG⟩ := store3 (o := 0) R0 R1 R2 hW9
  have GE := qG w (.inr (by omega)) G0.out
  have QK := hZ qK
  clear qK qG hW9 R0 R1 R2
  go_wp2_with fail
  exact bodyPost_ret (v := .tuple #[.agg #[.bool b7, .slice A7 n7 c7, .slice C7 m7 d7], .int .i64 0]) (by simp [results, Tryz.results81, go_sem, q0, q1, q2]) rfl ⟨_, rfl, X5.out.kept QK.out, GE⟩
section
variable {P : Program} {md : Region.Mode} {ops : Array Oper} {Q : Exit → Act → World → Prop}
theorem ready_mem {l : Array Bool} {i : Nat} (h : i ∈ Region.ready md ops l) : i < ops.size ∧ l.getD i true = false := by
 unfold Region.ready at h
 simp only [List.mem_filter, List.mem_range, Bool.and_eq_true, Bool.not_eq_true'] at h
 exact ⟨h.1, h.2.1⟩
theorem ready_nil {l : Array Bool} (hl : l.toList.count false = 0) : Region.ready md ops l = [] := by
 refine List.eq_nil_iff_forall_not_mem.2 fun i hi => ?_
 have h := (ready_mem hi).2
 rw [Array.getD_eq_getD_getElem?] at h
 cases hx : l[i]? with
 | none => rw [hx] at h; simp at h
 | some x =>
  rw [hx] at h
  simp only [Option.getD_some] at h
  subst h
  have : false ∈ l.toList := by simpa using Array.mem_of_getElem? hx
  exact absurd this (List.count_eq_zero.1 hl)
theorem wpAny_inv (I : Array Bool → Act → World → Prop) (h0 : ∀ l a w, I l a w → Region.ready md ops l = [] → Q .normal a w)
  (h1 : ∀ l a w i, I l a w → i ∈ Region.ready md ops l → wpOp P ops Q i (fun a' w' => I (l.setIfInBounds i true) a' w') a w) :
  ∀ (fuel : Nat) (l : Array Bool) (a : Act) (w : World), l.toList.count false ≤ fuel → I l a w → wpAny P md ops Q fuel l a w
 | 0, l, a, w, hf, hI => ⟨ready_nil (by omega), h0 l a w hI (ready_nil (by omega))⟩
 | fuel + 1, l, a, w, hf, hI => by
  refine ⟨h0 l a w hI, fun i hi => ?_⟩
  refine wpOp_mono (fun a' w' h => wpAny_inv I h0 h1 fuel _ a' w' ?_ h) (h1 l a w i hI hi)
  have hg := (ready_mem hi).2
  rw [Array.getD_eq_getD_getElem?] at hg
  cases hx : l[i]? with
  | none => rw [hx] at hg; simp at hg
  | some x =>
   rw [hx] at hg
   simp only [Option.getD_some] at hg
   subst hg
   obtain ⟨hlt, he⟩ := Array.getElem?_eq_some_iff.1 hx
   rw [Array.toList_setIfInBounds, List.count_set (by simpa using hlt)]
   have he2 : l.toList[i]'(by simpa using hlt) = false := by simpa using he
   have hpos : 0 < l.toList.count false := List.count_pos_iff.2 (by simpa using Array.mem_of_getElem? hx)
   rw [he2, if_pos (by rfl), if_neg (by decide)]
   exact Nat.le_trans (Nat.le_of_eq (Nat.add_zero _)) (Nat.le_trans (Nat.sub_le_sub_right hf 1) (by omega))
theorem wp_region_inv {id : Nat} {a : Act} {w : World} (hm : P.follows .mixedOrders = true) (I : Array Bool → Act → World → Prop)
  (h0 : ∀ l a w, I l a w → Region.ready .any ops l = [] → Q .normal a w)
  (h1 : ∀ l a w i, I l a w → i ∈ Region.ready .any ops l → wpOp P ops Q i (fun a' w' => I (l.setIfInBounds i true) a' w') a w)
  (hI : I (Array.replicate ops.size false) a w.drew) : (Code.region id ops true).wp P Q a w :=
 wp_region_any hm (wpAny_inv I h0 h1 ops.size _ a _ (by rw [Array.toList_replicate]; exact Nat.le_trans List.count_le_length (by simp)) hI)
def Region.inRow (md : Region.Mode) (ops : Array Oper) : Bool := (List.range ops.size).all fun i => ((ops[i]?).map (·.after.all fun e => !Region.binds md e || decide (e.on < i))).getD true
theorem all_listed (hw : Region.inRow md ops = true) {l : Array Bool} (h : Region.ready md ops l = []) : ∀ i, i < ops.size → l.getD i true = true := by
 intro i
 induction i using Nat.strongRecOn with
 | _ i ih =>
  intro hi
  refine Decidable.byContradiction fun hne => ?_
  have hf : l.getD i true = false := by simpa using hne
  have hmem : i ∈ Region.ready md ops l := by
   refine mem_ready.2 ⟨hf, ops[i], Array.getElem?_eq_getElem hi, fun e he hb => ?_⟩
   have h1 := List.all_eq_true.1 hw i (List.mem_range.2 hi)
   rw [Array.getElem?_eq_getElem hi] at h1
   simp only [Option.map_some, Option.getD_some, Array.all_eq_true_iff_forall_mem, Bool.or_eq_true, Bool.not_eq_true', decide_eq_true_eq] at h1
   have h2 := (h1 e he).resolve_left (by rw [hb]; simp)
   have h3 := ih e.on h2 (by omega)
   by_cases hs : e.on < l.size
   ·simpa [Array.getD_eq_getD_getElem?, hs] using h3
   ·exfalso
    have hs2 : ¬ i < l.size := by omega
    simp [Array.getD_eq_getD_getElem?, hs2] at hf
  rw [h] at hmem
  cases hmem
theorem ready_pre {l : Array Bool} {i : Nat} (h : i ∈ Region.ready md ops l) (j : Nat) (hj : ((ops[i]?).map (·.after.any fun e => Region.binds md e && e.on == j)).getD false = true) : l.getD j false = true := by
 obtain ⟨-, o, ho, hall⟩ := mem_ready.1 h
 rw [ho] at hj
 simp only [Option.map_some, Option.getD_some, Array.any_eq_true] at hj
 obtain ⟨k, hk, h2⟩ := hj
 simp only [Bool.and_eq_true, beq_iff_eq] at h2
 rw [← h2.2]
 exact hall _ (Array.getElem_mem hk) h2.1
theorem wpOp_inv {I : Act → World → Prop} {i : Nat} {o : Oper} {a : Act} {w : World} (ho : ops[i]? = some o) (hg : o.guard = none) (h : ∀ K : Act → World → Prop, Hid (∀ a w, I a w → K a w) → o.wp P a w K Q) : wpOp P ops Q i I a w := by
 unfold wpOp
 simp only [ho]
 have hw : Region.wanted o (yielded ops a.tmps) = true := by unfold Region.wanted; rw [hg]
 rw [hw]
 exact .inl (h _ (hZ fun _ _ h => h))
theorem wp_region_inv3 {id : Nat} {a : Act} {w : World} (hm : P.follows .mixedOrders = true) (I : Act → Array Bool → Act → World → Prop)
  (h0 : ∀ a0, Hid (a0 = a) → ∀ l a' w, I a0 l a' w → Region.ready .any ops l = [] → Q .normal a' w)
  (h1 : ∀ a0, Hid (a0 = a) → ∀ l a' w i, I a0 l a' w → i ∈ Region.ready .any ops l → wpOp P ops Q i (fun a' w' => I a0 (l.setIfInBounds i true) a' w') a' w)
  (hI : ∀ a0, Hid (a0 = a) → I a0 (Array.replicate ops.size false) a0 w.drew) : (Code.region id ops true).wp P Q a w :=
 wp_region_inv hm (I a) (h0 a (hZ rfl)) (h1 a (hZ rfl)) (hI a (hZ rfl))
end
def Slot (a : Act) (d : Nat) (v : Value) : Prop := a.tmps[d]? = some v
theorem Slot.eval {a : Act} {d : Nat} {v : Value} (h : Slot a d v) : a.eval (.tmp d) = v := by
 unfold Slot at h
 show a.tmps.getD d undef = v
 rw [Array.getD_eq_getD_getElem?, h]; rfl
theorem Slot.lt {a : Act} {d : Nat} {v : Value} (h : Slot a d v) : d < a.tmps.size := (Array.getElem?_eq_some_iff.1 h).1
theorem Slot.put {a : Act} {d e : Nat} {v u : Value} (h : Slot a d v) (ne : e ≠ d) : Slot (a.put (some e) u) d v := by
 show (a.tmps.setIfInBounds e u)[d]? = some v
 rw [Array.getElem?_setIfInBounds_ne ne]; exact h
theorem Slot.new {a : Act} {d : Nat} {v : Value} (h : d < a.tmps.size) : Slot (a.put (some d) v) d v := by
 show (a.tmps.setIfInBounds d v)[d]? = some v
 rw [Array.getElem?_setIfInBounds_self_of_lt h]
def Alike (a0 a : Act) (D : List Nat) : Prop := a.tmps.size = a0.tmps.size ∧ (∀ t, t ∉ D → a.tmps[t]? = a0.tmps[t]?) ∧ a.defers = a0.defers
theorem Alike.refl (a : Act) (D : List Nat) : Alike a a D := ⟨rfl, fun _ _ => rfl, rfl⟩
theorem Alike.put {a0 a : Act} {D : List Nat} (h : Alike a0 a D) {d : Nat} (hd : d ∈ D) (v : Value) : Alike a0 (a.put (some d) v) D := by
 obtain ⟨h1, h2, h3⟩ := h
 refine ⟨by show (a.tmps.setIfInBounds d v).size = _; rw [Array.size_setIfInBounds]; exact h1, fun t ht => ?_, h3⟩
 show (a.tmps.setIfInBounds d v)[t]? = _
 rw [Array.getElem?_setIfInBounds_ne (show d ≠ t from fun e => ht (by rw [← e]; exact hd))]
 exact h2 t ht
theorem Alike.slot {a0 a : Act} {D : List Nat} (h : Alike a0 a D) {t : Nat} {v : Value} (hs : Slot a0 t v) (ht : t ∉ D) : Slot a t v := (h.2.1 t ht).trans hs
theorem Alike.eq {a : Act} : ∀ (L : List (Nat × Value)) (a0 : Act), Alike a0 a (L.map Prod.fst) → (∀ p ∈ L, Slot a p.1 p.2) → a = L.foldl (fun x p => x.put (some p.1) p.2) a0
 | [], a0, h, _ => by
  obtain ⟨h1, h2, h3⟩ := h
  obtain ⟨t, d⟩ := a
  obtain ⟨t0, d0⟩ := a0
  have ht : t = t0 := Array.ext_getElem? fun i => h2 i (by simp)
  simp only at h3
  rw [List.foldl_nil, ht, h3]
 | (d, v) :: L, a0, h, hs => by
  refine Alike.eq L (a0.put (some d) v) ?_ (fun p hp => hs p (List.mem_cons_of_mem _ hp))
  obtain ⟨h1, h2, h3⟩ := h
  have hd := hs (d, v) List.mem_cons_self
  refine ⟨by show _ = (a0.tmps.setIfInBounds d v).size; rw [Array.size_setIfInBounds]; exact h1, fun t ht => ?_, h3⟩
  show _ = (a0.tmps.setIfInBounds d v)[t]?
  by_cases e : t = d
  ·subst e
   rw [Array.getElem?_setIfInBounds_self_of_lt (by rw [← h1]; exact hd.lt)]
   exact hd
  ·rw [Array.getElem?_setIfInBounds_ne (fun k => e k.symm)]
   exact h2 t (by simp only [List.map_cons, List.mem_cons]; rintro (h | h); exact e h; exact ht h)
theorem Grew.store6 {w0 w : World} {e : Nat} {u0 u1 u2 u3 u4 u5 : Value} (g : Grew w0 w) (h : w0.heap.size ≤ e) : Grew w0 (set6 w e u0 u1 u2 u3 u4 u5) :=
 (((((g.setCell h _).setCell h _).setCell h _).setCell h _).setCell h _).setCell h _
def Loc (a : Act) (d : Nat) (w0 w : World) (ca cs : Bool) (e : Nat) (S : World → Value → Prop) : Prop :=
 Hid ((cs = true → ca = true) ∧ (ca = true → Slot a d (.pointer (some ⟨e, 0, none⟩)) ∧ w0.heap.size ≤ e ∧ e < w.heap.size ∧ (cs = false → Res6 w e) ∧ (cs = true → At6 w e S)))
theorem Loc.zero {a : Act} {d : Nat} {w0 w : World} {e : Nat} {S : World → Value → Prop} : Loc a d w0 w false false e S := hZ ⟨fun h => by simp at h, fun h => by simp at h⟩
theorem Loc.put {a : Act} {d : Nat} {w0 w : World} {ca cs : Bool} {e : Nat} {S : World → Value → Prop} (h : Loc a d w0 w ca cs e S) {d' : Nat} {v : Value} (ne : d' ≠ d) : Loc (a.put (some d') v) d w0 w ca cs e S :=
 hZ ⟨h.1, fun hc => ⟨(h.2 hc).1.put ne, (h.2 hc).2⟩⟩
theorem Loc.grew {a : Act} {d : Nat} {w0 w w' : World} {ca cs : Bool} {e : Nat} {S : World → Value → Prop} (h : Loc a d w0 w ca cs e S) (hS : Rd S) (g : Grew w w') : Loc a d w0 w' ca cs e S := by
 obtain ⟨h1, h2⟩ := h
 refine hZ ⟨h1, fun hc => ?_⟩
 obtain ⟨e1, e2, e3, e4, e5⟩ := h2 hc
 exact ⟨e1, e2, Nat.lt_of_lt_of_le e3 g.size, fun k => (e4 k).grew g, fun k => (e5 k).grew hS g⟩
theorem Loc.new {a : Act} {d : Nat} {w0 w : World} {cs : Bool} {e : Nat} {t : TypeId} {S : World → Value → Prop} (h : Loc a d w0 w false cs e S) (hle : w0.heap.size ≤ w.heap.size) (hd : d < a.tmps.size) :
  Loc (a.put (some d) (.pointer (some ⟨w.heap.size, 0, none⟩))) d w0 (w.alloc (.cells #[.bool false, .slice none 0 0, .slice none 0 0, .bool false, .slice none 0 0, .slice none 0 0] t)) true cs w.heap.size S := by
 refine hZ ⟨fun _ => rfl, fun _ => ⟨Slot.new hd, hle, by simp, fun _ => res6_at w t, fun hc => ?_⟩⟩
 have := h.1 hc
 simp at this
theorem Loc.fresh {a : Act} {d : Nat} {w0 w : World} {e : Nat} {S : World → Value → Prop} (h : Loc a d w0 w true false e S) : Slot a d (.pointer (some ⟨e, 0, none⟩)) ∧ w0.heap.size ≤ e ∧ Res6 w e := by
 obtain ⟨-, h2⟩ := h
 obtain ⟨e1, e2, -, e4, -⟩ := h2 rfl
 exact ⟨e1, e2, e4 rfl⟩
theorem Loc.done {a : Act} {d : Nat} {w0 w : World} {e : Nat} {S : World → Value → Prop} (h : Loc a d w0 w true true e S) : Slot a d (.pointer (some ⟨e, 0, none⟩)) ∧ w0.heap.size ≤ e ∧ At6 w e S := by
 obtain ⟨-, h2⟩ := h
 obtain ⟨e1, e2, -, -, e5⟩ := h2 rfl
 exact ⟨e1, e2, e5 rfl⟩
theorem Loc.ne {a : Act} {d : Nat} {w0 w : World} {ca cs : Bool} {e : Nat} {S : World → Value → Prop} (h : Loc a d w0 w ca cs e S) (hc : ca = true) : e ≠ w.heap.size := by
 obtain ⟨-, -, h3, -⟩ := h.2 hc
 omega
theorem Loc.stored {x : Act} {d0 : Nat} {w0 w : World} {b b' : Bool} {A C A' C' : Option Addr} {n c m d n' c' m' d' e : Nat} {S : World → Value → Prop} (hS : Rd S) (hs : Slot x d0 (.pointer (some ⟨e, 0, none⟩))) (hle : w0.heap.size ≤ e) (r : Res6 w e)
  (hV : S w (.agg #[.bool b, .slice A n c, .slice C m d, .bool b', .slice A' n' c', .slice C' m' d'])) :
  Loc x d0 w0 (set6 w e (.bool b) (.slice A n c) (.slice C m d) (.bool b') (.slice A' n' c') (.slice C' m' d')) true true e S :=
 hZ ⟨fun _ => rfl, fun _ => ⟨hs, hle, by simpa using r.lt, fun h => by simp at h, fun _ => At6.of_store hS r (Keeps.refl _) hV⟩⟩
theorem Loc.far {a : Act} {d : Nat} {w0 w : World} {ca cs : Bool} {e h : Nat} {u0 u1 u2 u3 u4 u5 : Value} {S : World → Value → Prop} (l : Loc a d w0 w ca cs e S) (hS : Rd S) (r : Res6 w h) (ne : e ≠ h) :
  Loc a d w0 (set6 w h u0 u1 u2 u3 u4 u5) ca cs e S := by
 obtain ⟨h1, h2⟩ := l
 refine hZ ⟨h1, fun hc => ?_⟩
 obtain ⟨e1, e2, e3, e4, e5⟩ := h2 hc
 exact ⟨e1, e2, by simpa using e3, fun k => (e4 k).store_far r ne, fun k => (e5 k).store_far hS r ne⟩
abbrev set3 (w : World) (r : Nat) (u0 u1 u2 : Value) : World := ((w.setCell ⟨r, 0, none⟩ u0).setCell ⟨r, 1, none⟩ u1).setCell ⟨r, 2, none⟩ u2
theorem Grew.store3 {w0 w : World} {e : Nat} {u0 u1 u2 : Value} (g : Grew w0 w) (h : w0.heap.size ≤ e) : Grew w0 (set3 w e u0 u1 u2) := ((g.setCell h _).setCell h _).setCell h _
theorem res3_at (w : World) (t : TypeId) : Res3 (w.alloc (.cells #[.bool false, .slice none 0 0, .slice none 0 0] t)) w.heap.size 0 (.bool false) (.slice none 0 0) (.slice none 0 0) :=
 ⟨by simp [go_sem], by simp [go_sem], by simp [go_sem], by simp [go_sem], by simp [go_sem], by simp [go_sem], by simp⟩
def Loc3 (a : Act) (d : Nat) (w0 w : World) (ca cs : Bool) (e : Nat) (S : World → Value → Prop) : Prop :=
 Hid ((cs = true → ca = true) ∧ (ca = true → Slot a d (.pointer (some ⟨e, 0, none⟩)) ∧ w0.heap.size ≤ e ∧ e < w.heap.size ∧ (cs = false → Res3 w e 0 (.bool false) (.slice none 0 0) (.slice none 0 0)) ∧ (cs = true → At3 w e S)))
theorem Loc3.zero {a : Act} {d : Nat} {w0 w : World} {e : Nat} {S : World → Value → Prop} : Loc3 a d w0 w false false e S := hZ ⟨fun h => by simp at h, fun h => by simp at h⟩
theorem Loc3.put {a : Act} {d : Nat} {w0 w : World} {ca cs : Bool} {e : Nat} {S : World → Value → Prop} (h : Loc3 a d w0 w ca cs e S) {d' : Nat} {v : Value} (ne : d' ≠ d) : Loc3 (a.put (some d') v) d w0 w ca cs e S :=
 hZ ⟨h.1, fun hc => ⟨(h.2 hc).1.put ne, (h.2 hc).2⟩⟩
theorem Loc3.grew {a : Act} {d : Nat} {w0 w w' : World} {ca cs : Bool} {e : Nat} {S : World → Value → Prop} (h : Loc3 a d w0 w ca cs e S) (hS : Rd S) (g : Grew w w') : Loc3 a d w0 w' ca cs e S := by
 obtain ⟨h1, h2⟩ := h
 refine hZ ⟨h1, fun hc => ?_⟩
 obtain ⟨e1, e2, e3, e4, e5⟩ := h2 hc
 exact ⟨e1, e2, Nat.lt_of_lt_of_le e3 g.size, fun k => (e4 k).grew g, fun k => (e5 k).grew hS g⟩
theorem Loc3.new {a : Act} {d : Nat} {w0 w : World} {cs : Bool} {e : Nat} {t : TypeId} {S : World → Value → Prop} (h : Loc3 a d w0 w false cs e S) (hle : w0.heap.size ≤ w.heap.size) (hd : d < a.tmps.size) :
  Loc3 (a.put (some d) (.pointer (some ⟨w.heap.size, 0, none⟩))) d w0 (w.alloc (.cells #[.bool false, .slice none 0 0, .slice none 0 0] t)) true cs w.heap.size S := by
 refine hZ ⟨fun _ => rfl, fun _ => ⟨Slot.new hd, hle, by simp, fun _ => res3_at w t, fun hc => ?_⟩⟩
 have := h.1 hc
 simp at this
theorem Loc3.fresh {a : Act} {d : Nat} {w0 w : World} {e : Nat} {S : World → Value → Prop} (h : Loc3 a d w0 w true false e S) : Slot a d (.pointer (some ⟨e, 0, none⟩)) ∧ w0.heap.size ≤ e ∧ Res3 w e 0 (.bool false) (.slice none 0 0) (.slice none 0 0) := by
 obtain ⟨-, h2⟩ := h
 obtain ⟨e1, e2, -, e4, -⟩ := h2 rfl
 exact ⟨e1, e2, e4 rfl⟩
theorem Loc3.done {a : Act} {d : Nat} {w0 w : World} {e : Nat} {S : World → Value → Prop} (h : Loc3 a d w0 w true true e S) : Slot a d (.pointer (some ⟨e, 0, none⟩)) ∧ w0.heap.size ≤ e ∧ At3 w e S := by
 obtain ⟨-, h2⟩ := h
 obtain ⟨e1, e2, -, -, e5⟩ := h2 rfl
 exact ⟨e1, e2, e5 rfl⟩
theorem Loc3.ne {a : Act} {d : Nat} {w0 w : World} {ca cs : Bool} {e : Nat} {S : World → Value → Prop} (h : Loc3 a d w0 w ca cs e S) (hc : ca = true) : e ≠ w.heap.size := by
 obtain ⟨-, -, h3, -⟩ := h.2 hc
 omega
theorem Loc3.stored {x : Act} {d0 : Nat} {w0 w : World} {b : Bool} {A C : Option Addr} {n c m d e : Nat} {S : World → Value → Prop} (hS : Rd S) (hs : Slot x d0 (.pointer (some ⟨e, 0, none⟩))) (hle : w0.heap.size ≤ e) (r : Res3 w e 0 (.bool false) (.slice none 0 0) (.slice none 0 0))
  (hV : S w (.agg #[.bool b, .slice A n c, .slice C m d])) :
  Loc3 x d0 w0 (set3 w e (.bool b) (.slice A n c) (.slice C m d)) true true e S :=
 hZ ⟨fun _ => rfl, fun _ => ⟨hs, hle, by simpa using r.lt, fun h => by simp at h, fun _ => At3.of_store hS r (Keeps.refl _) hV⟩⟩
theorem Loc3.far {a : Act} {d : Nat} {w0 w : World} {ca cs : Bool} {e h : Nat} {u0 u1 u2 : Value} {S : World → Value → Prop} (l : Loc3 a d w0 w ca cs e S) (hS : Rd S) (r : Res3 w h 0 (.bool false) (.slice none 0 0) (.slice none 0 0)) (ne : e ≠ h) :
  Loc3 a d w0 (set3 w h u0 u1 u2) ca cs e S := by
 obtain ⟨h1, h2⟩ := l
 refine hZ ⟨h1, fun hc => ?_⟩
 obtain ⟨e1, e2, e3, e4, e5⟩ := h2 hc
 exact ⟨e1, e2, by simpa using e3, fun k => (e4 k).store_far r ne, fun k => (e5 k).store_far hS r ne⟩
def Got (a : Act) (d : Nat) (w : World) (c : Bool) (S : World → Value → Prop) : Prop := Hid (c = true → ∃ v, Slot a d v ∧ S w v)
theorem Got.put {a : Act} {d : Nat} {w : World} {c : Bool} {S : World → Value → Prop} (h : Got a d w c S) {d' : Nat} {v : Value} (ne : d' ≠ d) : Got (a.put (some d') v) d w c S :=
 hZ fun hc => by obtain ⟨v, h1, h2⟩ := h hc; exact ⟨v, h1.put ne, h2⟩
theorem Got.kept {a : Act} {d : Nat} {w w' : World} {c : Bool} {S : World → Value → Prop} (h : Got a d w c S) (hS : Rd S) (k : Keeps w w') : Got a d w' c S :=
 hZ fun hc => by obtain ⟨v, h1, h2⟩ := h hc; exact ⟨v, h1, hS _ _ _ h2 k⟩
theorem Got.new {a : Act} {d : Nat} {w : World} {c : Bool} {S : World → Value → Prop} {v : Value} (hd : d < a.tmps.size) (h : S w v) : Got (a.put (some d) v) d w c S :=
 hZ fun _ => ⟨v, Slot.new hd, h⟩
theorem Got.zero {a : Act} {d : Nat} {w : World} {S : World → Value → Prop} : Got a d w false S := hZ fun h => by simp at h
def Has (a : Act) (d : Nat) (c : Bool) (v : Value) : Prop := Hid (c = true → Slot a d v)
theorem Has.put {a : Act} {d : Nat} {c : Bool} {v : Value} (h : Has a d c v) {d' : Nat} {u : Value} (ne : d' ≠ d) : Has (a.put (some d') u) d c v := hZ fun hc => (h hc).put ne
theorem Has.new {a : Act} {d : Nat} {c : Bool} {v : Value} (hd : d < a.tmps.size) : Has (a.put (some d) v) d c v := hZ fun _ => Slot.new hd
theorem Has.zero {a : Act} {d : Nat} {v : Value} : Has a d false v := hZ fun h => by simp at h
def Inv4 (w0 : World) (p0 p1 p3 p4 p6 p7 p9 p10 : Value) (S2 S5 S8 S11 : World → Value → Prop) (a0 : Act) (l : Array Bool) (a : Act) (w : World) : Prop :=
 ∃ (c0 c1 c2 c3 c4 c5 c6 c7 c8 c9 c10 c11 c12 c13 c14 c15 c16 c17 c18 c19 : Bool) (e12 e13 e14 e15 : Nat), l = #[c0, c1, c2, c3, c4, c5, c6, c7, c8, c9, c10, c11, c12, c13, c14, c15, c16, c17, c18, c19] ∧ Alike a0 a [89, 90, 91, 92, 93, 94, 95, 96, 97, 98, 99, 100, 5, 6, 7, 8] ∧ Hid (Grew w0 w) ∧
  Has a 89 c0 p0 ∧ Has a 90 c1 p1 ∧ Got a 91 w c2 S2 ∧ Has a 92 c3 p3 ∧ Has a 93 c4 p4 ∧ Got a 94 w c5 S5 ∧ Has a 95 c6 p6 ∧ Has a 96 c7 p7 ∧ Got a 97 w c8 S8 ∧ Has a 98 c9 p9 ∧ Has a 99 c10 p10 ∧ Got a 100 w c11 S11 ∧ Loc a 5 w0 w c12 c16 e12 S2 ∧ Loc a 6 w0 w c13 c17 e13 S5 ∧ Loc a 7 w0 w c14 c18 e14 S8 ∧ Loc a 8 w0 w c15 c19 e15 S11 ∧ Hid (c12 = true → c13 = true → e12 ≠ e13) ∧ Hid (c12 = true → c14 = true → e12 ≠ e14) ∧ Hid (c12 = true → c15 = true → e12 ≠ e15) ∧ Hid (c13 = true → c14 = true → e13 ≠ e14) ∧ Hid (c13 = true → c15 = true → e13 ≠ e15) ∧ Hid (c14 = true → c15 = true → e14 ≠ e15)
def Inv6 (w0 : World) (p0 p1 p2 p4 p5 p6 : Value) (S3 S7 : World → Value → Prop) (a0 : Act) (l : Array Bool) (a : Act) (w : World) : Prop :=
 ∃ (c0 c1 c2 c3 c4 c5 c6 c7 c8 c9 c10 c11 : Bool) (e8 e9 : Nat), l = #[c0, c1, c2, c3, c4, c5, c6, c7, c8, c9, c10, c11] ∧ Alike a0 a [101, 102, 103, 104, 105, 106, 107, 108, 9, 10] ∧ Hid (Grew w0 w) ∧
  Has a 101 c0 p0 ∧ Has a 102 c1 p1 ∧ Has a 103 c2 p2 ∧ Got a 104 w c3 S3 ∧ Has a 105 c4 p4 ∧ Has a 106 c5 p5 ∧ Has a 107 c6 p6 ∧ Got a 108 w c7 S7 ∧ Loc3 a 9 w0 w c8 c10 e8 S3 ∧ Loc3 a 10 w0 w c9 c11 e9 S7 ∧ Hid (c8 = true → c9 = true → e8 ≠ e9)
def Inv8 (w0 : World) (p0 p1 p2 : Value) (S3 S4 S5 S6 S7 S10 : World → Value → Prop) (a0 : Act) (l : Array Bool) (a : Act) (w : World) : Prop :=
 ∃ (c0 c1 c2 c3 c4 c5 c6 c7 c8 c9 c10 : Bool) (e8 : Nat), l = #[c0, c1, c2, c3, c4, c5, c6, c7, c8, c9, c10] ∧ Alike a0 a [114, 115, 116, 117, 118, 113, 119, 120, 11, 12] ∧ Hid (Grew w0 w) ∧
  Has a 114 c0 p0 ∧ Has a 115 c1 p1 ∧ Has a 116 c2 p2 ∧ Got a 117 w c3 S3 ∧ Got a 118 w c4 S4 ∧ Got a 113 w c5 S5 ∧ Got a 119 w c6 S6 ∧ Got a 120 w c7 S7 ∧ Loc3 a 11 w0 w c8 c9 e8 S6 ∧ Got a 12 w c10 S10
end Go.Proofs.YtmommicmblfibaaGreat
