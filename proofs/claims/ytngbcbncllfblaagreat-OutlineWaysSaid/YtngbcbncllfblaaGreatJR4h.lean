/- r04.Add. Condition: what comes in reads. r04.Cmp. Condition: what comes in reads. r04.Sign, Half. Condition: what comes in reads. r04.Neg, r04.Sub. Condition: what comes in reads. -/
import Derived.Test.YtngbcbncllfblaaGreatJR4d
namespace Go.Proofs.YtngbcbncllfblaaGreat
open Go.RowKit

theorem WhlR.up {w : World} {C : Option Addr} {m d D k : Nat} (h : Num 4294967296 .u32 w (.slice C m d) D m) (hm : m ≤ k) : WhlR w (.agg #[.bool false, .slice C m d]) (D : Int) k :=
  ⟨_, _, _, _, rfl, h, by simp [sgn], hm⟩

end Go.Proofs.YtngbcbncllfblaaGreat
namespace Go.Proofs.YtngbcbncllfblaaGreat
open Go.RowKit

set_option maxRecDepth 100000 in
set_option maxHeartbeats 4000000 in
theorem rfcmp_any (Va Vb : Value) (p q : Rat) (k l : Nat) (w : World) (ha : FracR w Va p k) (hb : FracR w Vb q l) (hk : 1 ≤ k ∧ 1 ≤ l) (hs : k < 1073741824 ∧ l < 1073741824) :
    Calls Tryz.prog 123 #[Va, Vb] w fun e w' => e = .returned (.int .i64 (cmpQ p q)) ∧ Grew w w' := by
  obtain ⟨b1, A1, n1, c1, C1, m1, d1, rfl, Fa⟩ := ha.laid
  obtain ⟨b2, A2, n2, c2, C2, m2, d2, rfl, Fb⟩ := hb.laid
  clear ha hb
  go_enter Tryz.func123, Tryz.ntmps123
  go_upto_region 1 with fail
  go_cut [6] (fun s6 wx => ∃ V1 b3 A3 n3 c3 C3 m3 d3 b4 A4 n4 c4 C4 m4 d4, s6 = V1 ∧ FracP wx (.agg #[.bool b3, .slice A3 n3 c3, .slice C3 m3 d3]) p k ∧ FracP wx (.agg #[.bool b4, .slice A4 n4 c4, .slice C4 m4 d4]) q l ∧ Grew w wx ∧ Box3 wx w.heap.size 0 (.bool b3) (.slice A3 n3 c3) (.slice C3 m3 d3) ∧ Box3 wx (w.heap.size + 1) 0 (.bool b4) (.slice A4 n4 c4) (.slice C4 m4 d4))
  refine gen_wp ?_
  intro W0 hW0
  have G0 : Grew w W0 := by rw [hW0]; exact ((Grew.refl w).alloc _).alloc _
  have P : Box3 W0 (w.heap.size) 0 (.bool b1) (.slice A1 n1 c1) (.slice C1 m1 d1) := by rw [hW0]; exact ⟨by simp [go_sem], by simp [go_sem], by simp [go_sem]⟩
  replace P := Lib.hid P
  have Pr : Res3 W0 (w.heap.size) 0 (.bool b1) (.slice A1 n1 c1) (.slice C1 m1 d1) := by rw [hW0]; exact ⟨by simp [go_sem], by simp [go_sem], by simp [go_sem], by simp [go_sem], by simp [go_sem], by simp [go_sem], by simp <;> omega⟩
  replace Pr := Lib.hid Pr
  have Q : Box3 W0 (w.heap.size + 1) 0 (.bool b2) (.slice A2 n2 c2) (.slice C2 m2 d2) := by rw [hW0]; exact ⟨by simp [go_sem], by simp [go_sem], by simp [go_sem]⟩
  replace Q := Lib.hid Q
  have Qr : Res3 W0 (w.heap.size + 1) 0 (.bool b2) (.slice A2 n2 c2) (.slice C2 m2 d2) := by rw [hW0]; exact ⟨by simp [go_sem], by simp [go_sem], by simp [go_sem], by simp [go_sem], by simp [go_sem], by simp [go_sem], by simp <;> omega⟩
  replace Qr := Lib.hid Qr
  have z0 : w.heap.size < W0.heap.size := by rw [hW0]; simp <;> omega
  replace z0 := Lib.hid z0
  have z1 : w.heap.size + 1 < W0.heap.size := by rw [hW0]; simp <;> omega
  replace z1 := Lib.hid z1
  clear hW0
  replace Fa := Lib.hid (Fa.out.kept G0.keeps)
  replace Fb := Lib.hid (Fb.out.kept G0.keeps)
  replace G0 := Lib.hid G0
  · skip
    have hk1 := Lib.hid hk
    have hs1 := Lib.hid (show k < 274877906944 ∧ l < 274877906944 by omega)
    have gd : Grew W0 W0.drew := (Grew.refl W0).drew
    replace Pr := Lib.hid (Pr.out.grew gd)
    replace Qr := Lib.hid (Qr.out.grew gd)
    replace P := Lib.hid (P.out.grew gd)
    replace Q := Lib.hid (Q.out.grew gd)
    replace z0 := Lib.hid (lt_grew z0.out gd)
    replace z1 := Lib.hid (lt_grew z1.out gd)
    replace Fa := Lib.hid (Fa.out.kept gd.keeps)
    replace Fb := Lib.hid (Fb.out.kept gd.keeps)
    obtain ⟨P0, P1, P2⟩ := P.out
    obtain ⟨Q0, Q1, Q2⟩ := Q.out
    go_region_law (first | ((try go_simp); go_at_call 167; with_reducible refine (rworth_any _ p k _ Fa.out hk1.out.1 hs1.out.1).mono ?_; rintro e w1 ⟨V1, he1, hV1, g1⟩; obtain ⟨b3, A3, n3, c3, C3, m3, d3, hE1, X1⟩ := hV1.laid; rw [he1, hE1]; clear hV1 he1 hE1; replace Pr := Lib.hid (Pr.out.grew g1); replace Qr := Lib.hid (Qr.out.grew g1); replace P := Lib.hid (P.out.grew g1); replace Q := Lib.hid (Q.out.grew g1); replace z0 := Lib.hid (lt_grew z0.out g1); replace z1 := Lib.hid (lt_grew z1.out g1); replace Fa := Lib.hid (Fa.out.kept g1.keeps); replace Fb := Lib.hid (Fb.out.kept g1.keeps); have P0 := P.out.p0; have P1 := P.out.p1; have P2 := P.out.p2; have Q0 := Q.out.p0; have Q1 := Q.out.p1; have Q2 := Q.out.p2) | (go_loud ((try go_simp); go_at_call 167; with_reducible refine (rworth_any _ q l _ Fb.out hk1.out.2 hs1.out.2).mono ?_; rintro e w2 ⟨V2, he2, hV2, g2⟩; obtain ⟨b4, A4, n4, c4, C4, m4, d4, hE2, X2⟩ := hV2.laid; rw [he2, hE2]; clear hV2 he2 hE2; replace Pr := Lib.hid (Pr.out.grew g2); replace Qr := Lib.hid (Qr.out.grew g2); replace P := Lib.hid (P.out.grew g2); replace Q := Lib.hid (Q.out.grew g2); replace z0 := Lib.hid (lt_grew z0.out g2); replace z1 := Lib.hid (lt_grew z1.out g2); replace Fa := Lib.hid (Fa.out.kept g2.keeps); replace Fb := Lib.hid (Fb.out.kept g2.keeps); replace X1 := Lib.hid (X1.out.kept g2.keeps); have P0 := P.out.p0; have P1 := P.out.p1; have P2 := P.out.p2; have Q0 := Q.out.p0; have Q1 := Q.out.p1; have Q2 := Q.out.p2; have Prf0 := Pr.out.f0; have Prf1 := Pr.out.f1; have Prf2 := Pr.out.f2; have Qrf0 := Qr.out.f0; have Qrf1 := Qr.out.f1; have Qrf2 := Qr.out.f2)))
    all_goals
      have GC := Lib.hid (((G0.out.trans gd).trans g1).trans g2)
      clear G0 gd g1 g2
      refine gen_then ?_
      intro W9 hW9
      obtain ⟨BP, BQ, K9, F9, GG, sz⟩ := store33 Pr.out Qr.out (by omega) hW9
      have G9 := GG w (by omega) (by omega) GC.out
      clear hW9 F9 GG sz
      go_wp2_with fail
      go_meet
      exact ⟨_, b3, A3, n3, c3, C3, m3, d3, b4, A4, n4, c4, C4, m4, d4, rfl, X1.out.kept K9, X2.out.kept K9, G9, BP, BQ⟩
  · obtain ⟨V1, b3, A3, n3, c3, C3, m3, d3, b4, A4, n4, c4, C4, m4, d4, rfl, X1, X2, G9, BP, BQ⟩ := hcut
    obtain ⟨N, D, E1, hD, Na, Da, hm⟩ := X1.parts
    obtain ⟨M, E, E2, hE, Nb, Eb, hm2⟩ := X2.parts
    have P := Lib.hid BP
    have Q := Lib.hid BQ
    have G0 := Lib.hid G9
    have E3 : cmpZ (sgn b3 N * (E : Int)) (sgn b4 M * (D : Int)) = cmpQ p q := by rw [← E1.out, ← E2.out]; exact (cmpQ_mkRat _ _ _ _ hD hE).symm
    replace E3 := Lib.hid E3
    have lD := Nat.le_trans (Da.out.len_le (by omega)) hm
    have lE := Nat.le_trans (Eb.out.len_le (by omega)) hm2
    have hz1 := Lib.hid (show len 4294967296 (sgn b3 N * (E : Int)).natAbs ≤ k + l by
      rw [Int.natAbs_mul]; exact len_mul (B := 4294967296) (by omega) _ _ k l Na.out.len lE)
    have hz2 := Lib.hid (show len 4294967296 (sgn b4 M * (D : Int)).natAbs ≤ k + l by
      rw [Int.natAbs_mul, Nat.add_comm k l]; exact len_mul (B := 4294967296) (by omega) _ _ l k Nb.out.len lD)
    have hs2 := Lib.hid (show k < 34359738368 ∧ l < 34359738368 by omega)
    have hs5 := Lib.hid (show l < 34359738368 ∧ k < 34359738368 by omega)
    have hs6 := Lib.hid (show k + l < 68719476735 ∧ k + l < 68719476735 by omega)
    clear lD lE
    clear X1 X2 BP BQ G9
    skip
    go_upto_region 2 with fail
    have gd : Grew wc wc.drew := (Grew.refl wc).drew
    replace P := Lib.hid (P.out.grew gd)
    replace Q := Lib.hid (Q.out.grew gd)
    replace Na := Lib.hid (Na.out.kept gd.keeps)
    replace Nb := Lib.hid (Nb.out.kept gd.keeps)
    replace Da := Lib.hid (Da.out.kept gd.keeps)
    replace Eb := Lib.hid (Eb.out.kept gd.keeps)
    replace gd := Lib.hid gd
    have ZP := P
    have ZQ := Q
    go_region_held3 (fun w' => w'.cell? ⟨w.heap.size, 0, none⟩ = some (.bool b3) ∧ w'.cell? ⟨w.heap.size, 1, none⟩ = some (.slice A3 n3 c3) ∧ w'.cell? ⟨w.heap.size, 2, none⟩ = some (.slice C3 m3 d3) ∧ w'.cell? ⟨w.heap.size + 1, 0, none⟩ = some (.bool b4) ∧ w'.cell? ⟨w.heap.size + 1, 1, none⟩ = some (.slice A4 n4 c4) ∧ w'.cell? ⟨w.heap.size + 1, 2, none⟩ = some (.slice C4 m4 d4))
      (first | (with_reducible exact ⟨ZP.out.p0, ZP.out.p1, ZP.out.p2, ZQ.out.p0, ZQ.out.p1, ZQ.out.p2⟩) | (with_reducible exact ⟨g3.cell ZP.out.p0, g3.cell ZP.out.p1, g3.cell ZP.out.p2, g3.cell ZQ.out.p0, g3.cell ZQ.out.p1, g3.cell ZQ.out.p2⟩) | (with_reducible exact ⟨(g3.trans g4).cell ZP.out.p0, (g3.trans g4).cell ZP.out.p1, (g3.trans g4).cell ZP.out.p2, (g3.trans g4).cell ZQ.out.p0, (g3.trans g4).cell ZQ.out.p1, (g3.trans g4).cell ZQ.out.p2⟩) | (with_reducible exact ⟨((g3.trans g4).trans g5).cell ZP.out.p0, ((g3.trans g4).trans g5).cell ZP.out.p1, ((g3.trans g4).trans g5).cell ZP.out.p2, ((g3.trans g4).trans g5).cell ZQ.out.p0, ((g3.trans g4).trans g5).cell ZQ.out.p1, ((g3.trans g4).trans g5).cell ZQ.out.p2⟩) | (with_reducible exact ⟨(((g3.trans g4).trans g5).trans g6).cell ZP.out.p0, (((g3.trans g4).trans g5).trans g6).cell ZP.out.p1, (((g3.trans g4).trans g5).trans g6).cell ZP.out.p2, (((g3.trans g4).trans g5).trans g6).cell ZQ.out.p0, (((g3.trans g4).trans g5).trans g6).cell ZQ.out.p1, (((g3.trans g4).trans g5).trans g6).cell ZQ.out.p2⟩) | (with_reducible exact ⟨((((g3.trans g4).trans g5).trans g6).trans g7).cell ZP.out.p0, ((((g3.trans g4).trans g5).trans g6).trans g7).cell ZP.out.p1, ((((g3.trans g4).trans g5).trans g6).trans g7).cell ZP.out.p2, ((((g3.trans g4).trans g5).trans g6).trans g7).cell ZQ.out.p0, ((((g3.trans g4).trans g5).trans g6).trans g7).cell ZQ.out.p1, ((((g3.trans g4).trans g5).trans g6).trans g7).cell ZQ.out.p2⟩))
      (first | (go_at_call 170; with_reducible refine (rup_any b4 A4 C4 n4 c4 m4 d4 E _ Eb.out).mono ?_; rintro e w3 ⟨rfl, g3⟩; replace P := Lib.hid (P.out.grew g3); replace Q := Lib.hid (Q.out.grew g3); replace Na := Lib.hid (Na.out.kept g3.keeps); replace Nb := Lib.hid (Nb.out.kept g3.keeps); replace Da := Lib.hid (Da.out.kept g3.keeps); replace Eb := Lib.hid (Eb.out.kept g3.keeps)) | (go_at_call 169; with_reducible refine (r2mul_any _ _ _ _ k l _ Na.out (WhlR.up Eb.out hm2) hs2.out).mono ?_; rintro e w4 ⟨V3, rfl, hV3, g4⟩; obtain ⟨b5, A5, n5, c5, rfl, X3, -⟩ := hV3.laid; clear hV3; replace P := Lib.hid (P.out.grew g4); replace Q := Lib.hid (Q.out.grew g4); replace Na := Lib.hid (Na.out.kept g4.keeps); replace Nb := Lib.hid (Nb.out.kept g4.keeps); replace Da := Lib.hid (Da.out.kept g4.keeps); replace Eb := Lib.hid (Eb.out.kept g4.keeps)) | (go_at_call 170; with_reducible refine (rup_any b3 A3 C3 n3 c3 m3 d3 D _ Da.out).mono ?_; rintro e w5 ⟨rfl, g5⟩; replace P := Lib.hid (P.out.grew g5); replace Q := Lib.hid (Q.out.grew g5); replace Na := Lib.hid (Na.out.kept g5.keeps); replace Nb := Lib.hid (Nb.out.kept g5.keeps); replace Da := Lib.hid (Da.out.kept g5.keeps); replace Eb := Lib.hid (Eb.out.kept g5.keeps); replace X3 := Lib.hid (X3.out.kept g5.keeps)) | (go_at_call 169; with_reducible refine (r2mul_any _ _ _ _ l k _ Nb.out (WhlR.up Da.out hm) hs5.out).mono ?_; rintro e w6 ⟨V4, rfl, hV4, g6⟩; obtain ⟨b8, A8, n8, c8, rfl, X4, -⟩ := hV4.laid; clear hV4; replace P := Lib.hid (P.out.grew g6); replace Q := Lib.hid (Q.out.grew g6); replace Na := Lib.hid (Na.out.kept g6.keeps); replace Nb := Lib.hid (Nb.out.kept g6.keeps); replace Da := Lib.hid (Da.out.kept g6.keeps); replace Eb := Lib.hid (Eb.out.kept g6.keeps); replace X3 := Lib.hid (X3.out.kept g6.keeps)) | (go_at_call 168; with_reducible refine (r2cmp_any _ _ _ _ (k + l) (k + l) _ (X3.out.r hz1.out) (X4.out.r hz2.out) hs6.out).mono ?_; rintro e w7 ⟨rfl, g7⟩; replace P := Lib.hid (P.out.grew g7); replace Q := Lib.hid (Q.out.grew g7); replace Na := Lib.hid (Na.out.kept g7.keeps); replace Nb := Lib.hid (Nb.out.kept g7.keeps); replace Da := Lib.hid (Da.out.kept g7.keeps); replace Eb := Lib.hid (Eb.out.kept g7.keeps); replace X3 := Lib.hid (X3.out.kept g7.keeps); replace X4 := Lib.hid (X4.out.kept g7.keeps)))
    replace G0 := Lib.hid ((((((G0.out.trans gd.out).trans g3).trans g4).trans g5).trans g6).trans g7)
    clear gd g3 g4 g5 g6 g7 ZP ZQ
    go_wp2_with fail
    go_ret
    exact ⟨by rw [E3.out]; rfl, G0.out⟩
end Go.Proofs.YtngbcbncllfblaaGreat
namespace Go.Proofs.YtngbcbncllfblaaGreat
open Go.RowKit

end Go.Proofs.YtngbcbncllfblaaGreat
namespace Go.Proofs.YtngbcbncllfblaaGreat
open Go.RowKit

end Go.Proofs.YtngbcbncllfblaaGreat
