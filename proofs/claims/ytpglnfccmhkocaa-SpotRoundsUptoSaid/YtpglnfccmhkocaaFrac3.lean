/- (ratio).mul. Condition: what comes in reads; fewer than 2^39 words. -/
import Derived.Test.YtpglnfccmhkocaaWv
namespace Go.Proofs.Ytpglnfccmhkocaa
open Go.RowKit

set_option maxRecDepth 100000 in
set_option maxHeartbeats 4000000 in
theorem rmul_any (Va Vb : Value) (p q : Rat) (k l : Nat) (w : World) (ha : RatQ w Va p k) (hb : RatQ w Vb q l) (hs : k + l < 1099511627776) :
    Calls Try.prog 57 #[Va, Vb] w fun e w' => ∃ V, e = .returned V ∧ RatQ w' V (p * q) (k + l) ∧ Grew w w' := by
  obtain ⟨z, D, b1, A1, n1, c1, C1, m1, d1, rfl, Ea, hD, Wa, Na, k1, k2, Ma, -⟩ := ha.open
  obtain ⟨y, E, b2, A2, n2, c2, C2, m2, d2, rfl, Eb, hE, Wb, Nb, l1, l2, Mb, -⟩ := hb.open
  have hDE := Lib.hid (Nat.mul_ne_zero hD hE)
  have hlen := Lib.hid (len_mulz z y k l k1 l1)
  have hlen2 := Lib.hid (len_mul (B := 4294967296) (by omega) D E k l k2 l2)
  have hlen3 : len 4294967296 D + len 4294967296 E < 1099511627776 := by omega
  replace hlen3 := Lib.hid hlen3
  replace hs := Lib.hid hs
  clear ha hb hD hE k1 k2 l1 l2
  go_enter Try.func57, Try.ntmps57
  go_wp2_with fail
  refine gen_wp ?_
  intro W0 hW0
  have G0 : Grew w W0 := by rw [hW0]; exact (((Grew.refl w).alloc _).alloc _).alloc _
  have P : Box3 W0 (w.heap.size) 0 (.bool b1) (.slice A1 n1 c1) (.slice C1 m1 d1) := by rw [hW0]; exact ⟨by simp [go_sem], by simp [go_sem], by simp [go_sem]⟩
  replace P := Lib.hid P
  have Q : Box3 W0 (w.heap.size + 1) 0 (.bool b2) (.slice A2 n2 c2) (.slice C2 m2 d2) := by rw [hW0]; exact ⟨by simp [go_sem], by simp [go_sem], by simp [go_sem]⟩
  replace Q := Lib.hid Q
  have R : Res3 W0 (w.heap.size + 1 + 1) 0 (.bool false) (.slice none 0 0) (.slice none 0 0) := by rw [hW0]; exact ⟨by simp [go_sem], by simp [go_sem], by simp [go_sem], by simp [go_sem], by simp [go_sem], by simp [go_sem], by simp⟩
  replace R := Lib.hid R
  have z0 : w.heap.size < W0.heap.size := by rw [hW0]; simp <;> omega
  replace z0 := Lib.hid z0
  have z1 : w.heap.size + 1 < W0.heap.size := by rw [hW0]; simp <;> omega
  replace z1 := Lib.hid z1
  have z2 : w.heap.size + 1 + 1 < W0.heap.size := by rw [hW0]; simp <;> omega
  replace z2 := Lib.hid z2
  clear hW0
  replace Wa := Lib.hid (Wa.out.kept G0.keeps)
  replace Na := Lib.hid (Na.out.kept G0.keeps)
  replace Wb := Lib.hid (Wb.out.kept G0.keeps)
  replace Nb := Lib.hid (Nb.out.kept G0.keeps)
  replace G0 := Lib.hid G0
  have gd : Grew W0 W0.drew := (Grew.refl W0).drew
  replace R := Lib.hid (R.out.grew gd)
  replace P := Lib.hid (P.out.grew gd)
  replace Q := Lib.hid (Q.out.grew gd)
  replace z0 := Lib.hid (lt_grew z0.out gd)
  replace z1 := Lib.hid (lt_grew z1.out gd)
  replace z2 := Lib.hid (lt_grew z2.out gd)
  replace Wa := Lib.hid (Wa.out.kept gd.keeps)
  replace Na := Lib.hid (Na.out.kept gd.keeps)
  replace Wb := Lib.hid (Wb.out.kept gd.keeps)
  replace Nb := Lib.hid (Nb.out.kept gd.keeps)
  replace gd := Lib.hid gd
  have ZP := P
  have ZQ := Q
  go_region_held3 (fun w' => w'.cell? ⟨w.heap.size, 0, none⟩ = some (.bool b1) ∧ w'.cell? ⟨w.heap.size, 1, none⟩ = some (.slice A1 n1 c1) ∧ w'.cell? ⟨w.heap.size, 2, none⟩ = some (.slice C1 m1 d1) ∧ w'.cell? ⟨w.heap.size + 1, 0, none⟩ = some (.bool b2) ∧ w'.cell? ⟨w.heap.size + 1, 1, none⟩ = some (.slice A2 n2 c2) ∧ w'.cell? ⟨w.heap.size + 1, 2, none⟩ = some (.slice C2 m2 d2))
    (first | (with_reducible exact ⟨ZP.out.p0, ZP.out.p1, ZP.out.p2, ZQ.out.p0, ZQ.out.p1, ZQ.out.p2⟩) | (with_reducible exact ⟨g1.cell ZP.out.p0, g1.cell ZP.out.p1, g1.cell ZP.out.p2, g1.cell ZQ.out.p0, g1.cell ZQ.out.p1, g1.cell ZQ.out.p2⟩) | (with_reducible exact ⟨(g1.trans g2).cell ZP.out.p0, (g1.trans g2).cell ZP.out.p1, (g1.trans g2).cell ZP.out.p2, (g1.trans g2).cell ZQ.out.p0, (g1.trans g2).cell ZQ.out.p1, (g1.trans g2).cell ZQ.out.p2⟩) | (with_reducible exact ⟨other3 (o := 0) (by omega) ((g1.trans g2).cell ZP.out.p0), other3 (o := 0) (by omega) ((g1.trans g2).cell ZP.out.p1), other3 (o := 0) (by omega) ((g1.trans g2).cell ZP.out.p2), other3 (o := 0) (by omega) ((g1.trans g2).cell ZQ.out.p0), other3 (o := 0) (by omega) ((g1.trans g2).cell ZQ.out.p1), other3 (o := 0) (by omega) ((g1.trans g2).cell ZQ.out.p2)⟩))
    (first | (go_at_call 35; refine (wmul_v _ _ z y k l _ Wa.out Wb.out hs.out).mono ?_; rintro e w1 ⟨V1, rfl, hV1, g1⟩; obtain ⟨b3, A3, n3, c3, rfl, X1, -⟩ := hV1.laid; clear hV1; replace R := Lib.hid (R.out.grew g1); replace P := Lib.hid (P.out.grew g1); replace Q := Lib.hid (Q.out.grew g1); replace z0 := Lib.hid (lt_grew z0.out g1); replace z1 := Lib.hid (lt_grew z1.out g1); replace z2 := Lib.hid (lt_grew z2.out g1); replace Wa := Lib.hid (Wa.out.kept g1.keeps); replace Na := Lib.hid (Na.out.kept g1.keeps); replace Wb := Lib.hid (Wb.out.kept g1.keeps); replace Nb := Lib.hid (Nb.out.kept g1.keeps)) | (go_at_call 73; refine (mul_any _ _ D E _ _ _ Na.out Nb.out hlen3.out).mono ?_; rintro e w2 ⟨V2, rfl, hV2, g2⟩; obtain ⟨A4, c4, rfl, X2⟩ := hV2.slice; clear hV2; replace R := Lib.hid (R.out.grew g2); replace P := Lib.hid (P.out.grew g2); replace Q := Lib.hid (Q.out.grew g2); replace z0 := Lib.hid (lt_grew z0.out g2); replace z1 := Lib.hid (lt_grew z1.out g2); replace z2 := Lib.hid (lt_grew z2.out g2); replace Wa := Lib.hid (Wa.out.kept g2.keeps); replace Na := Lib.hid (Na.out.kept g2.keeps); replace Wb := Lib.hid (Wb.out.kept g2.keeps); replace Nb := Lib.hid (Nb.out.kept g2.keeps); replace X1 := Lib.hid (X1.out.kept g2.keeps); obtain ⟨R0, R1, R2, Rf0, Rf1, Rf2, Rs⟩ := R.out))
  replace G0 := Lib.hid (((G0.out.trans gd.out).trans g1).trans g2)
  clear gd g1 g2 ZP ZQ
  refine gen_then ?_
  intro W9 hW9
  obtain ⟨q0, q1, q2, qK, -, -, qs, qG⟩ := store3 (o := 0) R0 R1 R2 hW9
  have GE := qG w (.inr (by omega)) G0.out
  have QK := Lib.hid qK
  clear qK qG hW9 R0 R1 R2
  go_wp2_with fail
  exact bodyPost_ret (v := .agg #[.bool b3, .slice A3 n3 c3, .slice A4 (len 4294967296 (D * E)) c4]) (by simp [results, Try.results57, go_sem, q0, q1, q2]) rfl ⟨_, rfl, RatQ.mk (X1.out.kept QK.out) (X2.out.kept QK.out) rfl hDE.out (by rw [mkRat_mul, Ea.out, Eb.out]) hlen.out hlen2.out, GE⟩
end Go.Proofs.Ytpglnfccmhkocaa
