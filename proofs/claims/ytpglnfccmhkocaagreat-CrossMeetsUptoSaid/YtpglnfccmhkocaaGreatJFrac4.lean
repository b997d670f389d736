/- r04.Sign, Half. Condition: what comes in reads. r04.Neg, r04.Sub. Condition: what comes in reads. (ratio).mul. Condition: what comes in reads; fewer than 2^39 words. (ratio).add. Condition: what comes in reads; fewer than 2^39 words. -/
import Derived.Test.YtpglnfccmhkocaaGreatJR4f
import Derived.Test.YtpglnfccmhkocaaGreatJRefDiv
namespace Go.Proofs.YtpglnfccmhkocaaGreat
open Go.RowKit

set_option maxRecDepth 100000 in
set_option maxHeartbeats 4000000 in
theorem rfsign_any (Va : Value) (p : Rat) (k : Nat) (w : World) (ha : FracR w Va p k) (hk : 1 ≤ k) (hs : k < 137438953472) :
    Calls Tryz.prog 36 #[Va] w fun e w' => e = .returned (.int .i64 (sgQ p)) ∧ Grew w w' := by
  obtain ⟨b1, A1, n1, c1, C1, m1, d1, rfl, Fa⟩ := ha.laid
  clear ha
  go_enter Tryz.func36, Tryz.ntmps36
  go_wp2_with fail
  refine gen_calls ?_
  intro W0 hW0
  have G0 : Grew w W0 := by rw [hW0]; exact (Grew.refl w).alloc _
  have P : Box3 W0 (w.heap.size) 0 (.bool b1) (.slice A1 n1 c1) (.slice C1 m1 d1) := by rw [hW0]; exact ⟨by simp [go_sem], by simp [go_sem], by simp [go_sem]⟩
  replace P := Lib.hid P
  have z0 : w.heap.size < W0.heap.size := by rw [hW0]; simp <;> omega
  replace z0 := Lib.hid z0
  clear hW0
  replace Fa := Lib.hid (Fa.out.kept G0.keeps)
  replace G0 := Lib.hid G0
  refine (rworth_any _ p k _ Fa.out hk (by omega)).mono ?_
  rintro e w1 ⟨V1, rfl, hV1, g1⟩
  obtain ⟨b3, A3, n3, c3, C3, m3, d3, rfl, X1⟩ := hV1.laid
  clear hV1
  replace P := Lib.hid (P.out.grew g1)
  replace z0 := Lib.hid (lt_grew z0.out g1)
  replace Fa := Lib.hid (Fa.out.kept g1.keeps)
  replace G0 := Lib.hid (G0.out.trans g1)
  clear g1
  obtain ⟨N, D, E1, hD, Na, Da, hm⟩ := X1.out.parts
  have e1 : sg (sgn b3 N) = sgQ p := by rw [← E1.out, sgQ_mkRat _ _ hD]
  replace e1 := Lib.hid e1
  clear X1
  skip
  have hfd : ∀ w : World, (Instr.field 26 (.agg #[.bool b3, .slice A3 n3 c3, .slice C3 m3 d3]) 0).run Tryz.prog w = .ok (.agg #[.bool b3, .slice A3 n3 c3]) w := fun _ => by first | rfl | kernel_rfl
  go_wp2_with fail
  refine (r2sign_any _ _ _ _ Na.out hs).mono ?_
  rintro e w2 ⟨rfl, g2⟩
  replace P := Lib.hid (P.out.grew g2)
  replace z0 := Lib.hid (lt_grew z0.out g2)
  replace Fa := Lib.hid (Fa.out.kept g2.keeps)
  replace Na := Lib.hid (Na.out.kept g2.keeps)
  replace G0 := Lib.hid (G0.out.trans g2)
  clear g2
  go_wp2_with fail
  go_ret
  exact ⟨by rw [← e1.out]; rfl, G0.out⟩

theorem num_word2 (w : World) (t : TypeId) : Num 4294967296 .u32 (w.alloc (.cells #[.int .u32 2] t)) (.slice (some ⟨w.heap.size, 0, none⟩) 1 1) 2 1 := by
  refine Num.of_blk (heap_alloc_new w _) (Nat.le_refl _) (by omega) (by simp) fun i hi => ?_
  obtain rfl : i = 0 := by omega
  simp [dig]

set_option maxRecDepth 100000 in
set_option maxHeartbeats 4000000 in
theorem rfhalf_any (w : World) :
    Calls Tryz.prog 18 #[] w fun e w' => ∃ V, e = .returned V ∧ FracC w' V (mkRat 1 2) ∧ Grew w w' := by
  go_enter Tryz.func18, Tryz.ntmps18
  go_wp2_with fail
  refine gen_calls ?_
  intro W0 hW0
  have G0 : Grew w W0 := by rw [hW0]; exact (Grew.refl w).alloc _
  have R : Res3 W0 (w.heap.size) 0 (.bool false) (.slice none 0 0) (.slice none 0 0) := by rw [hW0]; exact ⟨by simp [go_sem], by simp [go_sem], by simp [go_sem], by simp [go_sem], by simp [go_sem], by simp [go_sem], by simp⟩
  replace R := Lib.hid R
  have z0 : w.heap.size < W0.heap.size := by rw [hW0]; simp <;> omega
  replace z0 := Lib.hid z0
  clear hW0
  replace G0 := Lib.hid G0
  refine (r2of_any 1 _ (by omega) (by omega)).mono ?_
  rintro e w1 ⟨V1, rfl, hV1, g1⟩
  obtain ⟨b3, A3, n3, c3, rfl, X1, -⟩ := hV1.laid
  clear hV1
  replace R := Lib.hid (R.out.grew g1)
  replace z0 := Lib.hid (lt_grew z0.out g1)
  replace G0 := Lib.hid (G0.out.trans g1)
  clear g1
  obtain ⟨W1, hW1⟩ : ∃ V, V = w1.alloc (.cells #[.int .u32 2] 68) := ⟨_, rfl⟩
  have gl : Grew w1 W1 := by rw [hW1]; exact (Grew.refl _).alloc _
  have y1 := Lib.hid (R.out).2.2.2.2.2.2
  replace R := Lib.hid (R.out.grew gl)
  replace z0 := Lib.hid (lt_grew z0.out gl)
  replace X1 := Lib.hid (X1.out.kept gl.keeps)
  have X5 : Num 4294967296 .u32 W1 (.slice (some ⟨w1.heap.size, 0, none⟩) 1 1) 2 1 := by rw [hW1]; exact num_word2 _ _
  replace X5 := Lib.hid X5
  skip
  replace G0 := Lib.hid (G0.out.trans gl)
  clear gl
  subst hW1
  obtain ⟨R0, R1, R2, Rf0, Rf1, Rf2, Rs⟩ := R.out
  go_wp2_with fail
  refine gen_post ?_
  intro W9 hW9
  obtain ⟨q0, q1, q2, qK, -, -, qs, qG⟩ := store3 (o := 0) R0 R1 R2 hW9
  have GE := qG w (.inr (by omega)) G0.out
  have QK := Lib.hid qK
  clear qK qG hW9 R0 R1 R2
  exact bodyPost_ret (v := .agg #[.bool b3, .slice A3 n3 c3, .slice (some ⟨w1.heap.size, 0, none⟩) 1 1]) (by simp [results, Tryz.results18, go_sem, q0, q1, q2]) rfl ⟨_, rfl, FracC.mk (X1.out.kept QK.out) (X5.out.kept QK.out) rfl rfl rfl, GE⟩
end Go.Proofs.YtpglnfccmhkocaaGreat
namespace Go.Proofs.YtpglnfccmhkocaaGreat
open Go.RowKit

theorem mkRat_negz (z : Int) (D : Nat) : mkRat (-z) D = -mkRat z D := by
  rw [Rat.neg_mkRat]

set_option maxRecDepth 100000 in
set_option maxHeartbeats 4000000 in
theorem rfneg_any (Va : Value) (p : Rat) (k : Nat) (w : World) (ha : FracR w Va p k) (hk : 1 ≤ k) (hs : k < 1073741824) :
    Calls Tryz.prog 101 #[Va] w fun e w' => ∃ V, e = .returned V ∧ FracC w' V (-p) ∧ Grew w w' := by
  obtain ⟨b1, A1, n1, c1, C1, m1, d1, rfl, Fa⟩ := ha.laid
  clear ha
  go_enter Tryz.func101, Tryz.ntmps101
  go_wp2_with fail
  refine gen_calls ?_
  intro W0 hW0
  have G0 : Grew w W0 := by rw [hW0]; exact ((Grew.refl w).alloc _).alloc _
  have P : Box3 W0 (w.heap.size) 0 (.bool b1) (.slice A1 n1 c1) (.slice C1 m1 d1) := by rw [hW0]; exact ⟨by simp [go_sem], by simp [go_sem], by simp [go_sem]⟩
  replace P := Lib.hid P
  have Pr : Res3 W0 (w.heap.size) 0 (.bool b1) (.slice A1 n1 c1) (.slice C1 m1 d1) := by rw [hW0]; exact ⟨by simp [go_sem], by simp [go_sem], by simp [go_sem], by simp [go_sem], by simp [go_sem], by simp [go_sem], by simp <;> omega⟩
  replace Pr := Lib.hid Pr
  have R : Res3 W0 (w.heap.size + 1) 0 (.bool false) (.slice none 0 0) (.slice none 0 0) := by rw [hW0]; exact ⟨by simp [go_sem], by simp [go_sem], by simp [go_sem], by simp [go_sem], by simp [go_sem], by simp [go_sem], by simp⟩
  replace R := Lib.hid R
  have z0 : w.heap.size < W0.heap.size := by rw [hW0]; simp <;> omega
  replace z0 := Lib.hid z0
  have z1 : w.heap.size + 1 < W0.heap.size := by rw [hW0]; simp <;> omega
  replace z1 := Lib.hid z1
  clear hW0
  replace Fa := Lib.hid (Fa.out.kept G0.keeps)
  replace G0 := Lib.hid G0
  refine (rworth_any _ p k _ Fa.out hk (by omega)).mono ?_
  rintro e w1 ⟨V1, rfl, hV1, g1⟩
  obtain ⟨b3, A3, n3, c3, C3, m3, d3, rfl, X1⟩ := hV1.laid
  clear hV1
  replace R := Lib.hid (R.out.grew g1)
  replace Pr := Lib.hid (Pr.out.grew g1)
  replace P := Lib.hid (P.out.grew g1)
  replace z0 := Lib.hid (lt_grew z0.out g1)
  replace z1 := Lib.hid (lt_grew z1.out g1)
  replace Fa := Lib.hid (Fa.out.kept g1.keeps)
  replace G0 := Lib.hid (G0.out.trans g1)
  clear g1
  obtain ⟨a0, a1, a2, af0, af1, af2, az⟩ := Pr.out
  go_upto_region 2 with fail
  refine gen_wp ?_
  intro W1 hW1
  obtain ⟨q0, q1, q2, qK, qf, -, qs, qG⟩ := store3 (o := 0) a0 a1 a2 hW1
  have hR9 : Res3 W1 (w.heap.size + 1) 0 (.bool false) (.slice none 0 0) (.slice none 0 0) := by
    obtain ⟨r0, r1, r2, f0, f1, f2, s⟩ := R.out
    exact ⟨(qf _ _ (by omega)).trans r0, (qf _ _ (by omega)).trans r1, (qf _ _ (by omega)).trans r2, by rw [hW1]; simpa using f0, by rw [hW1]; simpa using f1, by rw [hW1]; simpa using f2, by rw [qs]; exact s⟩
  have G9 := qG w (.inr (by omega)) G0.out
  have BP : Box3 W1 w.heap.size 0 (.bool b3) (.slice A3 n3 c3) (.slice C3 m3 d3) := ⟨q0, q1, q2⟩
  have X9 := X1.out.kept qK
  clear a0 a1 a2 af0 af1 af2 az q0 q1 q2 qK qf qs qG hW1 R G0 P Pr Fa X1 z0 z1
  obtain ⟨N, D, E1, hD, Na, Da, hm⟩ := X9.parts
  have P := Lib.hid BP
  have R := Lib.hid hR9
  have G0 := Lib.hid G9
  have y9 := Lib.hid (show w.heap.size + 1 < W1.heap.size from hR9.2.2.2.2.2.2)
  have E3 : mkRat (-sgn b3 N) D = -p := by rw [mkRat_negz, E1.out]
  replace E3 := Lib.hid E3
  have hz1 := Lib.hid (show len 4294967296 (-sgn b3 N).natAbs ≤ k by rw [Int.natAbs_neg]; exact Na.out.len)
  clear BP hR9 G9 X9
  skip
  have gd : Grew W1 W1.drew := (Grew.refl W1).drew
  replace R := Lib.hid (R.out.grew gd)
  replace P := Lib.hid (P.out.grew gd)
  replace Na := Lib.hid (Na.out.kept gd.keeps)
  replace Da := Lib.hid (Da.out.kept gd.keeps)
  replace gd := Lib.hid gd
  have ZP := P
  go_region_held3 (fun w' => w'.cell? ⟨w.heap.size, 0, none⟩ = some (.bool b3) ∧ w'.cell? ⟨w.heap.size, 1, none⟩ = some (.slice A3 n3 c3) ∧ w'.cell? ⟨w.heap.size, 2, none⟩ = some (.slice C3 m3 d3))
    (first | (with_reducible exact ⟨ZP.out.p0, ZP.out.p1, ZP.out.p2⟩) | (with_reducible exact ⟨g3.cell ZP.out.p0, g3.cell ZP.out.p1, g3.cell ZP.out.p2⟩) | (with_reducible exact ⟨(g3.trans g4).cell ZP.out.p0, (g3.trans g4).cell ZP.out.p1, (g3.trans g4).cell ZP.out.p2⟩) | (with_reducible exact ⟨other3 (o := 0) (by omega) ((g3.trans g4).cell ZP.out.p0), other3 (o := 0) (by omega) ((g3.trans g4).cell ZP.out.p1), other3 (o := 0) (by omega) ((g3.trans g4).cell ZP.out.p2)⟩))
    (first | (go_at_call 129; refine (r2neg_any _ _ k _ Na.out (by omega)).mono ?_; rintro e w3 ⟨V3, rfl, hV3, g3⟩; obtain ⟨b5, A5, n5, c5, rfl, X3, -⟩ := hV3.laid; clear hV3; replace R := Lib.hid (R.out.grew g3); replace P := Lib.hid (P.out.grew g3); replace Na := Lib.hid (Na.out.kept g3.keeps); replace Da := Lib.hid (Da.out.kept g3.keeps)) | (go_at_call 98; refine (rfreduce_any _ _ _ _ (FracR.mk X3.out Da.out E3.out hz1.out hm) (by omega)).mono ?_; rintro e w4 ⟨V5, rfl, hV5, g4⟩; obtain ⟨b7, A7, n7, c7, C7, m7, d7, rfl, X5⟩ := hV5.laid; clear hV5; replace R := Lib.hid (R.out.grew g4); replace P := Lib.hid (P.out.grew g4); replace Na := Lib.hid (Na.out.kept g4.keeps); replace Da := Lib.hid (Da.out.kept g4.keeps); replace X3 := Lib.hid (X3.out.kept g4.keeps); obtain ⟨R0, R1, R2, Rf0, Rf1, Rf2, Rs⟩ := R.out))
  replace G0 := Lib.hid (((G0.out.trans gd.out).trans g3).trans g4)
  clear gd g3 g4 ZP
  refine gen_then ?_
  intro W9 hW9
  obtain ⟨q0, q1, q2, qK, -, -, qs, qG⟩ := store3 (o := 0) R0 R1 R2 hW9
  have GE := qG w (.inr (by omega)) G0.out
  have QK := Lib.hid qK
  clear qK qG hW9 R0 R1 R2
  go_wp2_with fail
  exact bodyPost_ret (v := .agg #[.bool b7, .slice A7 n7 c7, .slice C7 m7 d7]) (by simp [results, Tryz.results101, go_sem, q0, q1, q2]) rfl ⟨_, rfl, X5.out.kept QK.out, GE⟩

set_option maxRecDepth 100000 in
set_option maxHeartbeats 4000000 in
theorem rfsub_any (Va Vb : Value) (p q : Rat) (k l : Nat) (w : World) (ha : FracR w Va p k) (hb : FracR w Vb q l) (hk : 1 ≤ k ∧ 1 ≤ l) (hs : k < 1073741824 ∧ l < 1073741824) :
    Calls Tryz.prog 57 #[Va, Vb] w fun e w' => ∃ V, e = .returned V ∧ FracC w' V (p - q) ∧ Grew w w' := by
  have hq1 := Lib.hid (hb.v.qb hk.2).neg
  obtain ⟨b1, A1, n1, c1, C1, m1, d1, rfl, Fa⟩ := ha.laid
  obtain ⟨b2, A2, n2, c2, C2, m2, d2, rfl, Fb⟩ := hb.laid
  clear ha hb
  have e9 : p + -q = p - q := (Rat.sub_eq_add_neg p q).symm
  replace e9 := Lib.hid e9
  go_enter Tryz.func57, Tryz.ntmps57
  go_wp2_with fail
  refine gen_wp ?_
  intro W0 hW0
  have G0 : Grew w W0 := by rw [hW0]; exact (((Grew.refl w).alloc _).alloc _).alloc _
  have P : Box3 W0 (w.heap.size) 0 (.bool b1) (.slice A1 n1 c1) (.slice C1 m1 d1) := by rw [hW0]; exact ⟨by simp [go_sem], by simp [go_sem], by simp [go_sem]⟩
  replace P := Lib.hid P
  have Q : Box3 W0 (w.heap.size + 1) 0 (.bool b2) (.slice A2 n2 c2) (.slice C2 m2 d2) := by rw [hW0]; exact ⟨by simp [go_sem], by simp [go_sem], by simp [go_sem]⟩
  replace Q := Lib.hid Q
  have R : Res3 W0 (w.heap.size + 1 + 1) 0 (.bool false) (.slice none 0 0) (.slice none 0 0) := by rw [hW0]; exact ⟨by simp [go_sem], by simp [go_sem], by simp [go_sem], by simp [go_sem], by simp [go_sem], by simp [go_sem], by simp⟩
  replace R := Lib.hid R
  have z0 : w.heap.size < W0.heap.size := by rw [hW0]; simp <;> omega
  replace z0 := Lib.hid z0
  have z1 : w.heap.size + 1 < W0.heap.size := by rw [hW0]; simp <;> omega
  replace z1 := Lib.hid z1
  have z2 : w.heap.size + 1 + 1 < W0.heap.size := by rw [hW0]; simp <;> omega
  replace z2 := Lib.hid z2
  clear hW0
  replace Fa := Lib.hid (Fa.out.kept G0.keeps)
  replace Fb := Lib.hid (Fb.out.kept G0.keeps)
  replace G0 := Lib.hid G0
  have gd : Grew W0 W0.drew := (Grew.refl W0).drew
  replace R := Lib.hid (R.out.grew gd)
  replace P := Lib.hid (P.out.grew gd)
  replace Q := Lib.hid (Q.out.grew gd)
  replace z0 := Lib.hid (lt_grew z0.out gd)
  replace z1 := Lib.hid (lt_grew z1.out gd)
  replace z2 := Lib.hid (lt_grew z2.out gd)
  replace Fa := Lib.hid (Fa.out.kept gd.keeps)
  replace Fb := Lib.hid (Fb.out.kept gd.keeps)
  replace gd := Lib.hid gd
  have ZP := P
  have ZQ := Q
  go_region_held3 (fun w' => w'.cell? ⟨w.heap.size, 0, none⟩ = some (.bool b1) ∧ w'.cell? ⟨w.heap.size, 1, none⟩ = some (.slice A1 n1 c1) ∧ w'.cell? ⟨w.heap.size, 2, none⟩ = some (.slice C1 m1 d1) ∧ w'.cell? ⟨w.heap.size + 1, 0, none⟩ = some (.bool b2) ∧ w'.cell? ⟨w.heap.size + 1, 1, none⟩ = some (.slice A2 n2 c2) ∧ w'.cell? ⟨w.heap.size + 1, 2, none⟩ = some (.slice C2 m2 d2))
    (first | (with_reducible exact ⟨ZP.out.p0, ZP.out.p1, ZP.out.p2, ZQ.out.p0, ZQ.out.p1, ZQ.out.p2⟩) | (with_reducible exact ⟨g1.cell ZP.out.p0, g1.cell ZP.out.p1, g1.cell ZP.out.p2, g1.cell ZQ.out.p0, g1.cell ZQ.out.p1, g1.cell ZQ.out.p2⟩) | (with_reducible exact ⟨(g1.trans g2).cell ZP.out.p0, (g1.trans g2).cell ZP.out.p1, (g1.trans g2).cell ZP.out.p2, (g1.trans g2).cell ZQ.out.p0, (g1.trans g2).cell ZQ.out.p1, (g1.trans g2).cell ZQ.out.p2⟩) | (with_reducible exact ⟨other3 (o := 0) (by omega) ((g1.trans g2).cell ZP.out.p0), other3 (o := 0) (by omega) ((g1.trans g2).cell ZP.out.p1), other3 (o := 0) (by omega) ((g1.trans g2).cell ZP.out.p2), other3 (o := 0) (by omega) ((g1.trans g2).cell ZQ.out.p0), other3 (o := 0) (by omega) ((g1.trans g2).cell ZQ.out.p1), other3 (o := 0) (by omega) ((g1.trans g2).cell ZQ.out.p2)⟩))
    (first | (go_at_call 101; refine (rfneg_any _ q l _ Fb.out hk.2 hs.2).mono ?_; rintro e w1 ⟨V3, rfl, hV3, g1⟩; have hY3 := Lib.hid (hV3.r hq1.out); obtain ⟨b5, A5, n5, c5, C5, m5, d5, rfl, hX3⟩ := hV3.laid; have X3 := hY3; clear hV3 hX3 hY3; replace R := Lib.hid (R.out.grew g1); replace P := Lib.hid (P.out.grew g1); replace Q := Lib.hid (Q.out.grew g1); replace z0 := Lib.hid (lt_grew z0.out g1); replace z1 := Lib.hid (lt_grew z1.out g1); replace z2 := Lib.hid (lt_grew z2.out g1); replace Fa := Lib.hid (Fa.out.kept g1.keeps); replace Fb := Lib.hid (Fb.out.kept g1.keeps)) | (go_at_call 55; refine (rfadd_any _ _ p (-q) k l _ Fa.out X3.out hk hs).mono ?_; rintro e w2 ⟨V5, rfl, hV5, g2⟩; rw [e9.out] at hV5; obtain ⟨b7, A7, n7, c7, C7, m7, d7, rfl, X5⟩ := hV5.laid; clear hV5; replace R := Lib.hid (R.out.grew g2); replace P := Lib.hid (P.out.grew g2); replace Q := Lib.hid (Q.out.grew g2); replace z0 := Lib.hid (lt_grew z0.out g2); replace z1 := Lib.hid (lt_grew z1.out g2); replace z2 := Lib.hid (lt_grew z2.out g2); replace Fa := Lib.hid (Fa.out.kept g2.keeps); replace Fb := Lib.hid (Fb.out.kept g2.keeps); replace X3 := Lib.hid (X3.out.kept g2.keeps); obtain ⟨R0, R1, R2, Rf0, Rf1, Rf2, Rs⟩ := R.out))
  replace G0 := Lib.hid (((G0.out.trans gd.out).trans g1).trans g2)
  clear gd g1 g2 ZP ZQ
  refine gen_then ?_
  intro W9 hW9
  obtain ⟨q0, q1, q2, qK, -, -, qs, qG⟩ := store3 (o := 0) R0 R1 R2 hW9
  have GE := qG w (.inr (by omega)) G0.out
  have QK := Lib.hid qK
  clear qK qG hW9 R0 R1 R2
  go_wp2_with fail
  exact bodyPost_ret (v := .agg #[.bool b7, .slice A7 n7 c7, .slice C7 m7 d7]) (by simp [results, Tryz.results57, go_sem, q0, q1, q2]) rfl ⟨_, rfl, X5.out.kept QK.out, GE⟩
end Go.Proofs.YtpglnfccmhkocaaGreat
namespace Go.Proofs.YtpglnfccmhkocaaGreat
open Go.RowKit

set_option maxRecDepth 100000 in
set_option maxHeartbeats 4000000 in
theorem rmul_any (Va Vb : Value) (p q : Rat) (k l : Nat) (w : World) (ha : RatQ w Va p k) (hb : RatQ w Vb q l) (hs : k + l < 1099511627776) :
    Calls Tryz.prog 72 #[Va, Vb] w fun e w' => ∃ V, e = .returned V ∧ RatQ w' V (p * q) (k + l) ∧ Grew w w' := by
  obtain ⟨z, D, b1, A1, n1, c1, C1, m1, d1, rfl, Ea, hD, Wa, Na, k1, k2, Ma, -⟩ := ha.open
  obtain ⟨y, E, b2, A2, n2, c2, C2, m2, d2, rfl, Eb, hE, Wb, Nb, l1, l2, Mb, -⟩ := hb.open
  have hDE := Lib.hid (Nat.mul_ne_zero hD hE)
  have hlen := Lib.hid (len_mulz z y k l k1 l1)
  have hlen2 := Lib.hid (len_mul (B := 4294967296) (by omega) D E k l k2 l2)
  have hlen3 : len 4294967296 D + len 4294967296 E < 1099511627776 := by omega
  replace hlen3 := Lib.hid hlen3
  replace hs := Lib.hid hs
  clear ha hb hD hE k1 k2 l1 l2
  go_enter Tryz.func72, Tryz.ntmps72
  go_wp2_with fail
  refine gen_wp ?_
  intro W0 hW0
  have G0 : Grew w W0 := by rw [hW0]; exact (((Grew.refl w).alloc _).alloc _).alloc _
  have P : Box3 W0 (w.heap.size) 0 (.bool b1) (.slice A1 n1 c1) (.slice C1 m1 d1) := by rw [hW0]; exact ⟨by simp [go_sem], by simp [go_sem], by simp [go_sem]⟩
  replace P := Lib.hid P
  have Q : Box3 W0 (w.heap.size + 1) 0 (.bool b2) (.slice A2 n2 c2) (.slice C2 m2 d2) := by rw [hW0]; exact ⟨by simp [go_sem], by simp [go_sem], by simp [go_sem]⟩
  replace Q := Lib.hid Q
  have R : Res3 W0 (w.heap.size + 1 + 1) 0 (.bool false) (.slice none 0 0) (.slice none 0 0) := by rw [hW0]; exact ⟨by simp [go_sem], by simp [go_sem], by simp [go_sem], by simp [go_sem], by simp [go_sem], by simp [go_sem], by simp⟩
  replace R := Lib.hid R
  have z0 : w.heap.size < W0.heap.size := by rw [hW0]; simp <;> omega
  replace z0 := Lib.hid z0
  have z1 : w.heap.size + 1 < W0.heap.size := by rw [hW0]; simp <;> omega
  replace z1 := Lib.hid z1
  have z2 : w.heap.size + 1 + 1 < W0.heap.size := by rw [hW0]; simp <;> omega
  replace z2 := Lib.hid z2
  clear hW0
  replace Wa := Lib.hid (Wa.out.kept G0.keeps)
  replace Na := Lib.hid (Na.out.kept G0.keeps)
  replace Wb := Lib.hid (Wb.out.kept G0.keeps)
  replace Nb := Lib.hid (Nb.out.kept G0.keeps)
  replace G0 := Lib.hid G0
  have gd : Grew W0 W0.drew := (Grew.refl W0).drew
  replace R := Lib.hid (R.out.grew gd)
  replace P := Lib.hid (P.out.grew gd)
  replace Q := Lib.hid (Q.out.grew gd)
  replace z0 := Lib.hid (lt_grew z0.out gd)
  replace z1 := Lib.hid (lt_grew z1.out gd)
  replace z2 := Lib.hid (lt_grew z2.out gd)
  replace Wa := Lib.hid (Wa.out.kept gd.keeps)
  replace Na := Lib.hid (Na.out.kept gd.keeps)
  replace Wb := Lib.hid (Wb.out.kept gd.keeps)
  replace Nb := Lib.hid (Nb.out.kept gd.keeps)
  replace gd := Lib.hid gd
  have ZP := P
  have ZQ := Q
  go_region_held3 (fun w' => w'.cell? ⟨w.heap.size, 0, none⟩ = some (.bool b1) ∧ w'.cell? ⟨w.heap.size, 1, none⟩ = some (.slice A1 n1 c1) ∧ w'.cell? ⟨w.heap.size, 2, none⟩ = some (.slice C1 m1 d1) ∧ w'.cell? ⟨w.heap.size + 1, 0, none⟩ = some (.bool b2) ∧ w'.cell? ⟨w.heap.size + 1, 1, none⟩ = some (.slice A2 n2 c2) ∧ w'.cell? ⟨w.heap.size + 1, 2, none⟩ = some (.slice C2 m2 d2))
    (first | (with_reducible exact ⟨ZP.out.p0, ZP.out.p1, ZP.out.p2, ZQ.out.p0, ZQ.out.p1, ZQ.out.p2⟩) | (with_reducible exact ⟨g1.cell ZP.out.p0, g1.cell ZP.out.p1, g1.cell ZP.out.p2, g1.cell ZQ.out.p0, g1.cell ZQ.out.p1, g1.cell ZQ.out.p2⟩) | (with_reducible exact ⟨(g1.trans g2).cell ZP.out.p0, (g1.trans g2).cell ZP.out.p1, (g1.trans g2).cell ZP.out.p2, (g1.trans g2).cell ZQ.out.p0, (g1.trans g2).cell ZQ.out.p1, (g1.trans g2).cell ZQ.out.p2⟩) | (with_reducible exact ⟨other3 (o := 0) (by omega) ((g1.trans g2).cell ZP.out.p0), other3 (o := 0) (by omega) ((g1.trans g2).cell ZP.out.p1), other3 (o := 0) (by omega) ((g1.trans g2).cell ZP.out.p2), other3 (o := 0) (by omega) ((g1.trans g2).cell ZQ.out.p0), other3 (o := 0) (by omega) ((g1.trans g2).cell ZQ.out.p1), other3 (o := 0) (by omega) ((g1.trans g2).cell ZQ.out.p2)⟩))
    (first | (go_at_call 45; refine (wmul_v _ _ z y k l _ Wa.out Wb.out hs.out).mono ?_; rintro e w1 ⟨V1, rfl, hV1, g1⟩; obtain ⟨b3, A3, n3, c3, rfl, X1, -⟩ := hV1.laid; clear hV1; replace R := Lib.hid (R.out.grew g1); replace P := Lib.hid (P.out.grew g1); replace Q := Lib.hid (Q.out.grew g1); replace z0 := Lib.hid (lt_grew z0.out g1); replace z1 := Lib.hid (lt_grew z1.out g1); replace z2 := Lib.hid (lt_grew z2.out g1); replace Wa := Lib.hid (Wa.out.kept g1.keeps); replace Na := Lib.hid (Na.out.kept g1.keeps); replace Wb := Lib.hid (Wb.out.kept g1.keeps); replace Nb := Lib.hid (Nb.out.kept g1.keeps)) | (go_at_call 82; refine (mul_any _ _ D E _ _ _ Na.out Nb.out hlen3.out).mono ?_; rintro e w2 ⟨V2, rfl, hV2, g2⟩; obtain ⟨A4, c4, rfl, X2⟩ := hV2.slice; clear hV2; replace R := Lib.hid (R.out.grew g2); replace P := Lib.hid (P.out.grew g2); replace Q := Lib.hid (Q.out.grew g2); replace z0 := Lib.hid (lt_grew z0.out g2); replace z1 := Lib.hid (lt_grew z1.out g2); replace z2 := Lib.hid (lt_grew z2.out g2); replace Wa := Lib.hid (Wa.out.kept g2.keeps); replace Na := Lib.hid (Na.out.kept g2.keeps); replace Wb := Lib.hid (Wb.out.kept g2.keeps); replace Nb := Lib.hid (Nb.out.kept g2.keeps); replace X1 := Lib.hid (X1.out.kept g2.keeps); obtain ⟨R0, R1, R2, Rf0, Rf1, Rf2, Rs⟩ := R.out))
  replace G0 := Lib.hid (((G0.out.trans gd.out).trans g1).trans g2)
  clear gd g1 g2 ZP ZQ
  refine gen_then ?_
  intro W9 hW9
  obtain ⟨q0, q1, q2, qK, -, -, qs, qG⟩ := store3 (o := 0) R0 R1 R2 hW9
  have GE := qG w (.inr (by omega)) G0.out
  have QK := Lib.hid qK
  clear qK qG hW9 R0 R1 R2
  go_wp2_with fail
  exact bodyPost_ret (v := .agg #[.bool b3, .slice A3 n3 c3, .slice A4 (len 4294967296 (D * E)) c4]) (by simp [results, Tryz.results72, go_sem, q0, q1, q2]) rfl ⟨_, rfl, RatQ.mk (X1.out.kept QK.out) (X2.out.kept QK.out) rfl hDE.out (by rw [mkRat_mul, Ea.out, Eb.out]) hlen.out hlen2.out, GE⟩
end Go.Proofs.YtpglnfccmhkocaaGreat
namespace Go.Proofs.YtpglnfccmhkocaaGreat
open Go.RowKit

set_option maxRecDepth 100000 in
set_option maxHeartbeats 4000000 in
theorem radd_any (Va Vb : Value) (p q : Rat) (k l : Nat) (w : World) (ha : RatQ w Va p k) (hb : RatQ w Vb q l) (hs : k + l < 549755813887) :
    Calls Tryz.prog 97 #[Va, Vb] w fun e w' => ∃ V, e = .returned V ∧ RatQ w' V (p + q) (k + l + 1) ∧ Grew w w' := by
  obtain ⟨z, D, b1, A1, n1, c1, C1, m1, d1, rfl, Ea, hD, Wa, Na, k1, k2, Ma, -⟩ := ha.open
  obtain ⟨y, E, b2, A2, n2, c2, C2, m2, d2, rfl, Eb, hE, Wb, Nb, l1, l2, Mb, -⟩ := hb.open
  clear ha hb
  go_enter Tryz.func97, Tryz.ntmps97
  go_wp2_with fail
  refine gen_calls ?_
  intro W0 hW0
  have G0 : Grew w W0 := by rw [hW0]; exact (((Grew.refl w).alloc _).alloc _).alloc _
  have P : Box3 W0 (w.heap.size) 0 (.bool b1) (.slice A1 n1 c1) (.slice C1 m1 d1) := by rw [hW0]; exact ⟨by simp [go_sem], by simp [go_sem], by simp [go_sem]⟩
  replace P := Lib.hid P
  have Q : Box3 W0 (w.heap.size + 1) 0 (.bool b2) (.slice A2 n2 c2) (.slice C2 m2 d2) := by rw [hW0]; exact ⟨by simp [go_sem], by simp [go_sem], by simp [go_sem]⟩
  replace Q := Lib.hid Q
  have R : Res3 W0 (w.heap.size + 1 + 1) 0 (.bool false) (.slice none 0 0) (.slice none 0 0) := by rw [hW0]; exact ⟨by simp [go_sem], by simp [go_sem], by simp [go_sem], by simp [go_sem], by simp [go_sem], by simp [go_sem], by simp⟩
  replace R := Lib.hid R
  have z0 : w.heap.size < W0.heap.size := by rw [hW0]; simp <;> omega
  replace z0 := Lib.hid z0
  have z1 : w.heap.size + 1 < W0.heap.size := by rw [hW0]; simp <;> omega
  replace z1 := Lib.hid z1
  have z2 : w.heap.size + 1 + 1 < W0.heap.size := by rw [hW0]; simp <;> omega
  replace z2 := Lib.hid z2
  clear hW0
  replace Wa := Lib.hid (Wa.out.kept G0.keeps)
  replace Na := Lib.hid (Na.out.kept G0.keeps)
  replace Wb := Lib.hid (Wb.out.kept G0.keeps)
  replace Nb := Lib.hid (Nb.out.kept G0.keeps)
  replace G0 := Lib.hid G0
  refine (cmp_any _ _ D E _ _ _ Na.out Nb.out).mono ?_
  rintro e w1 ⟨rfl, g1⟩
  replace R := Lib.hid (R.out.grew g1)
  replace P := Lib.hid (P.out.grew g1)
  replace Q := Lib.hid (Q.out.grew g1)
  replace z0 := Lib.hid (lt_grew z0.out g1)
  replace z1 := Lib.hid (lt_grew z1.out g1)
  replace z2 := Lib.hid (lt_grew z2.out g1)
  replace Wa := Lib.hid (Wa.out.kept g1.keeps)
  replace Na := Lib.hid (Na.out.kept g1.keeps)
  replace Wb := Lib.hid (Wb.out.kept g1.keeps)
  replace Nb := Lib.hid (Nb.out.kept g1.keeps)
  replace G0 := Lib.hid (G0.out.trans g1)
  clear g1

  by_cases hDE : D = E
  · as_aux_lemma =>
    subst hDE
    have hlen := Lib.hid (len_addz z y (k + l) (by omega) (by omega))
    have k22 : len 4294967296 D ≤ k + l + 1 := by omega
    replace k22 := Lib.hid k22
    replace hD := Lib.hid hD
    have hs2 : k < 549755813888 ∧ l < 549755813888 := by omega
    replace hs2 := Lib.hid hs2
    clear k1 k2 l1 l2 hE hs
    rw [cmpN_self]
    obtain ⟨P0, P1, P2⟩ := P.out
    obtain ⟨Q0, Q1, Q2⟩ := Q.out
    go_wp2_with fail
    clear P0 P1 P2 Q0 Q1 Q2
    have gd : Grew w1 w1.drew := (Grew.refl w1).drew
    replace R := Lib.hid (R.out.grew gd)
    replace P := Lib.hid (P.out.grew gd)
    replace Q := Lib.hid (Q.out.grew gd)
    replace z0 := Lib.hid (lt_grew z0.out gd)
    replace z1 := Lib.hid (lt_grew z1.out gd)
    replace z2 := Lib.hid (lt_grew z2.out gd)
    replace Wa := Lib.hid (Wa.out.kept gd.keeps)
    replace Na := Lib.hid (Na.out.kept gd.keeps)
    replace Wb := Lib.hid (Wb.out.kept gd.keeps)
    replace Nb := Lib.hid (Nb.out.kept gd.keeps)
    replace gd := Lib.hid gd
    have ZP := P
    have ZQ := Q
    go_region_held3 (fun w' => w'.cell? ⟨w.heap.size, 0, none⟩ = some (.bool b1) ∧ w'.cell? ⟨w.heap.size, 1, none⟩ = some (.slice A1 n1 c1) ∧ w'.cell? ⟨w.heap.size, 2, none⟩ = some (.slice C1 m1 d1) ∧ w'.cell? ⟨w.heap.size + 1, 0, none⟩ = some (.bool b2) ∧ w'.cell? ⟨w.heap.size + 1, 1, none⟩ = some (.slice A2 n2 c2) ∧ w'.cell? ⟨w.heap.size + 1, 2, none⟩ = some (.slice C2 m2 d2))
      (first | (with_reducible exact ⟨ZP.out.p0, ZP.out.p1, ZP.out.p2, ZQ.out.p0, ZQ.out.p1, ZQ.out.p2⟩) | (with_reducible exact ⟨g2.cell ZP.out.p0, g2.cell ZP.out.p1, g2.cell ZP.out.p2, g2.cell ZQ.out.p0, g2.cell ZQ.out.p1, g2.cell ZQ.out.p2⟩) | (with_reducible exact ⟨other3 (o := 0) (by omega) (g2.cell ZP.out.p0), other3 (o := 0) (by omega) (g2.cell ZP.out.p1), other3 (o := 0) (by omega) (g2.cell ZP.out.p2), other3 (o := 0) (by omega) (g2.cell ZQ.out.p0), other3 (o := 0) (by omega) (g2.cell ZQ.out.p1), other3 (o := 0) (by omega) (g2.cell ZQ.out.p2)⟩))
      (first | (go_at_call 119; refine (wadd_v _ _ z y k l _ Wa.out Wb.out hs2.out).mono ?_; rintro e w2 ⟨V1, rfl, hV1, g2⟩; obtain ⟨b3, A3, n3, c3, rfl, X1, -⟩ := hV1.laid; clear hV1; replace R := Lib.hid (R.out.grew g2); replace P := Lib.hid (P.out.grew g2); replace Q := Lib.hid (Q.out.grew g2); replace z0 := Lib.hid (lt_grew z0.out g2); replace z1 := Lib.hid (lt_grew z1.out g2); replace z2 := Lib.hid (lt_grew z2.out g2); replace Wa := Lib.hid (Wa.out.kept g2.keeps); replace Na := Lib.hid (Na.out.kept g2.keeps); replace Wb := Lib.hid (Wb.out.kept g2.keeps); replace Nb := Lib.hid (Nb.out.kept g2.keeps); obtain ⟨R0, R1, R2, Rf0, Rf1, Rf2, Rs⟩ := R.out))
    replace G0 := Lib.hid ((G0.out.trans gd.out).trans g2)
    clear gd g2 ZP ZQ
    refine gen_then ?_
    intro W9 hW9
    obtain ⟨q0, q1, q2, qK, -, -, qs, qG⟩ := store3 (o := 0) R0 R1 R2 hW9
    have GE := qG w (.inr (by omega)) G0.out
    have QK := Lib.hid qK
    clear qK qG hW9 R0 R1 R2
    go_wp2_with fail
    exact bodyPost_ret (v := .agg #[.bool b3, .slice A3 n3 c3, .slice C1 m1 d1]) (by simp [results, Tryz.results97, go_sem, q0, q1, q2]) rfl ⟨_, rfl, RatQ.mk (X1.out.kept QK.out) (Na.out.kept QK.out) Ma.out hD.out (by rw [mkRat_add_same _ _ _ hD.out, Ea.out, Eb.out]) hlen.out k22.out, GE⟩
  · as_aux_lemma =>

    have hc : cmpN D E ≠ 0 := by
      unfold cmpN
      split
      · omega
      · split <;> omega
    generalize cmpN D E = cm at *
    have hcb : (cm == 0) = false := by simpa using hc
    have hl1 := Lib.hid (len_mulz z E k l k1 (by simpa using l2))
    have hl2 := Lib.hid (len_mulz y D l k l1 (by simpa using k2))
    have hlen := Lib.hid (len_addz (z * E) (y * D) (k + l) hl1.out (by rw [Nat.add_comm k l]; exact hl2.out))
    have hlen2 := Lib.hid (Nat.le_succ_of_le (len_mul (B := 4294967296) (by omega) D E k l k2 l2))
    have hlen3 : len 4294967296 D + len 4294967296 E < 1099511627776 := by omega
    have hkl : k + l < 1099511627776 ∧ l + k < 1099511627776 ∧ (k + l < 549755813888 ∧ l + k < 549755813888) := by omega
    replace hlen3 := Lib.hid hlen3
    have hDE2 := Lib.hid (Nat.mul_ne_zero hD hE)
    replace hD := Lib.hid hD
    replace hE := Lib.hid hE
    replace hkl := Lib.hid hkl
    replace l2 := Lib.hid l2
    replace k2 := Lib.hid k2
    clear hc hDE k1 l1 hs
    obtain ⟨P0, P1, P2⟩ := P.out
    obtain ⟨Q0, Q1, Q2⟩ := Q.out
    go_wp2_with fail
    clear P0 P1 P2 Q0 Q1 Q2
    refine (wmul_v _ _ z E k l _ Wa.out (Nb.out.whl l2.out) hkl.out.1).mono ?_
    rintro e w2 ⟨V1, rfl, hV1, g2⟩
    obtain ⟨b3, A3, n3, c3, rfl, hV1, -⟩ := hV1.laid
    have X1 := Lib.hid (hV1.out.v hl1.out)
    clear hV1
    replace R := Lib.hid (R.out.grew g2)
    replace P := Lib.hid (P.out.grew g2)
    replace Q := Lib.hid (Q.out.grew g2)
    replace z0 := Lib.hid (lt_grew z0.out g2)
    replace z1 := Lib.hid (lt_grew z1.out g2)
    replace z2 := Lib.hid (lt_grew z2.out g2)
    replace Wa := Lib.hid (Wa.out.kept g2.keeps)
    replace Na := Lib.hid (Na.out.kept g2.keeps)
    replace Wb := Lib.hid (Wb.out.kept g2.keeps)
    replace Nb := Lib.hid (Nb.out.kept g2.keeps)
    replace G0 := Lib.hid (G0.out.trans g2)
    clear g2
    obtain ⟨P0, P1, P2⟩ := P.out
    obtain ⟨Q0, Q1, Q2⟩ := Q.out
    have oz0 := z0.out
    have oz1 := z1.out
    have oz2 := z2.out
    go_wp2_with fail
    clear P0 P1 P2 Q0 Q1 Q2 oz0 oz1 oz2
    refine gen_calls ?_
    intro W1 hW1
    have gl : Grew w2 W1 := by rw [hW1]; exact (Grew.refl _).alloc _
    have y1 := Lib.hid (R.out).2.2.2.2.2.2
    replace R := Lib.hid (R.out.grew gl)
    replace P := Lib.hid (P.out.grew gl)
    replace Q := Lib.hid (Q.out.grew gl)
    replace z0 := Lib.hid (lt_grew z0.out gl)
    replace z1 := Lib.hid (lt_grew z1.out gl)
    replace z2 := Lib.hid (lt_grew z2.out gl)
    replace Wa := Lib.hid (Wa.out.kept gl.keeps)
    replace Na := Lib.hid (Na.out.kept gl.keeps)
    replace Wb := Lib.hid (Wb.out.kept gl.keeps)
    replace Nb := Lib.hid (Nb.out.kept gl.keeps)
    replace X1 := Lib.hid (X1.out.kept gl.keeps)
    have L : Box2 W1 (w2.heap.size) 0 (.bool b3) (.slice A3 n3 c3) := by rw [hW1]; exact ⟨by simp [go_sem], by simp [go_sem]⟩
    replace L := Lib.hid L
    have z3 : w2.heap.size < W1.heap.size := by rw [hW1]; simp <;> omega
    replace z3 := Lib.hid z3
    clear hW1
    replace G0 := Lib.hid (G0.out.trans gl)
    clear gl
    refine (wmul_v _ _ y D l k _ Wb.out (Na.out.whl k2.out) hkl.out.2.1).mono ?_
    rintro e w3 ⟨V2, rfl, hV2, g3⟩
    obtain ⟨b4, A4, n4, c4, rfl, hV2, -⟩ := hV2.laid
    have X2 := Lib.hid (hV2.out.v hl2.out)
    clear hV2
    replace R := Lib.hid (R.out.grew g3)
    replace P := Lib.hid (P.out.grew g3)
    replace Q := Lib.hid (Q.out.grew g3)
    replace L := Lib.hid (L.out.grew g3)
    replace z0 := Lib.hid (lt_grew z0.out g3)
    replace z1 := Lib.hid (lt_grew z1.out g3)
    replace z2 := Lib.hid (lt_grew z2.out g3)
    replace z3 := Lib.hid (lt_grew z3.out g3)
    replace Wa := Lib.hid (Wa.out.kept g3.keeps)
    replace Na := Lib.hid (Na.out.kept g3.keeps)
    replace Wb := Lib.hid (Wb.out.kept g3.keeps)
    replace Nb := Lib.hid (Nb.out.kept g3.keeps)
    replace X1 := Lib.hid (X1.out.kept g3.keeps)
    replace G0 := Lib.hid (G0.out.trans g3)
    clear g3
    obtain ⟨P0, P1, P2⟩ := P.out
    obtain ⟨Q0, Q1, Q2⟩ := Q.out
    obtain ⟨L0, L1⟩ := L.out
    have oz0 := z0.out
    have oz1 := z1.out
    have oz2 := z2.out
    have oz3 := z3.out
    go_wp2_with fail
    clear P0 P1 P2 Q0 Q1 Q2 L0 L1 oz0 oz1 oz2 oz3
    refine gen_wp ?_
    intro W2 hW2
    have gl : Grew w3 W2 := by rw [hW2]; exact (Grew.refl _).alloc _
    have y2 := Lib.hid (R.out).2.2.2.2.2.2
    replace R := Lib.hid (R.out.grew gl)
    replace P := Lib.hid (P.out.grew gl)
    replace Q := Lib.hid (Q.out.grew gl)
    replace L := Lib.hid (L.out.grew gl)
    replace z0 := Lib.hid (lt_grew z0.out gl)
    replace z1 := Lib.hid (lt_grew z1.out gl)
    replace z2 := Lib.hid (lt_grew z2.out gl)
    replace z3 := Lib.hid (lt_grew z3.out gl)
    replace Wa := Lib.hid (Wa.out.kept gl.keeps)
    replace Na := Lib.hid (Na.out.kept gl.keeps)
    replace Wb := Lib.hid (Wb.out.kept gl.keeps)
    replace Nb := Lib.hid (Nb.out.kept gl.keeps)
    replace X1 := Lib.hid (X1.out.kept gl.keeps)
    replace X2 := Lib.hid (X2.out.kept gl.keeps)
    have M : Box2 W2 (w3.heap.size) 0 (.bool b4) (.slice A4 n4 c4) := by rw [hW2]; exact ⟨by simp [go_sem], by simp [go_sem]⟩
    replace M := Lib.hid M
    have z4 : w3.heap.size < W2.heap.size := by rw [hW2]; simp <;> omega
    replace z4 := Lib.hid z4
    clear hW2
    replace G0 := Lib.hid (G0.out.trans gl)
    clear gl
    have gd : Grew W2 W2.drew := (Grew.refl W2).drew
    replace R := Lib.hid (R.out.grew gd)
    replace P := Lib.hid (P.out.grew gd)
    replace Q := Lib.hid (Q.out.grew gd)
    replace L := Lib.hid (L.out.grew gd)
    replace M := Lib.hid (M.out.grew gd)
    replace z0 := Lib.hid (lt_grew z0.out gd)
    replace z1 := Lib.hid (lt_grew z1.out gd)
    replace z2 := Lib.hid (lt_grew z2.out gd)
    replace z3 := Lib.hid (lt_grew z3.out gd)
    replace z4 := Lib.hid (lt_grew z4.out gd)
    replace Wa := Lib.hid (Wa.out.kept gd.keeps)
    replace Na := Lib.hid (Na.out.kept gd.keeps)
    replace Wb := Lib.hid (Wb.out.kept gd.keeps)
    replace Nb := Lib.hid (Nb.out.kept gd.keeps)
    replace X1 := Lib.hid (X1.out.kept gd.keeps)
    replace X2 := Lib.hid (X2.out.kept gd.keeps)
    replace gd := Lib.hid gd
    have ZP := P
    have ZQ := Q
    have ZL := L
    have ZM := M
    go_region_held3 (fun w' => w'.cell? ⟨w.heap.size, 0, none⟩ = some (.bool b1) ∧ w'.cell? ⟨w.heap.size, 1, none⟩ = some (.slice A1 n1 c1) ∧ w'.cell? ⟨w.heap.size, 2, none⟩ = some (.slice C1 m1 d1) ∧ w'.cell? ⟨w.heap.size + 1, 0, none⟩ = some (.bool b2) ∧ w'.cell? ⟨w.heap.size + 1, 1, none⟩ = some (.slice A2 n2 c2) ∧ w'.cell? ⟨w.heap.size + 1, 2, none⟩ = some (.slice C2 m2 d2) ∧ w'.cell? ⟨w2.heap.size, 0, none⟩ = some (.bool b3) ∧ w'.cell? ⟨w2.heap.size, 1, none⟩ = some (.slice A3 n3 c3) ∧ w'.cell? ⟨w3.heap.size, 0, none⟩ = some (.bool b4) ∧ w'.cell? ⟨w3.heap.size, 1, none⟩ = some (.slice A4 n4 c4))
      (first | (with_reducible exact ⟨ZP.out.p0, ZP.out.p1, ZP.out.p2, ZQ.out.p0, ZQ.out.p1, ZQ.out.p2, ZL.out.p0, ZL.out.p1, ZM.out.p0, ZM.out.p1⟩) | (with_reducible exact ⟨g4.cell ZP.out.p0, g4.cell ZP.out.p1, g4.cell ZP.out.p2, g4.cell ZQ.out.p0, g4.cell ZQ.out.p1, g4.cell ZQ.out.p2, g4.cell ZL.out.p0, g4.cell ZL.out.p1, g4.cell ZM.out.p0, g4.cell ZM.out.p1⟩) | (with_reducible exact ⟨(g4.trans g5).cell ZP.out.p0, (g4.trans g5).cell ZP.out.p1, (g4.trans g5).cell ZP.out.p2, (g4.trans g5).cell ZQ.out.p0, (g4.trans g5).cell ZQ.out.p1, (g4.trans g5).cell ZQ.out.p2, (g4.trans g5).cell ZL.out.p0, (g4.trans g5).cell ZL.out.p1, (g4.trans g5).cell ZM.out.p0, (g4.trans g5).cell ZM.out.p1⟩) | (with_reducible exact ⟨other3 (o := 0) (by omega) ((g4.trans g5).cell ZP.out.p0), other3 (o := 0) (by omega) ((g4.trans g5).cell ZP.out.p1), other3 (o := 0) (by omega) ((g4.trans g5).cell ZP.out.p2), other3 (o := 0) (by omega) ((g4.trans g5).cell ZQ.out.p0), other3 (o := 0) (by omega) ((g4.trans g5).cell ZQ.out.p1), other3 (o := 0) (by omega) ((g4.trans g5).cell ZQ.out.p2), other3 (o := 0) (by have := y1.out; omega) ((g4.trans g5).cell ZL.out.p0), other3 (o := 0) (by have := y1.out; omega) ((g4.trans g5).cell ZL.out.p1), other3 (o := 0) (by have := y2.out; omega) ((g4.trans g5).cell ZM.out.p0), other3 (o := 0) (by have := y2.out; omega) ((g4.trans g5).cell ZM.out.p1)⟩))
      (first | (go_at_call 119; refine (wadd_v _ _ (z * E) (y * D) (k + l) (l + k) _ X1.out X2.out hkl.out.2.2).mono ?_; rintro e w4 ⟨V3, rfl, hV3, g4⟩; obtain ⟨b5, A5, n5, c5, rfl, X3, -⟩ := hV3.laid; clear hV3; replace R := Lib.hid (R.out.grew g4); replace P := Lib.hid (P.out.grew g4); replace Q := Lib.hid (Q.out.grew g4); replace L := Lib.hid (L.out.grew g4); replace M := Lib.hid (M.out.grew g4); replace z0 := Lib.hid (lt_grew z0.out g4); replace z1 := Lib.hid (lt_grew z1.out g4); replace z2 := Lib.hid (lt_grew z2.out g4); replace z3 := Lib.hid (lt_grew z3.out g4); replace z4 := Lib.hid (lt_grew z4.out g4); replace Wa := Lib.hid (Wa.out.kept g4.keeps); replace Na := Lib.hid (Na.out.kept g4.keeps); replace Wb := Lib.hid (Wb.out.kept g4.keeps); replace Nb := Lib.hid (Nb.out.kept g4.keeps); replace X1 := Lib.hid (X1.out.kept g4.keeps); replace X2 := Lib.hid (X2.out.kept g4.keeps)) | (go_at_call 82; refine (mul_any _ _ D E _ _ _ Na.out Nb.out hlen3.out).mono ?_; rintro e w5 ⟨V4, rfl, hV4, g5⟩; obtain ⟨A6, c6, rfl, X4⟩ := hV4.slice; clear hV4; replace R := Lib.hid (R.out.grew g5); replace P := Lib.hid (P.out.grew g5); replace Q := Lib.hid (Q.out.grew g5); replace L := Lib.hid (L.out.grew g5); replace M := Lib.hid (M.out.grew g5); replace z0 := Lib.hid (lt_grew z0.out g5); replace z1 := Lib.hid (lt_grew z1.out g5); replace z2 := Lib.hid (lt_grew z2.out g5); replace z3 := Lib.hid (lt_grew z3.out g5); replace z4 := Lib.hid (lt_grew z4.out g5); replace Wa := Lib.hid (Wa.out.kept g5.keeps); replace Na := Lib.hid (Na.out.kept g5.keeps); replace Wb := Lib.hid (Wb.out.kept g5.keeps); replace Nb := Lib.hid (Nb.out.kept g5.keeps); replace X1 := Lib.hid (X1.out.kept g5.keeps); replace X2 := Lib.hid (X2.out.kept g5.keeps); replace X3 := Lib.hid (X3.out.kept g5.keeps); obtain ⟨R0, R1, R2, Rf0, Rf1, Rf2, Rs⟩ := R.out))
    replace G0 := Lib.hid (((G0.out.trans gd.out).trans g4).trans g5)
    clear gd g4 g5 ZP ZQ ZL ZM
    refine gen_then ?_
    intro W9 hW9
    obtain ⟨q0, q1, q2, qK, -, -, qs, qG⟩ := store3 (o := 0) R0 R1 R2 hW9
    have GE := qG w (.inr (by omega)) G0.out
    have QK := Lib.hid qK
    clear qK qG hW9 R0 R1 R2
    go_wp2_with fail
    exact bodyPost_ret (v := .agg #[.bool b5, .slice A5 n5 c5, .slice A6 (len 4294967296 (D * E)) c6]) (by simp [results, Tryz.results97, go_sem, q0, q1, q2]) rfl ⟨_, rfl, RatQ.mk (X3.out.kept QK.out) (X4.out.kept QK.out) rfl hDE2.out (by rw [mkRat_add _ _ _ _ hD.out hE.out, Ea.out, Eb.out]) hlen.out hlen2.out, GE⟩
end Go.Proofs.YtpglnfccmhkocaaGreat
