/- split.clean, Cmp, Turned, and the document's own. Condition: what comes in reads; fewer than 2^26 words. clear of a row's tail, at structs of k cells. Conditions: none. slices.CompactFunc at api.Edge, whatever the test, on a row that the caller owns. Condition: at most 2^40 elements. slices.CompactFunc at api.Spot, whatever the test, on a row that the caller owns. Condition: at most 2^40 elements. -/
import Derived.Test.YtmommicmblfibaaGreatJRow3
import Derived.Test.YtmommicmblfibaaGreatJOwnK
import Derived.Test.YtmommicmblfibaaGreatJElE
import Derived.BigFrame
import Derived.Deep.LoopGhost
import Derived.Deep.RegionHeld3
set_option maxRecDepth 100000
namespace Go.Proofs.YtmommicmblfibaaGreat
open Go.RowKit
set_option maxHeartbeats 4000000 in
theorem xclean_any (Va : Value) (x y : Rat) (k : Nat) (w : World) (ha : SpotV w Va x y k) (hk : 1 ≤ k) (hs : k < 67108864) :
  Calls Tryz.prog 31 #[Va] w fun e w' => ∃ V, e = .returned V ∧ SpotC w' V x y ∧ Grew w w' := by
 obtain ⟨b1, A1, n1, c1, C1, m1, d1, b2, A2, n2, c2, C2, m2, d2, rfl, Fa, Fb, -⟩ := ha.laid
 clear ha
 go_enter Tryz.func31, Tryz.ntmps31
 go_wp2_with fail
 refine gen_wp ?_
 intro W0 hW0
 have G0 : Grew w W0 := by rw [hW0]; exact ((Grew.refl w).alloc _).alloc _
 have P : Box3 W0 (w.heap.size) 0 (.bool b1) (.slice A1 n1 c1) (.slice C1 m1 d1) := by rw [hW0]; exact ⟨by simp [go_sem], by simp [go_sem], by simp [go_sem]⟩
 replace P := hZ P
 have Py : Box3 W0 (w.heap.size) 3 (.bool b2) (.slice A2 n2 c2) (.slice C2 m2 d2) := by rw [hW0]; exact ⟨by simp [go_sem], by simp [go_sem], by simp [go_sem]⟩
 replace Py := hZ Py
 have R : Res3 W0 (w.heap.size + 1) 0 (.bool false) (.slice none 0 0) (.slice none 0 0) := by rw [hW0]; exact ⟨by simp [go_sem], by simp [go_sem], by simp [go_sem], by simp [go_sem], by simp [go_sem], by simp [go_sem], by simp⟩
 replace R := hZ R
 have R_ : Res3 W0 (w.heap.size + 1) 3 (.bool false) (.slice none 0 0) (.slice none 0 0) := by rw [hW0]; exact ⟨by simp [go_sem], by simp [go_sem], by simp [go_sem], by simp [go_sem], by simp [go_sem], by simp [go_sem], by simp⟩
 replace R_ := hZ R_
 have z0 : w.heap.size < W0.heap.size := by rw [hW0]; simp <;> omega
 replace z0 := hZ z0
 have z1 : w.heap.size + 1 < W0.heap.size := by rw [hW0]; simp <;> omega
 replace z1 := hZ z1
 clear hW0
 replace Fa := hZ (Fa.out.kept G0.keeps)
 replace Fb := hZ (Fb.out.kept G0.keeps)
 replace G0 := hZ G0
 have gd : Grew W0 W0.drew := (Grew.refl W0).drew
 replace R := hZ (R.out.grew gd)
 replace R_ := hZ (R_.out.grew gd)
 replace P := hZ (P.out.grew gd)
 replace Py := hZ (Py.out.grew gd)
 replace z0 := hZ (lt_grew z0.out gd)
 replace z1 := hZ (lt_grew z1.out gd)
 replace Fa := hZ (Fa.out.kept gd.keeps)
 replace Fb := hZ (Fb.out.kept gd.keeps)
 replace gd := hZ gd
 have ZP := P
 have ZPy := Py
 go_region_held3 (fun w' => w'.cell? ⟨w.heap.size, 0, none⟩ = some (.bool b1) ∧ w'.cell? ⟨w.heap.size, 1, none⟩ = some (.slice A1 n1 c1) ∧ w'.cell? ⟨w.heap.size, 2, none⟩ = some (.slice C1 m1 d1) ∧ w'.cell? ⟨w.heap.size, 3, none⟩ = some (.bool b2) ∧ w'.cell? ⟨w.heap.size, 4, none⟩ = some (.slice A2 n2 c2) ∧ w'.cell? ⟨w.heap.size, 5, none⟩ = some (.slice C2 m2 d2))
  (first | (with_reducible exact ⟨ZP.out.p0, ZP.out.p1, ZP.out.p2, ZPy.out.p0, ZPy.out.p1, ZPy.out.p2⟩) | (with_reducible exact ⟨g1.cell ZP.out.p0, g1.cell ZP.out.p1, g1.cell ZP.out.p2, g1.cell ZPy.out.p0, g1.cell ZPy.out.p1, g1.cell ZPy.out.p2⟩) | (with_reducible exact ⟨(g1.trans g2).cell ZP.out.p0, (g1.trans g2).cell ZP.out.p1, (g1.trans g2).cell ZP.out.p2, (g1.trans g2).cell ZPy.out.p0, (g1.trans g2).cell ZPy.out.p1, (g1.trans g2).cell ZPy.out.p2⟩) | (with_reducible exact ⟨other3 (o := 3) (by omega) (other3 (o := 0) (by omega) ((g1.trans g2).cell ZP.out.p0)), other3 (o := 3) (by omega) (other3 (o := 0) (by omega) ((g1.trans g2).cell ZP.out.p1)), other3 (o := 3) (by omega) (other3 (o := 0) (by omega) ((g1.trans g2).cell ZP.out.p2)), other3 (o := 3) (by omega) (other3 (o := 0) (by omega) ((g1.trans g2).cell ZPy.out.p0)), other3 (o := 3) (by omega) (other3 (o := 0) (by omega) ((g1.trans g2).cell ZPy.out.p1)), other3 (o := 3) (by omega) (other3 (o := 0) (by omega) ((g1.trans g2).cell ZPy.out.p2))⟩))
  (first | (have chk := g1; clear chk; go_at_call 56; refine (freduce_any _ y k _ Fb.out hk (by omega)).mono ?_; rintro e w2 ⟨V2, rfl, hV2, g2⟩; obtain ⟨b14, A14, n14, c14, C14, m14, d14, rfl, X2⟩ := hV2.laid; clear hV2; replace R := hZ (R.out.grew g2); replace R_ := hZ (R_.out.grew g2); replace P := hZ (P.out.grew g2); replace Py := hZ (Py.out.grew g2); replace z0 := hZ (lt_grew z0.out g2); replace z1 := hZ (lt_grew z1.out g2); replace Fa := hZ (Fa.out.kept g2.keeps); replace Fb := hZ (Fb.out.kept g2.keeps); replace X1 := hZ (X1.out.kept g2.keeps); obtain ⟨R0, R1, R2, Rf0, Rf1, Rf2, Rs⟩ := R.out; obtain ⟨R_0, R_1, R_2, R_f0, R_f1, R_f2, R_s⟩ := R_.out) | (go_at_call 56; refine (freduce_any _ x k _ Fa.out hk (by omega)).mono ?_; rintro e w1 ⟨V1, rfl, hV1, g1⟩; obtain ⟨b13, A13, n13, c13, C13, m13, d13, rfl, X1⟩ := hV1.laid; clear hV1; replace R := hZ (R.out.grew g1); replace R_ := hZ (R_.out.grew g1); replace P := hZ (P.out.grew g1); replace Py := hZ (Py.out.grew g1); replace z0 := hZ (lt_grew z0.out g1); replace z1 := hZ (lt_grew z1.out g1); replace Fa := hZ (Fa.out.kept g1.keeps); replace Fb := hZ (Fb.out.kept g1.keeps)))
 replace G0 := hZ (((G0.out.trans gd.out).trans g1).trans g2)
 clear gd g1 g2 ZP ZPy
 refine gen_then ?_
 intro W9 hW9
 obtain ⟨q0, q1, q2, q3, q4, q5, qK, qG⟩ := store6 R0 R1 R2 R_0 R_1 R_2 hW9
 have GE := qG w (by omega) G0.out
 have QK := hZ qK
 clear qK qG hW9 R0 R1 R2 R_0 R_1 R_2
 go_wp2_with fail
 exact bodyPost_ret (v := .agg #[.bool b13, .slice A13 n13 c13, .slice C13 m13 d13, .bool b14, .slice A14 n14 c14, .slice C14 m14 d14]) (by simp [results, Tryz.results31, go_sem, q0, q1, q2, q3, q4, q5]) rfl ⟨_, rfl, SpotC.mk (X1.out.kept QK.out) (X2.out.kept QK.out), GE⟩
set_option maxHeartbeats 4000000 in
theorem rxclean_any (Va : Value) (x y : Rat) (k : Nat) (w : World) (ha : SpotR w Va x y k) (hs : k < 67108864) :
  Calls Tryz.prog 32 #[Va] w fun e w' => ∃ V, e = .returned V ∧ SpotC w' V x y ∧ Grew w w' := by
 obtain ⟨b1, A1, n1, c1, C1, m1, d1, b2, A2, n2, c2, C2, m2, d2, rfl, Fa, Fb, -⟩ := ha.laid
 clear ha
 go_enter Tryz.func32, Tryz.ntmps32
 go_wp2_with fail
 refine gen_wp ?_
 intro W0 hW0
 have G0 : Grew w W0 := by rw [hW0]; exact ((Grew.refl w).alloc _).alloc _
 have P : Box3 W0 (w.heap.size) 0 (.bool b1) (.slice A1 n1 c1) (.slice C1 m1 d1) := by rw [hW0]; exact ⟨by simp [go_sem], by simp [go_sem], by simp [go_sem]⟩
 replace P := hZ P
 have Py : Box3 W0 (w.heap.size) 3 (.bool b2) (.slice A2 n2 c2) (.slice C2 m2 d2) := by rw [hW0]; exact ⟨by simp [go_sem], by simp [go_sem], by simp [go_sem]⟩
 replace Py := hZ Py
 have R : Res3 W0 (w.heap.size + 1) 0 (.bool false) (.slice none 0 0) (.slice none 0 0) := by rw [hW0]; exact ⟨by simp [go_sem], by simp [go_sem], by simp [go_sem], by simp [go_sem], by simp [go_sem], by simp [go_sem], by simp⟩
 replace R := hZ R
 have R_ : Res3 W0 (w.heap.size + 1) 3 (.bool false) (.slice none 0 0) (.slice none 0 0) := by rw [hW0]; exact ⟨by simp [go_sem], by simp [go_sem], by simp [go_sem], by simp [go_sem], by simp [go_sem], by simp [go_sem], by simp⟩
 replace R_ := hZ R_
 have z0 : w.heap.size < W0.heap.size := by rw [hW0]; simp <;> omega
 replace z0 := hZ z0
 have z1 : w.heap.size + 1 < W0.heap.size := by rw [hW0]; simp <;> omega
 replace z1 := hZ z1
 clear hW0
 replace Fa := hZ (Fa.out.kept G0.keeps)
 replace Fb := hZ (Fb.out.kept G0.keeps)
 replace G0 := hZ G0
 have gd : Grew W0 W0.drew := (Grew.refl W0).drew
 replace R := hZ (R.out.grew gd)
 replace R_ := hZ (R_.out.grew gd)
 replace P := hZ (P.out.grew gd)
 replace Py := hZ (Py.out.grew gd)
 replace z0 := hZ (lt_grew z0.out gd)
 replace z1 := hZ (lt_grew z1.out gd)
 replace Fa := hZ (Fa.out.kept gd.keeps)
 replace Fb := hZ (Fb.out.kept gd.keeps)
 replace gd := hZ gd
 have ZP := P
 have ZPy := Py
 go_region_held3 (fun w' => w'.cell? ⟨w.heap.size, 0, none⟩ = some (.bool b1) ∧ w'.cell? ⟨w.heap.size, 1, none⟩ = some (.slice A1 n1 c1) ∧ w'.cell? ⟨w.heap.size, 2, none⟩ = some (.slice C1 m1 d1) ∧ w'.cell? ⟨w.heap.size, 3, none⟩ = some (.bool b2) ∧ w'.cell? ⟨w.heap.size, 4, none⟩ = some (.slice A2 n2 c2) ∧ w'.cell? ⟨w.heap.size, 5, none⟩ = some (.slice C2 m2 d2))
  (first | (with_reducible exact ⟨ZP.out.p0, ZP.out.p1, ZP.out.p2, ZPy.out.p0, ZPy.out.p1, ZPy.out.p2⟩) | (with_reducible exact ⟨g1.cell ZP.out.p0, g1.cell ZP.out.p1, g1.cell ZP.out.p2, g1.cell ZPy.out.p0, g1.cell ZPy.out.p1, g1.cell ZPy.out.p2⟩) | (with_reducible exact ⟨(g1.trans g2).cell ZP.out.p0, (g1.trans g2).cell ZP.out.p1, (g1.trans g2).cell ZP.out.p2, (g1.trans g2).cell ZPy.out.p0, (g1.trans g2).cell ZPy.out.p1, (g1.trans g2).cell ZPy.out.p2⟩) | (with_reducible exact ⟨other3 (o := 3) (by omega) (other3 (o := 0) (by omega) ((g1.trans g2).cell ZP.out.p0)), other3 (o := 3) (by omega) (other3 (o := 0) (by omega) ((g1.trans g2).cell ZP.out.p1)), other3 (o := 3) (by omega) (other3 (o := 0) (by omega) ((g1.trans g2).cell ZP.out.p2)), other3 (o := 3) (by omega) (other3 (o := 0) (by omega) ((g1.trans g2).cell ZPy.out.p0)), other3 (o := 3) (by omega) (other3 (o := 0) (by omega) ((g1.trans g2).cell ZPy.out.p1)), other3 (o := 3) (by omega) (other3 (o := 0) (by omega) ((g1.trans g2).cell ZPy.out.p2))⟩))
  (first | (have chk := g1; clear chk; go_at_call 57; refine (rfreduce_any _ y k _ Fb.out (by omega)).mono ?_; rintro e w2 ⟨V2, rfl, hV2, g2⟩; obtain ⟨b14, A14, n14, c14, C14, m14, d14, rfl, X2⟩ := hV2.laid; clear hV2; replace R := hZ (R.out.grew g2); replace R_ := hZ (R_.out.grew g2); replace P := hZ (P.out.grew g2); replace Py := hZ (Py.out.grew g2); replace z0 := hZ (lt_grew z0.out g2); replace z1 := hZ (lt_grew z1.out g2); replace Fa := hZ (Fa.out.kept g2.keeps); replace Fb := hZ (Fb.out.kept g2.keeps); replace X1 := hZ (X1.out.kept g2.keeps); obtain ⟨R0, R1, R2, Rf0, Rf1, Rf2, Rs⟩ := R.out; obtain ⟨R_0, R_1, R_2, R_f0, R_f1, R_f2, R_s⟩ := R_.out) | (go_at_call 57; refine (rfreduce_any _ x k _ Fa.out (by omega)).mono ?_; rintro e w1 ⟨V1, rfl, hV1, g1⟩; obtain ⟨b13, A13, n13, c13, C13, m13, d13, rfl, X1⟩ := hV1.laid; clear hV1; replace R := hZ (R.out.grew g1); replace R_ := hZ (R_.out.grew g1); replace P := hZ (P.out.grew g1); replace Py := hZ (Py.out.grew g1); replace z0 := hZ (lt_grew z0.out g1); replace z1 := hZ (lt_grew z1.out g1); replace Fa := hZ (Fa.out.kept g1.keeps); replace Fb := hZ (Fb.out.kept g1.keeps)))
 replace G0 := hZ (((G0.out.trans gd.out).trans g1).trans g2)
 clear gd g1 g2 ZP ZPy
 refine gen_then ?_
 intro W9 hW9
 obtain ⟨q0, q1, q2, q3, q4, q5, qK, qG⟩ := store6 R0 R1 R2 R_0 R_1 R_2 hW9
 have GE := qG w (by omega) G0.out
 have QK := hZ qK
 clear qK qG hW9 R0 R1 R2 R_0 R_1 R_2
 go_wp2_with fail
 exact bodyPost_ret (v := .agg #[.bool b13, .slice A13 n13 c13, .slice C13 m13 d13, .bool b14, .slice A14 n14 c14, .slice C14 m14 d14]) (by simp [results, Tryz.results32, go_sem, q0, q1, q2, q3, q4, q5]) rfl ⟨_, rfl, SpotC.mk (X1.out.kept QK.out) (X2.out.kept QK.out), GE⟩
set_option maxHeartbeats 8000000 in
theorem ecmp_any (us vs : Array Value) (x y : EdgeQ) (k : Nat) (w : World) (ha : EdgeR k w us x) (hb : EdgeR k w vs y) (hk : 1 ≤ k) (hs : k < 67108864) :
  Calls Tryz.prog 10 #[.agg us, .agg vs] w fun e w' => e = .returned (.int .i64 (edgeCmp x y)) ∧ Grew w w' := by
 obtain ⟨b1, A1, n1, c1, C1, m1, d1, b2, A2, n2, c2, C2, m2, d2, b3, A3, n3, c3, C3, m3, d3, b4, A4, n4, c4, C4, m4, d4, rfl, Fa, Fb⟩ := ha.laid
 obtain ⟨b5, A5, n5, c5, C5, m5, d5, b6, A6, n6, c6, C6, m6, d6, b7, A7, n7, c7, C7, m7, d7, b8, A8, n8, c8, C8, m8, d8, rfl, Fc, Fd⟩ := hb.laid
 clear ha hb
 have eO : edgeCmp x y = if spotCmp x.1.1 x.1.2 y.1.1 y.1.2 = 0 then spotCmp x.2.1 x.2.2 y.2.1 y.2.2 else spotCmp x.1.1 x.1.2 y.1.1 y.1.2 := rfl
 generalize edgeCmp x y = oo at *
 obtain ⟨z, hz⟩ : ∃ z, spotCmp x.1.1 x.1.2 y.1.1 y.1.2 = z := ⟨_, rfl⟩
 rw [hz] at eO
 replace hz := hZ hz
 replace eO := hZ eO
 go_enter Tryz.func10, Tryz.ntmps10
 go_wp2_with fail
 refine gen_calls ?_
 intro W0 hW0
 have G0 : Grew w W0 := by rw [hW0]; exact ((Grew.refl w).alloc _).alloc _
 have P : Box3 W0 (w.heap.size) 0 (.bool b1) (.slice A1 n1 c1) (.slice C1 m1 d1) := by rw [hW0]; exact ⟨by simp [go_sem], by simp [go_sem], by simp [go_sem]⟩
 replace P := hZ P
 have Py : Box3 W0 (w.heap.size) 3 (.bool b2) (.slice A2 n2 c2) (.slice C2 m2 d2) := by rw [hW0]; exact ⟨by simp [go_sem], by simp [go_sem], by simp [go_sem]⟩
 replace Py := hZ Py
 have S : Box3 W0 (w.heap.size) 6 (.bool b3) (.slice A3 n3 c3) (.slice C3 m3 d3) := by rw [hW0]; exact ⟨by simp [go_sem], by simp [go_sem], by simp [go_sem]⟩
 replace S := hZ S
 have Sy : Box3 W0 (w.heap.size) 9 (.bool b4) (.slice A4 n4 c4) (.slice C4 m4 d4) := by rw [hW0]; exact ⟨by simp [go_sem], by simp [go_sem], by simp [go_sem]⟩
 replace Sy := hZ Sy
 have Q : Box3 W0 (w.heap.size + 1) 0 (.bool b5) (.slice A5 n5 c5) (.slice C5 m5 d5) := by rw [hW0]; exact ⟨by simp [go_sem], by simp [go_sem], by simp [go_sem]⟩
 replace Q := hZ Q
 have Qy : Box3 W0 (w.heap.size + 1) 3 (.bool b6) (.slice A6 n6 c6) (.slice C6 m6 d6) := by rw [hW0]; exact ⟨by simp [go_sem], by simp [go_sem], by simp [go_sem]⟩
 replace Qy := hZ Qy
 have T : Box3 W0 (w.heap.size + 1) 6 (.bool b7) (.slice A7 n7 c7) (.slice C7 m7 d7) := by rw [hW0]; exact ⟨by simp [go_sem], by simp [go_sem], by simp [go_sem]⟩
 replace T := hZ T
 have Ty : Box3 W0 (w.heap.size + 1) 9 (.bool b8) (.slice A8 n8 c8) (.slice C8 m8 d8) := by rw [hW0]; exact ⟨by simp [go_sem], by simp [go_sem], by simp [go_sem]⟩
 replace Ty := hZ Ty
 have z0 : w.heap.size < W0.heap.size := by rw [hW0]; simp <;> omega
 replace z0 := hZ z0
 have z1 : w.heap.size + 1 < W0.heap.size := by rw [hW0]; simp <;> omega
 replace z1 := hZ z1
 clear hW0
 replace Fa := hZ (Fa.out.kept G0.keeps)
 replace Fb := hZ (Fb.out.kept G0.keeps)
 replace Fc := hZ (Fc.out.kept G0.keeps)
 replace Fd := hZ (Fd.out.kept G0.keeps)
 replace G0 := hZ G0
 refine (scmp_any _ _ x.1.1 x.1.2 y.1.1 y.1.2 k _ Fa.out.v Fc.out.v hk hs).mono ?_
 rintro e w1 ⟨rfl, g1⟩
 replace P := hZ (P.out.grew g1)
 replace Py := hZ (Py.out.grew g1)
 replace S := hZ (S.out.grew g1)
 replace Sy := hZ (Sy.out.grew g1)
 replace Q := hZ (Q.out.grew g1)
 replace Qy := hZ (Qy.out.grew g1)
 replace T := hZ (T.out.grew g1)
 replace Ty := hZ (Ty.out.grew g1)
 replace z0 := hZ (lt_grew z0.out g1)
 replace z1 := hZ (lt_grew z1.out g1)
 replace Fa := hZ (Fa.out.kept g1.keeps)
 replace Fb := hZ (Fb.out.kept g1.keeps)
 replace Fc := hZ (Fc.out.kept g1.keeps)
 replace Fd := hZ (Fd.out.kept g1.keeps)
 replace G0 := hZ (G0.out.trans g1)
 clear g1
 rw [hz.out]
 by_cases h0 : z = 0
 ·as_aux_lemma =>
  subst h0
  have eO' := hZ (eO.out.trans (if_pos rfl))
  obtain ⟨S0, S1, S2⟩ := S.out
  obtain ⟨Sy0, Sy1, Sy2⟩ := Sy.out
  obtain ⟨T0, T1, T2⟩ := T.out
  obtain ⟨Ty0, Ty1, Ty2⟩ := Ty.out
  go_wp2_with fail
  clear S0 S1 S2 Sy0 Sy1 Sy2 T0 T1 T2 Ty0 Ty1 Ty2
  refine (scmp_any _ _ x.2.1 x.2.2 y.2.1 y.2.2 k _ Fb.out.v Fd.out.v hk hs).mono ?_
  rintro e w2 ⟨rfl, g2⟩
  replace P := hZ (P.out.grew g2)
  replace Py := hZ (Py.out.grew g2)
  replace S := hZ (S.out.grew g2)
  replace Sy := hZ (Sy.out.grew g2)
  replace Q := hZ (Q.out.grew g2)
  replace Qy := hZ (Qy.out.grew g2)
  replace T := hZ (T.out.grew g2)
  replace Ty := hZ (Ty.out.grew g2)
  replace z0 := hZ (lt_grew z0.out g2)
  replace z1 := hZ (lt_grew z1.out g2)
  replace Fa := hZ (Fa.out.kept g2.keeps)
  replace Fb := hZ (Fb.out.kept g2.keeps)
  replace Fc := hZ (Fc.out.kept g2.keeps)
  replace Fd := hZ (Fd.out.kept g2.keeps)
  replace G0 := hZ (G0.out.trans g2)
  clear g2
  go_wp2_with fail
  go_ret
  exact ⟨by rw [eO'.out]; rfl, G0.out⟩
 ·as_aux_lemma =>
  have eO' := hZ (eO.out.trans (if_neg h0))
  have hxb : (z == 0) = false := by simpa using h0
  go_wp2_with fail
  go_ret
  exact ⟨by rw [eO'.out]; rfl, G0.out⟩
set_option maxHeartbeats 8000000 in
theorem recmp_any (us vs : Array Value) (x y : EdgeQ) (k : Nat) (w : World) (ha : EdgeR k w us x) (hb : EdgeR k w vs y) (hk : 1 ≤ k) (hs : k < 67108864) :
  Calls Tryz.prog 11 #[.agg us, .agg vs] w fun e w' => e = .returned (.int .i64 (edgeCmp x y)) ∧ Grew w w' := by
 obtain ⟨b1, A1, n1, c1, C1, m1, d1, b2, A2, n2, c2, C2, m2, d2, b3, A3, n3, c3, C3, m3, d3, b4, A4, n4, c4, C4, m4, d4, rfl, Fa, Fb⟩ := ha.laid
 obtain ⟨b5, A5, n5, c5, C5, m5, d5, b6, A6, n6, c6, C6, m6, d6, b7, A7, n7, c7, C7, m7, d7, b8, A8, n8, c8, C8, m8, d8, rfl, Fc, Fd⟩ := hb.laid
 clear ha hb
 have eO : edgeCmp x y = if spotCmp x.1.1 x.1.2 y.1.1 y.1.2 = 0 then spotCmp x.2.1 x.2.2 y.2.1 y.2.2 else spotCmp x.1.1 x.1.2 y.1.1 y.1.2 := rfl
 generalize edgeCmp x y = oo at *
 obtain ⟨z, hz⟩ : ∃ z, spotCmp x.1.1 x.1.2 y.1.1 y.1.2 = z := ⟨_, rfl⟩
 rw [hz] at eO
 replace hz := hZ hz
 replace eO := hZ eO
 go_enter Tryz.func11, Tryz.ntmps11
 go_wp2_with fail
 refine gen_calls ?_
 intro W0 hW0
 have G0 : Grew w W0 := by rw [hW0]; exact ((Grew.refl w).alloc _).alloc _
 have P : Box3 W0 (w.heap.size) 0 (.bool b1) (.slice A1 n1 c1) (.slice C1 m1 d1) := by rw [hW0]; exact ⟨by simp [go_sem], by simp [go_sem], by simp [go_sem]⟩
 replace P := hZ P
 have Py : Box3 W0 (w.heap.size) 3 (.bool b2) (.slice A2 n2 c2) (.slice C2 m2 d2) := by rw [hW0]; exact ⟨by simp [go_sem], by simp [go_sem], by simp [go_sem]⟩
 replace Py := hZ Py
 have S : Box3 W0 (w.heap.size) 6 (.bool b3) (.slice A3 n3 c3) (.slice C3 m3 d3) := by rw [hW0]; exact ⟨by simp [go_sem], by simp [go_sem], by simp [go_sem]⟩
 replace S := hZ S
 have Sy : Box3 W0 (w.heap.size) 9 (.bool b4) (.slice A4 n4 c4) (.slice C4 m4 d4) := by rw [hW0]; exact ⟨by simp [go_sem], by simp [go_sem], by simp [go_sem]⟩
 replace Sy := hZ Sy
 have Q : Box3 W0 (w.heap.size + 1) 0 (.bool b5) (.slice A5 n5 c5) (.slice C5 m5 d5) := by rw [hW0]; exact ⟨by simp [go_sem], by simp [go_sem], by simp [go_sem]⟩
 replace Q := hZ Q
 have Qy : Box3 W0 (w.heap.size + 1) 3 (.bool b6) (.slice A6 n6 c6) (.slice C6 m6 d6) := by rw [hW0]; exact ⟨by simp [go_sem], by simp [go_sem], by simp [go_sem]⟩
 replace Qy := hZ Qy
 have T : Box3 W0 (w.heap.size + 1) 6 (.bool b7) (.slice A7 n7 c7) (.slice C7 m7 d7) := by rw [hW0]; exact ⟨by simp [go_sem], by simp [go_sem], by simp [go_sem]⟩
 replace T := hZ T
 have Ty : Box3 W0 (w.heap.size + 1) 9 (.bool b8) (.slice A8 n8 c8) (.slice C8 m8 d8) := by rw [hW0]; exact ⟨by simp [go_sem], by simp [go_sem], by simp [go_sem]⟩
 replace Ty := hZ Ty
 have z0 : w.heap.size < W0.heap.size := by rw [hW0]; simp <;> omega
 replace z0 := hZ z0
 have z1 : w.heap.size + 1 < W0.heap.size := by rw [hW0]; simp <;> omega
 replace z1 := hZ z1
 clear hW0
 replace Fa := hZ (Fa.out.kept G0.keeps)
 replace Fb := hZ (Fb.out.kept G0.keeps)
 replace Fc := hZ (Fc.out.kept G0.keeps)
 replace Fd := hZ (Fd.out.kept G0.keeps)
 replace G0 := hZ G0
 refine (rscmp_any _ _ x.1.1 x.1.2 y.1.1 y.1.2 k _ Fa.out Fc.out hk hs).mono ?_
 rintro e w1 ⟨rfl, g1⟩
 replace P := hZ (P.out.grew g1)
 replace Py := hZ (Py.out.grew g1)
 replace S := hZ (S.out.grew g1)
 replace Sy := hZ (Sy.out.grew g1)
 replace Q := hZ (Q.out.grew g1)
 replace Qy := hZ (Qy.out.grew g1)
 replace T := hZ (T.out.grew g1)
 replace Ty := hZ (Ty.out.grew g1)
 replace z0 := hZ (lt_grew z0.out g1)
 replace z1 := hZ (lt_grew z1.out g1)
 replace Fa := hZ (Fa.out.kept g1.keeps)
 replace Fb := hZ (Fb.out.kept g1.keeps)
 replace Fc := hZ (Fc.out.kept g1.keeps)
 replace Fd := hZ (Fd.out.kept g1.keeps)
 replace G0 := hZ (G0.out.trans g1)
 clear g1
 rw [hz.out]
 by_cases h0 : z = 0
 ·as_aux_lemma =>
  subst h0
  have eO' := hZ (eO.out.trans (if_pos rfl))
  obtain ⟨S0, S1, S2⟩ := S.out
  obtain ⟨Sy0, Sy1, Sy2⟩ := Sy.out
  obtain ⟨T0, T1, T2⟩ := T.out
  obtain ⟨Ty0, Ty1, Ty2⟩ := Ty.out
  go_wp2_with fail
  clear S0 S1 S2 Sy0 Sy1 Sy2 T0 T1 T2 Ty0 Ty1 Ty2
  refine (rscmp_any _ _ x.2.1 x.2.2 y.2.1 y.2.2 k _ Fb.out Fd.out hk hs).mono ?_
  rintro e w2 ⟨rfl, g2⟩
  replace P := hZ (P.out.grew g2)
  replace Py := hZ (Py.out.grew g2)
  replace S := hZ (S.out.grew g2)
  replace Sy := hZ (Sy.out.grew g2)
  replace Q := hZ (Q.out.grew g2)
  replace Qy := hZ (Qy.out.grew g2)
  replace T := hZ (T.out.grew g2)
  replace Ty := hZ (Ty.out.grew g2)
  replace z0 := hZ (lt_grew z0.out g2)
  replace z1 := hZ (lt_grew z1.out g2)
  replace Fa := hZ (Fa.out.kept g2.keeps)
  replace Fb := hZ (Fb.out.kept g2.keeps)
  replace Fc := hZ (Fc.out.kept g2.keeps)
  replace Fd := hZ (Fd.out.kept g2.keeps)
  replace G0 := hZ (G0.out.trans g2)
  clear g2
  go_wp2_with fail
  go_ret
  exact ⟨by rw [eO'.out]; rfl, G0.out⟩
 ·as_aux_lemma =>
  have eO' := hZ (eO.out.trans (if_neg h0))
  have hxb : (z == 0) = false := by simpa using h0
  obtain ⟨P0, P1, P2⟩ := P.out
  obtain ⟨Py0, Py1, Py2⟩ := Py.out
  obtain ⟨Q0, Q1, Q2⟩ := Q.out
  obtain ⟨Qy0, Qy1, Qy2⟩ := Qy.out
  go_wp2_with fail
  clear P0 P1 P2 Py0 Py1 Py2 Q0 Q1 Q2 Qy0 Qy1 Qy2
  refine (rscmp_any _ _ x.1.1 x.1.2 y.1.1 y.1.2 k _ Fa.out Fc.out hk hs).mono ?_
  rintro e w2 ⟨rfl, g2⟩
  replace P := hZ (P.out.grew g2)
  replace Py := hZ (Py.out.grew g2)
  replace S := hZ (S.out.grew g2)
  replace Sy := hZ (Sy.out.grew g2)
  replace Q := hZ (Q.out.grew g2)
  replace Qy := hZ (Qy.out.grew g2)
  replace T := hZ (T.out.grew g2)
  replace Ty := hZ (Ty.out.grew g2)
  replace z0 := hZ (lt_grew z0.out g2)
  replace z1 := hZ (lt_grew z1.out g2)
  replace Fa := hZ (Fa.out.kept g2.keeps)
  replace Fb := hZ (Fb.out.kept g2.keeps)
  replace Fc := hZ (Fc.out.kept g2.keeps)
  replace Fd := hZ (Fd.out.kept g2.keeps)
  replace G0 := hZ (G0.out.trans g2)
  clear g2
  rw [hz.out]
  go_wp2_with fail
  go_ret
  exact ⟨by rw [eO'.out]; rfl, G0.out⟩
set_option maxHeartbeats 8000000 in
theorem rturned_any (us : Array Value) (x : EdgeQ) (k : Nat) (w : World) (ha : EdgeR k w us x) (hs : k < 67108864) :
  Calls Tryz.prog 13 #[.agg us] w fun e w' => ∃ vs, e = .returned (.agg vs) ∧ Edge12R w' vs (x.2, x.1) ∧ Grew w w' := by
 obtain ⟨b1, A1, n1, c1, C1, m1, d1, b2, A2, n2, c2, C2, m2, d2, b3, A3, n3, c3, C3, m3, d3, b4, A4, n4, c4, C4, m4, d4, rfl, Fa, Fb⟩ := ha.laid
 clear ha
 go_enter Tryz.func13, Tryz.ntmps13
 go_wp2_with fail
 refine gen_wp ?_
 intro W0 hW0
 have G0 : Grew w W0 := by rw [hW0]; exact ((Grew.refl w).alloc _).alloc _
 have P : Box3 W0 (w.heap.size) 0 (.bool b1) (.slice A1 n1 c1) (.slice C1 m1 d1) := by rw [hW0]; exact ⟨by simp [go_sem], by simp [go_sem], by simp [go_sem]⟩
 replace P := hZ P
 have Py : Box3 W0 (w.heap.size) 3 (.bool b2) (.slice A2 n2 c2) (.slice C2 m2 d2) := by rw [hW0]; exact ⟨by simp [go_sem], by simp [go_sem], by simp [go_sem]⟩
 replace Py := hZ Py
 have S : Box3 W0 (w.heap.size) 6 (.bool b3) (.slice A3 n3 c3) (.slice C3 m3 d3) := by rw [hW0]; exact ⟨by simp [go_sem], by simp [go_sem], by simp [go_sem]⟩
 replace S := hZ S
 have Sy : Box3 W0 (w.heap.size) 9 (.bool b4) (.slice A4 n4 c4) (.slice C4 m4 d4) := by rw [hW0]; exact ⟨by simp [go_sem], by simp [go_sem], by simp [go_sem]⟩
 replace Sy := hZ Sy
 have R : Res3 W0 (w.heap.size + 1) 0 (.bool false) (.slice none 0 0) (.slice none 0 0) := by rw [hW0]; exact ⟨by simp [go_sem], by simp [go_sem], by simp [go_sem], by simp [go_sem], by simp [go_sem], by simp [go_sem], by simp⟩
 replace R := hZ R
 have R_ : Res3 W0 (w.heap.size + 1) 3 (.bool false) (.slice none 0 0) (.slice none 0 0) := by rw [hW0]; exact ⟨by simp [go_sem], by simp [go_sem], by simp [go_sem], by simp [go_sem], by simp [go_sem], by simp [go_sem], by simp⟩
 replace R_ := hZ R_
 have U : Res3 W0 (w.heap.size + 1) 6 (.bool false) (.slice none 0 0) (.slice none 0 0) := by rw [hW0]; exact ⟨by simp [go_sem], by simp [go_sem], by simp [go_sem], by simp [go_sem], by simp [go_sem], by simp [go_sem], by simp⟩
 replace U := hZ U
 have U_ : Res3 W0 (w.heap.size + 1) 9 (.bool false) (.slice none 0 0) (.slice none 0 0) := by rw [hW0]; exact ⟨by simp [go_sem], by simp [go_sem], by simp [go_sem], by simp [go_sem], by simp [go_sem], by simp [go_sem], by simp⟩
 replace U_ := hZ U_
 have z0 : w.heap.size < W0.heap.size := by rw [hW0]; simp <;> omega
 replace z0 := hZ z0
 have z1 : w.heap.size + 1 < W0.heap.size := by rw [hW0]; simp <;> omega
 replace z1 := hZ z1
 clear hW0
 replace Fa := hZ (Fa.out.kept G0.keeps)
 replace Fb := hZ (Fb.out.kept G0.keeps)
 replace G0 := hZ G0
 have gd : Grew W0 W0.drew := (Grew.refl W0).drew
 replace R := hZ (R.out.grew gd)
 replace R_ := hZ (R_.out.grew gd)
 replace U := hZ (U.out.grew gd)
 replace U_ := hZ (U_.out.grew gd)
 replace P := hZ (P.out.grew gd)
 replace Py := hZ (Py.out.grew gd)
 replace S := hZ (S.out.grew gd)
 replace Sy := hZ (Sy.out.grew gd)
 replace z0 := hZ (lt_grew z0.out gd)
 replace z1 := hZ (lt_grew z1.out gd)
 replace Fa := hZ (Fa.out.kept gd.keeps)
 replace Fb := hZ (Fb.out.kept gd.keeps)
 replace gd := hZ gd
 have ZP := P
 have ZPy := Py
 have ZS := S
 have ZSy := Sy
 go_region_held3 (fun w' => w'.cell? ⟨w.heap.size, 0, none⟩ = some (.bool b1) ∧ w'.cell? ⟨w.heap.size, 1, none⟩ = some (.slice A1 n1 c1) ∧ w'.cell? ⟨w.heap.size, 2, none⟩ = some (.slice C1 m1 d1) ∧ w'.cell? ⟨w.heap.size, 3, none⟩ = some (.bool b2) ∧ w'.cell? ⟨w.heap.size, 4, none⟩ = some (.slice A2 n2 c2) ∧ w'.cell? ⟨w.heap.size, 5, none⟩ = some (.slice C2 m2 d2) ∧ w'.cell? ⟨w.heap.size, 6, none⟩ = some (.bool b3) ∧ w'.cell? ⟨w.heap.size, 7, none⟩ = some (.slice A3 n3 c3) ∧ w'.cell? ⟨w.heap.size, 8, none⟩ = some (.slice C3 m3 d3) ∧ w'.cell? ⟨w.heap.size, 9, none⟩ = some (.bool b4) ∧ w'.cell? ⟨w.heap.size, 10, none⟩ = some (.slice A4 n4 c4) ∧ w'.cell? ⟨w.heap.size, 11, none⟩ = some (.slice C4 m4 d4))
  (first | (with_reducible exact ⟨ZP.out.p0, ZP.out.p1, ZP.out.p2, ZPy.out.p0, ZPy.out.p1, ZPy.out.p2, ZS.out.p0, ZS.out.p1, ZS.out.p2, ZSy.out.p0, ZSy.out.p1, ZSy.out.p2⟩) | (with_reducible exact ⟨g1.cell ZP.out.p0, g1.cell ZP.out.p1, g1.cell ZP.out.p2, g1.cell ZPy.out.p0, g1.cell ZPy.out.p1, g1.cell ZPy.out.p2, g1.cell ZS.out.p0, g1.cell ZS.out.p1, g1.cell ZS.out.p2, g1.cell ZSy.out.p0, g1.cell ZSy.out.p1, g1.cell ZSy.out.p2⟩) | (with_reducible exact ⟨(g1.trans g2).cell ZP.out.p0, (g1.trans g2).cell ZP.out.p1, (g1.trans g2).cell ZP.out.p2, (g1.trans g2).cell ZPy.out.p0, (g1.trans g2).cell ZPy.out.p1, (g1.trans g2).cell ZPy.out.p2, (g1.trans g2).cell ZS.out.p0, (g1.trans g2).cell ZS.out.p1, (g1.trans g2).cell ZS.out.p2, (g1.trans g2).cell ZSy.out.p0, (g1.trans g2).cell ZSy.out.p1, (g1.trans g2).cell ZSy.out.p2⟩) | (with_reducible exact ⟨other3 (o := 9) (by omega) (other3 (o := 6) (by omega) (other3 (o := 3) (by omega) (other3 (o := 0) (by omega) ((g1.trans g2).cell ZP.out.p0)))), other3 (o := 9) (by omega) (other3 (o := 6) (by omega) (other3 (o := 3) (by omega) (other3 (o := 0) (by omega) ((g1.trans g2).cell ZP.out.p1)))), other3 (o := 9) (by omega) (other3 (o := 6) (by omega) (other3 (o := 3) (by omega) (other3 (o := 0) (by omega) ((g1.trans g2).cell ZP.out.p2)))), other3 (o := 9) (by omega) (other3 (o := 6) (by omega) (other3 (o := 3) (by omega) (other3 (o := 0) (by omega) ((g1.trans g2).cell ZPy.out.p0)))), other3 (o := 9) (by omega) (other3 (o := 6) (by omega) (other3 (o := 3) (by omega) (other3 (o := 0) (by omega) ((g1.trans g2).cell ZPy.out.p1)))), other3 (o := 9) (by omega) (other3 (o := 6) (by omega) (other3 (o := 3) (by omega) (other3 (o := 0) (by omega) ((g1.trans g2).cell ZPy.out.p2)))), other3 (o := 9) (by omega) (other3 (o := 6) (by omega) (other3 (o := 3) (by omega) (other3 (o := 0) (by omega) ((g1.trans g2).cell ZS.out.p0)))), other3 (o := 9) (by omega) (other3 (o := 6) (by omega) (other3 (o := 3) (by omega) (other3 (o := 0) (by omega) ((g1.trans g2).cell ZS.out.p1)))), other3 (o := 9) (by omega) (other3 (o := 6) (by omega) (other3 (o := 3) (by omega) (other3 (o := 0) (by omega) ((g1.trans g2).cell ZS.out.p2)))), other3 (o := 9) (by omega) (other3 (o := 6) (by omega) (other3 (o := 3) (by omega) (other3 (o := 0) (by omega) ((g1.trans g2).cell ZSy.out.p0)))), other3 (o := 9) (by omega) (other3 (o := 6) (by omega) (other3 (o := 3) (by omega) (other3 (o := 0) (by omega) ((g1.trans g2).cell ZSy.out.p1)))), other3 (o := 9) (by omega) (other3 (o := 6) (by omega) (other3 (o := 3) (by omega) (other3 (o := 0) (by omega) ((g1.trans g2).cell ZSy.out.p2))))⟩))
  (first | (have chk := g1; clear chk; go_at_call 32; refine (rxclean_any _ x.1.1 x.1.2 k _ Fa.out hs).mono ?_; rintro e w2 ⟨V2, rfl, hV2, g2⟩; obtain ⟨b15, A15, n15, c15, C15, m15, d15, b16, A16, n16, c16, C16, m16, d16, rfl, -, -, X2⟩ := hV2.laid; clear hV2; replace R := hZ (R.out.grew g2); replace R_ := hZ (R_.out.grew g2); replace U := hZ (U.out.grew g2); replace U_ := hZ (U_.out.grew g2); replace P := hZ (P.out.grew g2); replace Py := hZ (Py.out.grew g2); replace S := hZ (S.out.grew g2); replace Sy := hZ (Sy.out.grew g2); replace z0 := hZ (lt_grew z0.out g2); replace z1 := hZ (lt_grew z1.out g2); replace Fa := hZ (Fa.out.kept g2.keeps); replace Fb := hZ (Fb.out.kept g2.keeps); replace X1 := hZ (X1.out.kept g2.keeps); obtain ⟨R0, R1, R2, Rf0, Rf1, Rf2, Rs⟩ := R.out; obtain ⟨R_0, R_1, R_2, R_f0, R_f1, R_f2, R_s⟩ := R_.out; obtain ⟨U0, U1, U2, Uf0, Uf1, Uf2, Us⟩ := U.out; obtain ⟨U_0, U_1, U_2, U_f0, U_f1, U_f2, U_s⟩ := U_.out) | (go_at_call 32; refine (rxclean_any _ x.2.1 x.2.2 k _ Fb.out hs).mono ?_; rintro e w1 ⟨V1, rfl, hV1, g1⟩; obtain ⟨b13, A13, n13, c13, C13, m13, d13, b14, A14, n14, c14, C14, m14, d14, rfl, -, -, X1⟩ := hV1.laid; clear hV1; replace R := hZ (R.out.grew g1); replace R_ := hZ (R_.out.grew g1); replace U := hZ (U.out.grew g1); replace U_ := hZ (U_.out.grew g1); replace P := hZ (P.out.grew g1); replace Py := hZ (Py.out.grew g1); replace S := hZ (S.out.grew g1); replace Sy := hZ (Sy.out.grew g1); replace z0 := hZ (lt_grew z0.out g1); replace z1 := hZ (lt_grew z1.out g1); replace Fa := hZ (Fa.out.kept g1.keeps); replace Fb := hZ (Fb.out.kept g1.keeps)))
 replace G0 := hZ (((G0.out.trans gd.out).trans g1).trans g2)
 clear gd g1 g2 ZP ZPy ZS ZSy
 refine gen_then ?_
 intro W9 hW9
 obtain ⟨q0, q1, q2, q3, q4, q5, q6, q7, q8, q9, q10, q11, qK, qG⟩ := store12 R0 R1 R2 R_0 R_1 R_2 U0 U1 U2 U_0 U_1 U_2 hW9
 have GE := qG w (by omega) G0.out
 have QK := hZ qK
 clear qK qG hW9 R0 R1 R2 R_0 R_1 R_2 U0 U1 U2 U_0 U_1 U_2
 go_wp2_with fail
 exact bodyPost_ret (v := .agg #[.bool b13, .slice A13 n13 c13, .slice C13 m13 d13, .bool b14, .slice A14 n14 c14, .slice C14 m14 d14, .bool b15, .slice A15 n15 c15, .slice C15 m15 d15, .bool b16, .slice A16 n16 c16, .slice C16 m16 d16]) (by simp [results, Tryz.results13, go_sem, q0, q1, q2, q3, q4, q5, q6, q7, q8, q9, q10, q11]) rfl ⟨_, rfl, edge_mk (e := (x.2, x.1)) (X1.out.kept QK.out) (X2.out.kept QK.out), GE⟩
section
variable {z : Value} {k : Nat}
theorem zeroK_mem (hzs : z.cells.size = k) (hk : 0 < k) {n : Nat} {p : Value → Prop} (h : ∀ u ∈ z.cells, p u) : ∀ u ∈ (Builtin.zeroCells z.cells n).toList, p u := by
 intro u hu
 simp only [Builtin.zeroCells, Array.mem_toList_iff, Array.mem_map, Array.mem_range] at hu
 obtain ⟨j, -, rfl⟩ := hu
 have hlt : j % z.cells.size < z.cells.size := Nat.mod_lt _ (by omega)
 rw [getElem!_pos z.cells _ hlt]
 exact h _ (Array.getElem_mem hlt)
theorem zeroK_len (hzs : z.cells.size = k) (n : Nat) : (Builtin.zeroCells z.cells n).toList.length = n * k := by simp [Builtin.zeroCells, hzs]
theorem madeK_mem (hzs : z.cells.size = k) (hk : 0 < k) {n : Nat} {p : Value → Prop} (h : ∀ u ∈ z.cells, p u) : ∀ u ∈ madeCells z.cells n, p u := by
 intro u hu
 simp only [madeCells, Array.mem_map, Array.mem_range] at hu
 obtain ⟨j, -, rfl⟩ := hu
 have hlt : j % z.cells.size < z.cells.size := Nat.mod_lt _ (by omega)
 rw [getElem!_pos z.cells _ hlt]
 exact h _ (Array.getElem_mem hlt)
theorem run_clearK {P : Program} (W : World) (g o s n c : Nat) (cur : Array Value) (e t ty : TypeId) (ht : P.underlying t = some (.slice e)) (hz : ∀ w : World, (zeroValue e).run P w = .ok z w) (hzs : z.cells.size = k) (hk : 0 < k) (hone : ∀ u ∈ z.cells, u.oneCell' = true)
  (hg : W.heap[g]? = some (.cells cur e (0, 0))) (hn : 0 < n) (ho : o = s) (hs : s + n * k ≤ cur.size) :
  (Builtin.clear_ #[t] ty #[.slice (some ⟨g, o, none⟩) n c]).run P W = .ok (.tuple #[]) (W.setCells g s (Builtin.zeroCells z.cells n).toList) := by
 subst ho
 have h := stores_of_holds P (holdsK hg) o (Builtin.zeroCells z.cells n).toList (by rw [zeroK_len hzs]; exact hs) (zeroK_mem hzs hk hone)
 rw [Nat.zero_add] at h
 obtain ⟨m, rfl⟩ : ∃ m, n = m + 1 := ⟨n - 1, by omega⟩
 simp [Builtin.clear_, run_underlying ht, hz, h]
end
theorem elE {e : TypeId} {w : World} {base g o n cap : Nat} {l : List EdgeQ} (h : OwnK 12 Edge12R e w base (.slice (some ⟨g, o, none⟩) n cap) l) {i : Nat} {x : EdgeQ} (hx : l[i]? = some x) :
  ∃ b11 A11 n11 c11 C11 m11 d11 b12 A12 n12 c12 C12 m12 d12 b13 A13 n13 c13 C13 m13 d13 b14 A14 n14 c14 C14 m14 d14, (w.cell? ⟨g, o + i * 12, none⟩ = some (.bool b11) ∧ w.cell? ⟨g, o + i * 12 + 1, none⟩ = some (.slice A11 n11 c11) ∧ w.cell? ⟨g, o + i * 12 + 2, none⟩ = some (.slice C11 m11 d11) ∧ w.cell? ⟨g, o + i * 12 + 3, none⟩ = some (.bool b12) ∧ w.cell? ⟨g, o + i * 12 + 4, none⟩ = some (.slice A12 n12 c12) ∧ w.cell? ⟨g, o + i * 12 + 5, none⟩ = some (.slice C12 m12 d12) ∧ w.cell? ⟨g, o + i * 12 + 6, none⟩ = some (.bool b13) ∧ w.cell? ⟨g, o + i * 12 + 7, none⟩ = some (.slice A13 n13 c13) ∧ w.cell? ⟨g, o + i * 12 + 8, none⟩ = some (.slice C13 m13 d13) ∧ w.cell? ⟨g, o + i * 12 + 9, none⟩ = some (.bool b14) ∧ w.cell? ⟨g, o + i * 12 + 10, none⟩ = some (.slice A14 n14 c14) ∧ w.cell? ⟨g, o + i * 12 + 11, none⟩ = some (.slice C14 m14 d14)) ∧ (∀ j, w.frozen? ⟨g, j, none⟩ = false) ∧ Hid (Edge12R w #[.bool b11, .slice A11 n11 c11, .slice C11 m11 d11, .bool b12, .slice A12 n12 c12, .slice C12 m12 d12, .bool b13, .slice A13 n13 c13, .slice C13 m13 d13, .bool b14, .slice A14 n14 c14, .slice C14 m14 d14] x) := by
 obtain ⟨-, hfz, us, hR, hc⟩ := h.el hx
 have h3 := hR
 obtain ⟨us1, us2, rfl, h4, h5⟩ := h3
 obtain ⟨b11, A11, n11, c11, C11, m11, d11, b12, A12, n12, c12, C12, m12, d12, e, -, -⟩ := h4
 injection e with e
 subst e
 obtain ⟨b13, A13, n13, c13, C13, m13, d13, b14, A14, n14, c14, C14, m14, d14, e, -, -⟩ := h5
 injection e with e
 subst e
 exact ⟨b11, A11, n11, c11, C11, m11, d11, b12, A12, n12, c12, C12, m12, d12, b13, A13, n13, c13, C13, m13, d13, b14, A14, n14, c14, C14, m14, d14, ⟨hc 0 (by omega), hc 1 (by omega), hc 2 (by omega), hc 3 (by omega), hc 4 (by omega), hc 5 (by omega), hc 6 (by omega), hc 7 (by omega), hc 8 (by omega), hc 9 (by omega), hc 10 (by omega), hc 11 (by omega)⟩, hfz, hR⟩
theorem zoneE : ∀ u ∈ (Value.agg #[.bool false, .slice none 0 0, .slice none 0 0, .bool false, .slice none 0 0, .slice none 0 0, .bool false, .slice none 0 0, .slice none 0 0, .bool false, .slice none 0 0, .slice none 0 0]).cells, u.oneCell' = true := by
 intro u hu
 simp only [Value.cells, List.mem_toArray, List.mem_cons, List.not_mem_nil, or_false] at hu
 rcases hu with rfl | rfl | rfl | rfl | rfl | rfl | rfl | rfl | rfl | rfl | rfl | rfl <;> rfl
theorem znoE : ∀ u ∈ (Value.agg #[.bool false, .slice none 0 0, .slice none 0 0, .bool false, .slice none 0 0, .slice none 0 0, .bool false, .slice none 0 0, .slice none 0 0, .bool false, .slice none 0 0, .slice none 0 0]).cells, NoInt u := by
 intro u hu k x e
 subst e
 simp [Value.cells] at hu
set_option maxHeartbeats 16000000 in
theorem compE_any (B : EdgeQ → Prop) (I : World → Prop) (hIg : ∀ W W', I W → Grew W W' → I W') (g9 : Nat) (cb : Array Value) (eg : ∀ args w, (callFunc g9 args).run Tryz.prog w = .ok (.enter g9 args) w)
  (heq : ∀ (W : World) (us vs : Array Value) (x y : EdgeQ), Edge12R W us x → Edge12R W vs y → B x → B y → I W → Calls Tryz.prog g9 (#[.agg us, .agg vs] ++ cb) W fun e w' => e = .returned (.bool (decide (x = y))) ∧ Grew W w')
  (base : Nat) (v : Value) (l : List EdgeQ) (w : World) (hO : OwnK 12 Edge12R 37 w base v l) (hB : ∀ x ∈ l, B x) (hl : l.length ≤ 1099511627776) (hI : I w) (hIw : ∀ g, v.ownBlock = some g → ∀ W W', I W → Wrote g W W' → I W') :
  Calls Tryz.prog 49 #[v, .func (.func g9) #[] cb] w fun e w' => ∃ v', e = .returned v' ∧ OwnK 12 Edge12R 37 w' base v' (compG l) ∧ ∀ W, W.heap.size ≤ base → Grew W w → Grew W w' := by
 obtain ⟨L, hL⟩ : ∃ L, l.length = L := ⟨_, rfl⟩
 rw [hL] at hl
 replace hB := hZ hB
 replace heq := hZ heq
 by_cases hsh : L < 2
 ·have hc := compG_short (l := l) (by omega)
  obtain ⟨A, c, rfl, -, -, -⟩ := hO.row
  rw [hL] at hO ⊢
  replace hO := hZ hO
  have h2 : (L : Int) < 2 := by omega
  have hm : L ≤ 9223372036854775807 := by omega
  go_enter Tryz.func49, Tryz.ntmps49
  go_wp2_with fail
  go_ret
  exact ⟨_, rfl, by rw [hc]; exact hO.out, fun _ _ h => h⟩
 obtain ⟨g, cap, rfl, hcap, hcm, hbg⟩ := hO.place (by omega)
 replace hIw := hZ (hIw g rfl)
 replace hIg := hZ hIg
 replace hI := hZ hI
 rw [hL] at hO hcap ⊢
 have hm : cap ≤ 9223372036854775807 := by unfold maxLen at hcm; omega
 have h2 : ¬ (L : Int) < 2 := by omega
 have hc1 : compG (l.take 1) = l.take 1 := compG_short (by simp; omega)
 obtain ⟨o, ho⟩ : ∃ o, o = 0 := ⟨_, rfl⟩
 rw [← ho] at hO ⊢
 replace ho := hZ ho
 replace hO := hZ hO
 go_enter Tryz.func49, Tryz.ntmps49
 go_wp2_with fail
 go_loopg [5] (L - 1) (fun gk kk wr => ∃ j : Nat, gk + j = L ∧ 1 ≤ j ∧ kk = .int .i64 j ∧ compG (l.take j) = l.take j ∧ OwnK 12 Edge12R 37 wr base (.slice (some ⟨g, o, none⟩) L cap) l ∧ Grew w wr ∧ I wr)
 case atStart => exact ⟨1, by omega, by omega, rfl, hc1, hO.out, Grew.refl _, hI.out⟩
 case round =>
  obtain ⟨j, hj, hj1, rfl, hcj, hR, hG, hIr⟩ := hrel
  replace hIr := hZ (hIg.out _ _ hIr ((Grew.refl wr).drew))
  by_cases hlt : j < L
  ·obtain ⟨i, hi⟩ : ∃ i, i + 1 = j := ⟨j - 1, by omega⟩
   obtain ⟨p, hp⟩ : ∃ p, l[i]? = some p := ⟨l[i]'(by omega), List.getElem?_eq_getElem _⟩
   obtain ⟨q, hq9⟩ : ∃ q, l[j]? = some q := ⟨l[j]'(by omega), List.getElem?_eq_getElem _⟩
   have hct : compG (l.take (j + 1)) = if p = q then compG (l.take j) else compG (l.take j) ++ [q] := by subst hi; exact compG_take hp hq9
   have htk := takeG_snoc hq9
   obtain ⟨b11, A11, n11, c11, C11, m11, d11, b12, A12, n12, c12, C12, m12, d12, b13, A13, n13, c13, C13, m13, d13, b14, A14, n14, c14, C14, m14, d14, ⟨e0, e1, e2, e3, e4, e5, e6, e7, e8, e9, e10, e11⟩, -, S1⟩ := elE hR hq9
   obtain ⟨b21, A21, n21, c21, C21, m21, d21, b22, A22, n22, c22, C22, m22, d22, b23, A23, n23, c23, C23, m23, d23, b24, A24, n24, c24, C24, m24, d24, ⟨f0, f1, f2, f3, f4, f5, f6, f7, f8, f9, f10, f11⟩, -, S2⟩ := elE hR hp
   have q1 := hZ (hB.out q (List.mem_of_getElem? hq9))
   have q2 := hZ (hB.out p (List.mem_of_getElem? hp))
   have hwj : IntKind.i64.wrap ((j : Int) - 1) = (i : Int) := by rw [IntWalk.i64_in _ (by omega)]; omega
   have hjl : (j : Int) < (L : Int) := by omega
   have hil : (i : Int) < (L : Int) := by omega
   replace hct := hZ hct
   replace htk := hZ htk
   replace hcj := hZ hcj
   replace hR := hZ hR
   replace hG := hZ hG
   clear hp hq9
   go_wp2_with fail
   go_region_held3 (fun w' => w'.cell? ⟨g, o + j * 12, none⟩ = some (.bool b11) ∧ w'.cell? ⟨g, o + j * 12 + 1, none⟩ = some (.slice A11 n11 c11) ∧ w'.cell? ⟨g, o + j * 12 + 2, none⟩ = some (.slice C11 m11 d11) ∧ w'.cell? ⟨g, o + j * 12 + 3, none⟩ = some (.bool b12) ∧ w'.cell? ⟨g, o + j * 12 + 4, none⟩ = some (.slice A12 n12 c12) ∧ w'.cell? ⟨g, o + j * 12 + 5, none⟩ = some (.slice C12 m12 d12) ∧ w'.cell? ⟨g, o + j * 12 + 6, none⟩ = some (.bool b13) ∧ w'.cell? ⟨g, o + j * 12 + 7, none⟩ = some (.slice A13 n13 c13) ∧ w'.cell? ⟨g, o + j * 12 + 8, none⟩ = some (.slice C13 m13 d13) ∧ w'.cell? ⟨g, o + j * 12 + 9, none⟩ = some (.bool b14) ∧ w'.cell? ⟨g, o + j * 12 + 10, none⟩ = some (.slice A14 n14 c14) ∧ w'.cell? ⟨g, o + j * 12 + 11, none⟩ = some (.slice C14 m14 d14) ∧ w'.cell? ⟨g, o + i * 12, none⟩ = some (.bool b21) ∧ w'.cell? ⟨g, o + i * 12 + 1, none⟩ = some (.slice A21 n21 c21) ∧ w'.cell? ⟨g, o + i * 12 + 2, none⟩ = some (.slice C21 m21 d21) ∧ w'.cell? ⟨g, o + i * 12 + 3, none⟩ = some (.bool b22) ∧ w'.cell? ⟨g, o + i * 12 + 4, none⟩ = some (.slice A22 n22 c22) ∧ w'.cell? ⟨g, o + i * 12 + 5, none⟩ = some (.slice C22 m22 d22) ∧ w'.cell? ⟨g, o + i * 12 + 6, none⟩ = some (.bool b23) ∧ w'.cell? ⟨g, o + i * 12 + 7, none⟩ = some (.slice A23 n23 c23) ∧ w'.cell? ⟨g, o + i * 12 + 8, none⟩ = some (.slice C23 m23 d23) ∧ w'.cell? ⟨g, o + i * 12 + 9, none⟩ = some (.bool b24) ∧ w'.cell? ⟨g, o + i * 12 + 10, none⟩ = some (.slice A24 n24 c24) ∧ w'.cell? ⟨g, o + i * 12 + 11, none⟩ = some (.slice C24 m24 d24))
    (first | exact ⟨e0, e1, e2, e3, e4, e5, e6, e7, e8, e9, e10, e11, f0, f1, f2, f3, f4, f5, f6, f7, f8, f9, f10, f11⟩ | exact ⟨gc.cell e0, gc.cell e1, gc.cell e2, gc.cell e3, gc.cell e4, gc.cell e5, gc.cell e6, gc.cell e7, gc.cell e8, gc.cell e9, gc.cell e10, gc.cell e11, gc.cell f0, gc.cell f1, gc.cell f2, gc.cell f3, gc.cell f4, gc.cell f5, gc.cell f6, gc.cell f7, gc.cell f8, gc.cell f9, gc.cell f10, gc.cell f11⟩)
    (first | (go_at_fn g9; refine (heq.out _ _ _ q p (says_edge.kept S1.out ((Grew.refl wr).drew).keeps) (says_edge.kept S2.out ((Grew.refl wr).drew).keeps) q1.out q2.out hIr.out).mono ?_; rintro e wx ⟨rfl, gc⟩))
   have gA := hZ ((hG.out.drew).trans gc)
   have iA := hZ (hIg.out _ _ hIr.out gc)
   have oA := hZ (OwnK.grew says_edge hR.out (((Grew.refl wr).drew).trans gc))
   clear hR hG gc hIr e0 e1 e2 e3 e4 e5 e6 e7 e8 e9 e10 e11 f0 f1 f2 f3 f4 f5 f6 f7 f8 f9 f10 f11 S1 S2 q1 q2
   by_cases hpq : p = q
   ·have hb : decide (q = p) = true := decide_eq_true hpq.symm
    rw [hb]
    have hj0 := hZ ((hct.out.trans (if_pos hpq)).trans hcj.out)
    clear hct hcj htk hb
    go_wp2_with fail
    obtain ⟨G, rfl⟩ : ∃ G : Nat, G = gk := ⟨_, rfl⟩
    obtain ⟨D, hD⟩ : ∃ D, L - j = D := ⟨_, rfl⟩
    obtain ⟨E, hE⟩ : ∃ E, cap - j = E := ⟨_, rfl⟩
    rw [hD, hE]
    go_loopg [5, 7] (L - 1 - j) (fun gk kk k2 wr => ∃ (m n s : Nat) (r : List EdgeQ), gk + (j + s) = L ∧ kk = .int .i64 n ∧ m + 1 = s ∧ k2 = .int .i64 s ∧ 1 ≤ n ∧ n ≤ j + m ∧ r.length = L ∧ r.take n = compG (l.take (j + s)) ∧ (∀ i, j + m ≤ i → r[i]? = l[i]?) ∧ OwnK 12 Edge12R 37 wr base (.slice (some ⟨g, o, none⟩) L cap) r ∧ I wr ∧ ∀ W : World, W.heap.size ≤ base → Grew W w → Grew W wr)
    case atStart => exact ⟨0, j, 1, l, by omega, rfl, rfl, rfl, by omega, by omega, hL, hj0.out.symm, fun _ _ => rfl, oA.out, iA.out, fun _ _ h => h.trans gA.out⟩
    case round =>
     obtain ⟨m, n, s, r, hgk, rfl, hsm, rfl, hn1, hnm, hrl, hrt, hri, hR, hIr, hGf⟩ := hrel
     replace hIr := hZ (hIg.out _ _ hIr ((Grew.refl wr).drew))
     by_cases hlt2 : s < D
     ·obtain ⟨p2, hp2⟩ : ∃ p, l[j + m]? = some p := ⟨l[j + m]'(by omega), List.getElem?_eq_getElem _⟩
      obtain ⟨q2, hq2⟩ : ∃ q, l[j + s]? = some q := ⟨l[j + s]'(by omega), List.getElem?_eq_getElem _⟩
      have hct : compG (l.take (j + (s + 1))) = if p2 = q2 then compG (l.take (j + s)) else compG (l.take (j + s)) ++ [q2] := by subst hsm; exact compG_take hp2 hq2
      obtain ⟨b31, A31, n31, c31, C31, m31, d31, b32, A32, n32, c32, C32, m32, d32, b33, A33, n33, c33, C33, m33, d33, b34, A34, n34, c34, C34, m34, d34, ⟨e0, e1, e2, e3, e4, e5, e6, e7, e8, e9, e10, e11⟩, -, S1⟩ := elE hR ((hri _ (by omega)).trans hq2)
      obtain ⟨b41, A41, n41, c41, C41, m41, d41, b42, A42, n42, c42, C42, m42, d42, b43, A43, n43, c43, C43, m43, d43, b44, A44, n44, c44, C44, m44, d44, ⟨f0, f1, f2, f3, f4, f5, f6, f7, f8, f9, f10, f11⟩, -, S2⟩ := elE hR ((hri _ (by omega)).trans hp2)
      have ea : o + (j + s) * 12 = o + j * 12 + s * 12 := by omega
      have eb : o + (j + m) * 12 = o + j * 12 + m * 12 := by omega
      rw [ea] at e0 e1 e2 e3 e4 e5 e6 e7 e8 e9 e10 e11
      rw [eb] at f0 f1 f2 f3 f4 f5 f6 f7 f8 f9 f10 f11
      have q1 := hZ (hB.out q2 (List.mem_of_getElem? hq2))
      have q3 := hZ (hB.out p2 (List.mem_of_getElem? hp2))
      have hwj : IntKind.i64.wrap ((s : Int) - 1) = (m : Int) := by rw [IntWalk.i64_in _ (by omega)]; omega
      have hjl : (s : Int) < (D : Int) := by omega
      have hil : (m : Int) < (D : Int) := by omega
      have hnl : (n : Int) < (L : Int) := by omega
      replace hct := hZ hct
      replace hrt := hZ hrt
      replace hsm := hZ hsm
      replace hri := hZ hri
      replace hR := hZ hR
      replace hGf := hZ hGf
      clear hp2 hq2
      go_wp2_with fail
      go_region_held3 (fun w' => w'.cell? ⟨g, o + j * 12 + s * 12, none⟩ = some (.bool b31) ∧ w'.cell? ⟨g, o + j * 12 + s * 12 + 1, none⟩ = some (.slice A31 n31 c31) ∧ w'.cell? ⟨g, o + j * 12 + s * 12 + 2, none⟩ = some (.slice C31 m31 d31) ∧ w'.cell? ⟨g, o + j * 12 + s * 12 + 3, none⟩ = some (.bool b32) ∧ w'.cell? ⟨g, o + j * 12 + s * 12 + 4, none⟩ = some (.slice A32 n32 c32) ∧ w'.cell? ⟨g, o + j * 12 + s * 12 + 5, none⟩ = some (.slice C32 m32 d32) ∧ w'.cell? ⟨g, o + j * 12 + s * 12 + 6, none⟩ = some (.bool b33) ∧ w'.cell? ⟨g, o + j * 12 + s * 12 + 7, none⟩ = some (.slice A33 n33 c33) ∧ w'.cell? ⟨g, o + j * 12 + s * 12 + 8, none⟩ = some (.slice C33 m33 d33) ∧ w'.cell? ⟨g, o + j * 12 + s * 12 + 9, none⟩ = some (.bool b34) ∧ w'.cell? ⟨g, o + j * 12 + s * 12 + 10, none⟩ = some (.slice A34 n34 c34) ∧ w'.cell? ⟨g, o + j * 12 + s * 12 + 11, none⟩ = some (.slice C34 m34 d34) ∧ w'.cell? ⟨g, o + j * 12 + m * 12, none⟩ = some (.bool b41) ∧ w'.cell? ⟨g, o + j * 12 + m * 12 + 1, none⟩ = some (.slice A41 n41 c41) ∧ w'.cell? ⟨g, o + j * 12 + m * 12 + 2, none⟩ = some (.slice C41 m41 d41) ∧ w'.cell? ⟨g, o + j * 12 + m * 12 + 3, none⟩ = some (.bool b42) ∧ w'.cell? ⟨g, o + j * 12 + m * 12 + 4, none⟩ = some (.slice A42 n42 c42) ∧ w'.cell? ⟨g, o + j * 12 + m * 12 + 5, none⟩ = some (.slice C42 m42 d42) ∧ w'.cell? ⟨g, o + j * 12 + m * 12 + 6, none⟩ = some (.bool b43) ∧ w'.cell? ⟨g, o + j * 12 + m * 12 + 7, none⟩ = some (.slice A43 n43 c43) ∧ w'.cell? ⟨g, o + j * 12 + m * 12 + 8, none⟩ = some (.slice C43 m43 d43) ∧ w'.cell? ⟨g, o + j * 12 + m * 12 + 9, none⟩ = some (.bool b44) ∧ w'.cell? ⟨g, o + j * 12 + m * 12 + 10, none⟩ = some (.slice A44 n44 c44) ∧ w'.cell? ⟨g, o + j * 12 + m * 12 + 11, none⟩ = some (.slice C44 m44 d44))
       (first | exact ⟨e0, e1, e2, e3, e4, e5, e6, e7, e8, e9, e10, e11, f0, f1, f2, f3, f4, f5, f6, f7, f8, f9, f10, f11⟩ | exact ⟨gc.cell e0, gc.cell e1, gc.cell e2, gc.cell e3, gc.cell e4, gc.cell e5, gc.cell e6, gc.cell e7, gc.cell e8, gc.cell e9, gc.cell e10, gc.cell e11, gc.cell f0, gc.cell f1, gc.cell f2, gc.cell f3, gc.cell f4, gc.cell f5, gc.cell f6, gc.cell f7, gc.cell f8, gc.cell f9, gc.cell f10, gc.cell f11⟩)
       (first | (go_at_fn g9; refine (heq.out _ _ _ q2 p2 (says_edge.kept S1.out ((Grew.refl wr).drew).keeps) (says_edge.kept S2.out ((Grew.refl wr).drew).keeps) q1.out q3.out hIr.out).mono ?_; rintro e wy ⟨rfl, gc⟩))
      have gB := ((Grew.refl wr).drew).trans gc
      have oB := OwnK.grew says_edge hR.out gB
      have SB := hZ (says_edge.kept S1.out gB.keeps)
      have iB := hZ (hIg.out _ _ hIr.out gc)
      have hGB := hZ (fun (W : World) (h1 : W.heap.size ≤ base) (h2 : Grew W w) => (hGf.out W h1 h2).trans gB)
      have e0' := gc.cell e0
      have e1' := gc.cell e1
      have e2' := gc.cell e2
      have e3' := gc.cell e3
      have e4' := gc.cell e4
      have e5' := gc.cell e5
      have e6' := gc.cell e6
      have e7' := gc.cell e7
      have e8' := gc.cell e8
      have e9' := gc.cell e9
      have e10' := gc.cell e10
      have e11' := gc.cell e11
      clear hR hGf gc gB hIr e0 e1 e2 e3 e4 e5 e6 e7 e8 e9 e10 e11 f0 f1 f2 f3 f4 f5 f6 f7 f8 f9 f10 f11 S1 S2 q1 q3 hwj
      by_cases hpq2 : p2 = q2
      ·have hb : decide (q2 = p2) = true := decide_eq_true hpq2.symm
       rw [hb]
       have hj1 := hZ (hct.out.trans (if_pos hpq2))
       replace oB := hZ oB
       clear hct hb e0' e1' e2' e3' e4' e5' e6' e7' e8' e9' e10' e11'
       go_wp2_with fail
       go_roundg (gk - 1)
       case rel => have hsm' := hsm.out; exact ⟨m + 1, n, s + 1, r, by omega, rfl, by omega, by go_num, hn1, by omega, hrl, by rw [hj1.out]; exact hrt.out, fun i hi => hri.out i (by omega), oB.out, iB.out, hGB.out⟩
       case measure => omega
      ·have hb : decide (q2 = p2) = false := decide_eq_false fun h => hpq2 h.symm
       rw [hb]
       have hj1 := hZ (hct.out.trans (if_neg hpq2))
       obtain ⟨pn, hpn⟩ : ∃ p, r[n]? = some p := ⟨r[n]'(by omega), List.getElem?_eq_getElem _⟩
       obtain ⟨_, _, _, _, _, _, _, _, _, _, _, _, _, _, _, _, _, _, _, _, _, _, _, _, _, _, _, _, ⟨k0, k1, k2, k3, k4, k5, k6, k7, k8, k9, k10, k11⟩, hfz, -⟩ := elE oB hpn
       have z0 := hfz (o + n * 12)
       have z1 := hfz (o + n * 12 + 1)
       have z2 := hfz (o + n * 12 + 2)
       have z3 := hfz (o + n * 12 + 3)
       have z4 := hfz (o + n * 12 + 4)
       have z5 := hfz (o + n * 12 + 5)
       have z6 := hfz (o + n * 12 + 6)
       have z7 := hfz (o + n * 12 + 7)
       have z8 := hfz (o + n * 12 + 8)
       have z9 := hfz (o + n * 12 + 9)
       have z10 := hfz (o + n * 12 + 10)
       have z11 := hfz (o + n * 12 + 11)
       replace oB := hZ oB
       clear hct hb hfz hpn
       go_upto_region 13 with fail
       refine gen_wp ?_
       intro W9 hW9
       replace hW9 : W9 = wy.setCells g (o + n * 12) #[.bool b31, .slice A31 n31 c31, .slice C31 m31 d31, .bool b32, .slice A32 n32 c32, .slice C32 m32 d32, .bool b33, .slice A33 n33 c33, .slice C33 m33 d33, .bool b34, .slice A34 n34 c34, .slice C34 m34 d34].toList := hW9
       obtain ⟨hS1, -, hS2, hS3⟩ := OwnK.store (i := n) says_edge oB.out (by omega) SB.out
       rw [← hW9] at hS1 hS2
       have hG9 := hZ (fun (W : World) (h1 : W.heap.size ≤ base) (h2 : Grew W w) => (hGB.out W h1 h2).wrote hS2 (Nat.le_trans h1 hS3))
       have iS := hZ (hIw.out _ _ iB.out hS2)
       replace hS1 := hZ hS1
       have hsm' := hsm.out
       have htk : (r.set n q2).take (n + 1) = compG (l.take (j + (s + 1))) := by rw [setG_take (by omega), hrt.out, hj1.out]
       have hri' : ∀ i, j + (m + 1) ≤ i → (r.set n q2)[i]? = l[i]? := fun i hi => by rw [List.getElem?_set_ne (by omega)]; exact hri.out i (by omega)
       replace htk := hZ htk
       replace hri' := hZ hri'
       clear hW9 hS2 hGB oB SB e0' e1' e2' e3' e4' e5' e6' e7' e8' e9' e10' e11' k0 k1 k2 k3 k4 k5 k6 k7 k8 k9 k10 k11 z0 z1 z2 z3 z4 z5 z6 z7 z8 z9 z10 z11 hrt hri hj1
       go_wp2_with fail
       go_roundg (gk - 1)
       case rel => exact ⟨m + 1, n + 1, s + 1, r.set n q2, by omega, by go_num, by omega, by go_num, by omega, by omega, by rw [List.length_set]; exact hrl, htk.out, hri'.out, hS1.out, iS.out, hG9.out⟩
       case measure => omega
     ·have hall : l.take (j + s) = l := by rw [show j + s = l.length by omega]; exact List.take_length
      rw [hall] at hrt
      obtain ⟨cur, hg9, hcs9⟩ := hR.cur
      have hmul : L * 12 ≤ cap * 12 := Nat.mul_le_mul_right _ hcap
      have ho0 := ho.out
      have hcl : ∀ ty, (Builtin.clear_ #[24] ty #[.slice (some ⟨g, o + n * 12, none⟩) (L - n) (cap - n)]).run Tryz.prog wr = .ok (.tuple #[]) (wr.setCells g (o + n * 12) (Builtin.zeroCells (Value.agg #[.bool false, .slice none 0 0, .slice none 0 0, .bool false, .slice none 0 0, .slice none 0 0, .bool false, .slice none 0 0, .slice none 0 0, .bool false, .slice none 0 0, .slice none 0 0]).cells (L - n)).toList) :=
       fun ty => run_clearK wr g (o + n * 12) (o + n * 12) (L - n) (cap - n) cur _ _ ty Tryz.underlying24 Tryz.zeroValue37 (k := 12) rfl (by omega) zoneE hg9 (by omega) rfl (by omega)
      obtain ⟨hS1, hS2, hS3⟩ := OwnK.clear (i := n) (Builtin.zeroCells (Value.agg #[.bool false, .slice none 0 0, .slice none 0 0, .bool false, .slice none 0 0, .slice none 0 0, .bool false, .slice none 0 0, .slice none 0 0, .bool false, .slice none 0 0, .slice none 0 0]).cells (L - n)).toList says_edge hR (by omega) (by rw [zeroK_len (k := 12) rfl]; omega) (zeroK_mem (k := 12) rfl (by omega) znoE)
      rw [hrt] at hS1
      generalize wr.setCells g (o + n * 12) (Builtin.zeroCells (Value.agg #[.bool false, .slice none 0 0, .slice none 0 0, .bool false, .slice none 0 0, .slice none 0 0, .bool false, .slice none 0 0, .slice none 0 0, .bool false, .slice none 0 0, .slice none 0 0]).cells (L - n)).toList = W9 at hcl hS1 hS2
      have hG9 := hZ (fun (W : World) (h1 : W.heap.size ≤ base) (h2 : Grew W w) => (hGf W h1 h2).wrote hS2 (Nat.le_trans h1 hS3))
      replace hS1 := hZ hS1
      have hnl : (n : Int) < (L : Int) := by omega
      have hsl : ¬ (s : Int) < (D : Int) := by omega
      clear hR hGf hrt hri hS2 hg9 hcs9 hall hmul ho0
      have hnL : n < L := by omega
      go_wp2_with (simp only [hcl])
      go_ret
      exact ⟨_, rfl, hS1.out, hG9.out⟩
   ·have hb : decide (q = p) = false := decide_eq_false fun h => hpq h.symm
    rw [hb]
    have hj0 := hZ (((hct.out.trans (if_neg hpq)).trans (by rw [hcj.out])).trans htk.out.symm)
    clear hct hcj htk hb
    go_wp2_with fail
    go_roundg (gk - 1)
    case rel => exact ⟨j + 1, by omega, by omega, by go_num, hj0.out, oA.out, gA.out, iA.out⟩
    case measure => omega
  ·obtain rfl : j = L := by omega
   have hall : l.take j = l := by rw [← hL]; exact List.take_length
   rw [hall] at hcj
   have hcj' := hZ hcj
   have hR' := hZ hR
   have hG' := hZ hG
   clear hcj hR hG
   go_wp2_with fail
   go_ret
   exact ⟨_, rfl, by rw [hcj'.out]; exact hR'.out, fun _ _ h => h.trans hG'.out⟩
theorem elS {e : TypeId} {w : World} {base g o n cap : Nat} {l : List (Rat × Rat)} (h : OwnK 6 Spot6R e w base (.slice (some ⟨g, o, none⟩) n cap) l) {i : Nat} {x : (Rat × Rat)} (hx : l[i]? = some x) :
  ∃ b11 A11 n11 c11 C11 m11 d11 b12 A12 n12 c12 C12 m12 d12, (w.cell? ⟨g, o + i * 6, none⟩ = some (.bool b11) ∧ w.cell? ⟨g, o + i * 6 + 1, none⟩ = some (.slice A11 n11 c11) ∧ w.cell? ⟨g, o + i * 6 + 2, none⟩ = some (.slice C11 m11 d11) ∧ w.cell? ⟨g, o + i * 6 + 3, none⟩ = some (.bool b12) ∧ w.cell? ⟨g, o + i * 6 + 4, none⟩ = some (.slice A12 n12 c12) ∧ w.cell? ⟨g, o + i * 6 + 5, none⟩ = some (.slice C12 m12 d12)) ∧ (∀ j, w.frozen? ⟨g, j, none⟩ = false) ∧ Hid (Spot6R w #[.bool b11, .slice A11 n11 c11, .slice C11 m11 d11, .bool b12, .slice A12 n12 c12, .slice C12 m12 d12] x) := by
 obtain ⟨-, hfz, us, hR, hc⟩ := h.el hx
 have h3 := hR
 obtain ⟨b11, A11, n11, c11, C11, m11, d11, b12, A12, n12, c12, C12, m12, d12, e, -, -⟩ := h3
 injection e with e
 subst e
 exact ⟨b11, A11, n11, c11, C11, m11, d11, b12, A12, n12, c12, C12, m12, d12, ⟨hc 0 (by omega), hc 1 (by omega), hc 2 (by omega), hc 3 (by omega), hc 4 (by omega), hc 5 (by omega)⟩, hfz, hR⟩
theorem zoneS : ∀ u ∈ (Value.agg #[.bool false, .slice none 0 0, .slice none 0 0, .bool false, .slice none 0 0, .slice none 0 0]).cells, u.oneCell' = true := by
 intro u hu
 simp only [Value.cells, List.mem_toArray, List.mem_cons, List.not_mem_nil, or_false] at hu
 rcases hu with rfl | rfl | rfl | rfl | rfl | rfl <;> rfl
theorem znoS : ∀ u ∈ (Value.agg #[.bool false, .slice none 0 0, .slice none 0 0, .bool false, .slice none 0 0, .slice none 0 0]).cells, NoInt u := by
 intro u hu k x e
 subst e
 simp [Value.cells] at hu
set_option maxHeartbeats 16000000 in
theorem compS_any (B : (Rat × Rat) → Prop) (I : World → Prop) (hIg : ∀ W W', I W → Grew W W' → I W') (g9 : Nat) (cb : Array Value) (eg : ∀ args w, (callFunc g9 args).run Tryz.prog w = .ok (.enter g9 args) w)
  (heq : ∀ (W : World) (us vs : Array Value) (x y : (Rat × Rat)), Spot6R W us x → Spot6R W vs y → B x → B y → I W → Calls Tryz.prog g9 (#[.agg us, .agg vs] ++ cb) W fun e w' => e = .returned (.bool (decide (x = y))) ∧ Grew W w')
  (base : Nat) (v : Value) (l : List (Rat × Rat)) (w : World) (hO : OwnK 6 Spot6R 35 w base v l) (hB : ∀ x ∈ l, B x) (hl : l.length ≤ 1099511627776) (hI : I w) (hIw : ∀ g, v.ownBlock = some g → ∀ W W', I W → Wrote g W W' → I W') :
  Calls Tryz.prog 59 #[v, .func (.func g9) #[] cb] w fun e w' => ∃ v', e = .returned v' ∧ OwnK 6 Spot6R 35 w' base v' (compG l) ∧ ∀ W, W.heap.size ≤ base → Grew W w → Grew W w' := by
 obtain ⟨L, hL⟩ : ∃ L, l.length = L := ⟨_, rfl⟩
 rw [hL] at hl
 replace hB := hZ hB
 replace heq := hZ heq
 by_cases hsh : L < 2
 ·have hc := compG_short (l := l) (by omega)
  obtain ⟨A, c, rfl, -, -, -⟩ := hO.row
  rw [hL] at hO ⊢
  replace hO := hZ hO
  have h2 : (L : Int) < 2 := by omega
  have hm : L ≤ 9223372036854775807 := by omega
  go_enter Tryz.func59, Tryz.ntmps59
  go_wp2_with fail
  go_ret
  exact ⟨_, rfl, by rw [hc]; exact hO.out, fun _ _ h => h⟩
 obtain ⟨g, cap, rfl, hcap, hcm, hbg⟩ := hO.place (by omega)
 replace hIw := hZ (hIw g rfl)
 replace hIg := hZ hIg
 replace hI := hZ hI
 rw [hL] at hO hcap ⊢
 have hm : cap ≤ 9223372036854775807 := by unfold maxLen at hcm; omega
 have h2 : ¬ (L : Int) < 2 := by omega
 have hc1 : compG (l.take 1) = l.take 1 := compG_short (by simp; omega)
 obtain ⟨o, ho⟩ : ∃ o, o = 0 := ⟨_, rfl⟩
 rw [← ho] at hO ⊢
 replace ho := hZ ho
 replace hO := hZ hO
 go_enter Tryz.func59, Tryz.ntmps59
 go_wp2_with fail
 go_loopg [5] (L - 1) (fun gk kk wr => ∃ j : Nat, gk + j = L ∧ 1 ≤ j ∧ kk = .int .i64 j ∧ compG (l.take j) = l.take j ∧ OwnK 6 Spot6R 35 wr base (.slice (some ⟨g, o, none⟩) L cap) l ∧ Grew w wr ∧ I wr)
 case atStart => exact ⟨1, by omega, by omega, rfl, hc1, hO.out, Grew.refl _, hI.out⟩
 case round =>
  obtain ⟨j, hj, hj1, rfl, hcj, hR, hG, hIr⟩ := hrel
  replace hIr := hZ (hIg.out _ _ hIr ((Grew.refl wr).drew))
  by_cases hlt : j < L
  ·obtain ⟨i, hi⟩ : ∃ i, i + 1 = j := ⟨j - 1, by omega⟩
   obtain ⟨p, hp⟩ : ∃ p, l[i]? = some p := ⟨l[i]'(by omega), List.getElem?_eq_getElem _⟩
   obtain ⟨q, hq9⟩ : ∃ q, l[j]? = some q := ⟨l[j]'(by omega), List.getElem?_eq_getElem _⟩
   have hct : compG (l.take (j + 1)) = if p = q then compG (l.take j) else compG (l.take j) ++ [q] := by subst hi; exact compG_take hp hq9
   have htk := takeG_snoc hq9
   obtain ⟨b11, A11, n11, c11, C11, m11, d11, b12, A12, n12, c12, C12, m12, d12, ⟨e0, e1, e2, e3, e4, e5⟩, -, S1⟩ := elS hR hq9
   obtain ⟨b21, A21, n21, c21, C21, m21, d21, b22, A22, n22, c22, C22, m22, d22, ⟨f0, f1, f2, f3, f4, f5⟩, -, S2⟩ := elS hR hp
   have q1 := hZ (hB.out q (List.mem_of_getElem? hq9))
   have q2 := hZ (hB.out p (List.mem_of_getElem? hp))
   have hwj : IntKind.i64.wrap ((j : Int) - 1) = (i : Int) := by rw [IntWalk.i64_in _ (by omega)]; omega
   have hjl : (j : Int) < (L : Int) := by omega
   have hil : (i : Int) < (L : Int) := by omega
   replace hct := hZ hct
   replace htk := hZ htk
   replace hcj := hZ hcj
   replace hR := hZ hR
   replace hG := hZ hG
   clear hp hq9
   go_wp2_with fail
   go_region_held3 (fun w' => w'.cell? ⟨g, o + j * 6, none⟩ = some (.bool b11) ∧ w'.cell? ⟨g, o + j * 6 + 1, none⟩ = some (.slice A11 n11 c11) ∧ w'.cell? ⟨g, o + j * 6 + 2, none⟩ = some (.slice C11 m11 d11) ∧ w'.cell? ⟨g, o + j * 6 + 3, none⟩ = some (.bool b12) ∧ w'.cell? ⟨g, o + j * 6 + 4, none⟩ = some (.slice A12 n12 c12) ∧ w'.cell? ⟨g, o + j * 6 + 5, none⟩ = some (.slice C12 m12 d12) ∧ w'.cell? ⟨g, o + i * 6, none⟩ = some (.bool b21) ∧ w'.cell? ⟨g, o + i * 6 + 1, none⟩ = some (.slice A21 n21 c21) ∧ w'.cell? ⟨g, o + i * 6 + 2, none⟩ = some (.slice C21 m21 d21) ∧ w'.cell? ⟨g, o + i * 6 + 3, none⟩ = some (.bool b22) ∧ w'.cell? ⟨g, o + i * 6 + 4, none⟩ = some (.slice A22 n22 c22) ∧ w'.cell? ⟨g, o + i * 6 + 5, none⟩ = some (.slice C22 m22 d22))
    (first | exact ⟨e0, e1, e2, e3, e4, e5, f0, f1, f2, f3, f4, f5⟩ | exact ⟨gc.cell e0, gc.cell e1, gc.cell e2, gc.cell e3, gc.cell e4, gc.cell e5, gc.cell f0, gc.cell f1, gc.cell f2, gc.cell f3, gc.cell f4, gc.cell f5⟩)
    (first | (go_at_fn g9; refine (heq.out _ _ _ q p (says_spot.kept S1.out ((Grew.refl wr).drew).keeps) (says_spot.kept S2.out ((Grew.refl wr).drew).keeps) q1.out q2.out hIr.out).mono ?_; rintro e wx ⟨rfl, gc⟩))
   have gA := hZ ((hG.out.drew).trans gc)
   have iA := hZ (hIg.out _ _ hIr.out gc)
   have oA := hZ (OwnK.grew says_spot hR.out (((Grew.refl wr).drew).trans gc))
   clear hR hG gc hIr e0 e1 e2 e3 e4 e5 f0 f1 f2 f3 f4 f5 S1 S2 q1 q2
   by_cases hpq : p = q
   ·have hb : decide (q = p) = true := decide_eq_true hpq.symm
    rw [hb]
    have hj0 := hZ ((hct.out.trans (if_pos hpq)).trans hcj.out)
    clear hct hcj htk hb
    go_wp2_with fail
    obtain ⟨G, rfl⟩ : ∃ G : Nat, G = gk := ⟨_, rfl⟩
    obtain ⟨D, hD⟩ : ∃ D, L - j = D := ⟨_, rfl⟩
    obtain ⟨E, hE⟩ : ∃ E, cap - j = E := ⟨_, rfl⟩
    rw [hD, hE]
    go_loopg [5, 7] (L - 1 - j) (fun gk kk k2 wr => ∃ (m n s : Nat) (r : List (Rat × Rat)), gk + (j + s) = L ∧ kk = .int .i64 n ∧ m + 1 = s ∧ k2 = .int .i64 s ∧ 1 ≤ n ∧ n ≤ j + m ∧ r.length = L ∧ r.take n = compG (l.take (j + s)) ∧ (∀ i, j + m ≤ i → r[i]? = l[i]?) ∧ OwnK 6 Spot6R 35 wr base (.slice (some ⟨g, o, none⟩) L cap) r ∧ I wr ∧ ∀ W : World, W.heap.size ≤ base → Grew W w → Grew W wr)
    case atStart => exact ⟨0, j, 1, l, by omega, rfl, rfl, rfl, by omega, by omega, hL, hj0.out.symm, fun _ _ => rfl, oA.out, iA.out, fun _ _ h => h.trans gA.out⟩
    case round =>
     obtain ⟨m, n, s, r, hgk, rfl, hsm, rfl, hn1, hnm, hrl, hrt, hri, hR, hIr, hGf⟩ := hrel
     replace hIr := hZ (hIg.out _ _ hIr ((Grew.refl wr).drew))
     by_cases hlt2 : s < D
     ·obtain ⟨p2, hp2⟩ : ∃ p, l[j + m]? = some p := ⟨l[j + m]'(by omega), List.getElem?_eq_getElem _⟩
      obtain ⟨q2, hq2⟩ : ∃ q, l[j + s]? = some q := ⟨l[j + s]'(by omega), List.getElem?_eq_getElem _⟩
      have hct : compG (l.take (j + (s + 1))) = if p2 = q2 then compG (l.take (j + s)) else compG (l.take (j + s)) ++ [q2] := by subst hsm; exact compG_take hp2 hq2
      obtain ⟨b31, A31, n31, c31, C31, m31, d31, b32, A32, n32, c32, C32, m32, d32, ⟨e0, e1, e2, e3, e4, e5⟩, -, S1⟩ := elS hR ((hri _ (by omega)).trans hq2)
      obtain ⟨b41, A41, n41, c41, C41, m41, d41, b42, A42, n42, c42, C42, m42, d42, ⟨f0, f1, f2, f3, f4, f5⟩, -, S2⟩ := elS hR ((hri _ (by omega)).trans hp2)
      have ea : o + (j + s) * 6 = o + j * 6 + s * 6 := by omega
      have eb : o + (j + m) * 6 = o + j * 6 + m * 6 := by omega
      rw [ea] at e0 e1 e2 e3 e4 e5
      rw [eb] at f0 f1 f2 f3 f4 f5
      have q1 := hZ (hB.out q2 (List.mem_of_getElem? hq2))
      have q3 := hZ (hB.out p2 (List.mem_of_getElem? hp2))
      have hwj : IntKind.i64.wrap ((s : Int) - 1) = (m : Int) := by rw [IntWalk.i64_in _ (by omega)]; omega
      have hjl : (s : Int) < (D : Int) := by omega
      have hil : (m : Int) < (D : Int) := by omega
      have hnl : (n : Int) < (L : Int) := by omega
      replace hct := hZ hct
      replace hrt := hZ hrt
      replace hsm := hZ hsm
      replace hri := hZ hri
      replace hR := hZ hR
      replace hGf := hZ hGf
      clear hp2 hq2
      go_wp2_with fail
      go_region_held3 (fun w' => w'.cell? ⟨g, o + j * 6 + s * 6, none⟩ = some (.bool b31) ∧ w'.cell? ⟨g, o + j * 6 + s * 6 + 1, none⟩ = some (.slice A31 n31 c31) ∧ w'.cell? ⟨g, o + j * 6 + s * 6 + 2, none⟩ = some (.slice C31 m31 d31) ∧ w'.cell? ⟨g, o + j * 6 + s * 6 + 3, none⟩ = some (.bool b32) ∧ w'.cell? ⟨g, o + j * 6 + s * 6 + 4, none⟩ = some (.slice A32 n32 c32) ∧ w'.cell? ⟨g, o + j * 6 + s * 6 + 5, none⟩ = some (.slice C32 m32 d32) ∧ w'.cell? ⟨g, o + j * 6 + m * 6, none⟩ = some (.bool b41) ∧ w'.cell? ⟨g, o + j * 6 + m * 6 + 1, none⟩ = some (.slice A41 n41 c41) ∧ w'.cell? ⟨g, o + j * 6 + m * 6 + 2, none⟩ = some (.slice C41 m41 d41) ∧ w'.cell? ⟨g, o + j * 6 + m * 6 + 3, none⟩ = some (.bool b42) ∧ w'.cell? ⟨g, o + j * 6 + m * 6 + 4, none⟩ = some (.slice A42 n42 c42) ∧ w'.cell? ⟨g, o + j * 6 + m * 6 + 5, none⟩ = some (.slice C42 m42 d42))
       (first | exact ⟨e0, e1, e2, e3, e4, e5, f0, f1, f2, f3, f4, f5⟩ | exact ⟨gc.cell e0, gc.cell e1, gc.cell e2, gc.cell e3, gc.cell e4, gc.cell e5, gc.cell f0, gc.cell f1, gc.cell f2, gc.cell f3, gc.cell f4, gc.cell f5⟩)
       (first | (go_at_fn g9; refine (heq.out _ _ _ q2 p2 (says_spot.kept S1.out ((Grew.refl wr).drew).keeps) (says_spot.kept S2.out ((Grew.refl wr).drew).keeps) q1.out q3.out hIr.out).mono ?_; rintro e wy ⟨rfl, gc⟩))
      have gB := ((Grew.refl wr).drew).trans gc
      have oB := OwnK.grew says_spot hR.out gB
      have SB := hZ (says_spot.kept S1.out gB.keeps)
      have iB := hZ (hIg.out _ _ hIr.out gc)
      have hGB := hZ (fun (W : World) (h1 : W.heap.size ≤ base) (h2 : Grew W w) => (hGf.out W h1 h2).trans gB)
      have e0' := gc.cell e0
      have e1' := gc.cell e1
      have e2' := gc.cell e2
      have e3' := gc.cell e3
      have e4' := gc.cell e4
      have e5' := gc.cell e5
      clear hR hGf gc gB hIr e0 e1 e2 e3 e4 e5 f0 f1 f2 f3 f4 f5 S1 S2 q1 q3 hwj
      by_cases hpq2 : p2 = q2
      ·have hb : decide (q2 = p2) = true := decide_eq_true hpq2.symm
       rw [hb]
       have hj1 := hZ (hct.out.trans (if_pos hpq2))
       replace oB := hZ oB
       clear hct hb e0' e1' e2' e3' e4' e5'
       go_wp2_with fail
       go_roundg (gk - 1)
       case rel => have hsm' := hsm.out; exact ⟨m + 1, n, s + 1, r, by omega, rfl, by omega, by go_num, hn1, by omega, hrl, by rw [hj1.out]; exact hrt.out, fun i hi => hri.out i (by omega), oB.out, iB.out, hGB.out⟩
       case measure => omega
      ·have hb : decide (q2 = p2) = false := decide_eq_false fun h => hpq2 h.symm
       rw [hb]
       have hj1 := hZ (hct.out.trans (if_neg hpq2))
       obtain ⟨pn, hpn⟩ : ∃ p, r[n]? = some p := ⟨r[n]'(by omega), List.getElem?_eq_getElem _⟩
       obtain ⟨_, _, _, _, _, _, _, _, _, _, _, _, _, _, ⟨k0, k1, k2, k3, k4, k5⟩, hfz, -⟩ := elS oB hpn
       have z0 := hfz (o + n * 6)
       have z1 := hfz (o + n * 6 + 1)
       have z2 := hfz (o + n * 6 + 2)
       have z3 := hfz (o + n * 6 + 3)
       have z4 := hfz (o + n * 6 + 4)
       have z5 := hfz (o + n * 6 + 5)
       replace oB := hZ oB
       clear hct hb hfz hpn
       go_upto_region 13 with fail
       refine gen_wp ?_
       intro W9 hW9
       replace hW9 : W9 = wy.setCells g (o + n * 6) #[.bool b31, .slice A31 n31 c31, .slice C31 m31 d31, .bool b32, .slice A32 n32 c32, .slice C32 m32 d32].toList := hW9
       obtain ⟨hS1, -, hS2, hS3⟩ := OwnK.store (i := n) says_spot oB.out (by omega) SB.out
       rw [← hW9] at hS1 hS2
       have hG9 := hZ (fun (W : World) (h1 : W.heap.size ≤ base) (h2 : Grew W w) => (hGB.out W h1 h2).wrote hS2 (Nat.le_trans h1 hS3))
       have iS := hZ (hIw.out _ _ iB.out hS2)
       replace hS1 := hZ hS1
       have hsm' := hsm.out
       have htk : (r.set n q2).take (n + 1) = compG (l.take (j + (s + 1))) := by rw [setG_take (by omega), hrt.out, hj1.out]
       have hri' : ∀ i, j + (m + 1) ≤ i → (r.set n q2)[i]? = l[i]? := fun i hi => by rw [List.getElem?_set_ne (by omega)]; exact hri.out i (by omega)
       replace htk := hZ htk
       replace hri' := hZ hri'
       clear hW9 hS2 hGB oB SB e0' e1' e2' e3' e4' e5' k0 k1 k2 k3 k4 k5 z0 z1 z2 z3 z4 z5 hrt hri hj1
       go_wp2_with fail
       go_roundg (gk - 1)
       case rel => exact ⟨m + 1, n + 1, s + 1, r.set n q2, by omega, by go_num, by omega, by go_num, by omega, by omega, by rw [List.length_set]; exact hrl, htk.out, hri'.out, hS1.out, iS.out, hG9.out⟩
       case measure => omega
     ·have hall : l.take (j + s) = l := by rw [show j + s = l.length by omega]; exact List.take_length
      rw [hall] at hrt
      obtain ⟨cur, hg9, hcs9⟩ := hR.cur
      have hmul : L * 6 ≤ cap * 6 := Nat.mul_le_mul_right _ hcap
      have ho0 := ho.out
      have hcl : ∀ ty, (Builtin.clear_ #[41] ty #[.slice (some ⟨g, o + n * 6, none⟩) (L - n) (cap - n)]).run Tryz.prog wr = .ok (.tuple #[]) (wr.setCells g (o + n * 6) (Builtin.zeroCells (Value.agg #[.bool false, .slice none 0 0, .slice none 0 0, .bool false, .slice none 0 0, .slice none 0 0]).cells (L - n)).toList) :=
       fun ty => run_clearK wr g (o + n * 6) (o + n * 6) (L - n) (cap - n) cur _ _ ty Tryz.underlying41 Tryz.zeroValue35 (k := 6) rfl (by omega) zoneS hg9 (by omega) rfl (by omega)
      obtain ⟨hS1, hS2, hS3⟩ := OwnK.clear (i := n) (Builtin.zeroCells (Value.agg #[.bool false, .slice none 0 0, .slice none 0 0, .bool false, .slice none 0 0, .slice none 0 0]).cells (L - n)).toList says_spot hR (by omega) (by rw [zeroK_len (k := 6) rfl]; omega) (zeroK_mem (k := 6) rfl (by omega) znoS)
      rw [hrt] at hS1
      generalize wr.setCells g (o + n * 6) (Builtin.zeroCells (Value.agg #[.bool false, .slice none 0 0, .slice none 0 0, .bool false, .slice none 0 0, .slice none 0 0]).cells (L - n)).toList = W9 at hcl hS1 hS2
      have hG9 := hZ (fun (W : World) (h1 : W.heap.size ≤ base) (h2 : Grew W w) => (hGf W h1 h2).wrote hS2 (Nat.le_trans h1 hS3))
      replace hS1 := hZ hS1
      have hnl : (n : Int) < (L : Int) := by omega
      have hsl : ¬ (s : Int) < (D : Int) := by omega
      clear hR hGf hrt hri hS2 hg9 hcs9 hall hmul ho0
      have hnL : n < L := by omega
      go_wp2_with (simp only [hcl])
      go_ret
      exact ⟨_, rfl, hS1.out, hG9.out⟩
   ·have hb : decide (q = p) = false := decide_eq_false fun h => hpq h.symm
    rw [hb]
    have hj0 := hZ (((hct.out.trans (if_neg hpq)).trans (by rw [hcj.out])).trans htk.out.symm)
    clear hct hcj htk hb
    go_wp2_with fail
    go_roundg (gk - 1)
    case rel => exact ⟨j + 1, by omega, by omega, by go_num, hj0.out, oA.out, gA.out, iA.out⟩
    case measure => omega
  ·obtain rfl : j = L := by omega
   have hall : l.take j = l := by rw [← hL]; exact List.take_length
   rw [hall] at hcj
   have hcj' := hZ hcj
   have hR' := hZ hR
   have hG' := hZ hG
   clear hcj hR hG
   go_wp2_with fail
   go_ret
   exact ⟨_, rfl, by rw [hcj'.out]; exact hR'.out, fun _ _ h => h.trans hG'.out⟩
end Go.Proofs.YtmommicmblfibaaGreat
