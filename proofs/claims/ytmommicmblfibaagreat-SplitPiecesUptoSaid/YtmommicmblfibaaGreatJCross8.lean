/- Plain: whether two ways go through one another: the program and the document answer alike. Conditions: none. r10.Fits, r17.May. Conditions: none. r17.Same at one row. Condition: what comes in reads. r17.Same at one row; r04.Make, r04.Div. Condition: what comes in reads. -/
import Derived.Test.YtmommicmblfibaaGreatJMeetP8
import Derived.Test.YtmommicmblfibaaGreatJCross7
import Derived.Test.YtmommicmblfibaaGreatJCross2
import Derived.Test.YtmommicmblfibaaGreatJR4c
import Derived.Test.YtmommicmblfibaaGreatJRowP
import Derived.Deep.LoopGhost
import Derived.Deep.RegionHeld3
import Derived.Test.YtmommicmblfibaaGreatJRow4
set_option maxRecDepth 100000
namespace Go.Proofs.YtmommicmblfibaaGreat
open Go.RowKit
set_option maxHeartbeats 2000000 in
theorem rfits_any (x y : Int) (w : World) : Calls Tryz.prog 51 #[.agg #[.int .i64 x, .int .i64 y]] w fun e w' => e = .returned (.bool (fitB x y)) ∧ Grew w w' := by
 by_cases h1 : -8388607 ≤ x
 ·by_cases h2 : x ≤ 8388607
  ·by_cases h3 : -8388607 ≤ y
   ·by_cases h4 : y ≤ 8388607
    ·have e := hZ ((fitB_iff x y).2 ⟨h1, h2, h3, h4⟩)
     go_enter Tryz.func51, Tryz.ntmps51
     go_wp2_with fail
     go_ret
     exact ⟨by rw [e.out]; rfl, (Grew.refl w).alloc _⟩
    ·have e := hZ (show fitB x y = false by unfold fitB inB; simp [h4])
     go_enter Tryz.func51, Tryz.ntmps51
     go_wp2_with fail
     go_ret
     exact ⟨by rw [e.out]; rfl, (Grew.refl w).alloc _⟩
   ·have e := hZ (show fitB x y = false by unfold fitB inB; simp [h3])
    go_enter Tryz.func51, Tryz.ntmps51
    go_wp2_with fail
    go_ret
    exact ⟨by rw [e.out]; rfl, (Grew.refl w).alloc _⟩
  ·have e := hZ (show fitB x y = false by unfold fitB inB; simp [h2])
   go_enter Tryz.func51, Tryz.ntmps51
   go_wp2_with fail
   go_ret
   exact ⟨by rw [e.out]; rfl, (Grew.refl w).alloc _⟩
 ·have e := hZ (show fitB x y = false by unfold fitB inB; simp [h1])
  go_enter Tryz.func51, Tryz.ntmps51
  go_wp2_with fail
  go_ret
  exact ⟨by rw [e.out]; rfl, (Grew.refl w).alloc _⟩
set_option maxHeartbeats 2000000 in
theorem rmay_any (ax ay bx b_y : Int) (w : World) : Calls Tryz.prog 27 #[segV ax ay bx b_y] w fun e w' => e = .returned (.bool (fitB ax ay && fitB bx b_y)) ∧ Grew w w' := by
 obtain ⟨a, ha⟩ : ∃ a, fitB ax ay = a := ⟨_, rfl⟩
 obtain ⟨b, hb⟩ : ∃ b, fitB bx b_y = b := ⟨_, rfl⟩
 rw [ha, hb]
 replace ha := hZ ha
 replace hb := hZ hb
 go_enter Tryz.func27, Tryz.ntmps27
 go_wp2_with fail
 refine gen_calls ?_
 intro W0 hW0
 have G0 : Grew w W0 := by rw [hW0]; exact (Grew.refl w).alloc _
 have P : Box2 W0 (w.heap.size) 0 (.int .i64 ax) (.int .i64 ay) := by rw [hW0]; exact ⟨by simp [go_sem], by simp [go_sem]⟩
 replace P := hZ P
 have Q : Box2 W0 (w.heap.size) 2 (.int .i64 bx) (.int .i64 b_y) := by rw [hW0]; exact ⟨by simp [go_sem], by simp [go_sem]⟩
 replace Q := hZ Q
 have z0 : w.heap.size < W0.heap.size := by rw [hW0]; simp <;> omega
 replace z0 := hZ z0
 clear hW0
 replace G0 := hZ G0
 refine (rfits_any ax ay _).mono ?_
 rintro e w1 ⟨rfl, g1⟩
 replace P := hZ (P.out.grew g1)
 replace Q := hZ (Q.out.grew g1)
 replace z0 := hZ (lt_grew z0.out g1)
 replace G0 := hZ (G0.out.trans g1)
 clear g1
 rw [ha.out]
 cases a
 ·
  go_wp2_with fail
  go_ret
  exact ⟨rfl, G0.out⟩
 ·
  obtain ⟨P0, P1⟩ := P.out
  obtain ⟨Q0, Q1⟩ := Q.out
  go_wp2_with fail
  clear P0 P1 Q0 Q1
  refine (rfits_any bx b_y _).mono ?_
  rintro e w2 ⟨rfl, g2⟩
  replace P := hZ (P.out.grew g2)
  replace Q := hZ (Q.out.grew g2)
  replace z0 := hZ (lt_grew z0.out g2)
  replace G0 := hZ (G0.out.trans g2)
  clear g2
  rw [hb.out]
  go_wp2_with fail
  go_ret
  exact ⟨by cases b <;> rfl, G0.out⟩

set_option maxHeartbeats 4000000 in
theorem r4make_any (b1 b2 : Bool) (A1 A2 : Option Addr) (N M n1 c1 n2 c2 k : Nat) (w : World) (ha : Num 4294967296 .u32 w (.slice A1 n1 c1) N n1) (hb : Num 4294967296 .u32 w (.slice A2 n2 c2) M n2) (hM : M ≠ 0)
  (h1 : n1 ≤ k) (h2 : n2 ≤ k) (hs : k < 1073741824) :
  Calls Tryz.prog 126 #[.agg #[.bool b1, .slice A1 n1 c1], .agg #[.bool b2, .slice A2 n2 c2]] w fun e w' => ∃ V, e = .returned (.tuple #[V, .int .i64 0]) ∧ FracC w' V (mkRat (sgn (b1 != b2) N) M) ∧ Grew w w' := by
 have Fa := hZ ha
 have Fb := hZ hb
 have Wb := hZ (show WhlR w (.agg #[.bool b2, .slice A2 n2 c2]) (sgn b2 M) k from ⟨_, _, _, _, rfl, hb, rfl, h2⟩)
 have s1 := hZ (show n1 < 137438953472 by omega)
 have s2 := hZ (show k < 137438953472 by omega)
 have h1' := hZ (show len 4294967296 (sgn (b1 != b2) N).natAbs ≤ k by rw [sgn_abs]; exact Nat.le_trans (ha.len_le (by omega)) h1)
 have hsg : ∃ t : Int, sg (sgn b2 M) = t ∧ t ≠ 0 := ⟨_, rfl, by cases b2 <;> simp [sgn, sg] <;> split <;> omega⟩
 obtain ⟨t, ht, ht0⟩ := hsg
 have ht1 : (t == 0) = false := by simpa using ht0
 replace ht := hZ ht
 clear ha hb h1
 go_enter Tryz.func126, Tryz.ntmps126
 go_wp2_with fail
 refine gen_calls ?_
 intro W0 hW0
 have G0 : Grew w W0 := by rw [hW0]; exact (((Grew.refl w).alloc _).alloc _).alloc _
 have P : Box2 W0 (w.heap.size) 0 (.bool b1) (.slice A1 n1 c1) := by rw [hW0]; exact ⟨by simp [go_sem], by simp [go_sem]⟩
 replace P := hZ P
 have Q : Box2 W0 (w.heap.size + 1) 0 (.bool b2) (.slice A2 n2 c2) := by rw [hW0]; exact ⟨by simp [go_sem], by simp [go_sem]⟩
 replace Q := hZ Q
 have R : Res3 W0 (w.heap.size + 1 + 1) 0 (.bool false) (.slice none 0 0) (.slice none 0 0) := by rw [hW0]; exact ⟨by simp [go_sem], by simp [go_sem], by simp [go_sem], by simp [go_sem], by simp [go_sem], by simp [go_sem], by simp⟩
 replace R := hZ R
 have z0 : w.heap.size < W0.heap.size := by rw [hW0]; simp <;> omega
 replace z0 := hZ z0
 have z1 : w.heap.size + 1 < W0.heap.size := by rw [hW0]; simp <;> omega
 replace z1 := hZ z1
 have z2 : w.heap.size + 1 + 1 < W0.heap.size := by rw [hW0]; simp <;> omega
 replace z2 := hZ z2
 clear hW0
 replace Fa := hZ (Fa.out.kept G0.keeps)
 replace Fb := hZ (Fb.out.kept G0.keeps)
 replace Wb := hZ (Wb.out.kept G0.keeps)
 replace G0 := hZ G0
 refine (r2sign_any _ (sgn b2 M) k _ Wb.out s2.out).mono ?_
 rintro e w1 ⟨rfl, g1⟩
 replace R := hZ (R.out.grew g1)
 replace P := hZ (P.out.grew g1)
 replace Q := hZ (Q.out.grew g1)
 replace z0 := hZ (lt_grew z0.out g1)
 replace z1 := hZ (lt_grew z1.out g1)
 replace z2 := hZ (lt_grew z2.out g1)
 replace Fa := hZ (Fa.out.kept g1.keeps)
 replace Fb := hZ (Fb.out.kept g1.keeps)
 replace Wb := hZ (Wb.out.kept g1.keeps)
 replace G0 := hZ (G0.out.trans g1)
 clear g1
 rw [ht.out]
 go_wp2_with fail
 have gd : Grew w1 w1.drew := (Grew.refl w1).drew
 replace R := hZ (R.out.grew gd)
 replace P := hZ (P.out.grew gd)
 replace Q := hZ (Q.out.grew gd)
 replace z0 := hZ (lt_grew z0.out gd)
 replace z1 := hZ (lt_grew z1.out gd)
 replace z2 := hZ (lt_grew z2.out gd)
 replace Fa := hZ (Fa.out.kept gd.keeps)
 replace Fb := hZ (Fb.out.kept gd.keeps)
 replace Wb := hZ (Wb.out.kept gd.keeps)
 replace gd := hZ gd
 have ZP := P
 have ZQ := Q
 go_region_held3 (fun w' => w'.cell? ⟨w.heap.size, 0, none⟩ = some (.bool b1) ∧ w'.cell? ⟨w.heap.size, 1, none⟩ = some (.slice A1 n1 c1) ∧ w'.cell? ⟨w.heap.size + 1, 0, none⟩ = some (.bool b2) ∧ w'.cell? ⟨w.heap.size + 1, 1, none⟩ = some (.slice A2 n2 c2))
  (first | (with_reducible exact ⟨ZP.out.p0, ZP.out.p1, ZQ.out.p0, ZQ.out.p1⟩) | (with_reducible exact ⟨g2.cell ZP.out.p0, g2.cell ZP.out.p1, g2.cell ZQ.out.p0, g2.cell ZQ.out.p1⟩) | (with_reducible exact ⟨(g2.trans g3).cell ZP.out.p0, (g2.trans g3).cell ZP.out.p1, (g2.trans g3).cell ZQ.out.p0, (g2.trans g3).cell ZQ.out.p1⟩) | (with_reducible exact ⟨other3 (o := 0) (by omega) ((g2.trans g3).cell ZP.out.p0), other3 (o := 0) (by omega) ((g2.trans g3).cell ZP.out.p1), other3 (o := 0) (by omega) ((g2.trans g3).cell ZQ.out.p0), other3 (o := 0) (by omega) ((g2.trans g3).cell ZQ.out.p1)⟩))
  (first | (have chk := g2; clear chk; go_at_call 57; refine (rfreduce_any _ _ k _ (FracR.mk X2.out Fb.out rfl h1'.out h2) (by omega)).mono ?_; rintro e w3 ⟨V6, rfl, hV6, g3⟩; obtain ⟨b7, A7, n7, c7, C7, m7, d7, rfl, X6⟩ := hV6.laid; clear hV6; replace R := hZ (R.out.grew g3); replace P := hZ (P.out.grew g3); replace Q := hZ (Q.out.grew g3); replace z0 := hZ (lt_grew z0.out g3); replace z1 := hZ (lt_grew z1.out g3); replace z2 := hZ (lt_grew z2.out g3); replace Fa := hZ (Fa.out.kept g3.keeps); replace Fb := hZ (Fb.out.kept g3.keeps); replace Wb := hZ (Wb.out.kept g3.keeps); replace X2 := hZ (X2.out.kept g3.keeps); obtain ⟨R0, R1, R2, Rf0, Rf1, Rf2, Rs⟩ := R.out) | (go_at_call 95; refine (rmake_any _ _ N _ _ Fa.out s1.out).mono ?_; rintro e w2 ⟨V2, rfl, hV2, g2⟩; obtain ⟨b4, A4, n4, c4, rfl, X2, -⟩ := hV2.laid; clear hV2; replace R := hZ (R.out.grew g2); replace P := hZ (P.out.grew g2); replace Q := hZ (Q.out.grew g2); replace z0 := hZ (lt_grew z0.out g2); replace z1 := hZ (lt_grew z1.out g2); replace z2 := hZ (lt_grew z2.out g2); replace Fa := hZ (Fa.out.kept g2.keeps); replace Fb := hZ (Fb.out.kept g2.keeps); replace Wb := hZ (Wb.out.kept g2.keeps)))
 replace G0 := hZ (((G0.out.trans gd.out).trans g2).trans g3)
 clear gd g2 g3 ZP ZQ
 refine gen_then ?_
 intro W9 hW9
 obtain ⟨q0, q1, q2, qK, -, -, qs, qG⟩ := store3 (o := 0) R0 R1 R2 hW9
 have GE := qG w (.inr (by omega)) G0.out
 have QK := hZ qK
 clear qK qG hW9 R0 R1 R2
 go_wp2_with fail
 exact bodyPost_ret (v := .tuple #[.agg #[.bool b7, .slice A7 n7 c7, .slice C7 m7 d7], .int .i64 0]) (by simp [results, Tryz.results126, go_sem, q0, q1, q2]) rfl ⟨_, rfl, X6.out.kept QK.out, GE⟩
theorem r4makez_any (Va Vb : Value) (z y : Int) (k : Nat) (w : World) (ha : Whl w Va z) (hb : Whl w Vb y) (hy : y ≠ 0) (h1 : len 4294967296 z.natAbs ≤ k) (h2 : len 4294967296 y.natAbs ≤ k) (hs : k < 1073741824) :
  Calls Tryz.prog 126 #[Va, Vb] w fun e w' => ∃ V, e = .returned (.tuple #[V, .int .i64 0]) ∧ FracC w' V ((z : Rat) / (y : Rat)) ∧ Grew w w' := by
 obtain ⟨b1, A1, n1, c1, rfl, -, Y1⟩ := ha.laid
 obtain ⟨b2, A2, n2, c2, rfl, -, Y2⟩ := hb.laid
 obtain ⟨e1, l1, X1⟩ := Y1.out
 obtain ⟨e2, l2, X2⟩ := Y2.out
 rw [← quot_mkRat z y hy]
 subst e1; subst e2
 exact r4make_any _ _ A1 A2 z.natAbs y.natAbs n1 c1 n2 c2 k w X1 X2 (by omega) (by omega) (by omega) hs
end Go.Proofs.YtmommicmblfibaaGreat
