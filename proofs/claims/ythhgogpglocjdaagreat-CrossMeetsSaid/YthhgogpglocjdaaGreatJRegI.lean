/- r17.Same at one row. Condition: what comes in reads. r17.Same at one row; r04.Make, r04.Div. Condition: what comes in reads. r04.Div. Condition: what comes in reads; the second is not 0. A region that draws, by an invariant. Conditions: none. -/
import Derived.Test.YthhgogpglocjdaaGreatJR4c
import Derived.Test.YthhgogpglocjdaaGreatJRowP
import Derived.Deep.LoopGhost
import Derived.Deep.RegionHeld3
import Derived.Test.YthhgogpglocjdaaGreatJCrossR
import Derived.Test.YthhgogpglocjdaaGreatJRow4
import Derived.Test.YthhgogpglocjdaaGreatJKit2
import Derived.Orders
namespace Go.Proofs.YthhgogpglocjdaaGreat
open Go.RowKit

set_option maxRecDepth 100000 in
set_option maxHeartbeats 4000000 in
theorem rowsame_yes (v v' : Value) (l : List (Rat × Rat)) (w : World) (ha : RowC w v l) (hb : RowC w v' l) :
    Calls Tryz.prog 6 #[v, v'] w fun e w' => e = .returned (.bool true) ∧ Grew w w' := by
  obtain ⟨A, c, rfl, x1, x2, x3⟩ := ha
  obtain ⟨A', c', rfl, k1, k2, k3⟩ := hb
  obtain ⟨L, hL⟩ : ∃ L, l.length = L := ⟨_, rfl⟩
  rw [hL] at x1 x3 k1 k3 ⊢
  have hm : L ≤ 9223372036854775807 := by omega
  replace x3 := Lib.hid x3
  replace k3 := Lib.hid k3
  go_enter Tryz.func6, Tryz.ntmps6
  go_wp2_with fail
  go_loopg [5] L (fun gk i wr => ∃ j : Nat, gk + j = L ∧ i = .int .i64 j ∧ Grew w wr)
  case atStart => exact ⟨0, rfl, rfl, Grew.refl _⟩
  case round =>
    obtain ⟨j, hj, rfl, hG⟩ := hrel
    by_cases hlt : j < L
    · obtain ⟨b, o, rfl, he⟩ := x3.out (by omega)
      obtain ⟨b9, o9, rfl, ke⟩ := k3.out (by omega)
      obtain ⟨p, hp⟩ : ∃ p, l[j]? = some p := ⟨l[j]'(by omega), List.getElem?_eq_getElem _⟩
      obtain ⟨b1, A1, n1, c1, C1, m1, d1, b2, A2, n2, c2, C2, m2, d2, ⟨e0, e1, e2, e3, e4, e5⟩, S1⟩ := he j p hp
      obtain ⟨b3, A3, n3, c3, C3, m3, d3, b4, A4, n4, c4, C4, m4, d4, ⟨f0, f1, f2, f3, f4, f5⟩, S2⟩ := ke j p hp
      have g0 : wr.cell? ⟨b, o + j * 6, none⟩ = some (.bool b1) := hG.cell e0
      have g1 : wr.cell? ⟨b, o + j * 6 + 1, none⟩ = some (.slice A1 n1 c1) := hG.cell e1
      have g2 : wr.cell? ⟨b, o + j * 6 + 2, none⟩ = some (.slice C1 m1 d1) := hG.cell e2
      have g3 : wr.cell? ⟨b, o + j * 6 + 3, none⟩ = some (.bool b2) := hG.cell e3
      have g4 : wr.cell? ⟨b, o + j * 6 + 4, none⟩ = some (.slice A2 n2 c2) := hG.cell e4
      have g5 : wr.cell? ⟨b, o + j * 6 + 5, none⟩ = some (.slice C2 m2 d2) := hG.cell e5
      have h0 : wr.cell? ⟨b9, o9 + j * 6, none⟩ = some (.bool b3) := hG.cell f0
      have h1 : wr.cell? ⟨b9, o9 + j * 6 + 1, none⟩ = some (.slice A3 n3 c3) := hG.cell f1
      have h2 : wr.cell? ⟨b9, o9 + j * 6 + 2, none⟩ = some (.slice C3 m3 d3) := hG.cell f2
      have h3 : wr.cell? ⟨b9, o9 + j * 6 + 3, none⟩ = some (.bool b4) := hG.cell f3
      have h4 : wr.cell? ⟨b9, o9 + j * 6 + 4, none⟩ = some (.slice A4 n4 c4) := hG.cell f4
      have h5 : wr.cell? ⟨b9, o9 + j * 6 + 5, none⟩ = some (.slice C4 m4 d4) := hG.cell f5
      replace S1 := Lib.hid (SpotC.kept S1 hG.keeps)
      replace S2 := Lib.hid (SpotC.kept S2 hG.keeps)
      have hjl : (j : Int) < (L : Int) := by omega
      clear e0 e1 e2 e3 e4 e5 f0 f1 f2 f3 f4 f5 he ke
      go_wp2_with fail
      go_region_held3 (fun w' => w'.cell? ⟨b, o + j * 6, none⟩ = some (.bool b1) ∧ w'.cell? ⟨b, o + j * 6 + 1, none⟩ = some (.slice A1 n1 c1) ∧ w'.cell? ⟨b, o + j * 6 + 2, none⟩ = some (.slice C1 m1 d1) ∧ w'.cell? ⟨b, o + j * 6 + 3, none⟩ = some (.bool b2) ∧ w'.cell? ⟨b, o + j * 6 + 4, none⟩ = some (.slice A2 n2 c2) ∧ w'.cell? ⟨b, o + j * 6 + 5, none⟩ = some (.slice C2 m2 d2) ∧ w'.cell? ⟨b9, o9 + j * 6, none⟩ = some (.bool b3) ∧ w'.cell? ⟨b9, o9 + j * 6 + 1, none⟩ = some (.slice A3 n3 c3) ∧ w'.cell? ⟨b9, o9 + j * 6 + 2, none⟩ = some (.slice C3 m3 d3) ∧ w'.cell? ⟨b9, o9 + j * 6 + 3, none⟩ = some (.bool b4) ∧ w'.cell? ⟨b9, o9 + j * 6 + 4, none⟩ = some (.slice A4 n4 c4) ∧ w'.cell? ⟨b9, o9 + j * 6 + 5, none⟩ = some (.slice C4 m4 d4))
        (first | exact ⟨g0, g1, g2, g3, g4, g5, h0, h1, h2, h3, h4, h5⟩ | exact ⟨gc.cell g0, gc.cell g1, gc.cell g2, gc.cell g3, gc.cell g4, gc.cell g5, gc.cell h0, gc.cell h1, gc.cell h2, gc.cell h3, gc.cell h4, gc.cell h5⟩)
        (first | (go_at_call 14; refine (r5same_yes _ _ p.1 p.2 _ (SpotC.kept S1.out ((Grew.refl wr).drew).keeps) (SpotC.kept S2.out ((Grew.refl wr).drew).keeps)).mono ?_; rintro e wx ⟨rfl, gc⟩))
      have gA := (hG.drew).trans gc
      clear g0 g1 g2 g3 g4 g5 h0 h1 h2 h3 h4 h5 gc
      go_wp2_with fail
      go_roundg (gk - 1)
      case rel => exact ⟨j + 1, by omega, by go_num, gA⟩
      case measure => omega
    · obtain rfl : j = L := by omega
      go_wp2_with fail
      go_ret
      exact ⟨rfl, hG⟩

end Go.Proofs.YthhgogpglocjdaaGreat
namespace Go.Proofs.YthhgogpglocjdaaGreat
open Go.RowKit

set_option maxRecDepth 100000 in
set_option maxHeartbeats 4000000 in
theorem r4make_any (b1 b2 : Bool) (A1 A2 : Option Addr) (N M n1 c1 n2 c2 k : Nat) (w : World) (ha : Num 4294967296 .u32 w (.slice A1 n1 c1) N n1) (hb : Num 4294967296 .u32 w (.slice A2 n2 c2) M n2) (hM : M ≠ 0)
    (h1 : n1 ≤ k) (h2 : n2 ≤ k) (hs : k < 1073741824) :
    Calls Tryz.prog 57 #[.agg #[.bool b1, .slice A1 n1 c1], .agg #[.bool b2, .slice A2 n2 c2]] w fun e w' => ∃ V, e = .returned (.tuple #[V, .int .i64 0]) ∧ FracC w' V (mkRat (sgn (b1 != b2) N) M) ∧ Grew w w' := by
  have Fa := Lib.hid ha
  have Fb := Lib.hid hb
  have Wb := Lib.hid (show WhlR w (.agg #[.bool b2, .slice A2 n2 c2]) (sgn b2 M) k from ⟨_, _, _, _, rfl, hb, rfl, h2⟩)
  have s1 := Lib.hid (show n1 < 137438953472 by omega)
  have s2 := Lib.hid (show k < 137438953472 by omega)
  have h1' := Lib.hid (show len 4294967296 (sgn (b1 != b2) N).natAbs ≤ k by rw [sgn_abs]; exact Nat.le_trans (ha.len_le (by omega)) h1)
  have hsg : ∃ t : Int, sg (sgn b2 M) = t ∧ t ≠ 0 := ⟨_, rfl, by cases b2 <;> simp [sgn, sg] <;> split <;> omega⟩
  obtain ⟨t, ht, ht0⟩ := hsg
  have ht1 : (t == 0) = false := by simpa using ht0
  replace ht := Lib.hid ht
  clear ha hb h1
  go_enter Tryz.func57, Tryz.ntmps57
  go_wp2_with fail
  refine gen_calls ?_
  intro W0 hW0
  have G0 : Grew w W0 := by rw [hW0]; exact (((Grew.refl w).alloc _).alloc _).alloc _
  have P : Box2 W0 (w.heap.size) 0 (.bool b1) (.slice A1 n1 c1) := by rw [hW0]; exact ⟨by simp [go_sem], by simp [go_sem]⟩
  replace P := Lib.hid P
  have Q : Box2 W0 (w.heap.size + 1) 0 (.bool b2) (.slice A2 n2 c2) := by rw [hW0]; exact ⟨by simp [go_sem], by simp [go_sem]⟩
  replace Q := Lib.hid Q
  have R : Res3 W0 (w.heap.size + 1 + 1) 0 (.bool false) (.slice none 0 0) (.slice none 0 0) := by rw [hW0]; exact ⟨by simp [go_sem], by simp [go_sem], by simp [go_sem], by simp [go_sem], by simp [go_sem], by simp [go_sem], by simp⟩
  replace R := Lib.hid R
  have z0 : w.heap.size < W0.heap.size := by rw [hW0]; simp <;> omega
  replace z0 := Lib.hid z0
  have z1 : w.heap.size + 1 < W0.heap.size := by rw [hW0]; simp <;> omega
  replace z1 := Lib.hid z1
  have z2 : w.heap.size + 1 + 1 < W0.heap.size := by rw [hW0]; simp <;> omega
  replace z2 := Lib.hid z2
  clear hW0
  replace Fa := Lib.hid (Fa.out.kept G0.keeps)
  replace Fb := Lib.hid (Fb.out.kept G0.keeps)
  replace Wb := Lib.hid (Wb.out.kept G0.keeps)
  replace G0 := Lib.hid G0
  refine (r2sign_any _ (sgn b2 M) k _ Wb.out s2.out).mono ?_
  rintro e w1 ⟨rfl, g1⟩
  replace R := Lib.hid (R.out.grew g1)
  replace P := Lib.hid (P.out.grew g1)
  replace Q := Lib.hid (Q.out.grew g1)
  replace z0 := Lib.hid (lt_grew z0.out g1)
  replace z1 := Lib.hid (lt_grew z1.out g1)
  replace z2 := Lib.hid (lt_grew z2.out g1)
  replace Fa := Lib.hid (Fa.out.kept g1.keeps)
  replace Fb := Lib.hid (Fb.out.kept g1.keeps)
  replace Wb := Lib.hid (Wb.out.kept g1.keeps)
  replace G0 := Lib.hid (G0.out.trans g1)
  clear g1
  rw [ht.out]
  go_wp2_with fail
  have gd : Grew w1 w1.drew := (Grew.refl w1).drew
  replace R := Lib.hid (R.out.grew gd)
  replace P := Lib.hid (P.out.grew gd)
  replace Q := Lib.hid (Q.out.grew gd)
  replace z0 := Lib.hid (lt_grew z0.out gd)
  replace z1 := Lib.hid (lt_grew z1.out gd)
  replace z2 := Lib.hid (lt_grew z2.out gd)
  replace Fa := Lib.hid (Fa.out.kept gd.keeps)
  replace Fb := Lib.hid (Fb.out.kept gd.keeps)
  replace Wb := Lib.hid (Wb.out.kept gd.keeps)
  replace gd := Lib.hid gd
  have ZP := P
  have ZQ := Q
  go_region_held3 (fun w' => w'.cell? ⟨w.heap.size, 0, none⟩ = some (.bool b1) ∧ w'.cell? ⟨w.heap.size, 1, none⟩ = some (.slice A1 n1 c1) ∧ w'.cell? ⟨w.heap.size + 1, 0, none⟩ = some (.bool b2) ∧ w'.cell? ⟨w.heap.size + 1, 1, none⟩ = some (.slice A2 n2 c2))
    (first | (with_reducible exact ⟨ZP.out.p0, ZP.out.p1, ZQ.out.p0, ZQ.out.p1⟩) | (with_reducible exact ⟨g2.cell ZP.out.p0, g2.cell ZP.out.p1, g2.cell ZQ.out.p0, g2.cell ZQ.out.p1⟩) | (with_reducible exact ⟨(g2.trans g3).cell ZP.out.p0, (g2.trans g3).cell ZP.out.p1, (g2.trans g3).cell ZQ.out.p0, (g2.trans g3).cell ZQ.out.p1⟩) | (with_reducible exact ⟨other3 (o := 0) (by omega) ((g2.trans g3).cell ZP.out.p0), other3 (o := 0) (by omega) ((g2.trans g3).cell ZP.out.p1), other3 (o := 0) (by omega) ((g2.trans g3).cell ZQ.out.p0), other3 (o := 0) (by omega) ((g2.trans g3).cell ZQ.out.p1)⟩))
    (first | (have chk := g2; clear chk; go_at_call 66; refine (rfreduce_any _ _ k _ (FracR.mk X2.out Fb.out rfl h1'.out h2) (by omega)).mono ?_; rintro e w3 ⟨V6, rfl, hV6, g3⟩; obtain ⟨b7, A7, n7, c7, C7, m7, d7, rfl, X6⟩ := hV6.laid; clear hV6; replace R := Lib.hid (R.out.grew g3); replace P := Lib.hid (P.out.grew g3); replace Q := Lib.hid (Q.out.grew g3); replace z0 := Lib.hid (lt_grew z0.out g3); replace z1 := Lib.hid (lt_grew z1.out g3); replace z2 := Lib.hid (lt_grew z2.out g3); replace Fa := Lib.hid (Fa.out.kept g3.keeps); replace Fb := Lib.hid (Fb.out.kept g3.keeps); replace Wb := Lib.hid (Wb.out.kept g3.keeps); replace X2 := Lib.hid (X2.out.kept g3.keeps); obtain ⟨R0, R1, R2, Rf0, Rf1, Rf2, Rs⟩ := R.out) | (go_at_call 84; refine (rmake_any _ _ N _ _ Fa.out s1.out).mono ?_; rintro e w2 ⟨V2, rfl, hV2, g2⟩; obtain ⟨b4, A4, n4, c4, rfl, X2, -⟩ := hV2.laid; clear hV2; replace R := Lib.hid (R.out.grew g2); replace P := Lib.hid (P.out.grew g2); replace Q := Lib.hid (Q.out.grew g2); replace z0 := Lib.hid (lt_grew z0.out g2); replace z1 := Lib.hid (lt_grew z1.out g2); replace z2 := Lib.hid (lt_grew z2.out g2); replace Fa := Lib.hid (Fa.out.kept g2.keeps); replace Fb := Lib.hid (Fb.out.kept g2.keeps); replace Wb := Lib.hid (Wb.out.kept g2.keeps)))
  replace G0 := Lib.hid (((G0.out.trans gd.out).trans g2).trans g3)
  clear gd g2 g3 ZP ZQ
  refine gen_then ?_
  intro W9 hW9
  obtain ⟨q0, q1, q2, qK, -, -, qs, qG⟩ := store3 (o := 0) R0 R1 R2 hW9
  have GE := qG w (.inr (by omega)) G0.out
  have QK := Lib.hid qK
  clear qK qG hW9 R0 R1 R2
  go_wp2_with fail
  exact bodyPost_ret (v := .tuple #[.agg #[.bool b7, .slice A7 n7 c7, .slice C7 m7 d7], .int .i64 0]) (by simp [results, Tryz.results57, go_sem, q0, q1, q2]) rfl ⟨_, rfl, X6.out.kept QK.out, GE⟩

theorem r4makez_any (Va Vb : Value) (z y : Int) (k : Nat) (w : World) (ha : Whl w Va z) (hb : Whl w Vb y) (hy : y ≠ 0) (h1 : len 4294967296 z.natAbs ≤ k) (h2 : len 4294967296 y.natAbs ≤ k) (hs : k < 1073741824) :
    Calls Tryz.prog 57 #[Va, Vb] w fun e w' => ∃ V, e = .returned (.tuple #[V, .int .i64 0]) ∧ FracC w' V ((z : Rat) / (y : Rat)) ∧ Grew w w' := by
  obtain ⟨b1, A1, n1, c1, rfl, -, Y1⟩ := ha.laid
  obtain ⟨b2, A2, n2, c2, rfl, -, Y2⟩ := hb.laid
  obtain ⟨e1, l1, X1⟩ := Y1.out
  obtain ⟨e2, l2, X2⟩ := Y2.out
  rw [← quot_mkRat z y hy]
  subst e1; subst e2
  exact r4make_any _ _ A1 A2 z.natAbs y.natAbs n1 c1 n2 c2 k w X1 X2 (by omega) (by omega) (by omega) hs
end Go.Proofs.YthhgogpglocjdaaGreat
namespace Go.Proofs.YthhgogpglocjdaaGreat
open Go.RowKit

set_option maxRecDepth 100000 in
set_option maxHeartbeats 4000000 in
theorem r4div_any (Va Vb : Value) (p q : Rat) (k l : Nat) (w : World) (ha : FracR w Va p k) (hb : FracR w Vb q l) (hk : 1 ≤ k ∧ 1 ≤ l) (hq0 : q ≠ 0) (hs : k < 268435456 ∧ l < 268435456) :
    Calls Tryz.prog 26 #[Va, Vb] w fun e w' => ∃ V, e = .returned (.tuple #[V, .int .i64 0]) ∧ FracC w' V (p / q) ∧ Grew w w' := by
  obtain ⟨b1, A1, n1, c1, C1, m1, d1, rfl, Fa⟩ := ha.laid
  obtain ⟨b2, A2, n2, c2, C2, m2, d2, rfl, Fb⟩ := hb.laid
  clear ha hb
  go_enter Tryz.func26, Tryz.ntmps26
  go_upto_region 1 with fail
  go_cut [6] (fun s6 wx => ∃ V1 b3 A3 n3 c3 C3 m3 d3 b4 A4 n4 c4 C4 m4 d4, s6 = V1 ∧ FracP wx (.agg #[.bool b3, .slice A3 n3 c3, .slice C3 m3 d3]) p k ∧ FracP wx (.agg #[.bool b4, .slice A4 n4 c4, .slice C4 m4 d4]) q l ∧ Grew w wx ∧ Box3 wx w.heap.size 0 (.bool b3) (.slice A3 n3 c3) (.slice C3 m3 d3) ∧ Box3 wx (w.heap.size + 1) 0 (.bool b4) (.slice A4 n4 c4) (.slice C4 m4 d4) ∧ Res3 wx (w.heap.size + 1 + 1) 0 (.bool false) (.slice none 0 0) (.slice none 0 0))
  refine gen_wp ?_
  intro W0 hW0
  have G0 : Grew w W0 := by rw [hW0]; exact (((Grew.refl w).alloc _).alloc _).alloc _
  have P : Box3 W0 (w.heap.size) 0 (.bool b1) (.slice A1 n1 c1) (.slice C1 m1 d1) := by rw [hW0]; exact ⟨by simp [go_sem], by simp [go_sem], by simp [go_sem]⟩
  replace P := Lib.hid P
  have Pr : Res3 W0 (w.heap.size) 0 (.bool b1) (.slice A1 n1 c1) (.slice C1 m1 d1) := by rw [hW0]; exact ⟨by simp [go_sem], by simp [go_sem], by simp [go_sem], by simp [go_sem], by simp [go_sem], by simp [go_sem], by simp <;> omega⟩
  replace Pr := Lib.hid Pr
  have Q : Box3 W0 (w.heap.size + 1) 0 (.bool b2) (.slice A2 n2 c2) (.slice C2 m2 d2) := by rw [hW0]; exact ⟨by simp [go_sem], by simp [go_sem], by simp [go_sem]⟩
  replace Q := Lib.hid Q
  have Qr : Res3 W0 (w.heap.size + 1) 0 (.bool b2) (.slice A2 n2 c2) (.slice C2 m2 d2) := by rw [hW0]; exact ⟨by simp [go_sem], by simp [go_sem], by simp [go_sem], by simp [go_sem], by simp [go_sem], by simp [go_sem], by simp <;> omega⟩
  replace Qr := Lib.hid Qr
  have R : Res3 W0 (w.heap.size + 1 + 1) 0 (.bool false) (.slice none 0 0) (.slice none 0 0) := by rw [hW0]; exact ⟨by simp [go_sem], by simp [go_sem], by simp [go_sem], by simp [go_sem], by simp [go_sem], by simp [go_sem], by simp⟩
  replace R := Lib.hid R
  have z0 : w.heap.size < W0.heap.size := by rw [hW0]; simp <;> omega
  replace z0 := Lib.hid z0
  have z1 : w.heap.size + 1 < W0.heap.size := by rw [hW0]; simp <;> omega
  replace z1 := Lib.hid z1
  have z2 : w.heap.size + 1 + 1 < W0.heap.size := by rw [hW0]; simp <;> omega
  replace z2 := Lib.hid z2
  clear hW0
  replace Fa := Lib.hid (Fa.out.kept G0.keeps)
  replace Fb := Lib.hid (Fb.out.kept G0.keeps)
  replace G0 := Lib.hid G0
  · skip
    have hk1 := Lib.hid hk
    have hs1 := Lib.hid (show k < 274877906944 ∧ l < 274877906944 by omega)
    have gd : Grew W0 W0.drew := (Grew.refl W0).drew
    replace R := Lib.hid (R.out.grew gd)
    replace Pr := Lib.hid (Pr.out.grew gd)
    replace Qr := Lib.hid (Qr.out.grew gd)
    replace P := Lib.hid (P.out.grew gd)
    replace Q := Lib.hid (Q.out.grew gd)
    replace z0 := Lib.hid (lt_grew z0.out gd)
    replace z1 := Lib.hid (lt_grew z1.out gd)
    replace z2 := Lib.hid (lt_grew z2.out gd)
    replace Fa := Lib.hid (Fa.out.kept gd.keeps)
    replace Fb := Lib.hid (Fb.out.kept gd.keeps)
    obtain ⟨P0, P1, P2⟩ := P.out
    obtain ⟨Q0, Q1, Q2⟩ := Q.out
    go_region_law (first | ((try go_simp); go_at_call 53; with_reducible refine (rworth_any _ p k _ Fa.out hk1.out.1 hs1.out.1).mono ?_; rintro e w1 ⟨V1, he1, hV1, g1⟩; obtain ⟨b3, A3, n3, c3, C3, m3, d3, hE1, X1⟩ := hV1.laid; rw [he1, hE1]; clear hV1 he1 hE1; replace R := Lib.hid (R.out.grew g1); replace Pr := Lib.hid (Pr.out.grew g1); replace Qr := Lib.hid (Qr.out.grew g1); replace P := Lib.hid (P.out.grew g1); replace Q := Lib.hid (Q.out.grew g1); replace z0 := Lib.hid (lt_grew z0.out g1); replace z1 := Lib.hid (lt_grew z1.out g1); replace z2 := Lib.hid (lt_grew z2.out g1); replace Fa := Lib.hid (Fa.out.kept g1.keeps); replace Fb := Lib.hid (Fb.out.kept g1.keeps); have P0 := P.out.p0; have P1 := P.out.p1; have P2 := P.out.p2; have Q0 := Q.out.p0; have Q1 := Q.out.p1; have Q2 := Q.out.p2) | (go_loud ((try go_simp); go_at_call 53; with_reducible refine (rworth_any _ q l _ Fb.out hk1.out.2 hs1.out.2).mono ?_; rintro e w2 ⟨V2, he2, hV2, g2⟩; obtain ⟨b4, A4, n4, c4, C4, m4, d4, hE2, X2⟩ := hV2.laid; rw [he2, hE2]; clear hV2 he2 hE2; replace R := Lib.hid (R.out.grew g2); replace Pr := Lib.hid (Pr.out.grew g2); replace Qr := Lib.hid (Qr.out.grew g2); replace P := Lib.hid (P.out.grew g2); replace Q := Lib.hid (Q.out.grew g2); replace z0 := Lib.hid (lt_grew z0.out g2); replace z1 := Lib.hid (lt_grew z1.out g2); replace z2 := Lib.hid (lt_grew z2.out g2); replace Fa := Lib.hid (Fa.out.kept g2.keeps); replace Fb := Lib.hid (Fb.out.kept g2.keeps); replace X1 := Lib.hid (X1.out.kept g2.keeps); have P0 := P.out.p0; have P1 := P.out.p1; have P2 := P.out.p2; have Q0 := Q.out.p0; have Q1 := Q.out.p1; have Q2 := Q.out.p2; have Prf0 := Pr.out.f0; have Prf1 := Pr.out.f1; have Prf2 := Pr.out.f2; have Qrf0 := Qr.out.f0; have Qrf1 := Qr.out.f1; have Qrf2 := Qr.out.f2)))
    all_goals
      have GC := Lib.hid (((G0.out.trans gd).trans g1).trans g2)
      clear G0 gd g1 g2
      refine gen_then ?_
      intro W9 hW9
      obtain ⟨BP, BQ, K9, F9, GG, sz⟩ := store33 Pr.out Qr.out (by omega) hW9
      have hR9 : Res3 W9 (w.heap.size + 1 + 1) 0 (.bool false) (.slice none 0 0) (.slice none 0 0) := by
        obtain ⟨r0, r1, r2, f0, f1, f2, s⟩ := R.out
        exact ⟨(F9 _ _ (by omega) (by omega)).trans r0, (F9 _ _ (by omega) (by omega)).trans r1, (F9 _ _ (by omega) (by omega)).trans r2, by rw [hW9]; simpa using f0, by rw [hW9]; simpa using f1, by rw [hW9]; simpa using f2, by rw [sz]; exact s⟩
      have G9 := GG w (by omega) (by omega) GC.out
      clear hW9 F9 GG sz
      go_wp2_with fail
      go_meet
      exact ⟨_, b3, A3, n3, c3, C3, m3, d3, b4, A4, n4, c4, C4, m4, d4, rfl, X1.out.kept K9, X2.out.kept K9, G9, BP, BQ, hR9⟩
  · obtain ⟨V1, b3, A3, n3, c3, C3, m3, d3, b4, A4, n4, c4, C4, m4, d4, rfl, X1, X2, G9, BP, BQ, hR9⟩ := hcut
    obtain ⟨N, D, E1, hD, Na, Da, hm⟩ := X1.parts
    obtain ⟨M, E, E2, hE, Nb, Eb, hm2⟩ := X2.parts
    have P := Lib.hid BP
    have Q := Lib.hid BQ
    have R := Lib.hid hR9
    have G0 := Lib.hid G9
    have lD := Nat.le_trans (Da.out.len_le (by omega)) hm
    have lE := Nat.le_trans (Eb.out.len_le (by omega)) hm2
    have hz1 := Lib.hid (show len 4294967296 (sgn b3 N * (E : Int)).natAbs ≤ k + l by
      rw [Int.natAbs_mul]; exact len_mul (B := 4294967296) (by omega) _ _ k l Na.out.len lE)
    have hz2 := Lib.hid (show len 4294967296 (sgn b4 M * (D : Int)).natAbs ≤ k + l by
      rw [Int.natAbs_mul, Nat.add_comm k l]; exact len_mul (B := 4294967296) (by omega) _ _ l k Nb.out.len lD)
    have hM0 : sgn b4 M ≠ 0 := fun e => hq0 (by rw [← E2.out, e, Rat.zero_mkRat])
    have hy0 : sgn b4 M * (D : Int) ≠ 0 := Int.mul_ne_zero hM0 (by omega)
    have E3 : ((sgn b3 N * (E : Int) : Int) : Rat) / ((sgn b4 M * (D : Int) : Int) : Rat) = p / q := by
      have e1 := mkRat_times (sgn b3 N) D hD
      have e2 := mkRat_times (sgn b4 M) E hE
      rw [E1.out] at e1
      rw [E2.out] at e2
      have d0 : ((D : Int) : Rat) ≠ 0 := fun e => hD (by have e9 : ((D : Int) : Rat) = ((0 : Int) : Rat) := e; have := Rat.intCast_inj.1 e9; omega)
      have d1 : ((E : Int) : Rat) ≠ 0 := fun e => hE (by have e9 : ((E : Int) : Rat) = ((0 : Int) : Rat) := e; have := Rat.intCast_inj.1 e9; omega)
      rw [Rat.intCast_mul, Rat.intCast_mul, ← e1, ← e2]
      generalize ((D : Int) : Rat) = x at *
      generalize ((E : Int) : Rat) = y at *
      clear e1 e2
      grind
    replace E3 := Lib.hid E3
    have hs8 := Lib.hid (show k + l < 1073741824 by omega)
    have hs2 := Lib.hid (show k < 34359738368 ∧ l < 34359738368 by omega)
    have hs5 := Lib.hid (show l < 34359738368 ∧ k < 34359738368 by omega)
    have hs6 := Lib.hid (show k + l < 68719476736 ∧ k + l < 68719476736 by omega)
    have hs3 := Lib.hid (show m3 < 137438953472 ∧ m4 < 137438953472 by omega)
    have hs4 := Lib.hid (show k + l + 1 < 4294967296 by omega)
    clear lD lE
    have y9 := Lib.hid (show w.heap.size + 1 + 1 < wc.heap.size from hR9.2.2.2.2.2.2)
    clear X1 X2 BP BQ hR9 G9
    skip
    go_upto_region 2 with fail
    have gd : Grew wc wc.drew := (Grew.refl wc).drew
    replace R := Lib.hid (R.out.grew gd)
    replace P := Lib.hid (P.out.grew gd)
    replace Q := Lib.hid (Q.out.grew gd)
    replace Na := Lib.hid (Na.out.kept gd.keeps)
    replace Nb := Lib.hid (Nb.out.kept gd.keeps)
    replace Da := Lib.hid (Da.out.kept gd.keeps)
    replace Eb := Lib.hid (Eb.out.kept gd.keeps)
    replace gd := Lib.hid gd
    have ZP := P
    have ZQ := Q
    go_region_held3 (fun w' => w'.cell? ⟨w.heap.size, 0, none⟩ = some (.bool b3) ∧ w'.cell? ⟨w.heap.size, 1, none⟩ = some (.slice A3 n3 c3) ∧ w'.cell? ⟨w.heap.size, 2, none⟩ = some (.slice C3 m3 d3) ∧ w'.cell? ⟨w.heap.size + 1, 0, none⟩ = some (.bool b4) ∧ w'.cell? ⟨w.heap.size + 1, 1, none⟩ = some (.slice A4 n4 c4) ∧ w'.cell? ⟨w.heap.size + 1, 2, none⟩ = some (.slice C4 m4 d4))
      (first | (with_reducible exact ⟨ZP.out.p0, ZP.out.p1, ZP.out.p2, ZQ.out.p0, ZQ.out.p1, ZQ.out.p2⟩) | (with_reducible exact ⟨g3.cell ZP.out.p0, g3.cell ZP.out.p1, g3.cell ZP.out.p2, g3.cell ZQ.out.p0, g3.cell ZQ.out.p1, g3.cell ZQ.out.p2⟩) | (with_reducible exact ⟨(g3.trans g4).cell ZP.out.p0, (g3.trans g4).cell ZP.out.p1, (g3.trans g4).cell ZP.out.p2, (g3.trans g4).cell ZQ.out.p0, (g3.trans g4).cell ZQ.out.p1, (g3.trans g4).cell ZQ.out.p2⟩) | (with_reducible exact ⟨((g3.trans g4).trans g5).cell ZP.out.p0, ((g3.trans g4).trans g5).cell ZP.out.p1, ((g3.trans g4).trans g5).cell ZP.out.p2, ((g3.trans g4).trans g5).cell ZQ.out.p0, ((g3.trans g4).trans g5).cell ZQ.out.p1, ((g3.trans g4).trans g5).cell ZQ.out.p2⟩) | (with_reducible exact ⟨(((g3.trans g4).trans g5).trans g6).cell ZP.out.p0, (((g3.trans g4).trans g5).trans g6).cell ZP.out.p1, (((g3.trans g4).trans g5).trans g6).cell ZP.out.p2, (((g3.trans g4).trans g5).trans g6).cell ZQ.out.p0, (((g3.trans g4).trans g5).trans g6).cell ZQ.out.p1, (((g3.trans g4).trans g5).trans g6).cell ZQ.out.p2⟩) | (with_reducible exact ⟨((((g3.trans g4).trans g5).trans g6).trans g7).cell ZP.out.p0, ((((g3.trans g4).trans g5).trans g6).trans g7).cell ZP.out.p1, ((((g3.trans g4).trans g5).trans g6).trans g7).cell ZP.out.p2, ((((g3.trans g4).trans g5).trans g6).trans g7).cell ZQ.out.p0, ((((g3.trans g4).trans g5).trans g6).trans g7).cell ZQ.out.p1, ((((g3.trans g4).trans g5).trans g6).trans g7).cell ZQ.out.p2⟩) | (with_reducible exact ⟨other3 (o := 0) (by omega) (((((g3.trans g4).trans g5).trans g6).trans g7).cell ZP.out.p0), other3 (o := 0) (by omega) (((((g3.trans g4).trans g5).trans g6).trans g7).cell ZP.out.p1), other3 (o := 0) (by omega) (((((g3.trans g4).trans g5).trans g6).trans g7).cell ZP.out.p2), other3 (o := 0) (by omega) (((((g3.trans g4).trans g5).trans g6).trans g7).cell ZQ.out.p0), other3 (o := 0) (by omega) (((((g3.trans g4).trans g5).trans g6).trans g7).cell ZQ.out.p1), other3 (o := 0) (by omega) (((((g3.trans g4).trans g5).trans g6).trans g7).cell ZQ.out.p2)⟩))
      (first | (have chk := g6; clear chk; go_at_call 57; refine (r4makez_any _ _ (sgn b3 N * (E : Int)) (sgn b4 M * (D : Int)) (k + l) _ X3.out X4.out hy0 hz1.out hz2.out hs8.out).mono ?_; rintro e w7 ⟨V5, rfl, hV5, g7⟩; rw [E3.out] at hV5; obtain ⟨b7, A7, n7, c7, C7, m7, d7, rfl, X5⟩ := hV5.laid; clear hV5; replace R := Lib.hid (R.out.grew g7); replace P := Lib.hid (P.out.grew g7); replace Q := Lib.hid (Q.out.grew g7); replace Na := Lib.hid (Na.out.kept g7.keeps); replace Nb := Lib.hid (Nb.out.kept g7.keeps); replace Da := Lib.hid (Da.out.kept g7.keeps); replace Eb := Lib.hid (Eb.out.kept g7.keeps); replace X3 := Lib.hid (X3.out.kept g7.keeps); replace X4 := Lib.hid (X4.out.kept g7.keeps); obtain ⟨R0, R1, R2, Rf0, Rf1, Rf2, Rs⟩ := R.out) | (have chk := g5; clear chk; go_at_call 55; refine (r2mul_any _ _ _ _ l k _ Nb.out (WhlR.up Da.out hm) hs5.out).mono ?_; rintro e w6 ⟨V4, rfl, hV4, g6⟩; obtain ⟨b8, A8, n8, c8, rfl, X4, -⟩ := hV4.laid; clear hV4; replace R := Lib.hid (R.out.grew g6); replace P := Lib.hid (P.out.grew g6); replace Q := Lib.hid (Q.out.grew g6); replace Na := Lib.hid (Na.out.kept g6.keeps); replace Nb := Lib.hid (Nb.out.kept g6.keeps); replace Da := Lib.hid (Da.out.kept g6.keeps); replace Eb := Lib.hid (Eb.out.kept g6.keeps); replace X3 := Lib.hid (X3.out.kept g6.keeps)) | (have chk := g4; clear chk; go_at_call 56; refine (rup_any b3 A3 C3 n3 c3 m3 d3 D _ Da.out).mono ?_; rintro e w5 ⟨rfl, g5⟩; replace R := Lib.hid (R.out.grew g5); replace P := Lib.hid (P.out.grew g5); replace Q := Lib.hid (Q.out.grew g5); replace Na := Lib.hid (Na.out.kept g5.keeps); replace Nb := Lib.hid (Nb.out.kept g5.keeps); replace Da := Lib.hid (Da.out.kept g5.keeps); replace Eb := Lib.hid (Eb.out.kept g5.keeps); replace X3 := Lib.hid (X3.out.kept g5.keeps)) | (have chk := g3; clear chk; go_at_call 55; refine (r2mul_any _ _ _ _ k l _ Na.out (WhlR.up Eb.out hm2) hs2.out).mono ?_; rintro e w4 ⟨V3, rfl, hV3, g4⟩; obtain ⟨b5, A5, n5, c5, rfl, X3, -⟩ := hV3.laid; clear hV3; replace R := Lib.hid (R.out.grew g4); replace P := Lib.hid (P.out.grew g4); replace Q := Lib.hid (Q.out.grew g4); replace Na := Lib.hid (Na.out.kept g4.keeps); replace Nb := Lib.hid (Nb.out.kept g4.keeps); replace Da := Lib.hid (Da.out.kept g4.keeps); replace Eb := Lib.hid (Eb.out.kept g4.keeps)) | (go_at_call 56; refine (rup_any b4 A4 C4 n4 c4 m4 d4 E _ Eb.out).mono ?_; rintro e w3 ⟨rfl, g3⟩; replace R := Lib.hid (R.out.grew g3); replace P := Lib.hid (P.out.grew g3); replace Q := Lib.hid (Q.out.grew g3); replace Na := Lib.hid (Na.out.kept g3.keeps); replace Nb := Lib.hid (Nb.out.kept g3.keeps); replace Da := Lib.hid (Da.out.kept g3.keeps); replace Eb := Lib.hid (Eb.out.kept g3.keeps)))
    replace G0 := Lib.hid ((((((G0.out.trans gd.out).trans g3).trans g4).trans g5).trans g6).trans g7)
    clear gd g3 g4 g5 g6 g7 ZP ZQ
    refine gen_then ?_
    intro W9 hW9
    obtain ⟨q0, q1, q2, qK, -, -, qs, qG⟩ := store3 (o := 0) R0 R1 R2 hW9
    have GE := qG w (.inr (by omega)) G0.out
    have QK := Lib.hid qK
    clear qK qG hW9 R0 R1 R2
    go_wp2_with fail
    exact bodyPost_ret (v := .tuple #[.agg #[.bool b7, .slice A7 n7 c7, .slice C7 m7 d7], .int .i64 0]) (by simp [results, Tryz.results26, go_sem, q0, q1, q2]) rfl ⟨_, rfl, X5.out.kept QK.out, GE⟩
end Go.Proofs.YthhgogpglocjdaaGreat
namespace Go.Proofs.YthhgogpglocjdaaGreat
open Go.RowKit

section
variable {P : Program} {md : Region.Mode} {ops : Array Oper} {Q : Exit → Act → World → Prop}

theorem ready_mem {l : Array Bool} {i : Nat} (h : i ∈ Region.ready md ops l) : i < ops.size ∧ l.getD i true = false := by
  unfold Region.ready at h
  simp only [List.mem_filter, List.mem_range, Bool.and_eq_true, Bool.not_eq_true'] at h
  exact ⟨h.1, h.2.1⟩
theorem ready_nil {l : Array Bool} (hl : l.toList.count false = 0) : Region.ready md ops l = [] := by
  refine List.eq_nil_iff_forall_not_mem.2 fun i hi => ?_
  have h := (ready_mem hi).2
  rw [Array.getD_eq_getD_getElem?] at h
  cases hx : l[i]? with
  | none => rw [hx] at h; simp at h
  | some x =>
    rw [hx] at h
    simp only [Option.getD_some] at h
    subst h
    have : false ∈ l.toList := by simpa using Array.mem_of_getElem? hx
    exact absurd this (List.count_eq_zero.1 hl)

/-- An invariant of what is listed, the act and the world: shown behind each operation that may come up, it serves every order. -/
theorem wpAny_inv (I : Array Bool → Act → World → Prop) (h0 : ∀ l a w, I l a w → Region.ready md ops l = [] → Q .normal a w)
    (h1 : ∀ l a w i, I l a w → i ∈ Region.ready md ops l → wpOp P ops Q i (fun a' w' => I (l.setIfInBounds i true) a' w') a w) :
    ∀ (fuel : Nat) (l : Array Bool) (a : Act) (w : World), l.toList.count false ≤ fuel → I l a w → wpAny P md ops Q fuel l a w
  | 0, l, a, w, hf, hI => ⟨ready_nil (by omega), h0 l a w hI (ready_nil (by omega))⟩
  | fuel + 1, l, a, w, hf, hI => by
    refine ⟨h0 l a w hI, fun i hi => ?_⟩
    refine wpOp_mono (fun a' w' h => wpAny_inv I h0 h1 fuel _ a' w' ?_ h) (h1 l a w i hI hi)
    have hg := (ready_mem hi).2
    rw [Array.getD_eq_getD_getElem?] at hg
    cases hx : l[i]? with
    | none => rw [hx] at hg; simp at hg
    | some x =>
      rw [hx] at hg
      simp only [Option.getD_some] at hg
      subst hg
      obtain ⟨hlt, he⟩ := Array.getElem?_eq_some_iff.1 hx
      rw [Array.toList_setIfInBounds, List.count_set (by simpa using hlt)]
      have he2 : l.toList[i]'(by simpa using hlt) = false := by simpa using he
      have hpos : 0 < l.toList.count false := List.count_pos_iff.2 (by simpa using Array.mem_of_getElem? hx)
      rw [he2, if_pos (by rfl), if_neg (by decide)]
      exact Nat.le_trans (Nat.le_of_eq (Nat.add_zero _)) (Nat.le_trans (Nat.sub_le_sub_right hf 1) (by omega))

/-- The whole region. -/
theorem wp_region_inv {id : Nat} {a : Act} {w : World} (hm : P.follows .mixedOrders = true) (I : Array Bool → Act → World → Prop)
    (h0 : ∀ l a w, I l a w → Region.ready .any ops l = [] → Q .normal a w)
    (h1 : ∀ l a w i, I l a w → i ∈ Region.ready .any ops l → wpOp P ops Q i (fun a' w' => I (l.setIfInBounds i true) a' w') a w)
    (hI : I (Array.replicate ops.size false) a w.drew) : (Code.region id ops true).wp P Q a w :=
  wp_region_any hm (wpAny_inv I h0 h1 ops.size _ a _ (by rw [Array.toList_replicate]; exact Nat.le_trans List.count_le_length (by simp)) hI)
/-- The same, the act as it stands handed to the invariant. -/
theorem wp_region_inv2 {id : Nat} {a : Act} {w : World} (hm : P.follows .mixedOrders = true) (I : Act → Array Bool → Act → World → Prop)
    (h0 : ∀ l a' w, I a l a' w → Region.ready .any ops l = [] → Q .normal a' w)
    (h1 : ∀ l a' w i, I a l a' w → i ∈ Region.ready .any ops l → wpOp P ops Q i (fun a' w' => I a (l.setIfInBounds i true) a' w') a' w)
    (hI : I a (Array.replicate ops.size false) a w.drew) : (Code.region id ops true).wp P Q a w := wp_region_inv hm (I a) h0 h1 hI

/-- Every operation waits for earlier ones alone. -/
def Region.inRow (md : Region.Mode) (ops : Array Oper) : Bool := (List.range ops.size).all fun i => ((ops[i]?).map (·.after.all fun e => !Region.binds md e || decide (e.on < i))).getD true
theorem all_listed (hw : Region.inRow md ops = true) {l : Array Bool} (h : Region.ready md ops l = []) : ∀ i, i < ops.size → l.getD i true = true := by
  intro i
  induction i using Nat.strongRecOn with
  | _ i ih =>
    intro hi
    refine Decidable.byContradiction fun hne => ?_
    have hf : l.getD i true = false := by simpa using hne
    have hmem : i ∈ Region.ready md ops l := by
      refine mem_ready.2 ⟨hf, ops[i], Array.getElem?_eq_getElem hi, fun e he hb => ?_⟩
      have h1 := List.all_eq_true.1 hw i (List.mem_range.2 hi)
      rw [Array.getElem?_eq_getElem hi] at h1
      simp only [Option.map_some, Option.getD_some, Array.all_eq_true_iff_forall_mem, Bool.or_eq_true, Bool.not_eq_true', decide_eq_true_eq] at h1
      have h2 := (h1 e he).resolve_left (by rw [hb]; simp)
      have h3 := ih e.on h2 (by omega)
      by_cases hs : e.on < l.size
      · simpa [Array.getD_eq_getD_getElem?, hs] using h3
      · exfalso
        have hs2 : ¬ i < l.size := by omega
        simp [Array.getD_eq_getD_getElem?, hs2] at hf
    rw [h] at hmem
    cases hmem
/-- What comes up has what it waits for behind it. -/
theorem ready_pre {l : Array Bool} {i : Nat} (h : i ∈ Region.ready md ops l) (j : Nat) (hj : ((ops[i]?).map (·.after.any fun e => Region.binds md e && e.on == j)).getD false = true) : l.getD j false = true := by
  obtain ⟨-, o, ho, hall⟩ := mem_ready.1 h
  rw [ho] at hj
  simp only [Option.map_some, Option.getD_some, Array.any_eq_true] at hj
  obtain ⟨k, hk, h2⟩ := hj
  simp only [Bool.and_eq_true, beq_iff_eq] at h2
  rw [← h2.2]
  exact hall _ (Array.getElem_mem hk) h2.1
/-- One operation without a guard, what follows as a letter. -/
theorem wpOp_inv {I : Act → World → Prop} {i : Nat} {o : Oper} {a : Act} {w : World} (ho : ops[i]? = some o) (hg : o.guard = none) (h : ∀ K : Act → World → Prop, Hid (∀ a w, I a w → K a w) → o.wp P a w K Q) : wpOp P ops Q i I a w := by
  unfold wpOp
  simp only [ho]
  have hw : Region.wanted o (yielded ops a.tmps) = true := by unfold Region.wanted; rw [hg]
  rw [hw]
  exact .inl (h _ (Lib.hid fun _ _ h => h))

/-- The same, the act at the beginning as a letter. -/
theorem wp_region_inv3 {id : Nat} {a : Act} {w : World} (hm : P.follows .mixedOrders = true) (I : Act → Array Bool → Act → World → Prop)
    (h0 : ∀ a0, Hid (a0 = a) → ∀ l a' w, I a0 l a' w → Region.ready .any ops l = [] → Q .normal a' w)
    (h1 : ∀ a0, Hid (a0 = a) → ∀ l a' w i, I a0 l a' w → i ∈ Region.ready .any ops l → wpOp P ops Q i (fun a' w' => I a0 (l.setIfInBounds i true) a' w') a' w)
    (hI : ∀ a0, Hid (a0 = a) → I a0 (Array.replicate ops.size false) a0 w.drew) : (Code.region id ops true).wp P Q a w :=
  wp_region_inv hm (I a) (h0 a (Lib.hid rfl)) (h1 a (Lib.hid rfl)) (hI a (Lib.hid rfl))
end

/-- What a slot holds. -/
def Slot (a : Act) (d : Nat) (v : Value) : Prop := a.tmps[d]? = some v
theorem Slot.eval {a : Act} {d : Nat} {v : Value} (h : Slot a d v) : a.eval (.tmp d) = v := by
  unfold Slot at h
  show a.tmps.getD d undef = v
  rw [Array.getD_eq_getD_getElem?, h]; rfl
theorem Slot.lt {a : Act} {d : Nat} {v : Value} (h : Slot a d v) : d < a.tmps.size := (Array.getElem?_eq_some_iff.1 h).1
theorem Slot.put {a : Act} {d e : Nat} {v u : Value} (h : Slot a d v) (ne : e ≠ d) : Slot (a.put (some e) u) d v := by
  show (a.tmps.setIfInBounds e u)[d]? = some v
  rw [Array.getElem?_setIfInBounds_ne ne]; exact h
theorem Slot.new {a : Act} {d : Nat} {v : Value} (h : d < a.tmps.size) : Slot (a.put (some d) v) d v := by
  show (a.tmps.setIfInBounds d v)[d]? = some v
  rw [Array.getElem?_setIfInBounds_self_of_lt h]
/-- An act that differs from another in these slots alone. -/
def Alike (a0 a : Act) (D : List Nat) : Prop := a.tmps.size = a0.tmps.size ∧ (∀ t, t ∉ D → a.tmps[t]? = a0.tmps[t]?) ∧ a.defers = a0.defers
theorem Alike.refl (a : Act) (D : List Nat) : Alike a a D := ⟨rfl, fun _ _ => rfl, rfl⟩
theorem Alike.put {a0 a : Act} {D : List Nat} (h : Alike a0 a D) {d : Nat} (hd : d ∈ D) (v : Value) : Alike a0 (a.put (some d) v) D := by
  obtain ⟨h1, h2, h3⟩ := h
  refine ⟨by show (a.tmps.setIfInBounds d v).size = _; rw [Array.size_setIfInBounds]; exact h1, fun t ht => ?_, h3⟩
  show (a.tmps.setIfInBounds d v)[t]? = _
  rw [Array.getElem?_setIfInBounds_ne (show d ≠ t from fun e => ht (by rw [← e]; exact hd))]
  exact h2 t ht
theorem Alike.slot {a0 a : Act} {D : List Nat} (h : Alike a0 a D) {t : Nat} {v : Value} (hs : Slot a0 t v) (ht : t ∉ D) : Slot a t v := (h.2.1 t ht).trans hs
theorem Alike.lt {a0 a : Act} {D : List Nat} (h : Alike a0 a D) {d : Nat} (hd : d < a0.tmps.size) : d < a.tmps.size := by rw [h.1]; exact hd
theorem Alike.eq {a : Act} : ∀ (L : List (Nat × Value)) (a0 : Act), Alike a0 a (L.map Prod.fst) → (∀ p ∈ L, Slot a p.1 p.2) → a = L.foldl (fun x p => x.put (some p.1) p.2) a0
  | [], a0, h, _ => by
    obtain ⟨h1, h2, h3⟩ := h
    obtain ⟨t, d⟩ := a
    obtain ⟨t0, d0⟩ := a0
    have ht : t = t0 := Array.ext_getElem? fun i => h2 i (by simp)
    simp only at h3
    rw [List.foldl_nil, ht, h3]
  | (d, v) :: L, a0, h, hs => by
    refine Alike.eq L (a0.put (some d) v) ?_ (fun p hp => hs p (List.mem_cons_of_mem _ hp))
    obtain ⟨h1, h2, h3⟩ := h
    have hd := hs (d, v) List.mem_cons_self
    refine ⟨by show _ = (a0.tmps.setIfInBounds d v).size; rw [Array.size_setIfInBounds]; exact h1, fun t ht => ?_, h3⟩
    show _ = (a0.tmps.setIfInBounds d v)[t]?
    by_cases e : t = d
    · subst e
      rw [Array.getElem?_setIfInBounds_self_of_lt (by rw [← h1]; exact hd.lt)]
      exact hd
    · rw [Array.getElem?_setIfInBounds_ne (fun k => e k.symm)]
      exact h2 t (by simp only [List.map_cons, List.mem_cons]; rintro (h | h); exact e h; exact ht h)
end Go.Proofs.YthhgogpglocjdaaGreat
