/- Plain: signs of fractions. Conditions: none. Plain: points of the grid that are near; the sides of a way of the grid, over lower parts. Conditions: none. spot.small, spot.over, spot.Turns, at any points. Condition: what comes in reads. Locals of two cells. Conditions: none. -/
import Derived.Test.YtpglnfccmhkocaaGreatJRefDiv
import Derived.Test.YtpglnfccmhkocaaGreatJSpot4
import Derived.Test.YtpglnfccmhkocaaGreatJR2a
namespace Go.Proofs.YtpglnfccmhkocaaGreat
open Go.RowKit

theorem sgQ_int (z : Int) : sgQ (z : Rat) = sg z := by
  have h := sgQ_mkRat z 1 (by omega)
  rwa [show mkRat z 1 = (z : Rat) from (Rat.mkRat_one z)] at h
theorem sgQ_scale {a s : Rat} (h : 0 < s) : sgQ (a * s) = sgQ a := by
  unfold sgQ
  have h1 : a * s < 0 ↔ a < 0 := by
    constructor
    · intro e
      refine Rat.not_le.1 fun g => ?_
      have := Rat.mul_nonneg g (Rat.le_of_lt h)
      grind
    · intro e
      have := Rat.mul_pos (show 0 < -a by grind) h
      grind
  have h2 : 0 < a * s ↔ 0 < a := by
    constructor
    · intro e
      refine Rat.not_le.1 fun g => ?_
      have := Rat.mul_nonneg (show 0 ≤ -a by grind) (Rat.le_of_lt h)
      grind
    · intro e
      exact Rat.mul_pos e h
  by_cases g : a < 0
  · rw [if_pos g, if_pos (h1.2 g)]
  · rw [if_neg g, if_neg (fun e => g (h1.1 e))]
    by_cases g' : 0 < a
    · rw [if_pos g', if_pos (h2.2 g')]
    · rw [if_neg g', if_neg (fun e => g' (h2.1 e))]
theorem mkRat_times (n : Int) (d : Nat) (h : d ≠ 0) : mkRat n d * ((d : Int) : Rat) = (n : Rat) := by
  rw [Rat.mkRat_eq_div]
  exact Rat.div_mul_cancel (fun e => h (by have e2 : ((d : Int) : Rat) = ((0 : Int) : Rat) := e; have := Rat.intCast_inj.1 e2; omega))

/-- The greatest whole number that isn't above. -/
theorem floor_mkRat (z : Int) (D : Nat) (h : D ≠ 0) : (mkRat z D).floor = z / (D : Int) := by
  have hp : (0 : Int) < (D : Int) := by omega
  have key : ∀ x : Int, x ≤ (mkRat z D).floor ↔ x ≤ z / (D : Int) := by
    intro x
    rw [Rat.le_floor_iff, Int.le_ediv_iff_mul_le hp]
    have e1 := mkRat_times z D h
    have p1 : (0 : Rat) < ((D : Int) : Rat) := by have : (((0 : Int)) : Rat) < ((D : Int) : Rat) := Rat.intCast_lt_intCast.2 hp; exact this
    have e2 : (mkRat z D - (x : Rat)) * ((D : Int) : Rat) = ((z - x * (D : Int) : Int) : Rat) := by
      rw [Rat.intCast_sub, Rat.intCast_mul, ← e1]; grind
    have e3 := sgQ_scale (a := mkRat z D - (x : Rat)) p1
    rw [e2, sgQ_int] at e3
    have e4 : (x : Rat) ≤ mkRat z D ↔ ¬ mkRat z D - (x : Rat) < 0 := by grind
    rw [e4]
    unfold sgQ sg at e3
    constructor
    · intro g
      rw [if_neg g] at e3
      repeat' split at e3
      all_goals omega
    · intro g g'
      rw [if_pos g'] at e3
      repeat' split at e3
      all_goals omega
  exact Int.le_antisymm ((key _).1 (Int.le_refl _)) ((key _).2 (Int.le_refl _))
end Go.Proofs.YtpglnfccmhkocaaGreat
namespace Go.Proofs.YtpglnfccmhkocaaGreat
open Go.RowKit

/-- Near enough for products of ints. -/
def nearB (x y : Int) : Bool := decide (-1073741824 ≤ x) && decide (x ≤ 1073741824) && decide (-1073741824 ≤ y) && decide (y ≤ 1073741824)
theorem nearB_iff (x y : Int) : nearB x y = true ↔ -1073741824 ≤ x ∧ x ≤ 1073741824 ∧ -1073741824 ≤ y ∧ y ≤ 1073741824 := by
  unfold nearB; simp only [Bool.and_eq_true, decide_eq_true_eq]; omega

theorem abs_le {u : Int} (h : -2147483648 ≤ u ∧ u ≤ 2147483648) : u.natAbs ≤ 2147483648 := by omega
theorem prod_fit {u v : Int} (hu : -2147483648 ≤ u ∧ u ≤ 2147483648) (hv : -2147483648 ≤ v ∧ v ≤ 2147483648) : -4611686018427387904 ≤ u * v ∧ u * v ≤ 4611686018427387904 := by
  have h : (u * v).natAbs ≤ 2147483648 * 2147483648 := by
    rw [Int.natAbs_mul]; exact Nat.mul_le_mul (abs_le hu) (abs_le hv)
  omega
theorem prod_top {u v : Int} (hu : -2147483648 ≤ u ∧ u ≤ 2147483648) (hv : -2147483648 ≤ v ∧ v ≤ 2147483648) (h : (u * v).natAbs = 4611686018427387904) : u.natAbs = 2147483648 ∧ v.natAbs = 2147483648 := by
  rw [Int.natAbs_mul] at h
  have h1 := abs_le hu
  have h2 := abs_le hv
  constructor
  · apply Nat.le_antisymm h1
    refine Nat.le_of_not_lt fun h3 => ?_
    have := Nat.mul_le_mul (show u.natAbs ≤ 2147483647 by omega) h2
    omega
  · apply Nat.le_antisymm h2
    refine Nat.le_of_not_lt fun h3 => ?_
    have := Nat.mul_le_mul h1 (show v.natAbs ≤ 2147483647 by omega)
    omega
theorem det_fit {u1 u2 v1 v2 : Int} (h1 : -2147483648 ≤ u1 ∧ u1 ≤ 2147483648) (h2 : -2147483648 ≤ u2 ∧ u2 ≤ 2147483648) (h3 : -2147483648 ≤ v1 ∧ v1 ≤ 2147483648) (h4 : -2147483648 ≤ v2 ∧ v2 ≤ 2147483648)
    (h5 : -2147483648 ≤ u1 - u2 ∧ u1 - u2 ≤ 2147483648) (h6 : -2147483648 ≤ v1 - v2 ∧ v1 - v2 ≤ 2147483648) : -9223372036854775808 ≤ u1 * v2 - v1 * u2 ∧ u1 * v2 - v1 * u2 ≤ 9223372036854775807 := by
  have p1 := prod_fit h1 h4
  have p2 := prod_fit h3 h2
  refine ⟨by omega, Int.le_of_not_gt fun h => ?_⟩
  have e1 : u1 * v2 = 4611686018427387904 := by omega
  have e2 : v1 * u2 = -4611686018427387904 := by omega
  have t1 := prod_top h1 h4 (by omega)
  have t2 := prod_top h3 h2 (by omega)
  rcases (show u1 = 2147483648 ∨ u1 = -2147483648 by omega) with rfl | rfl <;> rcases (show u2 = 2147483648 ∨ u2 = -2147483648 by omega) with rfl | rfl <;> omega

/-- The grid's own reckoning of sides. -/
theorem turnQ_int (ax ay bx b_y cx cy : Int) : turnQ (ax : Rat) (ay : Rat) (bx : Rat) (b_y : Rat) (cx : Rat) (cy : Rat) = sg ((bx - ax) * (cy - ay) - (b_y - ay) * (cx - ax)) := by
  rw [turnQ_eq, ← sgQ_int]
  congr 1
  simp only [Rat.intCast_sub, Rat.intCast_mul]
/-- Over the lower parts. -/
theorem turnQ_over (ax ay bx b_y xn yn : Int) (xd yd : Nat) (hx : xd ≠ 0) (hy : yd ≠ 0) :
    cmpZ ((bx - ax) * (yn - ay * yd) * xd) ((b_y - ay) * (xn - ax * xd) * yd) = turnQ (ax : Rat) (ay : Rat) (bx : Rat) (b_y : Rat) (mkRat xn xd) (mkRat yn yd) := by
  have e1 := mkRat_times xn xd hx
  have e2 := mkRat_times yn yd hy
  have p1 : (0 : Rat) < ((xd : Int) : Rat) := by have : (((0 : Int)) : Rat) < ((xd : Int) : Rat) := Rat.intCast_lt_intCast.2 (by omega); exact this
  have p2 : (0 : Rat) < ((yd : Int) : Rat) := by have : (((0 : Int)) : Rat) < ((yd : Int) : Rat) := Rat.intCast_lt_intCast.2 (by omega); exact this
  have p3 := Rat.mul_pos p1 p2
  rw [turnQ_eq, cmpZ_sub, ← sgQ_int, ← sgQ_scale (a := _ - _) p3]
  congr 1
  simp only [Rat.intCast_sub, Rat.intCast_mul]
  rw [← e1, ← e2]
  generalize mkRat xn xd = X at *
  generalize mkRat yn yd = Y at *
  generalize ((xd : Int) : Rat) = s at *
  generalize ((yd : Int) : Rat) = r at *
  grind
end Go.Proofs.YtpglnfccmhkocaaGreat
namespace Go.Proofs.YtpglnfccmhkocaaGreat
open Go.RowKit

set_option maxRecDepth 100000 in
set_option maxHeartbeats 2000000 in
theorem near_any (x y : Int) (w : World) : Calls Tryz.prog 42 #[.agg #[.int .i64 x, .int .i64 y]] w fun e w' => e = .returned (.bool (nearB x y)) ∧ Grew w w' := by
  by_cases h1 : -1073741824 ≤ x
  · by_cases h2 : x ≤ 1073741824
    · by_cases h3 : -1073741824 ≤ y
      · by_cases h4 : y ≤ 1073741824
        · have e := Lib.hid ((nearB_iff x y).2 ⟨h1, h2, h3, h4⟩)
          go_enter Tryz.func42, Tryz.ntmps42
          go_wp2_with fail
          go_ret
          exact ⟨by rw [e.out]; rfl, (Grew.refl w).alloc _⟩
        · have e := Lib.hid (show nearB x y = false by unfold nearB; simp [h4])
          go_enter Tryz.func42, Tryz.ntmps42
          go_wp2_with fail
          go_ret
          exact ⟨by rw [e.out]; rfl, (Grew.refl w).alloc _⟩
      · have e := Lib.hid (show nearB x y = false by unfold nearB; simp [h3])
        go_enter Tryz.func42, Tryz.ntmps42
        go_wp2_with fail
        go_ret
        exact ⟨by rw [e.out]; rfl, (Grew.refl w).alloc _⟩
    · have e := Lib.hid (show nearB x y = false by unfold nearB; simp [h2])
      go_enter Tryz.func42, Tryz.ntmps42
      go_wp2_with fail
      go_ret
      exact ⟨by rw [e.out]; rfl, (Grew.refl w).alloc _⟩
  · have e := Lib.hid (show nearB x y = false by unfold nearB; simp [h1])
    go_enter Tryz.func42, Tryz.ntmps42
    go_wp2_with fail
    go_ret
    exact ⟨by rw [e.out]; rfl, (Grew.refl w).alloc _⟩

set_option maxRecDepth 100000 in
set_option maxHeartbeats 4000000 in
theorem over_any (b1 : Bool) (A1 C1 : Option Addr) (N D : Nat) (n1 c1 m1 d1 k : Nat) (y : Int) (w : World) (ha : Num 4294967296 .u32 w (.slice A1 n1 c1) N n1) (hb : Num 4294967296 .u32 w (.slice C1 m1 d1) D m1)
    (h1 : len 4294967296 N ≤ k) (h2 : len 4294967296 D ≤ k) (hs : k < 1073741824) (y0 : -9223372036854775808 ≤ y) (y1 : y ≤ 9223372036854775807) :
    Calls Tryz.prog 47 #[.agg #[.bool b1, .slice A1 n1 c1, .slice C1 m1 d1], .int .i64 y] w fun e w' => ∃ V, e = .returned V ∧ Whl w' V (sgn b1 N - y * D) ∧ Grew w w' := by
  have Fa := Lib.hid (show WhlV w (.agg #[.bool b1, .slice A1 n1 c1]) (sgn b1 N) k from ⟨_, _, _, _, rfl, ha, rfl, h1⟩)
  have Fb := Lib.hid (hb.whl h2)
  have l1 := Lib.hid (show len 4294967296 y.natAbs ≤ 2 from len_word (by omega))
  have l2 := Lib.hid (len_mulz y (D : Int) 2 k l1.out (by simpa using h2))
  have s1 := Lib.hid (show 2 + k < 1099511627776 by omega)
  have s2 := Lib.hid (show k < 549755813888 ∧ 2 + k < 549755813888 by omega)
  clear ha hb h1 h2 hs
  go_enter Tryz.func47, Tryz.ntmps47
  go_wp2_with fail
  refine gen_wp ?_
  intro W0 hW0
  have G0 : Grew w W0 := by rw [hW0]; exact ((Grew.refl w).alloc _).alloc _
  have P : Box3 W0 (w.heap.size) 0 (.bool b1) (.slice A1 n1 c1) (.slice C1 m1 d1) := by rw [hW0]; exact ⟨by simp [go_sem], by simp [go_sem], by simp [go_sem]⟩
  replace P := Lib.hid P
  have R : Res2 W0 (w.heap.size + 1) 0 (.bool false) (.slice none 0 0) := by rw [hW0]; exact ⟨by simp [go_sem], by simp [go_sem], by simp [go_sem], by simp [go_sem], by simp⟩
  replace R := Lib.hid R
  have z0 : w.heap.size < W0.heap.size := by rw [hW0]; simp <;> omega
  replace z0 := Lib.hid z0
  have z1 : w.heap.size + 1 < W0.heap.size := by rw [hW0]; simp <;> omega
  replace z1 := Lib.hid z1
  clear hW0
  replace Fa := Lib.hid (Fa.out.kept G0.keeps)
  replace Fb := Lib.hid (Fb.out.kept G0.keeps)
  replace G0 := Lib.hid G0
  have gd : Grew W0 W0.drew := (Grew.refl W0).drew
  replace R := Lib.hid (R.out.grew gd)
  replace P := Lib.hid (P.out.grew gd)
  replace z0 := Lib.hid (lt_grew z0.out gd)
  replace z1 := Lib.hid (lt_grew z1.out gd)
  replace Fa := Lib.hid (Fa.out.kept gd.keeps)
  replace Fb := Lib.hid (Fb.out.kept gd.keeps)
  replace gd := Lib.hid gd
  have ZP := P
  go_region_held3 (fun w' => w'.cell? ⟨w.heap.size, 0, none⟩ = some (.bool b1) ∧ w'.cell? ⟨w.heap.size, 1, none⟩ = some (.slice A1 n1 c1) ∧ w'.cell? ⟨w.heap.size, 2, none⟩ = some (.slice C1 m1 d1))
    (first | (with_reducible exact ⟨ZP.out.p0, ZP.out.p1, ZP.out.p2⟩) | (with_reducible exact ⟨g1.cell ZP.out.p0, g1.cell ZP.out.p1, g1.cell ZP.out.p2⟩) | (with_reducible exact ⟨(g1.trans g2).cell ZP.out.p0, (g1.trans g2).cell ZP.out.p1, (g1.trans g2).cell ZP.out.p2⟩) | (with_reducible exact ⟨((g1.trans g2).trans g3).cell ZP.out.p0, ((g1.trans g2).trans g3).cell ZP.out.p1, ((g1.trans g2).trans g3).cell ZP.out.p2⟩) | (with_reducible exact ⟨other2 (o := 0) (by omega) (((g1.trans g2).trans g3).cell ZP.out.p0), other2 (o := 0) (by omega) (((g1.trans g2).trans g3).cell ZP.out.p1), other2 (o := 0) (by omega) (((g1.trans g2).trans g3).cell ZP.out.p2)⟩))
    (first | (go_at_call 46; refine (wof_any y _ y0 y1).mono ?_; rintro e w1 ⟨V1, rfl, hV1, g1⟩; have Y1 := Lib.hid (hV1.v l1.out); obtain ⟨b3, A3, n3, c3, rfl, -⟩ := hV1.laid; have X1 := Y1; clear hV1 Y1; replace R := Lib.hid (R.out.grew g1); replace P := Lib.hid (P.out.grew g1); replace z0 := Lib.hid (lt_grew z0.out g1); replace z1 := Lib.hid (lt_grew z1.out g1); replace Fa := Lib.hid (Fa.out.kept g1.keeps); replace Fb := Lib.hid (Fb.out.kept g1.keeps)) | (go_at_call 45; refine (wmul_v _ _ y (D : Int) 2 k _ X1.out Fb.out s1.out).mono ?_; rintro e w2 ⟨V2, rfl, hV2, g2⟩; have Y2 := Lib.hid (hV2.v l2.out); obtain ⟨b4, A4, n4, c4, rfl, -⟩ := hV2.laid; have X2 := Y2; clear hV2 Y2; replace R := Lib.hid (R.out.grew g2); replace P := Lib.hid (P.out.grew g2); replace z0 := Lib.hid (lt_grew z0.out g2); replace z1 := Lib.hid (lt_grew z1.out g2); replace Fa := Lib.hid (Fa.out.kept g2.keeps); replace Fb := Lib.hid (Fb.out.kept g2.keeps); replace X1 := Lib.hid (X1.out.kept g2.keeps)) | (go_at_call 84; refine (wsub_v _ _ (sgn b1 N) (y * (D : Int)) k (2 + k) _ Fa.out X2.out s2.out).mono ?_; rintro e w3 ⟨V3, rfl, hV3, g3⟩; obtain ⟨b5, A5, n5, c5, rfl, X3, -⟩ := hV3.laid; clear hV3; replace R := Lib.hid (R.out.grew g3); replace P := Lib.hid (P.out.grew g3); replace z0 := Lib.hid (lt_grew z0.out g3); replace z1 := Lib.hid (lt_grew z1.out g3); replace Fa := Lib.hid (Fa.out.kept g3.keeps); replace Fb := Lib.hid (Fb.out.kept g3.keeps); replace X1 := Lib.hid (X1.out.kept g3.keeps); replace X2 := Lib.hid (X2.out.kept g3.keeps); obtain ⟨R0, R1, Rf0, Rf1, Rs⟩ := R.out))
  replace G0 := Lib.hid ((((G0.out.trans gd.out).trans g1).trans g2).trans g3)
  clear gd g1 g2 g3 ZP
  refine gen_then ?_
  intro W9 hW9
  obtain ⟨q0, q1, qK, -, qs, qG⟩ := store2 (o := 0) R0 R1 hW9
  have GE := qG w (by omega) G0.out
  have QK := Lib.hid qK
  clear qK qG hW9 R0 R1
  go_wp2_with fail
  exact bodyPost_ret (v := .agg #[.bool b5, .slice A5 n5 c5]) (by simp [results, Tryz.results47, go_sem, q0, q1]) rfl ⟨_, rfl, X3.out.kept QK.out, GE⟩

/-- Three points of the grid: their sides as ints, or by way of fractions. -/
def turnZ (ax ay bx b_y cx cy : Int) : Int := turnQ (ax : Rat) (ay : Rat) (bx : Rat) (b_y : Rat) (cx : Rat) (cy : Rat)

set_option maxRecDepth 100000 in
set_option maxHeartbeats 4000000 in
theorem turns_near (ax ay bx b_y cx cy : Int) (w : World) (ha : nearB ax ay = true) (hb : nearB bx b_y = true) (hc : nearB cx cy = true) :
    Calls Tryz.prog 14 #[.agg #[.int .i64 ax, .int .i64 ay], .agg #[.int .i64 bx, .int .i64 b_y], .agg #[.int .i64 cx, .int .i64 cy]] w fun e w' => e = .returned (.int .i64 (turnZ ax ay bx b_y cx cy)) ∧ Grew w w' := by
  have e1 := Lib.hid (show turnZ ax ay bx b_y cx cy = sg ((bx - ax) * (cy - ay) - (b_y - ay) * (cx - ax)) from turnQ_int _ _ _ _ _ _)
  obtain ⟨a1, a2, a3, a4⟩ := (nearB_iff _ _).1 ha
  obtain ⟨b1, b2, b3, b4⟩ := (nearB_iff _ _).1 hb
  obtain ⟨c1, c2, c3, c4⟩ := (nearB_iff _ _).1 hc
  have ea := Lib.hid ha
  have eb := Lib.hid hb
  have ec := Lib.hid hc
  clear ha hb hc
  have p1 := prod_fit (u := bx - ax) (v := cy - ay) (by omega) (by omega)
  have p2 := prod_fit (u := b_y - ay) (v := cx - ax) (by omega) (by omega)
  have p3 := det_fit (u1 := bx - ax) (u2 := cx - ax) (v1 := b_y - ay) (v2 := cy - ay) (by omega) (by omega) (by omega) (by omega) (by omega) (by omega)
  obtain ⟨p4, p5⟩ := p1
  obtain ⟨p6, p7⟩ := p2
  obtain ⟨p8, p9⟩ := p3
  go_enter Tryz.func14, Tryz.ntmps14
  go_wp2_with fail
  refine gen_calls ?_
  intro W0 hW0
  have G0 : Grew w W0 := by rw [hW0]; exact (((Grew.refl w).alloc _).alloc _).alloc _
  have P : Box2 W0 (w.heap.size) 0 (.int .i64 ax) (.int .i64 ay) := by rw [hW0]; exact ⟨by simp [go_sem], by simp [go_sem]⟩
  replace P := Lib.hid P
  have Q : Box2 W0 (w.heap.size + 1) 0 (.int .i64 bx) (.int .i64 b_y) := by rw [hW0]; exact ⟨by simp [go_sem], by simp [go_sem]⟩
  replace Q := Lib.hid Q
  have S : Box2 W0 (w.heap.size + 1 + 1) 0 (.int .i64 cx) (.int .i64 cy) := by rw [hW0]; exact ⟨by simp [go_sem], by simp [go_sem]⟩
  replace S := Lib.hid S
  have z0 : w.heap.size < W0.heap.size := by rw [hW0]; simp <;> omega
  replace z0 := Lib.hid z0
  have z1 : w.heap.size + 1 < W0.heap.size := by rw [hW0]; simp <;> omega
  replace z1 := Lib.hid z1
  have z2 : w.heap.size + 1 + 1 < W0.heap.size := by rw [hW0]; simp <;> omega
  replace z2 := Lib.hid z2
  clear hW0
  replace G0 := Lib.hid G0
  refine (near_any ax ay _).mono ?_
  rintro e w1 ⟨rfl, g1⟩
  replace P := Lib.hid (P.out.grew g1)
  replace Q := Lib.hid (Q.out.grew g1)
  replace S := Lib.hid (S.out.grew g1)
  replace z0 := Lib.hid (lt_grew z0.out g1)
  replace z1 := Lib.hid (lt_grew z1.out g1)
  replace z2 := Lib.hid (lt_grew z2.out g1)
  replace G0 := Lib.hid (G0.out.trans g1)
  clear g1
  rw [ea.out]
  obtain ⟨P0, P1⟩ := P.out
  obtain ⟨Q0, Q1⟩ := Q.out
  obtain ⟨S0, S1⟩ := S.out
  go_wp2_with fail
  clear P0 P1 Q0 Q1 S0 S1
  refine (near_any bx b_y _).mono ?_
  rintro e w2 ⟨rfl, g2⟩
  replace P := Lib.hid (P.out.grew g2)
  replace Q := Lib.hid (Q.out.grew g2)
  replace S := Lib.hid (S.out.grew g2)
  replace z0 := Lib.hid (lt_grew z0.out g2)
  replace z1 := Lib.hid (lt_grew z1.out g2)
  replace z2 := Lib.hid (lt_grew z2.out g2)
  replace G0 := Lib.hid (G0.out.trans g2)
  clear g2
  rw [eb.out]
  obtain ⟨P0, P1⟩ := P.out
  obtain ⟨Q0, Q1⟩ := Q.out
  obtain ⟨S0, S1⟩ := S.out
  go_wp2_with fail
  clear P0 P1 Q0 Q1 S0 S1
  refine (near_any cx cy _).mono ?_
  rintro e w3 ⟨rfl, g3⟩
  replace P := Lib.hid (P.out.grew g3)
  replace Q := Lib.hid (Q.out.grew g3)
  replace S := Lib.hid (S.out.grew g3)
  replace z0 := Lib.hid (lt_grew z0.out g3)
  replace z1 := Lib.hid (lt_grew z1.out g3)
  replace z2 := Lib.hid (lt_grew z2.out g3)
  replace G0 := Lib.hid (G0.out.trans g3)
  clear g3
  rw [ec.out]
  obtain ⟨P0, P1⟩ := P.out
  obtain ⟨Q0, Q1⟩ := Q.out
  obtain ⟨S0, S1⟩ := S.out
  go_wp2_with fail
  clear P0 P1 Q0 Q1 S0 S1
  refine (isign_any _ _).mono ?_
  rintro e w' ⟨rfl, rfl⟩
  rw [← e1.out]
  go_wp2_with fail
  go_ret
  exact ⟨rfl, G0.out⟩
end Go.Proofs.YtpglnfccmhkocaaGreat
namespace Go.Proofs.YtpglnfccmhkocaaGreat
open Go.RowKit

/-- A block that holds two cells of which P says something, in this world. -/
def At2 (w : World) (g : Nat) (P : World → Value → Prop) : Prop := ∃ b A n c, Box2 w g 0 (.bool b) (.slice A n c) ∧ P w (.agg #[.bool b, .slice A n c]) ∧ g < w.heap.size
theorem At2.of_alloc {w X : World} {P : World → Value → Prop} (hP : Rd P) {b : Bool} {A : Option Addr} {n c g : Nat} {t : TypeId} (hg : X.heap.size = g) (hk : Keeps w X) (h : P w (.agg #[.bool b, .slice A n c])) :
    At2 (X.alloc (.cells #[.bool b, .slice A n c] t)) g P := by
  subst hg
  exact ⟨b, A, n, c, ⟨by simp [go_sem], by simp [go_sem]⟩, hP _ _ _ h (hk.trans ((Grew.refl X).alloc _).keeps), by simp⟩
theorem At2.of_store {w X : World} {P : World → Value → Prop} (hP : Rd P) {b : Bool} {A : Option Addr} {n c g : Nat} (r : Res2 X g 0 (.bool false) (.slice none 0 0)) (hk : Keeps w X) (h : P w (.agg #[.bool b, .slice A n c])) :
    At2 ((X.setCell ⟨g, 0, none⟩ (.bool b)).setCell ⟨g, 1, none⟩ (.slice A n c)) g P := by
  obtain ⟨r0, r1, -, -, rs⟩ := r
  obtain ⟨q0, q1, qK, -, qs, -⟩ := store2 (o := 0) r0 r1 rfl
  exact ⟨b, A, n, c, ⟨q0, q1⟩, hP _ _ _ h (hk.trans qK), by rw [qs]; exact rs⟩
theorem Keeps.store2 {w X : World} {g : Nat} {u0 u1 : Value} (r : Res2 X g 0 (.bool false) (.slice none 0 0)) (hk : Keeps w X) :
    Keeps w ((X.setCell ⟨g, 0, none⟩ u0).setCell ⟨g, 1, none⟩ u1) := by
  obtain ⟨r0, r1, -, -, rs⟩ := r
  obtain ⟨-, -, qK, -⟩ := Go.Proofs.YtpglnfccmhkocaaGreat.store2 (o := 0) r0 r1 rfl
  exact hk.trans qK
theorem Rd.whl (z : Int) : Rd (fun w V => Whl w V z) := fun _ _ _ h k => Whl.kept h k
theorem res2_new {w w' : World} {t : TypeId} (g : Grew (w.alloc (.cells #[.bool false, .slice none 0 0] t)) w') : Res2 w' w.heap.size 0 (.bool false) (.slice none 0 0) :=
  Res2.grew ⟨by simp [go_sem], by simp [go_sem], by simp [go_sem], by simp [go_sem], by simp⟩ g
theorem res2_newD {w w' : World} {t : TypeId} (g : Grew (w.alloc (.cells #[.bool false, .slice none 0 0] t)).drew w') : Res2 w' w.heap.size 0 (.bool false) (.slice none 0 0) :=
  Res2.grew ⟨by simp [go_sem], by simp [go_sem], by simp [go_sem], by simp [go_sem], by simp⟩ g

theorem Res2.lt {w : World} {r o : Nat} {u0 u1 : Value} (h : Res2 w r o u0 u1) : r < w.heap.size := h.2.2.2.2
theorem Res2.store_far {w : World} {g h : Nat} {u0 u1 : Value} (a : Res2 w g 0 (.bool false) (.slice none 0 0)) (r : Res2 w h 0 (.bool false) (.slice none 0 0)) (hne : g ≠ h) :
    Res2 ((w.setCell ⟨h, 0, none⟩ u0).setCell ⟨h, 1, none⟩ u1) g 0 (.bool false) (.slice none 0 0) := by
  obtain ⟨r0, r1, -, -, rs⟩ := r
  obtain ⟨-, -, -, qf, qs, -⟩ := Go.Proofs.YtpglnfccmhkocaaGreat.store2 (o := 0) (u0 := u0) (u1 := u1) r0 r1 rfl
  obtain ⟨a0, a1, f0, f1, s⟩ := a
  exact ⟨(qf _ _ hne).trans a0, (qf _ _ hne).trans a1, by simp [f0], by simp [f1], by rw [qs]; exact s⟩
theorem At2.store_far {w : World} {P : World → Value → Prop} (hP : Rd P) {g h : Nat} {u0 u1 : Value} (a : At2 w g P) (r : Res2 w h 0 (.bool false) (.slice none 0 0)) (hne : g ≠ h) :
    At2 ((w.setCell ⟨h, 0, none⟩ u0).setCell ⟨h, 1, none⟩ u1) g P := by
  obtain ⟨r0, r1, -, -, rs⟩ := r
  obtain ⟨-, -, qK, qf, qs, -⟩ := Go.Proofs.YtpglnfccmhkocaaGreat.store2 (o := 0) (u0 := u0) (u1 := u1) r0 r1 rfl
  obtain ⟨b, A, n, c, ⟨hB, hB'⟩, hp, hl⟩ := a
  exact ⟨b, A, n, c, ⟨(qf _ _ hne).trans hB, (qf _ _ hne).trans hB'⟩, hP _ _ _ hp qK, by rw [qs]; exact hl⟩
theorem At2.grew {w w' : World} {P : World → Value → Prop} (hP : Rd P) {g : Nat} (a : At2 w g P) (k : Grew w w') : At2 w' g P := by
  obtain ⟨b, A, n, c, hB, hp, hl⟩ := a
  exact ⟨b, A, n, c, hB.grew k, hP _ _ _ hp k.keeps, Nat.lt_of_lt_of_le hl k.size⟩
theorem res2_two (w : World) (t s : TypeId) : Res2 ((w.alloc (.cells #[.bool false, .slice none 0 0] t)).alloc (.cells #[.bool false, .slice none 0 0] s)) w.heap.size 0 (.bool false) (.slice none 0 0) ∧
    Res2 ((w.alloc (.cells #[.bool false, .slice none 0 0] t)).alloc (.cells #[.bool false, .slice none 0 0] s)) (w.heap.size + 1) 0 (.bool false) (.slice none 0 0) :=
  ⟨⟨by simp [go_sem], by simp [go_sem], by simp [go_sem], by simp [go_sem], by simp <;> omega⟩, ⟨by simp [go_sem], by simp [go_sem], by simp [go_sem], by simp [go_sem], by simp <;> omega⟩⟩
theorem res2_new2 {w w' : World} {t s : TypeId} (g : Grew ((w.alloc (.cells #[.bool false, .slice none 0 0] t)).alloc (.cells #[.bool false, .slice none 0 0] s)) w') :
    Res2 w' w.heap.size 0 (.bool false) (.slice none 0 0) ∧ Res2 w' (w.heap.size + 1) 0 (.bool false) (.slice none 0 0) := ⟨(res2_two w t s).1.grew g, (res2_two w t s).2.grew g⟩
theorem res2_new2D {w w' : World} {t s : TypeId} (g : Grew ((w.alloc (.cells #[.bool false, .slice none 0 0] t)).alloc (.cells #[.bool false, .slice none 0 0] s)).drew w') :
    Res2 w' w.heap.size 0 (.bool false) (.slice none 0 0) ∧ Res2 w' (w.heap.size + 1) 0 (.bool false) (.slice none 0 0) :=
  ⟨((res2_two w t s).1.grew ((Grew.refl _).drew)).grew g, ((res2_two w t s).2.grew ((Grew.refl _).drew)).grew g⟩
end Go.Proofs.YtpglnfccmhkocaaGreat
