/- whole.Text, frac.Text, spot.Text where both numbers have one digit. frac.Text of whole numbers, spot.Text of two such; what lives says. Plain: the sides of three points. Conditions: none. r05.Area, Turn. Condition: what comes in reads; fewer than 2^26 words. -/
import Derived.Test.YtpglnfccmhkocaaGreatJText1
import Derived.Test.YtpglnfccmhkocaaGreatJFrac4
namespace Go.Proofs.YtpglnfccmhkocaaGreat
open Go.RowKit

set_option maxRecDepth 100000 in
set_option maxHeartbeats 2000000 in
theorem wtext_pos (Va : Value) (d : Nat) (w : World) (ha : Whl w Va (d : Int)) (h0 : 0 < d) (h9 : d < 10) :
    Calls Tryz.prog 117 #[Va] w fun e w' => e = .returned (.string (digS d)) ∧ Grew w w' := by
  have hl1 := len_lt_base h0 (by omega)
  obtain ⟨b1, A1, n1, c1, rfl, Ha, EE⟩ := ha.laid
  obtain ⟨-, -, Na⟩ := EE.out
  replace Na := Lib.hid (show Num 4294967296 .u32 w (.slice A1 n1 c1) d n1 by simpa using Na)
  have Wa := Lib.hid (Ha.out.v (k := 1) (by simp [hl1]))
  have hsg : sg (d : Int) = 1 := by unfold sg; rw [if_neg (by omega), if_neg (by omega)]
  replace hsg := Lib.hid hsg
  clear ha EE Ha hl1
  go_enter Tryz.func117, Tryz.ntmps117
  go_wp2_with fail
  refine gen_calls ?_
  intro W0 hW0
  have G0 : Grew w W0 := by rw [hW0]; exact (Grew.refl w).alloc _
  have P : Box2 W0 (w.heap.size) 0 (.bool b1) (.slice A1 n1 c1) := by rw [hW0]; exact ⟨by simp [go_sem], by simp [go_sem]⟩
  replace P := Lib.hid P
  have z0 : w.heap.size < W0.heap.size := by rw [hW0]; simp <;> omega
  replace z0 := Lib.hid z0
  clear hW0
  replace Wa := Lib.hid (Wa.out.kept G0.keeps)
  replace Na := Lib.hid (Na.out.kept G0.keeps)
  replace G0 := Lib.hid G0
  refine (sign_v _ _ _ _ Wa.out (by omega)).mono ?_
  rintro e w1 ⟨rfl, g1⟩
  replace P := Lib.hid (P.out.grew g1)
  replace z0 := Lib.hid (lt_grew z0.out g1)
  replace Wa := Lib.hid (Wa.out.kept g1.keeps)
  replace Na := Lib.hid (Na.out.kept g1.keeps)
  replace G0 := Lib.hid (G0.out.trans g1)
  clear g1
  rw [hsg.out]
  obtain ⟨P0, P1⟩ := P.out
  go_wp2_with fail
  clear P0 P1
  refine (text_digit _ d _ _ Na.out h0 h9).mono ?_
  rintro e w2 ⟨rfl, g2⟩
  replace P := Lib.hid (P.out.grew g2)
  replace z0 := Lib.hid (lt_grew z0.out g2)
  replace Wa := Lib.hid (Wa.out.kept g2.keeps)
  replace Na := Lib.hid (Na.out.kept g2.keeps)
  replace G0 := Lib.hid (G0.out.trans g2)
  clear g2
  go_wp2_with fail
  go_ret
  exact ⟨by rfl, G0.out⟩

/-- The text of a digit below 0. -/
def negS (d : Nat) : ByteArray := ⟨#[45, UInt8.ofNat (48 + d)]⟩
theorem negS_eq (d : Nat) : (⟨#[45]⟩ : ByteArray) ++ digS d = negS d := rfl

set_option maxRecDepth 100000 in
set_option maxHeartbeats 2000000 in
theorem wtext_neg (Va : Value) (d : Nat) (w : World) (ha : Whl w Va (-(d : Int))) (h0 : 0 < d) (h9 : d < 10) :
    Calls Tryz.prog 117 #[Va] w fun e w' => e = .returned (.string (negS d)) ∧ Grew w w' := by
  have hl1 := len_lt_base h0 (by omega)
  obtain ⟨b1, A1, n1, c1, rfl, Ha, EE⟩ := ha.laid
  obtain ⟨-, -, Na⟩ := EE.out
  replace Na := Lib.hid (show Num 4294967296 .u32 w (.slice A1 n1 c1) d n1 by simpa using Na)
  have Wa := Lib.hid (Ha.out.v (k := 1) (by simp [hl1]))
  have hsg : sg (-(d : Int)) = -1 := by unfold sg; rw [if_neg (by omega), if_pos (by omega)]
  replace hsg := Lib.hid hsg
  have hsz : (digS d).size = 1 := rfl
  have hng := Lib.hid (negS_eq d)
  clear ha EE Ha hl1
  go_enter Tryz.func117, Tryz.ntmps117
  go_wp2_with fail
  refine gen_calls ?_
  intro W0 hW0
  have G0 : Grew w W0 := by rw [hW0]; exact (Grew.refl w).alloc _
  have P : Box2 W0 (w.heap.size) 0 (.bool b1) (.slice A1 n1 c1) := by rw [hW0]; exact ⟨by simp [go_sem], by simp [go_sem]⟩
  replace P := Lib.hid P
  have z0 : w.heap.size < W0.heap.size := by rw [hW0]; simp <;> omega
  replace z0 := Lib.hid z0
  clear hW0
  replace Wa := Lib.hid (Wa.out.kept G0.keeps)
  replace Na := Lib.hid (Na.out.kept G0.keeps)
  replace G0 := Lib.hid G0
  refine (sign_v _ _ _ _ Wa.out (by omega)).mono ?_
  rintro e w1 ⟨rfl, g1⟩
  replace P := Lib.hid (P.out.grew g1)
  replace z0 := Lib.hid (lt_grew z0.out g1)
  replace Wa := Lib.hid (Wa.out.kept g1.keeps)
  replace Na := Lib.hid (Na.out.kept g1.keeps)
  replace G0 := Lib.hid (G0.out.trans g1)
  clear g1
  rw [hsg.out]
  obtain ⟨P0, P1⟩ := P.out
  go_wp2_with fail
  clear P0 P1
  refine (text_digit _ d _ _ Na.out h0 h9).mono ?_
  rintro e w2 ⟨rfl, g2⟩
  replace P := Lib.hid (P.out.grew g2)
  replace z0 := Lib.hid (lt_grew z0.out g2)
  replace Wa := Lib.hid (Wa.out.kept g2.keeps)
  replace Na := Lib.hid (Na.out.kept g2.keeps)
  replace G0 := Lib.hid (G0.out.trans g2)
  clear g2
  generalize digS d = ds at *
  go_wp2_with fail
  go_ret
  exact ⟨by rw [← hng.out]; rfl, G0.out⟩
end Go.Proofs.YtpglnfccmhkocaaGreat
namespace Go.Proofs.YtpglnfccmhkocaaGreat
open Go.RowKit

/-- What whole.Text says of z. -/
def WText (z : Int) (s : ByteArray) : Prop := ∀ V W, Whl W V z → Calls Tryz.prog 117 #[V] W fun e w' => e = .returned (.string s) ∧ Grew W w'

set_option maxRecDepth 100000 in
set_option maxHeartbeats 4000000 in
theorem ftext_int (z : Int) (s : ByteArray) (hT : Hid (WText z s)) (Va : Value) (k : Nat) (w : World) (ha : FracV w Va (z : Rat) k) (hk : 1 ≤ k) (hs : k < 549755813888) :
    Calls Tryz.prog 78 #[Va] w fun e w' => e = .returned (.string s) ∧ Grew w w' := by
  obtain ⟨b1, A1, n1, c1, C1, m1, d1, rfl, Fa⟩ := ha.laid
  clear ha
  go_enter Tryz.func78, Tryz.ntmps78
  go_wp2_with fail
  refine gen_calls ?_
  intro W0 hW0
  have G0 : Grew w W0 := by rw [hW0]; exact (Grew.refl w).alloc _
  have P : Box3 W0 (w.heap.size) 0 (.bool b1) (.slice A1 n1 c1) (.slice C1 m1 d1) := by rw [hW0]; exact ⟨by simp [go_sem], by simp [go_sem], by simp [go_sem]⟩
  replace P := Lib.hid P
  have z0 : w.heap.size < W0.heap.size := by rw [hW0]; simp <;> omega
  replace z0 := Lib.hid z0
  clear hW0
  replace Fa := Lib.hid (Fa.out.kept G0.keeps)
  replace G0 := Lib.hid G0
  refine (freduce_any _ (z : Rat) k _ Fa.out hk hs).mono ?_
  rintro e w1 ⟨V1, rfl, hV1, g1⟩
  obtain ⟨b2, A2, n2, c2, C2, m2, d2, rfl, X1⟩ := hV1.laid
  clear hV1
  replace P := Lib.hid (P.out.grew g1)
  replace z0 := Lib.hid (lt_grew z0.out g1)
  replace Fa := Lib.hid (Fa.out.kept g1.keeps)
  replace G0 := Lib.hid (G0.out.trans g1)
  clear g1
  have oz0 := z0.out
  go_wp2_with fail
  clear oz0
  refine gen_calls ?_
  intro W1 hW1
  have gl : Grew w1 W1 := by rw [hW1]; exact (Grew.refl _).alloc _
  replace P := Lib.hid (P.out.grew gl)
  replace z0 := Lib.hid (lt_grew z0.out gl)
  replace Fa := Lib.hid (Fa.out.kept gl.keeps)
  replace X1 := Lib.hid (X1.out.kept gl.keeps)
  have L : Box3 W1 (w1.heap.size) 0 (.bool b2) (.slice A2 n2 c2) (.slice C2 m2 d2) := by rw [hW1]; exact ⟨by simp [go_sem], by simp [go_sem], by simp [go_sem]⟩
  replace L := Lib.hid L
  have z1 : w1.heap.size < W1.heap.size := by rw [hW1]; simp <;> omega
  replace z1 := Lib.hid z1
  clear hW1
  replace G0 := Lib.hid (G0.out.trans gl)
  clear gl
  obtain ⟨Wz, Nd, Md⟩ := X1.out.parts
  -- Wz Nd
  refine (isUnit_g _ _ _ _ Nd.out Md.out).mono ?_
  rintro e w2 ⟨rfl, g2⟩
  replace P := Lib.hid (P.out.grew g2)
  replace L := Lib.hid (L.out.grew g2)
  replace z0 := Lib.hid (lt_grew z0.out g2)
  replace z1 := Lib.hid (lt_grew z1.out g2)
  replace Fa := Lib.hid (Fa.out.kept g2.keeps)
  replace X1 := Lib.hid (X1.out.kept g2.keeps)
  replace Wz := Lib.hid (Wz.out.kept g2.keeps)
  replace Nd := Lib.hid (Nd.out.kept g2.keeps)
  replace G0 := Lib.hid (G0.out.trans g2)
  clear g2
  have e1 : decide ((z : Rat).den = 1) = true := rfl
  rw [e1]
  clear e1
  obtain ⟨L0, L1, L2⟩ := L.out
  go_wp2_with fail
  clear L0 L1 L2
  refine (hT.out _ _ Wz.out).mono ?_
  rintro e w3 ⟨rfl, g3⟩
  replace P := Lib.hid (P.out.grew g3)
  replace L := Lib.hid (L.out.grew g3)
  replace z0 := Lib.hid (lt_grew z0.out g3)
  replace z1 := Lib.hid (lt_grew z1.out g3)
  replace Fa := Lib.hid (Fa.out.kept g3.keeps)
  replace X1 := Lib.hid (X1.out.kept g3.keeps)
  replace Wz := Lib.hid (Wz.out.kept g3.keeps)
  replace Nd := Lib.hid (Nd.out.kept g3.keeps)
  replace G0 := Lib.hid (G0.out.trans g3)
  clear g3
  go_wp2_with fail
  go_ret
  exact ⟨by rfl, G0.out⟩

set_option maxRecDepth 100000 in
set_option maxHeartbeats 4000000 in
theorem stext_int (x y : Int) (s t : ByteArray) (hT : Hid (WText x s)) (hU : Hid (WText y t)) (hss : s.size = 1) (htt : t.size = 1 ∨ t.size = 2) (Va : Value) (k : Nat) (w : World) (ha : SpotV w Va (x : Rat) (y : Rat) k) (hk : 1 ≤ k) (hs : k < 549755813888) :
    Calls Tryz.prog 40 #[Va] w fun e w' => e = .returned (.string (s ++ (⟨#[32]⟩ : ByteArray) ++ t)) ∧ Grew w w' := by
  obtain ⟨b1, A1, n1, c1, C1, m1, d1, b2, A2, n2, c2, C2, m2, d2, rfl, Fa, Fb, -⟩ := ha.laid
  clear ha
  rcases htt with htt | htt
  all_goals
    go_enter Tryz.func40, Tryz.ntmps40
    go_wp2_with fail
    refine gen_wp ?_
    intro W0 hW0
    have G0 : Grew w W0 := by rw [hW0]; exact (Grew.refl w).alloc _
    have P : Box3 W0 (w.heap.size) 0 (.bool b1) (.slice A1 n1 c1) (.slice C1 m1 d1) := by rw [hW0]; exact ⟨by simp [go_sem], by simp [go_sem], by simp [go_sem]⟩
    replace P := Lib.hid P
    have Py : Box3 W0 (w.heap.size) 3 (.bool b2) (.slice A2 n2 c2) (.slice C2 m2 d2) := by rw [hW0]; exact ⟨by simp [go_sem], by simp [go_sem], by simp [go_sem]⟩
    replace Py := Lib.hid Py
    have z0 : w.heap.size < W0.heap.size := by rw [hW0]; simp <;> omega
    replace z0 := Lib.hid z0
    clear hW0
    replace Fa := Lib.hid (Fa.out.kept G0.keeps)
    replace Fb := Lib.hid (Fb.out.kept G0.keeps)
    replace G0 := Lib.hid G0
    have gd : Grew W0 W0.drew := (Grew.refl W0).drew
    replace P := Lib.hid (P.out.grew gd)
    replace Py := Lib.hid (Py.out.grew gd)
    replace z0 := Lib.hid (lt_grew z0.out gd)
    replace Fa := Lib.hid (Fa.out.kept gd.keeps)
    replace Fb := Lib.hid (Fb.out.kept gd.keeps)
    replace gd := Lib.hid gd
    have ZP := P
    have ZPy := Py
    go_region_held3 (fun w' => w'.cell? ⟨w.heap.size, 0, none⟩ = some (.bool b1) ∧ w'.cell? ⟨w.heap.size, 1, none⟩ = some (.slice A1 n1 c1) ∧ w'.cell? ⟨w.heap.size, 2, none⟩ = some (.slice C1 m1 d1) ∧ w'.cell? ⟨w.heap.size, 3, none⟩ = some (.bool b2) ∧ w'.cell? ⟨w.heap.size, 4, none⟩ = some (.slice A2 n2 c2) ∧ w'.cell? ⟨w.heap.size, 5, none⟩ = some (.slice C2 m2 d2))
      (first | (with_reducible exact ⟨ZP.out.p0, ZP.out.p1, ZP.out.p2, ZPy.out.p0, ZPy.out.p1, ZPy.out.p2⟩) | (with_reducible exact ⟨g1.cell ZP.out.p0, g1.cell ZP.out.p1, g1.cell ZP.out.p2, g1.cell ZPy.out.p0, g1.cell ZPy.out.p1, g1.cell ZPy.out.p2⟩) | (with_reducible exact ⟨(g1.trans g2).cell ZP.out.p0, (g1.trans g2).cell ZP.out.p1, (g1.trans g2).cell ZP.out.p2, (g1.trans g2).cell ZPy.out.p0, (g1.trans g2).cell ZPy.out.p1, (g1.trans g2).cell ZPy.out.p2⟩))
      (first | (go_at_call_of 78 (Value.agg #[.bool b1, .slice A1 n1 c1, .slice C1 m1 d1]); refine (ftext_int x s hT _ k _ Fa.out hk hs).mono ?_; rintro e w1 ⟨rfl, g1⟩; replace P := Lib.hid (P.out.grew g1); replace Py := Lib.hid (Py.out.grew g1); replace z0 := Lib.hid (lt_grew z0.out g1); replace Fa := Lib.hid (Fa.out.kept g1.keeps); replace Fb := Lib.hid (Fb.out.kept g1.keeps)) | (go_at_call 78; refine (ftext_int y t hU _ k _ Fb.out hk hs).mono ?_; rintro e w2 ⟨rfl, g2⟩; replace P := Lib.hid (P.out.grew g2); replace Py := Lib.hid (Py.out.grew g2); replace z0 := Lib.hid (lt_grew z0.out g2); replace Fa := Lib.hid (Fa.out.kept g2.keeps); replace Fb := Lib.hid (Fb.out.kept g2.keeps)))
    replace G0 := Lib.hid (((G0.out.trans gd.out).trans g1).trans g2)
    clear gd g1 g2 ZP ZPy
    go_wp2_with fail
    go_ret
    exact ⟨by rfl, G0.out⟩

theorem wt3 : WText 3 (digS 3) := fun V W h => wtext_pos V 3 W h (by omega) (by omega)
theorem wt2 : WText 2 (digS 2) := fun V W h => wtext_pos V 2 W h (by omega) (by omega)
theorem wtn4 : WText (-4) (negS 4) := fun V W h => wtext_neg V 4 W h (by omega) (by omega)
theorem QB_int (x : Int) (k : Nat) (h : len 4294967296 x.natAbs ≤ k) (hk : 1 ≤ k) : QB (x : Rat) k := ⟨h, by rw [show ((x : Rat).den) = 1 from rfl, len1]; exact hk⟩

set_option maxRecDepth 100000 in
set_option maxHeartbeats 4000000 in
theorem lives05_any (w : World) : Calls Tryz.prog 12 #[] w fun e w' => e = .returned (.bool true) ∧ Grew w w' := by
  go_enter Tryz.func12, Tryz.ntmps12
  go_wp2_with fail
  refine (turns_lit _).mono ?_
  rintro e w1 ⟨rfl, g1⟩
  replace g1 := Lib.hid g1
  go_wp2_with fail
  refine (at_any 3 (-4) _ (by omega) (by omega) (by omega) (by omega)).mono ?_
  rintro e w2 ⟨V2, rfl, hV2, g2⟩
  have hv := hV2.v (k := 1) (QB_int 3 1 (by rw [show (3 : Int).natAbs = 3 from rfl, len_lt_base (by omega) (by omega)]; exact Nat.le_refl _) (by omega)) (QB_int (-4) 1 (by rw [show (-4 : Int).natAbs = 4 from rfl, len_lt_base (by omega) (by omega)]; exact Nat.le_refl _) (by omega))
  obtain ⟨b1, A1, n1, c1, C1, m1, d1, b2, A2, n2, c2, C2, m2, d2, rfl, -⟩ := hV2.laid
  replace hv := Lib.hid hv
  replace g2 := Lib.hid (g1.out.trans g2)
  clear hV2 g1
  go_wp2_with fail
  refine (stext_int 3 (-4) _ _ (Lib.hid wt3) (Lib.hid wtn4) rfl (.inr rfl) _ 1 _ hv.out (by omega) (by omega)).mono ?_
  rintro e w3 ⟨rfl, g3⟩
  have es : digS 3 ++ (⟨#[32]⟩ : ByteArray) ++ negS 4 = (⟨#[51, 32, 45, 52]⟩ : ByteArray) := rfl
  rw [es]
  replace g2 := Lib.hid (g2.out.trans g3)
  clear g3
  go_wp2_with fail
  go_ret
  exact ⟨by rfl, g2.out⟩
end Go.Proofs.YtpglnfccmhkocaaGreat
namespace Go.Proofs.YtpglnfccmhkocaaGreat
open Go.RowKit

theorem turnQ_eq (ax ay bx b_y cx cy : Rat) : turnQ ax ay bx b_y cx cy = sgQ ((bx - ax) * (cy - ay) - (b_y - ay) * (cx - ax)) := cmpQ_sub _ _
theorem sgQ_zero : sgQ 0 = 0 := by unfold sgQ; simp
theorem sgQ_bd (a : Rat) : -1 ≤ sgQ a ∧ sgQ a ≤ 1 := by unfold sgQ; split <;> (try split) <;> omega
theorem turnQ_rot (ax ay bx b_y cx cy : Rat) : turnQ bx b_y cx cy ax ay = turnQ ax ay bx b_y cx cy := by
  rw [turnQ_eq, turnQ_eq]; congr 1; grind
theorem turnQ_rev (ax ay bx b_y cx cy : Rat) : turnQ cx cy bx b_y ax ay = -turnQ ax ay bx b_y cx cy := by
  rw [turnQ_eq, turnQ_eq, ← sgQ_neg]; congr 1; grind
theorem half_two : mkRat 1 2 + mkRat 1 2 = 1 := by rw [← mkRat_add_same 1 1 2 (by omega)]; exact (Rat.mkRat_eq_iff (n₁ := 1 + 1) (n₂ := 1) (d₁ := 2) (d₂ := 1) (by omega) (by omega)).2 rfl
theorem turnQ_mid (ax ay bx b_y : Rat) : turnQ ax ay bx b_y ((ax + bx) * mkRat 1 2) ((ay + b_y) * mkRat 1 2) = 0 := by
  have h := half_two
  rw [turnQ_eq, ← sgQ_zero]
  congr 1
  generalize mkRat 1 2 = t at *
  have e1 : (ax + bx) * t = ax + (bx - ax) * t := by
    have : ax * (t + t) = ax := by rw [h, Rat.mul_one]
    grind
  have e2 : (ay + b_y) * t = ay + (b_y - ay) * t := by
    have : ay * (t + t) = ay := by rw [h, Rat.mul_one]
    grind
  rw [e1, e2]
  grind
theorem turnQ_a (ax ay bx b_y : Rat) : turnQ ax ay bx b_y ax ay = 0 := by
  rw [turnQ_eq, ← sgQ_zero]; congr 1; grind
theorem turnQ_b (ax ay bx b_y : Rat) : turnQ ax ay bx b_y bx b_y = 0 := by
  rw [turnQ_eq, ← sgQ_zero]; congr 1; grind
theorem midQ_iff {a b c : Rat} (h1 : a ≤ c) (h2 : c ≤ b) : midQ a b c = true := by
  unfold midQ
  rw [decide_eq_false (Rat.not_lt.2 h1), decide_eq_false (Rat.not_lt.2 h2)]; rfl
theorem withinQ_mid (a b : Rat) : withinQ a b ((a + b) * mkRat 1 2) = true := by
  have h := half_two
  have e : (a + b) * mkRat 1 2 + (a + b) * mkRat 1 2 = a + b := by rw [← Rat.mul_add, h, Rat.mul_one]
  generalize (a + b) * mkRat 1 2 = m at *
  unfold withinQ
  split
  · exact midQ_iff (by grind) (by grind)
  · exact midQ_iff (by grind) (by grind)
theorem withinQ_a (a b : Rat) : withinQ a b a = true := by
  unfold withinQ
  split
  · exact midQ_iff (by grind) (by grind)
  · exact midQ_iff (by grind) (by grind)
theorem withinQ_b (a b : Rat) : withinQ a b b = true := by
  unfold withinQ
  split
  · exact midQ_iff (by grind) (by grind)
  · exact midQ_iff (by grind) (by grind)
theorem onQ_mid (ax ay bx b_y : Rat) : onQ ax ay bx b_y ((ax + bx) * mkRat 1 2) ((ay + b_y) * mkRat 1 2) = true := by
  unfold onQ; rw [withinQ_mid, withinQ_mid, turnQ_mid]; rfl
theorem onQ_a (ax ay bx b_y : Rat) : onQ ax ay bx b_y ax ay = true := by
  unfold onQ; rw [withinQ_a, withinQ_a, turnQ_a]; rfl
theorem onQ_b (ax ay bx b_y : Rat) : onQ ax ay bx b_y bx b_y = true := by
  unfold onQ; rw [withinQ_b, withinQ_b, turnQ_b]; rfl

theorem FracV.mono {w : World} {V : Value} {q : Rat} {k l : Nat} (h : FracV w V q k) (e : k ≤ l) : FracV w V q l := by
  obtain ⟨neg, N, D, n, m, va, vd, e1, h1, h2, h3, h4, h5⟩ := h
  exact ⟨neg, N, D, n, m, va, vd, e1, h1, h2, h3, by omega, by omega⟩
theorem SpotV.mono {w : World} {V : Value} {x y : Rat} {k l : Nat} (h : SpotV w V x y k) (e : k ≤ l) : SpotV w V x y l := by
  obtain ⟨b, A, n, c, C, m, d, b', A', n', c', C', m', d', e1, h1, h2⟩ := h
  exact ⟨b, A, n, c, C, m, d, b', A', n', c', C', m', d', e1, h1.mono e, h2.mono e⟩
theorem QB_half : QB (mkRat 1 2) 1 := QB_mkRat 1 2 1 (by rw [show (1 : Int).natAbs = 1 from rfl, len1]; exact Nat.le_refl _) (by rw [len_lt_base (by omega) (by omega)]; exact Nat.le_refl _) (Nat.le_refl _)
end Go.Proofs.YtpglnfccmhkocaaGreat
namespace Go.Proofs.YtpglnfccmhkocaaGreat
open Go.RowKit

theorem FracR.mono {w : World} {V : Value} {q : Rat} {k l : Nat} (h : FracR w V q k) (e : k ≤ l) : FracR w V q l := by
  obtain ⟨neg, N, D, n, m, va, vd, e1, h1, h2, h3, h4, h5⟩ := h
  exact ⟨neg, N, D, n, m, va, vd, e1, h1, h2, h3, by omega, by omega⟩
/-- A spot as it comes in, all parts of at most k words, whatever they are. -/
def SpotR (w : World) (V : Value) (x y : Rat) (k : Nat) : Prop := ∃ b A n c C m d b' A' n' c' C' m' d', V = .agg #[.bool b, .slice A n c, .slice C m d, .bool b', .slice A' n' c', .slice C' m' d'] ∧
  FracR w (.agg #[.bool b, .slice A n c, .slice C m d]) x k ∧ FracR w (.agg #[.bool b', .slice A' n' c', .slice C' m' d']) y k
theorem SpotR.kept {w w' : World} {V : Value} {x y : Rat} {k : Nat} (h : SpotR w V x y k) (g : Keeps w w') : SpotR w' V x y k := by
  obtain ⟨b, A, n, c, C, m, d, b', A', n', c', C', m', d', e, h1, h2⟩ := h
  exact ⟨b, A, n, c, C, m, d, b', A', n', c', C', m', d', e, h1.kept g, h2.kept g⟩
theorem SpotR.v {w : World} {V : Value} {x y : Rat} {k : Nat} (h : SpotR w V x y k) : SpotV w V x y k := by
  obtain ⟨b, A, n, c, C, m, d, b', A', n', c', C', m', d', e, h1, h2⟩ := h
  exact ⟨b, A, n, c, C, m, d, b', A', n', c', C', m', d', e, h1.v, h2.v⟩
theorem SpotR.mono {w : World} {V : Value} {x y : Rat} {k l : Nat} (h : SpotR w V x y k) (e : k ≤ l) : SpotR w V x y l := by
  obtain ⟨b, A, n, c, C, m, d, b', A', n', c', C', m', d', e1, h1, h2⟩ := h
  exact ⟨b, A, n, c, C, m, d, b', A', n', c', C', m', d', e1, h1.mono e, h2.mono e⟩
theorem SpotR.laid {w : World} {V : Value} {x y : Rat} {k : Nat} (h : SpotR w V x y k) : ∃ b A n c C m d b' A' n' c' C' m' d', V = .agg #[.bool b, .slice A n c, .slice C m d, .bool b', .slice A' n' c', .slice C' m' d'] ∧
    Hid (FracR w (.agg #[.bool b, .slice A n c, .slice C m d]) x k) ∧ Hid (FracR w (.agg #[.bool b', .slice A' n' c', .slice C' m' d']) y k) ∧
    Hid (SpotR w (.agg #[.bool b, .slice A n c, .slice C m d, .bool b', .slice A' n' c', .slice C' m' d']) x y k) := by
  have h' := h
  obtain ⟨b, A, n, c, C, m, d, b', A', n', c', C', m', d', rfl, h1, h2⟩ := h'
  exact ⟨b, A, n, c, C, m, d, b', A', n', c', C', m', d', rfl, h1, h2, h⟩
theorem SpotC.r {w : World} {V : Value} {x y : Rat} {k : Nat} (h : SpotC w V x y) (b1 : QB x k) (b2 : QB y k) : SpotR w V x y k := by
  obtain ⟨b, A, n, c, C, m, d, b', A', n', c', C', m', d', e, h1, h2⟩ := h
  exact ⟨b, A, n, c, C, m, d, b', A', n', c', C', m', d', e, h1.r b1, h2.r b2⟩

/-- Twice the area of three points, as the document writes it. -/
def areaQ (ax ay bx b_y cx cy : Rat) : Rat := ax * (b_y - cy) + bx * (cy - ay) + cx * (ay - b_y)

set_option maxRecDepth 100000 in
set_option maxHeartbeats 8000000 in
theorem area_any (Va Vb Vc : Value) (ax ay bx b_y cx cy : Rat) (k : Nat) (w : World) (ha : SpotR w Va ax ay k) (hb : SpotR w Vb bx b_y k) (hc : SpotR w Vc cx cy k) (hk : 1 ≤ k) (hs : k < 67108864) :
    Calls Tryz.prog 37 #[Va, Vb, Vc] w fun e w' => ∃ V, e = .returned V ∧ FracC w' V (areaQ ax ay bx b_y cx cy) ∧ Grew w w' := by
  obtain ⟨b1, A1, n1, c1, C1, m1, d1, b2, A2, n2, c2, C2, m2, d2, rfl, Fa, Fb, -⟩ := ha.laid
  obtain ⟨b3, A3, n3, c3, C3, m3, d3, b4, A4, n4, c4, C4, m4, d4, rfl, Fc, Fd, -⟩ := hb.laid
  obtain ⟨b5, A5, n5, c5, C5, m5, d5, b6, A6, n6, c6, C6, m6, d6, rfl, Fe, Ff, -⟩ := hc.laid
  clear ha hb hc
  have hk0 : 1 ≤ k ∧ 1 ≤ k := ⟨hk, hk⟩
  have hk1 : 1 ≤ k ∧ 1 ≤ k + k + 1 := by omega
  have hk2 : 1 ≤ k + (k + k + 1) ∧ 1 ≤ k + (k + k + 1) := by omega
  have hk3 : 1 ≤ (k + (k + k + 1)) + (k + (k + k + 1)) + 1 ∧ 1 ≤ k + (k + k + 1) := by omega
  have hs0 : k < 1073741824 ∧ k < 1073741824 := by omega
  have hs1 : k < 1073741824 ∧ k + k + 1 < 1073741824 := by omega
  have hs2 : k + (k + k + 1) < 1073741824 ∧ k + (k + k + 1) < 1073741824 := by omega
  have hs3 : (k + (k + k + 1)) + (k + (k + k + 1)) + 1 < 1073741824 ∧ k + (k + k + 1) < 1073741824 := by omega
  have q1 := Lib.hid (Fa.out.v.qb hk)
  have q2 := Lib.hid (Fb.out.v.qb hk)
  have q3 := Lib.hid (Fc.out.v.qb hk)
  have q4 := Lib.hid (Fd.out.v.qb hk)
  have q5 := Lib.hid (Fe.out.v.qb hk)
  have q6 := Lib.hid (Ff.out.v.qb hk)
  have q7 := Lib.hid (q4.out.sub q6.out)
  have q8 := Lib.hid (q6.out.sub q2.out)
  have q9 := Lib.hid (q2.out.sub q4.out)
  have qa := Lib.hid (q1.out.mul q7.out)
  have qb := Lib.hid (q3.out.mul q8.out)
  have qc := Lib.hid (q5.out.mul q9.out)
  have qd := Lib.hid (qa.out.add qb.out)
  go_enter Tryz.func37, Tryz.ntmps37
  go_wp2_with fail
  refine gen_wp ?_
  intro W0 hW0
  have G0 : Grew w W0 := by rw [hW0]; exact ((((Grew.refl w).alloc _).alloc _).alloc _).alloc _
  have P : Box3 W0 (w.heap.size) 0 (.bool b1) (.slice A1 n1 c1) (.slice C1 m1 d1) := by rw [hW0]; exact ⟨by simp [go_sem], by simp [go_sem], by simp [go_sem]⟩
  replace P := Lib.hid P
  have Py : Box3 W0 (w.heap.size) 3 (.bool b2) (.slice A2 n2 c2) (.slice C2 m2 d2) := by rw [hW0]; exact ⟨by simp [go_sem], by simp [go_sem], by simp [go_sem]⟩
  replace Py := Lib.hid Py
  have Q : Box3 W0 (w.heap.size + 1) 0 (.bool b3) (.slice A3 n3 c3) (.slice C3 m3 d3) := by rw [hW0]; exact ⟨by simp [go_sem], by simp [go_sem], by simp [go_sem]⟩
  replace Q := Lib.hid Q
  have Qy : Box3 W0 (w.heap.size + 1) 3 (.bool b4) (.slice A4 n4 c4) (.slice C4 m4 d4) := by rw [hW0]; exact ⟨by simp [go_sem], by simp [go_sem], by simp [go_sem]⟩
  replace Qy := Lib.hid Qy
  have S : Box3 W0 (w.heap.size + 1 + 1) 0 (.bool b5) (.slice A5 n5 c5) (.slice C5 m5 d5) := by rw [hW0]; exact ⟨by simp [go_sem], by simp [go_sem], by simp [go_sem]⟩
  replace S := Lib.hid S
  have Sy : Box3 W0 (w.heap.size + 1 + 1) 3 (.bool b6) (.slice A6 n6 c6) (.slice C6 m6 d6) := by rw [hW0]; exact ⟨by simp [go_sem], by simp [go_sem], by simp [go_sem]⟩
  replace Sy := Lib.hid Sy
  have R : Res3 W0 (w.heap.size + 1 + 1 + 1) 0 (.bool false) (.slice none 0 0) (.slice none 0 0) := by rw [hW0]; exact ⟨by simp [go_sem], by simp [go_sem], by simp [go_sem], by simp [go_sem], by simp [go_sem], by simp [go_sem], by simp⟩
  replace R := Lib.hid R
  have z0 : w.heap.size < W0.heap.size := by rw [hW0]; simp <;> omega
  replace z0 := Lib.hid z0
  have z1 : w.heap.size + 1 < W0.heap.size := by rw [hW0]; simp <;> omega
  replace z1 := Lib.hid z1
  have z2 : w.heap.size + 1 + 1 < W0.heap.size := by rw [hW0]; simp <;> omega
  replace z2 := Lib.hid z2
  have z3 : w.heap.size + 1 + 1 + 1 < W0.heap.size := by rw [hW0]; simp <;> omega
  replace z3 := Lib.hid z3
  clear hW0
  replace Fa := Lib.hid (Fa.out.kept G0.keeps)
  replace Fb := Lib.hid (Fb.out.kept G0.keeps)
  replace Fc := Lib.hid (Fc.out.kept G0.keeps)
  replace Fd := Lib.hid (Fd.out.kept G0.keeps)
  replace Fe := Lib.hid (Fe.out.kept G0.keeps)
  replace Ff := Lib.hid (Ff.out.kept G0.keeps)
  replace G0 := Lib.hid G0
  go_upto_region 1 with fail
  go_cut [7] (fun s7 wx => ∃ e7 : Nat, s7 = .pointer (some ⟨e7, 0, none⟩) ∧ At3 wx e7 (fun w V => FracC w V (ax * (b_y - cy) + bx * (cy - ay))) ∧ W0.heap.size ≤ e7 ∧ Grew W0 wx)
  · have KS : ∀ X, Grew W0 X → (fun w' => w'.cell? ⟨w.heap.size, 0, none⟩ = some (.bool b1) ∧ w'.cell? ⟨w.heap.size, 1, none⟩ = some (.slice A1 n1 c1) ∧ w'.cell? ⟨w.heap.size, 2, none⟩ = some (.slice C1 m1 d1) ∧ w'.cell? ⟨w.heap.size, 3, none⟩ = some (.bool b2) ∧ w'.cell? ⟨w.heap.size, 4, none⟩ = some (.slice A2 n2 c2) ∧ w'.cell? ⟨w.heap.size, 5, none⟩ = some (.slice C2 m2 d2) ∧ w'.cell? ⟨w.heap.size + 1, 0, none⟩ = some (.bool b3) ∧ w'.cell? ⟨w.heap.size + 1, 1, none⟩ = some (.slice A3 n3 c3) ∧ w'.cell? ⟨w.heap.size + 1, 2, none⟩ = some (.slice C3 m3 d3) ∧ w'.cell? ⟨w.heap.size + 1, 3, none⟩ = some (.bool b4) ∧ w'.cell? ⟨w.heap.size + 1, 4, none⟩ = some (.slice A4 n4 c4) ∧ w'.cell? ⟨w.heap.size + 1, 5, none⟩ = some (.slice C4 m4 d4) ∧ w'.cell? ⟨w.heap.size + 1 + 1, 3, none⟩ = some (.bool b6) ∧ w'.cell? ⟨w.heap.size + 1 + 1, 4, none⟩ = some (.slice A6 n6 c6) ∧ w'.cell? ⟨w.heap.size + 1 + 1, 5, none⟩ = some (.slice C6 m6 d6)) X := fun X g => ⟨g.cell P.out.p0, g.cell P.out.p1, g.cell P.out.p2, g.cell Py.out.p0, g.cell Py.out.p1, g.cell Py.out.p2, g.cell Q.out.p0, g.cell Q.out.p1, g.cell Q.out.p2, g.cell Qy.out.p0, g.cell Qy.out.p1, g.cell Qy.out.p2, g.cell Sy.out.p0, g.cell Sy.out.p1, g.cell Sy.out.p2⟩
    replace KS := Lib.hid KS
    go_region_held3 (fun w' => w'.cell? ⟨w.heap.size, 0, none⟩ = some (.bool b1) ∧ w'.cell? ⟨w.heap.size, 1, none⟩ = some (.slice A1 n1 c1) ∧ w'.cell? ⟨w.heap.size, 2, none⟩ = some (.slice C1 m1 d1) ∧ w'.cell? ⟨w.heap.size, 3, none⟩ = some (.bool b2) ∧ w'.cell? ⟨w.heap.size, 4, none⟩ = some (.slice A2 n2 c2) ∧ w'.cell? ⟨w.heap.size, 5, none⟩ = some (.slice C2 m2 d2) ∧ w'.cell? ⟨w.heap.size + 1, 0, none⟩ = some (.bool b3) ∧ w'.cell? ⟨w.heap.size + 1, 1, none⟩ = some (.slice A3 n3 c3) ∧ w'.cell? ⟨w.heap.size + 1, 2, none⟩ = some (.slice C3 m3 d3) ∧ w'.cell? ⟨w.heap.size + 1, 3, none⟩ = some (.bool b4) ∧ w'.cell? ⟨w.heap.size + 1, 4, none⟩ = some (.slice A4 n4 c4) ∧ w'.cell? ⟨w.heap.size + 1, 5, none⟩ = some (.slice C4 m4 d4) ∧ w'.cell? ⟨w.heap.size + 1 + 1, 3, none⟩ = some (.bool b6) ∧ w'.cell? ⟨w.heap.size + 1 + 1, 4, none⟩ = some (.slice A6 n6 c6) ∧ w'.cell? ⟨w.heap.size + 1 + 1, 5, none⟩ = some (.slice C6 m6 d6))
      (first | (refine KS.out _ ?_; (repeat (first | with_reducible exact Grew.refl _ | with_reducible refine Grew.setCell ?_ (by simp <;> omega) _ | with_reducible refine Grew.alloc ?_ _ | with_reducible refine Grew.drew ?_ | with_reducible apply Grew.trans ?_ g5 | with_reducible apply Grew.trans ?_ g4 | with_reducible apply Grew.trans ?_ g3 | with_reducible apply Grew.trans ?_ g2 | with_reducible apply Grew.trans ?_ g1 )); done))
      (first | (go_at_call_of 57 (Value.agg #[.bool b4, .slice A4 n4 c4, .slice C4 m4 d4]); refine (rfsub_any _ _ b_y cy k k _ (Fd.out.kept (Grew.keeps (by (repeat (first | with_reducible exact Grew.refl _ | with_reducible refine Grew.setCell ?_ (by simp <;> omega) _ | with_reducible refine Grew.alloc ?_ _ | with_reducible refine Grew.drew ?_ ))))) (Ff.out.kept (Grew.keeps (by (repeat (first | with_reducible exact Grew.refl _ | with_reducible refine Grew.setCell ?_ (by simp <;> omega) _ | with_reducible refine Grew.alloc ?_ _ | with_reducible refine Grew.drew ?_ ))))) hk0 hs0).mono ?_; rintro e w1 ⟨V1, rfl, hV1, g1⟩; have zn1 : W0.heap.size ≤ w1.heap.size := (by have t := g1.size; (try simp at t); omega); obtain ⟨b13, A13, n13, c13, C13, m13, d13, rfl, X1⟩ := hV1.laid; clear hV1; have Y1 := Lib.hid (X1.out.r q7.out); (first | (with_reducible have h0_0 := res_new g1) | (with_reducible have h0_0 := res_newD g1) | skip)) | (go_at_call_of 56 (Value.agg #[.bool b1, .slice A1 n1 c1, .slice C1 m1 d1]); refine (rfmul_any _ _ ax (b_y - cy) k (k + k + 1) _ (Fa.out.kept (Grew.keeps (by (repeat (first | with_reducible exact Grew.refl _ | with_reducible refine Grew.setCell ?_ (by simp <;> omega) _ | with_reducible refine Grew.alloc ?_ _ | with_reducible refine Grew.drew ?_ | with_reducible apply Grew.trans ?_ g1 ))))) (Y1.out.kept (Grew.keeps (by (repeat (first | with_reducible exact Grew.refl _ | with_reducible refine Grew.setCell ?_ (by simp <;> omega) _ | with_reducible refine Grew.alloc ?_ _ | with_reducible refine Grew.drew ?_ | with_reducible apply Grew.trans ?_ g1 ))))) hk1 hs1).mono ?_; rintro e w2 ⟨V2, rfl, hV2, g2⟩; have zn2 : w1.heap.size ≤ w2.heap.size := (by have t := g2.size; (try simp at t); omega); obtain ⟨b14, A14, n14, c14, C14, m14, d14, rfl, X2⟩ := hV2.laid; clear hV2; have Y2 := Lib.hid (X2.out.r qa.out); (try replace h0_0 : Res3 w2 (W0.heap.size) 0 (.bool false) (.slice none 0 0) (.slice none 0 0) := h0_0.grew (by (repeat (first | with_reducible exact Grew.refl _ | with_reducible refine Grew.setCell ?_ (by simp <;> omega) _ | with_reducible refine Grew.alloc ?_ _ | with_reducible refine Grew.drew ?_ | with_reducible apply Grew.trans ?_ g2 )))); (first | (with_reducible have h1_0 := res_new g2) | (with_reducible have h1_0 := res_newD g2) | skip)) | (go_at_call 57; refine (rfsub_any _ _ cy ay k k _ (Ff.out.kept (Grew.keeps (by (repeat (first | with_reducible exact Grew.refl _ | with_reducible refine Grew.setCell ?_ (by simp <;> omega) _ | with_reducible refine Grew.alloc ?_ _ | with_reducible refine Grew.drew ?_ | with_reducible apply Grew.trans ?_ g2 | with_reducible apply Grew.trans ?_ g1 ))))) (Fb.out.kept (Grew.keeps (by (repeat (first | with_reducible exact Grew.refl _ | with_reducible refine Grew.setCell ?_ (by simp <;> omega) _ | with_reducible refine Grew.alloc ?_ _ | with_reducible refine Grew.drew ?_ | with_reducible apply Grew.trans ?_ g2 | with_reducible apply Grew.trans ?_ g1 ))))) hk0 hs0).mono ?_; rintro e w3 ⟨V3, rfl, hV3, g3⟩; have zn3 : w2.heap.size ≤ w3.heap.size := (by have t := g3.size; (try simp at t); omega); obtain ⟨b15, A15, n15, c15, C15, m15, d15, rfl, X3⟩ := hV3.laid; clear hV3; have Y3 := Lib.hid (X3.out.r q8.out); (try replace h0_0 : Res3 w3 (W0.heap.size) 0 (.bool false) (.slice none 0 0) (.slice none 0 0) := h0_0.grew (by (repeat (first | with_reducible exact Grew.refl _ | with_reducible refine Grew.setCell ?_ (by simp <;> omega) _ | with_reducible refine Grew.alloc ?_ _ | with_reducible refine Grew.drew ?_ | with_reducible apply Grew.trans ?_ g3 )))); (try replace h1_0 : Res3 w3 (w1.heap.size) 0 (.bool false) (.slice none 0 0) (.slice none 0 0) := h1_0.grew (by (repeat (first | with_reducible exact Grew.refl _ | with_reducible refine Grew.setCell ?_ (by simp <;> omega) _ | with_reducible refine Grew.alloc ?_ _ | with_reducible refine Grew.drew ?_ | with_reducible apply Grew.trans ?_ g3 )))); (first | (with_reducible have h2_0 := res_new g3) | (with_reducible have h2_0 := res_newD g3) | skip)) | (go_at_call 56; refine (rfmul_any _ _ bx (cy - ay) k (k + k + 1) _ (Fc.out.kept (Grew.keeps (by (repeat (first | with_reducible exact Grew.refl _ | with_reducible refine Grew.setCell ?_ (by simp <;> omega) _ | with_reducible refine Grew.alloc ?_ _ | with_reducible refine Grew.drew ?_ | with_reducible apply Grew.trans ?_ g3 | with_reducible apply Grew.trans ?_ g2 | with_reducible apply Grew.trans ?_ g1 ))))) (Y3.out.kept (Grew.keeps (by (repeat (first | with_reducible exact Grew.refl _ | with_reducible refine Grew.setCell ?_ (by simp <;> omega) _ | with_reducible refine Grew.alloc ?_ _ | with_reducible refine Grew.drew ?_ | with_reducible apply Grew.trans ?_ g3 | with_reducible apply Grew.trans ?_ g2 | with_reducible apply Grew.trans ?_ g1 ))))) hk1 hs1).mono ?_; rintro e w4 ⟨V4, rfl, hV4, g4⟩; have zn4 : w3.heap.size ≤ w4.heap.size := (by have t := g4.size; (try simp at t); omega); obtain ⟨b16, A16, n16, c16, C16, m16, d16, rfl, X4⟩ := hV4.laid; clear hV4; have Y4 := Lib.hid (X4.out.r qb.out); (try replace h0_0 : Res3 w4 (W0.heap.size) 0 (.bool false) (.slice none 0 0) (.slice none 0 0) := h0_0.grew (by (repeat (first | with_reducible exact Grew.refl _ | with_reducible refine Grew.setCell ?_ (by simp <;> omega) _ | with_reducible refine Grew.alloc ?_ _ | with_reducible refine Grew.drew ?_ | with_reducible apply Grew.trans ?_ g4 )))); (try replace h1_0 : Res3 w4 (w1.heap.size) 0 (.bool false) (.slice none 0 0) (.slice none 0 0) := h1_0.grew (by (repeat (first | with_reducible exact Grew.refl _ | with_reducible refine Grew.setCell ?_ (by simp <;> omega) _ | with_reducible refine Grew.alloc ?_ _ | with_reducible refine Grew.drew ?_ | with_reducible apply Grew.trans ?_ g4 )))); (try replace h2_0 : Res3 w4 (w2.heap.size) 0 (.bool false) (.slice none 0 0) (.slice none 0 0) := h2_0.grew (by (repeat (first | with_reducible exact Grew.refl _ | with_reducible refine Grew.setCell ?_ (by simp <;> omega) _ | with_reducible refine Grew.alloc ?_ _ | with_reducible refine Grew.drew ?_ | with_reducible apply Grew.trans ?_ g4 )))); (first | (with_reducible have h3_0 := res_new g4) | (with_reducible have h3_0 := res_newD g4) | skip)) | (go_at_call 55; refine (rfadd_any _ _ (ax * (b_y - cy)) (bx * (cy - ay)) _ _ _ (Y2.out.kept (Grew.keeps (by (repeat (first | with_reducible exact Grew.refl _ | with_reducible refine Grew.setCell ?_ (by simp <;> omega) _ | with_reducible refine Grew.alloc ?_ _ | with_reducible refine Grew.drew ?_ | with_reducible apply Grew.trans ?_ g4 | with_reducible apply Grew.trans ?_ g3 | with_reducible apply Grew.trans ?_ g2 | with_reducible apply Grew.trans ?_ g1 ))))) (Y4.out.kept (Grew.keeps (by (repeat (first | with_reducible exact Grew.refl _ | with_reducible refine Grew.setCell ?_ (by simp <;> omega) _ | with_reducible refine Grew.alloc ?_ _ | with_reducible refine Grew.drew ?_ | with_reducible apply Grew.trans ?_ g4 | with_reducible apply Grew.trans ?_ g3 | with_reducible apply Grew.trans ?_ g2 | with_reducible apply Grew.trans ?_ g1 ))))) hk2 hs2).mono ?_; rintro e w5 ⟨V5, rfl, hV5, g5⟩; have zn5 : w4.heap.size ≤ w5.heap.size := (by have t := g5.size; (try simp at t); omega); obtain ⟨b17, A17, n17, c17, C17, m17, d17, rfl, X5⟩ := hV5.laid; clear hV5; (try replace h0_0 : Res3 w5 (W0.heap.size) 0 (.bool false) (.slice none 0 0) (.slice none 0 0) := h0_0.grew (by (repeat (first | with_reducible exact Grew.refl _ | with_reducible refine Grew.setCell ?_ (by simp <;> omega) _ | with_reducible refine Grew.alloc ?_ _ | with_reducible refine Grew.drew ?_ | with_reducible apply Grew.trans ?_ g5 )))); (try replace h1_0 : Res3 w5 (w1.heap.size) 0 (.bool false) (.slice none 0 0) (.slice none 0 0) := h1_0.grew (by (repeat (first | with_reducible exact Grew.refl _ | with_reducible refine Grew.setCell ?_ (by simp <;> omega) _ | with_reducible refine Grew.alloc ?_ _ | with_reducible refine Grew.drew ?_ | with_reducible apply Grew.trans ?_ g5 )))); (try replace h2_0 : Res3 w5 (w2.heap.size) 0 (.bool false) (.slice none 0 0) (.slice none 0 0) := h2_0.grew (by (repeat (first | with_reducible exact Grew.refl _ | with_reducible refine Grew.setCell ?_ (by simp <;> omega) _ | with_reducible refine Grew.alloc ?_ _ | with_reducible refine Grew.drew ?_ | with_reducible apply Grew.trans ?_ g5 )))); (try replace h3_0 : Res3 w5 (w3.heap.size) 0 (.bool false) (.slice none 0 0) (.slice none 0 0) := h3_0.grew (by (repeat (first | with_reducible exact Grew.refl _ | with_reducible refine Grew.setCell ?_ (by simp <;> omega) _ | with_reducible refine Grew.alloc ?_ _ | with_reducible refine Grew.drew ?_ | with_reducible apply Grew.trans ?_ g5 )))); (first | (with_reducible have h4_0 := res_new g5) | (with_reducible have h4_0 := res_newD g5) | skip); (try (have tt := h0_0; obtain ⟨h0_00, h0_01, h0_02, h0_0f0, h0_0f1, h0_0f2, h0_0s⟩ := tt)); (try (have tt := h1_0; obtain ⟨h1_00, h1_01, h1_02, h1_0f0, h1_0f1, h1_0f2, h1_0s⟩ := tt)); (try (have tt := h2_0; obtain ⟨h2_00, h2_01, h2_02, h2_0f0, h2_0f1, h2_0f2, h2_0s⟩ := tt)); (try (have tt := h3_0; obtain ⟨h3_00, h3_01, h3_02, h3_0f0, h3_0f1, h3_0f2, h3_0s⟩ := tt)); (try (have tt := h4_0; obtain ⟨h4_00, h4_01, h4_02, h4_0f0, h4_0f1, h4_0f2, h4_0s⟩ := tt))))
    all_goals
      go_wp2_with fail
      go_meet
      have XX5 := Lib.hid (X5.out.kept (Grew.keeps (w := w5) (w' := w5) (by (repeat (first | with_reducible exact Grew.refl _ | with_reducible refine Grew.setCell ?_ (by simp <;> omega) _ | with_reducible refine Grew.alloc ?_ _ | with_reducible refine Grew.drew ?_ )))))
      refine ⟨_, rfl, ?_, ?_, ?_⟩
      · repeat (first | with_reducible exact h0_0  | with_reducible exact h1_0  | with_reducible exact h2_0  | with_reducible exact h3_0  | with_reducible exact h4_0 | with_reducible exact Keeps.refl _ | with_reducible refine At3.of_store (w := w5) (Rd.fracC _) ?_ ?_ XX5.out | with_reducible refine At3.of_alloc (w := w5) (Rd.fracC _) (by simp) ?_ XX5.out | with_reducible refine At3.store_far (Rd.fracC _) ?_ ?_ (by omega) | with_reducible refine At3.grew (Rd.fracC _) ?_ ((Grew.refl _).alloc _) | with_reducible refine Keeps.store ?_ ?_ | with_reducible refine Keeps.alloc ?_ | with_reducible refine Res3.store_far ?_ ?_ (by omega))
      · omega
      · (repeat (first | with_reducible exact Grew.refl _ | with_reducible refine Grew.setCell ?_ (by simp <;> omega) _ | with_reducible refine Grew.alloc ?_ _ | with_reducible refine Grew.drew ?_ | with_reducible apply Grew.trans ?_ g5 | with_reducible apply Grew.trans ?_ g4 | with_reducible apply Grew.trans ?_ g3 | with_reducible apply Grew.trans ?_ g2 | with_reducible apply Grew.trans ?_ g1 ))
  obtain ⟨e7, rfl, L, E7, GA⟩ := hcut
  have y107 := Lib.hid (Nat.lt_of_lt_of_le (R.out).2.2.2.2.2.2 E7)
  replace R := Lib.hid (R.out.grew GA)
  replace P := Lib.hid (P.out.grew GA)
  replace Py := Lib.hid (Py.out.grew GA)
  replace Q := Lib.hid (Q.out.grew GA)
  replace Qy := Lib.hid (Qy.out.grew GA)
  replace S := Lib.hid (S.out.grew GA)
  replace Sy := Lib.hid (Sy.out.grew GA)
  replace z0 := Lib.hid (lt_grew z0.out GA)
  replace z1 := Lib.hid (lt_grew z1.out GA)
  replace z2 := Lib.hid (lt_grew z2.out GA)
  replace z3 := Lib.hid (lt_grew z3.out GA)
  replace Fa := Lib.hid (Fa.out.kept GA.keeps)
  replace Fb := Lib.hid (Fb.out.kept GA.keeps)
  replace Fc := Lib.hid (Fc.out.kept GA.keeps)
  replace Fd := Lib.hid (Fd.out.kept GA.keeps)
  replace Fe := Lib.hid (Fe.out.kept GA.keeps)
  replace Ff := Lib.hid (Ff.out.kept GA.keeps)
  replace G0 := Lib.hid (G0.out.trans GA)
  obtain ⟨b107, A107, n107, c107, C107, m107, d107, L, XL, Z7⟩ := L
  replace L := Lib.hid L
  replace XL := Lib.hid XL
  replace Z7 := Lib.hid Z7
  clear E7
  clear GA
  have YL := Lib.hid (XL.out.r qd.out)
  -- YL
  go_upto_region 2 with fail
  have gd : Grew wc wc.drew := (Grew.refl wc).drew
  replace R := Lib.hid (R.out.grew gd)
  replace P := Lib.hid (P.out.grew gd)
  replace Py := Lib.hid (Py.out.grew gd)
  replace Q := Lib.hid (Q.out.grew gd)
  replace Qy := Lib.hid (Qy.out.grew gd)
  replace S := Lib.hid (S.out.grew gd)
  replace Sy := Lib.hid (Sy.out.grew gd)
  replace L := Lib.hid (L.out.grew gd)
  replace z0 := Lib.hid (lt_grew z0.out gd)
  replace z1 := Lib.hid (lt_grew z1.out gd)
  replace z2 := Lib.hid (lt_grew z2.out gd)
  replace z3 := Lib.hid (lt_grew z3.out gd)
  replace Z7 := Lib.hid (lt_grew Z7.out gd)
  replace Fa := Lib.hid (Fa.out.kept gd.keeps)
  replace Fb := Lib.hid (Fb.out.kept gd.keeps)
  replace Fc := Lib.hid (Fc.out.kept gd.keeps)
  replace Fd := Lib.hid (Fd.out.kept gd.keeps)
  replace Fe := Lib.hid (Fe.out.kept gd.keeps)
  replace Ff := Lib.hid (Ff.out.kept gd.keeps)
  replace XL := Lib.hid (XL.out.kept gd.keeps)
  replace YL := Lib.hid (YL.out.kept gd.keeps)
  replace gd := Lib.hid gd
  have ZPy := Py
  have ZQy := Qy
  have ZS := S
  have ZL := L
  go_region_held3 (fun w' => w'.cell? ⟨w.heap.size, 3, none⟩ = some (.bool b2) ∧ w'.cell? ⟨w.heap.size, 4, none⟩ = some (.slice A2 n2 c2) ∧ w'.cell? ⟨w.heap.size, 5, none⟩ = some (.slice C2 m2 d2) ∧ w'.cell? ⟨w.heap.size + 1, 3, none⟩ = some (.bool b4) ∧ w'.cell? ⟨w.heap.size + 1, 4, none⟩ = some (.slice A4 n4 c4) ∧ w'.cell? ⟨w.heap.size + 1, 5, none⟩ = some (.slice C4 m4 d4) ∧ w'.cell? ⟨w.heap.size + 1 + 1, 0, none⟩ = some (.bool b5) ∧ w'.cell? ⟨w.heap.size + 1 + 1, 1, none⟩ = some (.slice A5 n5 c5) ∧ w'.cell? ⟨w.heap.size + 1 + 1, 2, none⟩ = some (.slice C5 m5 d5) ∧ w'.cell? ⟨e7, 0, none⟩ = some (.bool b107) ∧ w'.cell? ⟨e7, 1, none⟩ = some (.slice A107 n107 c107) ∧ w'.cell? ⟨e7, 2, none⟩ = some (.slice C107 m107 d107))
    (first | (with_reducible exact ⟨ZPy.out.p0, ZPy.out.p1, ZPy.out.p2, ZQy.out.p0, ZQy.out.p1, ZQy.out.p2, ZS.out.p0, ZS.out.p1, ZS.out.p2, ZL.out.p0, ZL.out.p1, ZL.out.p2⟩) | (with_reducible exact ⟨g6.cell ZPy.out.p0, g6.cell ZPy.out.p1, g6.cell ZPy.out.p2, g6.cell ZQy.out.p0, g6.cell ZQy.out.p1, g6.cell ZQy.out.p2, g6.cell ZS.out.p0, g6.cell ZS.out.p1, g6.cell ZS.out.p2, g6.cell ZL.out.p0, g6.cell ZL.out.p1, g6.cell ZL.out.p2⟩) | (with_reducible exact ⟨(g6.trans g7).cell ZPy.out.p0, (g6.trans g7).cell ZPy.out.p1, (g6.trans g7).cell ZPy.out.p2, (g6.trans g7).cell ZQy.out.p0, (g6.trans g7).cell ZQy.out.p1, (g6.trans g7).cell ZQy.out.p2, (g6.trans g7).cell ZS.out.p0, (g6.trans g7).cell ZS.out.p1, (g6.trans g7).cell ZS.out.p2, (g6.trans g7).cell ZL.out.p0, (g6.trans g7).cell ZL.out.p1, (g6.trans g7).cell ZL.out.p2⟩) | (with_reducible exact ⟨((g6.trans g7).trans g8).cell ZPy.out.p0, ((g6.trans g7).trans g8).cell ZPy.out.p1, ((g6.trans g7).trans g8).cell ZPy.out.p2, ((g6.trans g7).trans g8).cell ZQy.out.p0, ((g6.trans g7).trans g8).cell ZQy.out.p1, ((g6.trans g7).trans g8).cell ZQy.out.p2, ((g6.trans g7).trans g8).cell ZS.out.p0, ((g6.trans g7).trans g8).cell ZS.out.p1, ((g6.trans g7).trans g8).cell ZS.out.p2, ((g6.trans g7).trans g8).cell ZL.out.p0, ((g6.trans g7).trans g8).cell ZL.out.p1, ((g6.trans g7).trans g8).cell ZL.out.p2⟩) | (with_reducible exact ⟨other3 (o := 0) (by omega) (((g6.trans g7).trans g8).cell ZPy.out.p0), other3 (o := 0) (by omega) (((g6.trans g7).trans g8).cell ZPy.out.p1), other3 (o := 0) (by omega) (((g6.trans g7).trans g8).cell ZPy.out.p2), other3 (o := 0) (by omega) (((g6.trans g7).trans g8).cell ZQy.out.p0), other3 (o := 0) (by omega) (((g6.trans g7).trans g8).cell ZQy.out.p1), other3 (o := 0) (by omega) (((g6.trans g7).trans g8).cell ZQy.out.p2), other3 (o := 0) (by omega) (((g6.trans g7).trans g8).cell ZS.out.p0), other3 (o := 0) (by omega) (((g6.trans g7).trans g8).cell ZS.out.p1), other3 (o := 0) (by omega) (((g6.trans g7).trans g8).cell ZS.out.p2), other3 (o := 0) (by have := y107.out; omega) (((g6.trans g7).trans g8).cell ZL.out.p0), other3 (o := 0) (by have := y107.out; omega) (((g6.trans g7).trans g8).cell ZL.out.p1), other3 (o := 0) (by have := y107.out; omega) (((g6.trans g7).trans g8).cell ZL.out.p2)⟩))
    (first | (go_at_call 57; refine (rfsub_any _ _ ay b_y k k _ Fb.out Fd.out hk0 hs0).mono ?_; rintro e w6 ⟨V6, rfl, hV6, g6⟩; have Y6 := Lib.hid (hV6.r q9.out); obtain ⟨b13, A13, n13, c13, C13, m13, d13, rfl, hX6⟩ := hV6.laid; have X6 := Y6; clear hV6 Y6 hX6; replace R := Lib.hid (R.out.grew g6); replace P := Lib.hid (P.out.grew g6); replace Py := Lib.hid (Py.out.grew g6); replace Q := Lib.hid (Q.out.grew g6); replace Qy := Lib.hid (Qy.out.grew g6); replace S := Lib.hid (S.out.grew g6); replace Sy := Lib.hid (Sy.out.grew g6); replace L := Lib.hid (L.out.grew g6); replace z0 := Lib.hid (lt_grew z0.out g6); replace z1 := Lib.hid (lt_grew z1.out g6); replace z2 := Lib.hid (lt_grew z2.out g6); replace z3 := Lib.hid (lt_grew z3.out g6); replace Z7 := Lib.hid (lt_grew Z7.out g6); replace Fa := Lib.hid (Fa.out.kept g6.keeps); replace Fb := Lib.hid (Fb.out.kept g6.keeps); replace Fc := Lib.hid (Fc.out.kept g6.keeps); replace Fd := Lib.hid (Fd.out.kept g6.keeps); replace Fe := Lib.hid (Fe.out.kept g6.keeps); replace Ff := Lib.hid (Ff.out.kept g6.keeps); replace XL := Lib.hid (XL.out.kept g6.keeps); replace YL := Lib.hid (YL.out.kept g6.keeps)) | (go_at_call 56; refine (rfmul_any _ _ cx (ay - b_y) k (k + k + 1) _ Fe.out X6.out hk1 hs1).mono ?_; rintro e w7 ⟨V7, rfl, hV7, g7⟩; have Y7 := Lib.hid (hV7.r qc.out); obtain ⟨b14, A14, n14, c14, C14, m14, d14, rfl, hX7⟩ := hV7.laid; have X7 := Y7; clear hV7 Y7 hX7; replace R := Lib.hid (R.out.grew g7); replace P := Lib.hid (P.out.grew g7); replace Py := Lib.hid (Py.out.grew g7); replace Q := Lib.hid (Q.out.grew g7); replace Qy := Lib.hid (Qy.out.grew g7); replace S := Lib.hid (S.out.grew g7); replace Sy := Lib.hid (Sy.out.grew g7); replace L := Lib.hid (L.out.grew g7); replace z0 := Lib.hid (lt_grew z0.out g7); replace z1 := Lib.hid (lt_grew z1.out g7); replace z2 := Lib.hid (lt_grew z2.out g7); replace z3 := Lib.hid (lt_grew z3.out g7); replace Z7 := Lib.hid (lt_grew Z7.out g7); replace Fa := Lib.hid (Fa.out.kept g7.keeps); replace Fb := Lib.hid (Fb.out.kept g7.keeps); replace Fc := Lib.hid (Fc.out.kept g7.keeps); replace Fd := Lib.hid (Fd.out.kept g7.keeps); replace Fe := Lib.hid (Fe.out.kept g7.keeps); replace Ff := Lib.hid (Ff.out.kept g7.keeps); replace XL := Lib.hid (XL.out.kept g7.keeps); replace YL := Lib.hid (YL.out.kept g7.keeps); replace X6 := Lib.hid (X6.out.kept g7.keeps)) | (go_at_call 55; refine (rfadd_any _ _ (ax * (b_y - cy) + bx * (cy - ay)) (cx * (ay - b_y)) _ _ _ YL.out X7.out hk3 hs3).mono ?_; rintro e w8 ⟨V8, rfl, hV8, g8⟩; obtain ⟨b15, A15, n15, c15, C15, m15, d15, rfl, X8⟩ := hV8.laid; clear hV8; replace R := Lib.hid (R.out.grew g8); replace P := Lib.hid (P.out.grew g8); replace Py := Lib.hid (Py.out.grew g8); replace Q := Lib.hid (Q.out.grew g8); replace Qy := Lib.hid (Qy.out.grew g8); replace S := Lib.hid (S.out.grew g8); replace Sy := Lib.hid (Sy.out.grew g8); replace L := Lib.hid (L.out.grew g8); replace z0 := Lib.hid (lt_grew z0.out g8); replace z1 := Lib.hid (lt_grew z1.out g8); replace z2 := Lib.hid (lt_grew z2.out g8); replace z3 := Lib.hid (lt_grew z3.out g8); replace Z7 := Lib.hid (lt_grew Z7.out g8); replace Fa := Lib.hid (Fa.out.kept g8.keeps); replace Fb := Lib.hid (Fb.out.kept g8.keeps); replace Fc := Lib.hid (Fc.out.kept g8.keeps); replace Fd := Lib.hid (Fd.out.kept g8.keeps); replace Fe := Lib.hid (Fe.out.kept g8.keeps); replace Ff := Lib.hid (Ff.out.kept g8.keeps); replace XL := Lib.hid (XL.out.kept g8.keeps); replace YL := Lib.hid (YL.out.kept g8.keeps); replace X6 := Lib.hid (X6.out.kept g8.keeps); replace X7 := Lib.hid (X7.out.kept g8.keeps); obtain ⟨R0, R1, R2, Rf0, Rf1, Rf2, Rs⟩ := R.out))
  replace G0 := Lib.hid ((((G0.out.trans gd.out).trans g6).trans g7).trans g8)
  clear gd g6 g7 g8 ZPy ZQy ZS ZL
  refine gen_then ?_
  intro W9 hW9
  obtain ⟨q0, q1, q2, qK, -, -, qs, qG⟩ := store3 (o := 0) R0 R1 R2 hW9
  have GE := qG w (.inr (by omega)) G0.out
  have QK := Lib.hid qK
  clear qK qG hW9 R0 R1 R2
  go_wp2_with fail
  exact bodyPost_ret (v := .agg #[.bool b15, .slice A15 n15 c15, .slice C15 m15 d15]) (by simp [results, Tryz.results37, go_sem, q0, q1, q2]) rfl ⟨_, rfl, X8.out.kept QK.out, GE⟩
end Go.Proofs.YtpglnfccmhkocaaGreat
