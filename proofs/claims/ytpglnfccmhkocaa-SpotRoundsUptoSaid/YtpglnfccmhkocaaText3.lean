/- frac.Text of whole numbers, spot.Text of two such; what lives says. -/
import Derived.Test.YtpglnfccmhkocaaText2
namespace Go.Proofs.Ytpglnfccmhkocaa
open Go.RowKit

/-- What whole.Text says of z. -/
def WText (z : Int) (s : ByteArray) : Prop := ∀ V W, Whl W V z → Calls Try.prog 110 #[V] W fun e w' => e = .returned (.string s) ∧ Grew W w'

set_option maxRecDepth 100000 in
set_option maxHeartbeats 4000000 in
theorem ftext_int (z : Int) (s : ByteArray) (hT : Hid (WText z s)) (Va : Value) (k : Nat) (w : World) (ha : FracV w Va (z : Rat) k) (hk : 1 ≤ k) (hs : k < 549755813888) :
    Calls Try.prog 79 #[Va] w fun e w' => e = .returned (.string s) ∧ Grew w w' := by
  obtain ⟨b1, A1, n1, c1, C1, m1, d1, rfl, Fa⟩ := ha.laid
  clear ha
  go_enter Try.func79, Try.ntmps79
  go_wp2_with fail
  refine gen_calls ?_
  intro W0 hW0
  have G0 : Grew w W0 := by rw [hW0]; exact (Grew.refl w).alloc _
  have P : Box3 W0 (w.heap.size) 0 (.bool b1) (.slice A1 n1 c1) (.slice C1 m1 d1) := by rw [hW0]; exact ⟨by simp [go_sem], by simp [go_sem], by simp [go_sem]⟩
  replace P := Lib.hid P
  have z0 : w.heap.size < W0.heap.size := by rw [hW0]; simp <;> omega
  replace z0 := Lib.hid z0
  clear hW0
  replace Fa := Lib.hid (Fa.out.kept G0.keeps)
  replace G0 := Lib.hid G0
  refine (freduce_any _ (z : Rat) k _ Fa.out hk hs).mono ?_
  rintro e w1 ⟨V1, rfl, hV1, g1⟩
  obtain ⟨b2, A2, n2, c2, C2, m2, d2, rfl, X1⟩ := hV1.laid
  clear hV1
  replace P := Lib.hid (P.out.grew g1)
  replace z0 := Lib.hid (lt_grew z0.out g1)
  replace Fa := Lib.hid (Fa.out.kept g1.keeps)
  replace G0 := Lib.hid (G0.out.trans g1)
  clear g1
  have oz0 := z0.out
  go_wp2_with fail
  clear oz0
  refine gen_calls ?_
  intro W1 hW1
  have gl : Grew w1 W1 := by rw [hW1]; exact (Grew.refl _).alloc _
  replace P := Lib.hid (P.out.grew gl)
  replace z0 := Lib.hid (lt_grew z0.out gl)
  replace Fa := Lib.hid (Fa.out.kept gl.keeps)
  replace X1 := Lib.hid (X1.out.kept gl.keeps)
  have L : Box3 W1 (w1.heap.size) 0 (.bool b2) (.slice A2 n2 c2) (.slice C2 m2 d2) := by rw [hW1]; exact ⟨by simp [go_sem], by simp [go_sem], by simp [go_sem]⟩
  replace L := Lib.hid L
  have z1 : w1.heap.size < W1.heap.size := by rw [hW1]; simp <;> omega
  replace z1 := Lib.hid z1
  clear hW1
  replace G0 := Lib.hid (G0.out.trans gl)
  clear gl
  obtain ⟨Wz, Nd, Md⟩ := X1.out.parts
  -- Wz Nd
  refine (isUnit_g _ _ _ _ Nd.out Md.out).mono ?_
  rintro e w2 ⟨rfl, g2⟩
  replace P := Lib.hid (P.out.grew g2)
  replace L := Lib.hid (L.out.grew g2)
  replace z0 := Lib.hid (lt_grew z0.out g2)
  replace z1 := Lib.hid (lt_grew z1.out g2)
  replace Fa := Lib.hid (Fa.out.kept g2.keeps)
  replace X1 := Lib.hid (X1.out.kept g2.keeps)
  replace Wz := Lib.hid (Wz.out.kept g2.keeps)
  replace Nd := Lib.hid (Nd.out.kept g2.keeps)
  replace G0 := Lib.hid (G0.out.trans g2)
  clear g2
  have e1 : decide ((z : Rat).den = 1) = true := rfl
  rw [e1]
  clear e1
  obtain ⟨L0, L1, L2⟩ := L.out
  go_wp2_with fail
  clear L0 L1 L2
  refine (hT.out _ _ Wz.out).mono ?_
  rintro e w3 ⟨rfl, g3⟩
  replace P := Lib.hid (P.out.grew g3)
  replace L := Lib.hid (L.out.grew g3)
  replace z0 := Lib.hid (lt_grew z0.out g3)
  replace z1 := Lib.hid (lt_grew z1.out g3)
  replace Fa := Lib.hid (Fa.out.kept g3.keeps)
  replace X1 := Lib.hid (X1.out.kept g3.keeps)
  replace Wz := Lib.hid (Wz.out.kept g3.keeps)
  replace Nd := Lib.hid (Nd.out.kept g3.keeps)
  replace G0 := Lib.hid (G0.out.trans g3)
  clear g3
  go_wp2_with fail
  go_ret
  exact ⟨by rfl, G0.out⟩

set_option maxRecDepth 100000 in
set_option maxHeartbeats 4000000 in
theorem stext_int (x y : Int) (s t : ByteArray) (hT : Hid (WText x s)) (hU : Hid (WText y t)) (hss : s.size = 1) (htt : t.size = 1 ∨ t.size = 2) (Va : Value) (k : Nat) (w : World) (ha : SpotV w Va (x : Rat) (y : Rat) k) (hk : 1 ≤ k) (hs : k < 549755813888) :
    Calls Try.prog 42 #[Va] w fun e w' => e = .returned (.string (s ++ (⟨#[32]⟩ : ByteArray) ++ t)) ∧ Grew w w' := by
  obtain ⟨b1, A1, n1, c1, C1, m1, d1, b2, A2, n2, c2, C2, m2, d2, rfl, Fa, Fb, -⟩ := ha.laid
  clear ha
  rcases htt with htt | htt
  all_goals
    go_enter Try.func42, Try.ntmps42
    go_wp2_with fail
    refine gen_wp ?_
    intro W0 hW0
    have G0 : Grew w W0 := by rw [hW0]; exact (Grew.refl w).alloc _
    have P : Box3 W0 (w.heap.size) 0 (.bool b1) (.slice A1 n1 c1) (.slice C1 m1 d1) := by rw [hW0]; exact ⟨by simp [go_sem], by simp [go_sem], by simp [go_sem]⟩
    replace P := Lib.hid P
    have Py : Box3 W0 (w.heap.size) 3 (.bool b2) (.slice A2 n2 c2) (.slice C2 m2 d2) := by rw [hW0]; exact ⟨by simp [go_sem], by simp [go_sem], by simp [go_sem]⟩
    replace Py := Lib.hid Py
    have z0 : w.heap.size < W0.heap.size := by rw [hW0]; simp <;> omega
    replace z0 := Lib.hid z0
    clear hW0
    replace Fa := Lib.hid (Fa.out.kept G0.keeps)
    replace Fb := Lib.hid (Fb.out.kept G0.keeps)
    replace G0 := Lib.hid G0
    have gd : Grew W0 W0.drew := (Grew.refl W0).drew
    replace P := Lib.hid (P.out.grew gd)
    replace Py := Lib.hid (Py.out.grew gd)
    replace z0 := Lib.hid (lt_grew z0.out gd)
    replace Fa := Lib.hid (Fa.out.kept gd.keeps)
    replace Fb := Lib.hid (Fb.out.kept gd.keeps)
    replace gd := Lib.hid gd
    have ZP := P
    have ZPy := Py
    go_region_held3 (fun w' => w'.cell? ⟨w.heap.size, 0, none⟩ = some (.bool b1) ∧ w'.cell? ⟨w.heap.size, 1, none⟩ = some (.slice A1 n1 c1) ∧ w'.cell? ⟨w.heap.size, 2, none⟩ = some (.slice C1 m1 d1) ∧ w'.cell? ⟨w.heap.size, 3, none⟩ = some (.bool b2) ∧ w'.cell? ⟨w.heap.size, 4, none⟩ = some (.slice A2 n2 c2) ∧ w'.cell? ⟨w.heap.size, 5, none⟩ = some (.slice C2 m2 d2))
      (first | (with_reducible exact ⟨ZP.out.p0, ZP.out.p1, ZP.out.p2, ZPy.out.p0, ZPy.out.p1, ZPy.out.p2⟩) | (with_reducible exact ⟨g1.cell ZP.out.p0, g1.cell ZP.out.p1, g1.cell ZP.out.p2, g1.cell ZPy.out.p0, g1.cell ZPy.out.p1, g1.cell ZPy.out.p2⟩) | (with_reducible exact ⟨(g1.trans g2).cell ZP.out.p0, (g1.trans g2).cell ZP.out.p1, (g1.trans g2).cell ZP.out.p2, (g1.trans g2).cell ZPy.out.p0, (g1.trans g2).cell ZPy.out.p1, (g1.trans g2).cell ZPy.out.p2⟩))
      (first | (go_at_call_of 79 (Value.agg #[.bool b1, .slice A1 n1 c1, .slice C1 m1 d1]); refine (ftext_int x s hT _ k _ Fa.out hk hs).mono ?_; rintro e w1 ⟨rfl, g1⟩; replace P := Lib.hid (P.out.grew g1); replace Py := Lib.hid (Py.out.grew g1); replace z0 := Lib.hid (lt_grew z0.out g1); replace Fa := Lib.hid (Fa.out.kept g1.keeps); replace Fb := Lib.hid (Fb.out.kept g1.keeps)) | (go_at_call 79; refine (ftext_int y t hU _ k _ Fb.out hk hs).mono ?_; rintro e w2 ⟨rfl, g2⟩; replace P := Lib.hid (P.out.grew g2); replace Py := Lib.hid (Py.out.grew g2); replace z0 := Lib.hid (lt_grew z0.out g2); replace Fa := Lib.hid (Fa.out.kept g2.keeps); replace Fb := Lib.hid (Fb.out.kept g2.keeps)))
    replace G0 := Lib.hid (((G0.out.trans gd.out).trans g1).trans g2)
    clear gd g1 g2 ZP ZPy
    go_wp2_with fail
    go_ret
    exact ⟨by rfl, G0.out⟩

theorem wt3 : WText 3 (digS 3) := fun V W h => wtext_pos V 3 W h (by omega) (by omega)
theorem wt2 : WText 2 (digS 2) := fun V W h => wtext_pos V 2 W h (by omega) (by omega)
theorem wtn4 : WText (-4) (negS 4) := fun V W h => wtext_neg V 4 W h (by omega) (by omega)
theorem QB_int (x : Int) (k : Nat) (h : len 4294967296 x.natAbs ≤ k) (hk : 1 ≤ k) : QB (x : Rat) k := ⟨h, by rw [show ((x : Rat).den) = 1 from rfl, len1]; exact hk⟩

set_option maxRecDepth 100000 in
set_option maxHeartbeats 4000000 in
theorem lives05_any (w : World) : Calls Try.prog 13 #[] w fun e w' => e = .returned (.bool true) ∧ Grew w w' := by
  go_enter Try.func13, Try.ntmps13
  go_wp2_with fail
  refine (turns_lit _).mono ?_
  rintro e w1 ⟨rfl, g1⟩
  replace g1 := Lib.hid g1
  go_wp2_with fail
  refine (at_any 3 (-4) _ (by omega) (by omega) (by omega) (by omega)).mono ?_
  rintro e w2 ⟨V2, rfl, hV2, g2⟩
  have hv := hV2.v (k := 1) (QB_int 3 1 (by rw [show (3 : Int).natAbs = 3 from rfl, len_lt_base (by omega) (by omega)]; exact Nat.le_refl _) (by omega)) (QB_int (-4) 1 (by rw [show (-4 : Int).natAbs = 4 from rfl, len_lt_base (by omega) (by omega)]; exact Nat.le_refl _) (by omega))
  obtain ⟨b1, A1, n1, c1, C1, m1, d1, b2, A2, n2, c2, C2, m2, d2, rfl, -⟩ := hV2.laid
  replace hv := Lib.hid hv
  replace g2 := Lib.hid (g1.out.trans g2)
  clear hV2 g1
  go_wp2_with fail
  refine (stext_int 3 (-4) _ _ (Lib.hid wt3) (Lib.hid wtn4) rfl (.inr rfl) _ 1 _ hv.out (by omega) (by omega)).mono ?_
  rintro e w3 ⟨rfl, g3⟩
  have es : digS 3 ++ (⟨#[32]⟩ : ByteArray) ++ negS 4 = (⟨#[51, 32, 45, 52]⟩ : ByteArray) := rfl
  rw [es]
  replace g2 := Lib.hid (g2.out.trans g3)
  clear g3
  go_wp2_with fail
  go_ret
  exact ⟨by rfl, g2.out⟩
end Go.Proofs.Ytpglnfccmhkocaa
