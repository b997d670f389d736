/- whole.Text, frac.Text, spot.Text where both numbers have one digit. -/
import Derived.Test.YtpglnfccmhkocaaText1
namespace Go.Proofs.Ytpglnfccmhkocaa
open Go.RowKit

set_option maxRecDepth 100000 in
set_option maxHeartbeats 2000000 in
theorem wtext_pos (Va : Value) (d : Nat) (w : World) (ha : Whl w Va (d : Int)) (h0 : 0 < d) (h9 : d < 10) :
    Calls Try.prog 110 #[Va] w fun e w' => e = .returned (.string (digS d)) ∧ Grew w w' := by
  have hl1 := len_lt_base h0 (by omega)
  obtain ⟨b1, A1, n1, c1, rfl, Ha, EE⟩ := ha.laid
  obtain ⟨-, -, Na⟩ := EE.out
  replace Na := Lib.hid (show Num 4294967296 .u32 w (.slice A1 n1 c1) d n1 by simpa using Na)
  have Wa := Lib.hid (Ha.out.v (k := 1) (by simp [hl1]))
  have hsg : sg (d : Int) = 1 := by unfold sg; rw [if_neg (by omega), if_neg (by omega)]
  replace hsg := Lib.hid hsg
  clear ha EE Ha hl1
  go_enter Try.func110, Try.ntmps110
  go_wp2_with fail
  refine gen_calls ?_
  intro W0 hW0
  have G0 : Grew w W0 := by rw [hW0]; exact (Grew.refl w).alloc _
  have P : Box2 W0 (w.heap.size) 0 (.bool b1) (.slice A1 n1 c1) := by rw [hW0]; exact ⟨by simp [go_sem], by simp [go_sem]⟩
  replace P := Lib.hid P
  have z0 : w.heap.size < W0.heap.size := by rw [hW0]; simp <;> omega
  replace z0 := Lib.hid z0
  clear hW0
  replace Wa := Lib.hid (Wa.out.kept G0.keeps)
  replace Na := Lib.hid (Na.out.kept G0.keeps)
  replace G0 := Lib.hid G0
  refine (sign_v _ _ _ _ Wa.out (by omega)).mono ?_
  rintro e w1 ⟨rfl, g1⟩
  replace P := Lib.hid (P.out.grew g1)
  replace z0 := Lib.hid (lt_grew z0.out g1)
  replace Wa := Lib.hid (Wa.out.kept g1.keeps)
  replace Na := Lib.hid (Na.out.kept g1.keeps)
  replace G0 := Lib.hid (G0.out.trans g1)
  clear g1
  rw [hsg.out]
  obtain ⟨P0, P1⟩ := P.out
  go_wp2_with fail
  clear P0 P1
  refine (text_digit _ d _ _ Na.out h0 h9).mono ?_
  rintro e w2 ⟨rfl, g2⟩
  replace P := Lib.hid (P.out.grew g2)
  replace z0 := Lib.hid (lt_grew z0.out g2)
  replace Wa := Lib.hid (Wa.out.kept g2.keeps)
  replace Na := Lib.hid (Na.out.kept g2.keeps)
  replace G0 := Lib.hid (G0.out.trans g2)
  clear g2
  go_wp2_with fail
  go_ret
  exact ⟨by rfl, G0.out⟩

/-- The text of a digit below 0. -/
def negS (d : Nat) : ByteArray := ⟨#[45, UInt8.ofNat (48 + d)]⟩
theorem negS_eq (d : Nat) : (⟨#[45]⟩ : ByteArray) ++ digS d = negS d := rfl

set_option maxRecDepth 100000 in
set_option maxHeartbeats 2000000 in
theorem wtext_neg (Va : Value) (d : Nat) (w : World) (ha : Whl w Va (-(d : Int))) (h0 : 0 < d) (h9 : d < 10) :
    Calls Try.prog 110 #[Va] w fun e w' => e = .returned (.string (negS d)) ∧ Grew w w' := by
  have hl1 := len_lt_base h0 (by omega)
  obtain ⟨b1, A1, n1, c1, rfl, Ha, EE⟩ := ha.laid
  obtain ⟨-, -, Na⟩ := EE.out
  replace Na := Lib.hid (show Num 4294967296 .u32 w (.slice A1 n1 c1) d n1 by simpa using Na)
  have Wa := Lib.hid (Ha.out.v (k := 1) (by simp [hl1]))
  have hsg : sg (-(d : Int)) = -1 := by unfold sg; rw [if_neg (by omega), if_pos (by omega)]
  replace hsg := Lib.hid hsg
  have hsz : (digS d).size = 1 := rfl
  have hng := Lib.hid (negS_eq d)
  clear ha EE Ha hl1
  go_enter Try.func110, Try.ntmps110
  go_wp2_with fail
  refine gen_calls ?_
  intro W0 hW0
  have G0 : Grew w W0 := by rw [hW0]; exact (Grew.refl w).alloc _
  have P : Box2 W0 (w.heap.size) 0 (.bool b1) (.slice A1 n1 c1) := by rw [hW0]; exact ⟨by simp [go_sem], by simp [go_sem]⟩
  replace P := Lib.hid P
  have z0 : w.heap.size < W0.heap.size := by rw [hW0]; simp <;> omega
  replace z0 := Lib.hid z0
  clear hW0
  replace Wa := Lib.hid (Wa.out.kept G0.keeps)
  replace Na := Lib.hid (Na.out.kept G0.keeps)
  replace G0 := Lib.hid G0
  refine (sign_v _ _ _ _ Wa.out (by omega)).mono ?_
  rintro e w1 ⟨rfl, g1⟩
  replace P := Lib.hid (P.out.grew g1)
  replace z0 := Lib.hid (lt_grew z0.out g1)
  replace Wa := Lib.hid (Wa.out.kept g1.keeps)
  replace Na := Lib.hid (Na.out.kept g1.keeps)
  replace G0 := Lib.hid (G0.out.trans g1)
  clear g1
  rw [hsg.out]
  obtain ⟨P0, P1⟩ := P.out
  go_wp2_with fail
  clear P0 P1
  refine (text_digit _ d _ _ Na.out h0 h9).mono ?_
  rintro e w2 ⟨rfl, g2⟩
  replace P := Lib.hid (P.out.grew g2)
  replace z0 := Lib.hid (lt_grew z0.out g2)
  replace Wa := Lib.hid (Wa.out.kept g2.keeps)
  replace Na := Lib.hid (Na.out.kept g2.keeps)
  replace G0 := Lib.hid (G0.out.trans g2)
  clear g2
  generalize digS d = ds at *
  go_wp2_with fail
  go_ret
  exact ⟨by rw [← hng.out]; rfl, G0.out⟩
end Go.Proofs.Ytpglnfccmhkocaa
