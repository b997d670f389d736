/- r17.Same at one row. Condition: what comes in reads. r04.worth, up. Condition: what comes in reads. r04.up, Reduce. Condition: what comes in reads. r04.Int. Condition: an int. -/
import Derived.Test.YthhgogpglocjdaaJRSame
import Derived.Test.YthhgogpglocjdaaJRowP
import Derived.Deep.LoopGhost
import Derived.Deep.RegionHeld3
import Derived.Test.YthhgogpglocjdaaJGrid2
namespace Go.Proofs.Ythhgogpglocjdaa
open Go.RowKit

set_option maxRecDepth 100000 in
set_option maxHeartbeats 4000000 in
theorem rowsame_yes (v v' : Value) (l : List (Rat × Rat)) (w : World) (ha : RowC w v l) (hb : RowC w v' l) :
    Calls Try.prog 8 #[v, v'] w fun e w' => e = .returned (.bool true) ∧ Grew w w' := by
  obtain ⟨A, c, rfl, x1, x2, x3⟩ := ha
  obtain ⟨A', c', rfl, k1, k2, k3⟩ := hb
  obtain ⟨L, hL⟩ : ∃ L, l.length = L := ⟨_, rfl⟩
  rw [hL] at x1 x3 k1 k3 ⊢
  have hm : L ≤ 9223372036854775807 := by omega
  replace x3 := Lib.hid x3
  replace k3 := Lib.hid k3
  go_enter Try.func8, Try.ntmps8
  go_wp2_with fail
  go_loopg [5] L (fun gk i wr => ∃ j : Nat, gk + j = L ∧ i = .int .i64 j ∧ Grew w wr)
  case atStart => exact ⟨0, rfl, rfl, Grew.refl _⟩
  case round =>
    obtain ⟨j, hj, rfl, hG⟩ := hrel
    by_cases hlt : j < L
    · obtain ⟨b, o, rfl, he⟩ := x3.out (by omega)
      obtain ⟨b9, o9, rfl, ke⟩ := k3.out (by omega)
      obtain ⟨p, hp⟩ : ∃ p, l[j]? = some p := ⟨l[j]'(by omega), List.getElem?_eq_getElem _⟩
      obtain ⟨b1, A1, n1, c1, C1, m1, d1, b2, A2, n2, c2, C2, m2, d2, ⟨e0, e1, e2, e3, e4, e5⟩, S1⟩ := he j p hp
      obtain ⟨b3, A3, n3, c3, C3, m3, d3, b4, A4, n4, c4, C4, m4, d4, ⟨f0, f1, f2, f3, f4, f5⟩, S2⟩ := ke j p hp
      have g0 : wr.cell? ⟨b, o + j * 6, none⟩ = some (.bool b1) := hG.cell e0
      have g1 : wr.cell? ⟨b, o + j * 6 + 1, none⟩ = some (.slice A1 n1 c1) := hG.cell e1
      have g2 : wr.cell? ⟨b, o + j * 6 + 2, none⟩ = some (.slice C1 m1 d1) := hG.cell e2
      have g3 : wr.cell? ⟨b, o + j * 6 + 3, none⟩ = some (.bool b2) := hG.cell e3
      have g4 : wr.cell? ⟨b, o + j * 6 + 4, none⟩ = some (.slice A2 n2 c2) := hG.cell e4
      have g5 : wr.cell? ⟨b, o + j * 6 + 5, none⟩ = some (.slice C2 m2 d2) := hG.cell e5
      have h0 : wr.cell? ⟨b9, o9 + j * 6, none⟩ = some (.bool b3) := hG.cell f0
      have h1 : wr.cell? ⟨b9, o9 + j * 6 + 1, none⟩ = some (.slice A3 n3 c3) := hG.cell f1
      have h2 : wr.cell? ⟨b9, o9 + j * 6 + 2, none⟩ = some (.slice C3 m3 d3) := hG.cell f2
      have h3 : wr.cell? ⟨b9, o9 + j * 6 + 3, none⟩ = some (.bool b4) := hG.cell f3
      have h4 : wr.cell? ⟨b9, o9 + j * 6 + 4, none⟩ = some (.slice A4 n4 c4) := hG.cell f4
      have h5 : wr.cell? ⟨b9, o9 + j * 6 + 5, none⟩ = some (.slice C4 m4 d4) := hG.cell f5
      replace S1 := Lib.hid (SpotC.kept S1 hG.keeps)
      replace S2 := Lib.hid (SpotC.kept S2 hG.keeps)
      have hjl : (j : Int) < (L : Int) := by omega
      clear e0 e1 e2 e3 e4 e5 f0 f1 f2 f3 f4 f5 he ke
      go_wp2_with fail
      go_region_held3 (fun w' => w'.cell? ⟨b, o + j * 6, none⟩ = some (.bool b1) ∧ w'.cell? ⟨b, o + j * 6 + 1, none⟩ = some (.slice A1 n1 c1) ∧ w'.cell? ⟨b, o + j * 6 + 2, none⟩ = some (.slice C1 m1 d1) ∧ w'.cell? ⟨b, o + j * 6 + 3, none⟩ = some (.bool b2) ∧ w'.cell? ⟨b, o + j * 6 + 4, none⟩ = some (.slice A2 n2 c2) ∧ w'.cell? ⟨b, o + j * 6 + 5, none⟩ = some (.slice C2 m2 d2) ∧ w'.cell? ⟨b9, o9 + j * 6, none⟩ = some (.bool b3) ∧ w'.cell? ⟨b9, o9 + j * 6 + 1, none⟩ = some (.slice A3 n3 c3) ∧ w'.cell? ⟨b9, o9 + j * 6 + 2, none⟩ = some (.slice C3 m3 d3) ∧ w'.cell? ⟨b9, o9 + j * 6 + 3, none⟩ = some (.bool b4) ∧ w'.cell? ⟨b9, o9 + j * 6 + 4, none⟩ = some (.slice A4 n4 c4) ∧ w'.cell? ⟨b9, o9 + j * 6 + 5, none⟩ = some (.slice C4 m4 d4))
        (first | exact ⟨g0, g1, g2, g3, g4, g5, h0, h1, h2, h3, h4, h5⟩ | exact ⟨gc.cell g0, gc.cell g1, gc.cell g2, gc.cell g3, gc.cell g4, gc.cell g5, gc.cell h0, gc.cell h1, gc.cell h2, gc.cell h3, gc.cell h4, gc.cell h5⟩)
        (first | (go_at_call 24; refine (r5same_yes _ _ p.1 p.2 _ (SpotC.kept S1.out ((Grew.refl wr).drew).keeps) (SpotC.kept S2.out ((Grew.refl wr).drew).keeps)).mono ?_; rintro e wx ⟨rfl, gc⟩))
      have gA := (hG.drew).trans gc
      clear g0 g1 g2 g3 g4 g5 h0 h1 h2 h3 h4 h5 gc
      go_wp2_with fail
      go_roundg (gk - 1)
      case rel => exact ⟨j + 1, by omega, by go_num, gA⟩
      case measure => omega
    · obtain rfl : j = L := by omega
      go_wp2_with fail
      go_ret
      exact ⟨rfl, hG⟩

end Go.Proofs.Ythhgogpglocjdaa
namespace Go.Proofs.Ythhgogpglocjdaa
open Go.RowKit

/-- A fraction as it comes in whose lower part is not 0. -/
def FracP (w : World) (V : Value) (q : Rat) (k : Nat) : Prop :=
  ∃ neg N D n m va vd, V = .agg #[.bool neg, va, vd] ∧ Num 4294967296 .u32 w va N n ∧ Num 4294967296 .u32 w vd D m ∧ mkRat (sgn neg N) D = q ∧ n ≤ k ∧ m ≤ k ∧ D ≠ 0

theorem num_nil (w : World) : Num 4294967296 .u32 w (.slice none 0 0) 0 0 := by
  exact ⟨none, 0, rfl, by simp, by simp, by simp⟩

end Go.Proofs.Ythhgogpglocjdaa
namespace Go.Proofs.Ythhgogpglocjdaa
open Go.RowKit

theorem sgn_neg_dec {b : Bool} {N : Nat} (h : N ≠ 0) : decide (sgn b N < 0) = b := by
  unfold sgn; cases b <;> simp <;> omega

end Go.Proofs.Ythhgogpglocjdaa
namespace Go.Proofs.Ythhgogpglocjdaa
open Go.RowKit

set_option maxRecDepth 100000 in
set_option maxHeartbeats 4000000 in
theorem rfint_any (x : Int) (w : World) (h0 : -9223372036854775808 ≤ x) (h1 : x ≤ 9223372036854775807) :
    Calls Try.prog 23 #[.int .i64 x] w fun e w' => ∃ V, e = .returned V ∧ FracC w' V (x : Rat) ∧ Grew w w' := by
  go_enter Try.func23, Try.ntmps23
  go_wp2_with fail
  refine gen_calls ?_
  intro W0 hW0
  have G0 : Grew w W0 := by rw [hW0]; exact (Grew.refl w).alloc _
  have R : Res3 W0 (w.heap.size) 0 (.bool false) (.slice none 0 0) (.slice none 0 0) := by rw [hW0]; exact ⟨by simp [go_sem], by simp [go_sem], by simp [go_sem], by simp [go_sem], by simp [go_sem], by simp [go_sem], by simp⟩
  replace R := Lib.hid R
  have z0 : w.heap.size < W0.heap.size := by rw [hW0]; simp <;> omega
  replace z0 := Lib.hid z0
  clear hW0
  replace G0 := Lib.hid G0
  refine (r2of_any x _ h0 h1).mono ?_
  rintro e w1 ⟨V1, rfl, hV1, g1⟩
  obtain ⟨b3, A3, n3, c3, rfl, X1, -⟩ := hV1.laid
  clear hV1
  replace R := Lib.hid (R.out.grew g1)
  replace z0 := Lib.hid (lt_grew z0.out g1)
  replace G0 := Lib.hid (G0.out.trans g1)
  clear g1
  obtain ⟨W1, hW1⟩ : ∃ V, V = w1.alloc (.cells #[.int .u32 1] 65) := ⟨_, rfl⟩
  have gl : Grew w1 W1 := by rw [hW1]; exact (Grew.refl _).alloc _
  have y1 := Lib.hid (R.out).2.2.2.2.2.2
  replace R := Lib.hid (R.out.grew gl)
  replace z0 := Lib.hid (lt_grew z0.out gl)
  replace X1 := Lib.hid (X1.out.kept gl.keeps)
  have X5 : Num 4294967296 .u32 W1 (.slice (some ⟨w1.heap.size, 0, none⟩) 1 1) 1 1 := by rw [hW1]; exact num_one _ _
  replace X5 := Lib.hid X5
  skip
  replace G0 := Lib.hid (G0.out.trans gl)
  clear gl
  subst hW1
  obtain ⟨R0, R1, R2, Rf0, Rf1, Rf2, Rs⟩ := R.out
  go_wp2_with fail
  refine gen_post ?_
  intro W9 hW9
  obtain ⟨q0, q1, q2, qK, -, -, qs, qG⟩ := store3 (o := 0) R0 R1 R2 hW9
  have GE := qG w (.inr (by omega)) G0.out
  have QK := Lib.hid qK
  clear qK qG hW9 R0 R1 R2
  exact bodyPost_ret (v := .agg #[.bool b3, .slice A3 n3 c3, .slice (some ⟨w1.heap.size, 0, none⟩) 1 1]) (by simp [results, Try.results23, go_sem, q0, q1, q2]) rfl ⟨_, rfl, FracC.mk (X1.out.kept QK.out) (X5.out.kept QK.out) rfl rfl rfl, GE⟩
end Go.Proofs.Ythhgogpglocjdaa
