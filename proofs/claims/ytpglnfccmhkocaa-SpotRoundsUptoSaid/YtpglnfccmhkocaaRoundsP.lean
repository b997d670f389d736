/- Plain: the sides of three points. Conditions: none. -/
import Derived.Test.YtpglnfccmhkocaaText3
namespace Go.Proofs.Ytpglnfccmhkocaa
open Go.RowKit

theorem turnQ_eq (ax ay bx b_y cx cy : Rat) : turnQ ax ay bx b_y cx cy = sgQ ((bx - ax) * (cy - ay) - (b_y - ay) * (cx - ax)) := cmpQ_sub _ _
theorem sgQ_zero : sgQ 0 = 0 := by unfold sgQ; simp
theorem sgQ_bd (a : Rat) : -1 ≤ sgQ a ∧ sgQ a ≤ 1 := by unfold sgQ; split <;> (try split) <;> omega
theorem turnQ_rot (ax ay bx b_y cx cy : Rat) : turnQ bx b_y cx cy ax ay = turnQ ax ay bx b_y cx cy := by
  rw [turnQ_eq, turnQ_eq]; congr 1; grind
theorem turnQ_rev (ax ay bx b_y cx cy : Rat) : turnQ cx cy bx b_y ax ay = -turnQ ax ay bx b_y cx cy := by
  rw [turnQ_eq, turnQ_eq, ← sgQ_neg]; congr 1; grind
theorem half_two : mkRat 1 2 + mkRat 1 2 = 1 := by rw [← mkRat_add_same 1 1 2 (by omega)]; exact (Rat.mkRat_eq_iff (n₁ := 1 + 1) (n₂ := 1) (d₁ := 2) (d₂ := 1) (by omega) (by omega)).2 rfl
theorem turnQ_mid (ax ay bx b_y : Rat) : turnQ ax ay bx b_y ((ax + bx) * mkRat 1 2) ((ay + b_y) * mkRat 1 2) = 0 := by
  have h := half_two
  rw [turnQ_eq, ← sgQ_zero]
  congr 1
  generalize mkRat 1 2 = t at *
  have e1 : (ax + bx) * t = ax + (bx - ax) * t := by
    have : ax * (t + t) = ax := by rw [h, Rat.mul_one]
    grind
  have e2 : (ay + b_y) * t = ay + (b_y - ay) * t := by
    have : ay * (t + t) = ay := by rw [h, Rat.mul_one]
    grind
  rw [e1, e2]
  grind
theorem turnQ_a (ax ay bx b_y : Rat) : turnQ ax ay bx b_y ax ay = 0 := by
  rw [turnQ_eq, ← sgQ_zero]; congr 1; grind
theorem turnQ_b (ax ay bx b_y : Rat) : turnQ ax ay bx b_y bx b_y = 0 := by
  rw [turnQ_eq, ← sgQ_zero]; congr 1; grind
theorem midQ_iff {a b c : Rat} (h1 : a ≤ c) (h2 : c ≤ b) : midQ a b c = true := by
  unfold midQ
  rw [decide_eq_false (Rat.not_lt.2 h1), decide_eq_false (Rat.not_lt.2 h2)]; rfl
theorem withinQ_mid (a b : Rat) : withinQ a b ((a + b) * mkRat 1 2) = true := by
  have h := half_two
  have e : (a + b) * mkRat 1 2 + (a + b) * mkRat 1 2 = a + b := by rw [← Rat.mul_add, h, Rat.mul_one]
  generalize (a + b) * mkRat 1 2 = m at *
  unfold withinQ
  split
  · exact midQ_iff (by grind) (by grind)
  · exact midQ_iff (by grind) (by grind)
theorem withinQ_a (a b : Rat) : withinQ a b a = true := by
  unfold withinQ
  split
  · exact midQ_iff (by grind) (by grind)
  · exact midQ_iff (by grind) (by grind)
theorem withinQ_b (a b : Rat) : withinQ a b b = true := by
  unfold withinQ
  split
  · exact midQ_iff (by grind) (by grind)
  · exact midQ_iff (by grind) (by grind)
theorem onQ_mid (ax ay bx b_y : Rat) : onQ ax ay bx b_y ((ax + bx) * mkRat 1 2) ((ay + b_y) * mkRat 1 2) = true := by
  unfold onQ; rw [withinQ_mid, withinQ_mid, turnQ_mid]; rfl
theorem onQ_a (ax ay bx b_y : Rat) : onQ ax ay bx b_y ax ay = true := by
  unfold onQ; rw [withinQ_a, withinQ_a, turnQ_a]; rfl
theorem onQ_b (ax ay bx b_y : Rat) : onQ ax ay bx b_y bx b_y = true := by
  unfold onQ; rw [withinQ_b, withinQ_b, turnQ_b]; rfl

theorem FracV.mono {w : World} {V : Value} {q : Rat} {k l : Nat} (h : FracV w V q k) (e : k ≤ l) : FracV w V q l := by
  obtain ⟨neg, N, D, n, m, va, vd, e1, h1, h2, h3, h4, h5⟩ := h
  exact ⟨neg, N, D, n, m, va, vd, e1, h1, h2, h3, by omega, by omega⟩
theorem SpotV.mono {w : World} {V : Value} {x y : Rat} {k l : Nat} (h : SpotV w V x y k) (e : k ≤ l) : SpotV w V x y l := by
  obtain ⟨b, A, n, c, C, m, d, b', A', n', c', C', m', d', e1, h1, h2⟩ := h
  exact ⟨b, A, n, c, C, m, d, b', A', n', c', C', m', d', e1, h1.mono e, h2.mono e⟩
theorem QB_half : QB (mkRat 1 2) 1 := QB_mkRat 1 2 1 (by rw [show (1 : Int).natAbs = 1 from rfl, len1]; exact Nat.le_refl _) (by rw [len_lt_base (by omega) (by omega)]; exact Nat.le_refl _) (Nat.le_refl _)
end Go.Proofs.Ytpglnfccmhkocaa
