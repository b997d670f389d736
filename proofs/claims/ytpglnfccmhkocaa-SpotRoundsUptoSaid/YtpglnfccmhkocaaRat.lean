/- Plain: fractions as numbers of Lean's core, and their sizes. Conditions: none (no program in sight but the reading of words). -/
import Derived.Test.YtpglnfccmhkocaaFrac2
namespace Go.Proofs.Ytpglnfccmhkocaa
open Go.RowKit

/-- A fraction's size: both parts have at most k words. -/
def QB (q : Rat) (k : Nat) : Prop := len 4294967296 q.num.natAbs ≤ k ∧ len 4294967296 q.den ≤ k
theorem QB.mono {q : Rat} {k l : Nat} (h : QB q k) (e : k ≤ l) : QB q l := ⟨Nat.le_trans h.1 e, Nat.le_trans h.2 e⟩

theorem len1 : len 4294967296 1 = 1 := len_one

theorem natAbs_ediv_le (z : Int) (g : Nat) : (z / (g : Int)).natAbs ≤ z.natAbs := Int.natAbs_ediv_le_natAbs z g

theorem QB_mkRat (z : Int) (D k : Nat) (h1 : len 4294967296 z.natAbs ≤ k) (h2 : len 4294967296 D ≤ k) (hk : 1 ≤ k) : QB (mkRat z D) k := by
  unfold QB
  rw [Rat.num_mkRat, Rat.den_mkRat]
  split
  · exact ⟨by simp [len_zero], by rw [len1]; exact hk⟩
  · exact ⟨Nat.le_trans (len_mono (by omega) (natAbs_ediv_le _ _)) h1, Nat.le_trans (len_mono (by omega) (Nat.div_le_self _ _)) h2⟩

theorem sgn_div (z : Int) (g : Nat) (h : g ∣ z.natAbs) : sgn (decide (z < 0)) (z.natAbs / g) = z / (g : Int) := by
  obtain ⟨k, hk⟩ := h
  rcases Nat.eq_zero_or_pos g with rfl | hg
  · simp [sgn]
  · rw [hk, Nat.mul_div_cancel_left _ hg]
    unfold sgn
    by_cases h0 : z < 0
    · have e : z = (g : Int) * -(k : Int) := by rw [Int.mul_neg, ← Int.natCast_mul, ← hk]; omega
      rw [if_pos (by simpa using h0), e, Int.mul_ediv_cancel_left _ (by omega)]
    · have e : z = (g : Int) * (k : Int) := by rw [← Int.natCast_mul, ← hk]; omega
      rw [if_neg (by simpa using h0), e, Int.mul_ediv_cancel_left _ (by omega)]
theorem mkRat_num_sgn (z : Int) (D : Nat) (hD : D ≠ 0) : sgn (decide (z < 0)) (z.natAbs / Nat.gcd z.natAbs D) = (mkRat z D).num := by
  rw [Rat.num_mkRat, if_neg hD, sgn_div _ _ (Nat.gcd_dvd_left _ _), Nat.gcd_comm]
theorem mkRat_den_gcd (z : Int) (D : Nat) (hD : D ≠ 0) : D / Nat.gcd z.natAbs D = (mkRat z D).den := by
  rw [Rat.den_mkRat, if_neg hD, Nat.gcd_comm]
theorem len_addz (z y : Int) (k : Nat) (h1 : len 4294967296 z.natAbs ≤ k) (h2 : len 4294967296 y.natAbs ≤ k) : len 4294967296 (z + y).natAbs ≤ k + 1 :=
  Nat.le_trans (len_mono (by omega) (Int.natAbs_add_le z y)) (len_add (by omega) _ _ _ h1 h2)
theorem len_mulz (z y : Int) (k l : Nat) (h1 : len 4294967296 z.natAbs ≤ k) (h2 : len 4294967296 y.natAbs ≤ l) : len 4294967296 (z * y).natAbs ≤ k + l := by
  rw [Int.natAbs_mul]; exact len_mul (by omega) _ _ _ _ h1 h2

theorem mkRat_add (z y : Int) (D E : Nat) (hD : D ≠ 0) (hE : E ≠ 0) : mkRat (z * E + y * D) (D * E) = mkRat z D + mkRat y E := (Rat.mkRat_add_mkRat z y hD hE).symm
theorem mkRat_add_same (z y : Int) (D : Nat) (hD : D ≠ 0) : mkRat (z + y) D = mkRat z D + mkRat y D := by
  rw [Rat.mkRat_add_mkRat z y hD hD, ← Int.add_mul, Rat.mkRat_mul_right hD]
theorem mkRat_mul (z y : Int) (D E : Nat) : mkRat (z * y) (D * E) = mkRat z D * mkRat y E := (Rat.mkRat_mul_mkRat z y D E).symm
theorem mkRat_half (z : Int) (D : Nat) : mkRat z (D * 2) = mkRat z D * mkRat 1 2 := by
  rw [← mkRat_mul, Int.mul_one]

theorem QB.add {a b : Rat} {k l : Nat} (ha : QB a k) (hb : QB b l) : QB (a + b) (k + l + 1) := by
  rw [Rat.add_def']
  refine QB_mkRat _ _ _ ?_ ?_ (by omega)
  · exact Nat.le_trans (len_addz _ _ (k + l) (len_mulz _ _ _ _ ha.1 (by simpa using hb.2)) (by rw [Nat.add_comm k l]; exact len_mulz _ _ _ _ hb.1 (by simpa using ha.2))) (Nat.le_refl _)
  · exact Nat.le_trans (len_mul (by omega) _ _ _ _ ha.2 hb.2) (by omega)
theorem QB.neg {a : Rat} {k : Nat} (ha : QB a k) : QB (-a) k := by
  unfold QB at *
  rw [Rat.neg_num, Rat.neg_den, Int.natAbs_neg]
  exact ha
theorem QB.sub {a b : Rat} {k l : Nat} (ha : QB a k) (hb : QB b l) : QB (a - b) (k + l + 1) := by
  rw [Rat.sub_eq_add_neg]; exact ha.add hb.neg
theorem QB.pos {a : Rat} {k : Nat} (ha : QB a k) : 1 ≤ k := by
  have h := ha.2
  have : len 4294967296 a.den ≠ 0 := fun e => a.den_nz ((len_eq_zero (by omega)).1 e)
  omega
theorem QB.mul {a b : Rat} {k l : Nat} (ha : QB a k) (hb : QB b l) : QB (a * b) (k + l) := by
  have := ha.pos
  rw [Rat.mul_def']
  exact QB_mkRat _ _ _ (len_mulz _ _ _ _ ha.1 hb.1) (len_mul (by omega) _ _ _ _ ha.2 hb.2) (by omega)

/-- How two fractions stand. -/
def cmpQ (a b : Rat) : Int := if a < b then -1 else if b < a then 1 else 0
/-- A fraction's sign. -/
def sgQ (a : Rat) : Int := if a < 0 then -1 else if 0 < a then 1 else 0

theorem cmpQ_sub (a b : Rat) : cmpQ a b = sgQ (a - b) := by
  unfold cmpQ sgQ
  have h1 : a < b ↔ a - b < 0 := by grind
  have h2 : b < a ↔ 0 < a - b := by grind
  by_cases h : a < b
  · rw [if_pos h, if_pos (h1.1 h)]
  · rw [if_neg h, if_neg (fun e => h (h1.2 e))]
    by_cases h' : b < a
    · rw [if_pos h', if_pos (h2.1 h')]
    · rw [if_neg h', if_neg (fun e => h' (h2.2 e))]
theorem sgQ_neg (a : Rat) : sgQ (-a) = -sgQ a := by
  unfold sgQ
  have h1 : -a < 0 ↔ 0 < a := by grind
  have h2 : 0 < -a ↔ a < 0 := by grind
  by_cases h : a < 0
  · have h' : ¬ 0 < a := by grind
    rw [if_neg (fun e => h' (h1.1 e)), if_pos (h2.2 h), if_pos h]; rfl
  · by_cases h' : 0 < a
    · rw [if_pos (h1.2 h'), if_neg h, if_pos h']
    · rw [if_neg (fun e => h' (h1.1 e)), if_neg (fun e => h (h2.1 e)), if_neg h, if_neg h']; rfl

theorem sgQ_mkRat (z : Int) (D : Nat) (hD : D ≠ 0) : sgQ (mkRat z D) = sg z := by
  have h1 : mkRat z D < 0 ↔ z < 0 := by
    rw [← Rat.not_le, ← Rat.divInt_ofNat, Rat.divInt_nonneg_iff_of_pos_right (by omega)]; omega
  have h2 : (0 : Rat) < mkRat z D ↔ 0 < z := by
    rw [Rat.lt_iff_le_and_ne, ← Rat.divInt_ofNat, Rat.divInt_nonneg_iff_of_pos_right (by omega), Rat.divInt_ofNat]
    constructor
    · rintro ⟨a, b⟩
      have : z ≠ 0 := fun e => b (by rw [e, Rat.zero_mkRat])
      omega
    · intro a
      exact ⟨by omega, fun e => by have := (Rat.mkRat_eq_zero hD).1 e.symm; omega⟩
  unfold sgQ sg
  by_cases h : z < 0
  · rw [if_pos (h1.2 h), if_neg (by omega), if_pos h]
  · rw [if_neg (fun e => h (h1.1 e))]
    by_cases h' : z = 0
    · rw [if_neg (fun e => by have := h2.1 e; omega), if_pos h']
    · rw [if_pos (h2.2 (by omega)), if_neg h', if_neg h]

theorem cmpZ_sub (a b : Int) : cmpZ a b = sg (a - b) := by
  unfold cmpZ sg
  repeat' split
  all_goals omega

/-- Two fractions, over their lower parts. -/
theorem cmpQ_mkRat (z y : Int) (D E : Nat) (hD : D ≠ 0) (hE : E ≠ 0) : cmpQ (mkRat z D) (mkRat y E) = cmpZ (z * E) (y * D) := by
  have e : mkRat z D - mkRat y E = mkRat (z * E - y * D) (D * E) := by
    rw [Rat.sub_eq_add_neg, Rat.neg_mkRat, Rat.mkRat_add_mkRat _ _ hD hE, Int.neg_mul, ← Int.sub_eq_add_neg]
  rw [cmpQ_sub, cmpZ_sub, e, sgQ_mkRat _ _ (Nat.mul_ne_zero hD hE)]
theorem cmpQ_sg_ne {z y : Int} {D E : Nat} (hD : D ≠ 0) (hE : E ≠ 0) (h : sg z ≠ sg y) : cmpQ (mkRat z D) (mkRat y E) = if sg z < sg y then -1 else 1 := by
  have h1 := sgQ_mkRat z D hD
  have h2 := sgQ_mkRat y E hE
  rw [← h1, ← h2] at h ⊢
  generalize mkRat z D = a at *
  generalize mkRat y E = b at *
  clear h1 h2
  unfold cmpQ
  unfold sgQ at *
  grind

/-- A fraction as it comes in: it need not be reduced, and is 0 where the lower part is 0. -/
def FracV (w : World) (V : Value) (q : Rat) (k : Nat) : Prop :=
  ∃ neg N D n m va vd, V = .agg #[.bool neg, va, vd] ∧ Num 4294967296 .u32 w va N n ∧ Num 4294967296 .u32 w vd D m ∧ mkRat (sgn neg N) D = q ∧ len 4294967296 N ≤ k ∧ len 4294967296 D ≤ k
/-- A fraction as it is answered: reduced. -/
def FracC (w : World) (V : Value) (q : Rat) : Prop := Rat3 w V q.num q.den
/-- A ratio: a whole number over one that isn't 0. -/
def RatQ (w : World) (V : Value) (q : Rat) (k : Nat) : Prop := ∃ z D, Rat3 w V z D ∧ mkRat z D = q ∧ len 4294967296 z.natAbs ≤ k ∧ len 4294967296 D ≤ k

theorem FracV.grew {w w' : World} {V : Value} {q : Rat} {k : Nat} (h : FracV w V q k) (g : Grew w w') : FracV w' V q k := by
  obtain ⟨neg, N, D, n, m, va, vd, e, h1, h2, h3⟩ := h
  exact ⟨neg, N, D, n, m, va, vd, e, h1.grew g, h2.grew g, h3⟩
theorem FracC.grew {w w' : World} {V : Value} {q : Rat} (h : FracC w V q) (g : Grew w w') : FracC w' V q := Rat3.grew h g
theorem RatQ.grew {w w' : World} {V : Value} {q : Rat} {k : Nat} (h : RatQ w V q k) (g : Grew w w') : RatQ w' V q k := by
  obtain ⟨z, D, h1, h2⟩ := h
  exact ⟨z, D, h1.grew g, h2⟩
theorem sgn_of (z : Int) : sgn (decide (z < 0)) z.natAbs = z := by unfold sgn; split <;> simp_all <;> omega
theorem FracC.v {w : World} {V : Value} {q : Rat} {k : Nat} (h : FracC w V q) (b : QB q k) : FracV w V q k := by
  obtain ⟨vn, vd, e, h1, h2, h3⟩ := h
  exact ⟨_, _, _, _, _, vn, vd, e, h1, h2, by rw [sgn_of, Rat.mkRat_self], b.1, b.2⟩
theorem FracV.qb {w : World} {V : Value} {q : Rat} {k : Nat} (h : FracV w V q k) (hk : 1 ≤ k) : QB q k := by
  obtain ⟨neg, N, D, n, m, va, vd, e, h1, h2, rfl, h3, h4⟩ := h
  exact QB_mkRat _ _ _ (by rw [sgn_abs]; exact h3) h4 hk
theorem RatQ.qb {w : World} {V : Value} {q : Rat} {k : Nat} (h : RatQ w V q k) : QB q k := by
  obtain ⟨z, D, ⟨_, _, _, _, _, h0⟩, rfl, h3, h4⟩ := h
  have : len 4294967296 D ≠ 0 := fun e => h0 ((len_eq_zero (by omega)).1 e)
  exact QB_mkRat _ _ _ h3 h4 (by omega)
end Go.Proofs.Ytpglnfccmhkocaa
