/- r01.bit, r01.Bits, r01.small, r01.Of. Condition: what comes in reads. r01.small, r01.Of, r01.twice, r01.Power. Conditions: what comes in reads; numbers of fewer than 2^40 bits. Plain: division bit by bit. Conditions: none (no program in sight). The calls of package whole over readings. Conditions: what comes in reads; fewer than 2^39 words. -/
import Derived.Test.YthhgogpglocjdaaJRef7
import Derived.Test.YthhgogpglocjdaaJKit
namespace Go.Proofs.Ythhgogpglocjdaa
open Go.RowKit

theorem bit_dig (N i : Nat) : dig 65536 N (i / 16) / 2 ^ (i % 16) % 2 = N / 2 ^ i % 2 := by
  unfold dig
  have hr : i % 16 < 16 := Nat.mod_lt _ (by omega)
  have e1 : N / 2 ^ i = N / 65536 ^ (i / 16) / 2 ^ (i % 16) := by
    rw [show (65536 : Nat) = 2 ^ 16 from rfl, ← Nat.pow_mul, Nat.div_div_eq_div_mul, ← Nat.pow_add, Nat.div_add_mod]
  rw [e1]
  generalize N / 65536 ^ (i / 16) = a
  generalize i % 16 = r at *
  obtain ⟨s, hs⟩ : ∃ s, 16 = r + (s + 1) := ⟨16 - r - 1, by omega⟩
  rw [show (65536 : Nat) = 2 ^ r * 2 ^ (s + 1) from by rw [← Nat.pow_add, ← hs], Nat.mod_mul_right_div_self, Nat.pow_succ, Nat.mul_comm (2 ^ s) 2, Nat.mod_mul_right_mod]

theorem bit_val (d s : Nat) : ((d : Int) / 2 ^ s).tmod 2 = ((d / 2 ^ s % 2 : Nat) : Int) := by
  have e : (d : Int) / 2 ^ s = ((d / 2 ^ s : Nat) : Int) := by simp
  rw [e]
  generalize d / 2 ^ s = y
  rw [Int.tmod_eq_emod_of_nonneg (by omega)]
  omega

theorem lt_of_bit {N k : Nat} (h : N < 2 ^ (k + 1)) (h0 : N / 2 ^ k % 2 = 0) : N < 2 ^ k := by
  have h1 : N / 2 ^ k < 2 := by
    rw [Nat.div_lt_iff_lt_mul (Nat.two_pow_pos k), Nat.mul_comm, ← Nat.pow_succ]; exact h
  have h2 : N / 2 ^ k = 0 := by
    clear h
    generalize N / 2 ^ k = y at *
    omega
  exact (Nat.div_eq_zero_iff_lt (Nat.two_pow_pos k)).1 h2

end Go.Proofs.Ythhgogpglocjdaa
namespace Go.Proofs.Ythhgogpglocjdaa
open Go.RowKit

theorem num_four (w : World) (a b c d : Nat) (ha : a < 65536) (hb : b < 65536) (hc : c < 65536) (hd : d < 65536) (t : TypeId) :
    Num 65536 .u64 (w.alloc (.cells #[.int .u64 (a : Int), .int .u64 (b : Int), .int .u64 (c : Int), .int .u64 (d : Int)] t)) (.slice (some ⟨w.heap.size, 0, none⟩) 4 4) (a + 65536 * (b + 65536 * (c + 65536 * d))) 4 := by
  refine Num.of_blk (heap_alloc_new w _) (Nat.le_refl _) (by omega) (by simp only [Nat.reducePow]; omega) fun i hi => ?_
  rcases i with _ | _ | _ | _ | i
  · simp [dig]; omega
  · simp [dig]; omega
  · simp [dig]; omega
  · simp [dig]; omega
  · omega

set_option maxRecDepth 100000 in
set_option maxHeartbeats 4000000 in
theorem r1of_any (x : Int) (N : Nat) (w : World) (hx : x = (N : Int)) (hN : N < 18446744073709551616) :
    Calls Try.prog 60 #[.int .u64 x] w fun e w' => ∃ v, e = .returned v ∧ Num 4294967296 .u32 w' v N (len 4294967296 N) ∧ Grew w w' := by
  subst hx
  have h2 := num_four w (N % 65536) (N / 65536 % 65536) (N / 65536 / 65536 % 65536) (N / 65536 / 65536 / 65536) (by omega) (by omega) (by omega) (by omega) 71
  rw [show N % 65536 + 65536 * (N / 65536 % 65536 + 65536 * (N / 65536 / 65536 % 65536 + 65536 * (N / 65536 / 65536 / 65536))) = N from by omega] at h2
  have H2 := Lib.hid h2
  have hb : (N : Int) < 18446744073709551616 := by omega
  clear h2 hN
  go_enter Try.func60, Try.ntmps60
  go_wp2_with fail
  refine (rwords_any _ N 4 _ H2.out (by omega)).mono ?_
  rintro e w' ⟨v, rfl, h1, h3⟩
  replace h1 := Lib.hid h1
  replace h3 := Lib.hid h3
  go_wp2_with fail
  go_ret
  exact ⟨v, rfl, h1.out, ((Grew.refl w).alloc _).trans h3.out⟩

theorem len_pow2 (j : Nat) : len 65536 (2 ^ j) ≤ j / 16 + 1 := by
  refine len_le (by omega) ?_
  rw [show (65536 : Nat) = 2 ^ 16 from rfl, ← Nat.pow_mul]
  exact Nat.pow_lt_pow_right (by omega) (by omega)

end Go.Proofs.Ythhgogpglocjdaa
namespace Go.Proofs.Ythhgogpglocjdaa
open Go.RowKit

/-- The carry while a number is doubled, and a bit is added. -/
def dcar (R b j : Nat) : Nat := (2 * (R % 65536 ^ j) + b) / 65536 ^ j
theorem dcar_zero (R b : Nat) : dcar R b 0 = b := by simp [dcar, Nat.mod_one]
theorem dcar_le (R b j : Nat) (hb : b ≤ 1) : dcar R b j ≤ 1 := by
  unfold dcar
  have hp : 0 < 65536 ^ j := Nat.pow_pos (by omega)
  have hm := Nat.mod_lt R hp
  have : (2 * (R % 65536 ^ j) + b) / 65536 ^ j < 2 := by rw [Nat.div_lt_iff_lt_mul hp]; omega
  omega
theorem dcar_succ (R b j : Nat) : dcar R b (j + 1) = (2 * dig 65536 R j + dcar R b j) / 65536 := by
  unfold dcar
  have hp : 0 < 65536 ^ j := Nat.pow_pos (by omega)
  rw [mod_succ, Nat.pow_succ, ← Nat.div_div_eq_div_mul]
  rw [show 2 * (R % 65536 ^ j + 65536 ^ j * dig 65536 R j) + b = (2 * (R % 65536 ^ j) + b) + 65536 ^ j * (2 * dig 65536 R j) from by
    rw [Nat.mul_add, ← Nat.mul_assoc 2, Nat.mul_comm 2 (65536 ^ j), Nat.mul_assoc]; omega]
  rw [Nat.add_mul_div_left _ _ hp, Nat.add_comm]
theorem dcar_dig (R b j : Nat) : (2 * dig 65536 R j + dcar R b j) % 65536 = dig 65536 (2 * R + b) j := by
  have hp : 0 < 65536 ^ j := Nat.pow_pos (by omega)
  have hR : R = R % 65536 ^ j + 65536 ^ j * (R / 65536 ^ j) := (Nat.mod_add_div R (65536 ^ j)).symm
  have e : 2 * R + b = (2 * (R % 65536 ^ j) + b) + 65536 ^ j * (2 * (R / 65536 ^ j)) := by
    have e2 : 65536 ^ j * (2 * (R / 65536 ^ j)) = 2 * (65536 ^ j * (R / 65536 ^ j)) := by rw [Nat.mul_left_comm]
    rw [e2]; omega
  unfold dcar
  rw [show dig 65536 (2 * R + b) j = (2 * R + b) / 65536 ^ j % 65536 from rfl, e, Nat.add_mul_div_left _ _ hp]
  rw [show dig 65536 R j = R / 65536 ^ j % 65536 from rfl]
  generalize R / 65536 ^ j = x
  generalize (2 * (R % 65536 ^ j) + b) / 65536 ^ j = y
  omega
theorem dbl_step (R b j : Nat) (hb : b ≤ 1) :
    (2 * ((dig 65536 R j : Nat) : Int) + (dcar R b j : Nat)) % 65536 = (dig 65536 (2 * R + b) j : Nat) ∧ (2 * ((dig 65536 R j : Nat) : Int) + (dcar R b j : Nat)) / 65536 = (dcar R b (j + 1) : Nat) ∧
    2 * ((dig 65536 R j : Nat) : Int) + (dcar R b j : Nat) < 131072 := by
  have h1 := dig_lt (B := 65536) (by omega) R j
  have h2 := dcar_le R b j hb
  rw [← dcar_dig, dcar_succ]
  refine ⟨by omega, by omega, by omega⟩

/-- What is left, and how often: one bit more. -/
theorem div_bit_lo (N M i : Nat) (h : 2 * (N / 2 ^ (i + 1) % M) + N / 2 ^ i % 2 < M) :
    N / 2 ^ i % M = 2 * (N / 2 ^ (i + 1) % M) + N / 2 ^ i % 2 ∧ N / 2 ^ i / M * 2 ^ i = N / 2 ^ (i + 1) / M * 2 ^ (i + 1) := by
  have e : N / 2 ^ i = 2 * (N / 2 ^ (i + 1)) + N / 2 ^ i % 2 := by
    rw [Nat.pow_succ, ← Nat.div_div_eq_div_mul]; omega
  generalize hb : N / 2 ^ i % 2 = b at *
  generalize N / 2 ^ (i + 1) = x at *
  rw [e]
  have ex := Nat.mod_add_div x M
  have e2 : 2 * x + b = (2 * (x % M) + b) + M * (2 * (x / M)) := by
    have : M * (2 * (x / M)) = 2 * (M * (x / M)) := by rw [Nat.mul_left_comm]
    omega
  constructor
  · rw [e2, Nat.add_mul_mod_self_left, Nat.mod_eq_of_lt h]
  · rw [e2, Nat.add_mul_div_left _ _ (by omega), Nat.div_eq_of_lt h, Nat.pow_succ]
    rw [Nat.zero_add, Nat.mul_comm 2 (x / M), Nat.mul_assoc, Nat.mul_comm 2 (2 ^ i)]
theorem div_bit_hi (N M i : Nat) (h0 : 0 < M) (h : M ≤ 2 * (N / 2 ^ (i + 1) % M) + N / 2 ^ i % 2) :
    N / 2 ^ i % M = 2 * (N / 2 ^ (i + 1) % M) + N / 2 ^ i % 2 - M ∧ N / 2 ^ i / M * 2 ^ i = N / 2 ^ (i + 1) / M * 2 ^ (i + 1) + 2 ^ i := by
  have e : N / 2 ^ i = 2 * (N / 2 ^ (i + 1)) + N / 2 ^ i % 2 := by
    rw [Nat.pow_succ, ← Nat.div_div_eq_div_mul]; omega
  have hb2 : N / 2 ^ i % 2 < 2 := Nat.mod_lt _ (by omega)
  generalize hb : N / 2 ^ i % 2 = b at *
  generalize N / 2 ^ (i + 1) = x at *
  rw [e]
  have ex := Nat.mod_add_div x M
  have hr := Nat.mod_lt x h0
  have e2 : 2 * x + b = (2 * (x % M) + b - M) + M * (2 * (x / M) + 1) := by
    have : M * (2 * (x / M) + 1) = 2 * (M * (x / M)) + M := by rw [Nat.mul_add, Nat.mul_left_comm, Nat.mul_one]
    omega
  have hlt : 2 * (x % M) + b - M < M := by omega
  constructor
  · rw [e2, Nat.add_mul_mod_self_left, Nat.mod_eq_of_lt hlt]
  · rw [e2, Nat.add_mul_div_left _ _ (by omega), Nat.div_eq_of_lt hlt, Nat.pow_succ]
    rw [Nat.zero_add, Nat.add_mul, Nat.one_mul, Nat.mul_comm 2 (x / M), Nat.mul_assoc, Nat.mul_comm 2 (2 ^ i)]

/-- A bit that was 0 is set: in its digit alone. -/
theorem set_bit (q i p : Nat) : dig 65536 (q * 2 ^ (i + 1) + 2 ^ i) p = if p = i / 16 then dig 65536 (q * 2 ^ (i + 1)) p + 2 ^ (i % 16) else dig 65536 (q * 2 ^ (i + 1)) p := by
  have hr : i % 16 < 16 := Nat.mod_lt _ (by omega)
  have hB : ∀ s, (65536 : Nat) ^ s = 2 ^ (16 * s) := fun s => by rw [show (65536 : Nat) = 2 ^ 16 from rfl, ← Nat.pow_mul]
  have e1 : 2 ^ i = 2 ^ (i % 16) * 65536 ^ (i / 16) := by rw [hB, ← Nat.pow_add]; congr 1; omega
  have e2 : q * 2 ^ (i + 1) = q * 2 ^ (i % 16 + 1) * 65536 ^ (i / 16) := by rw [hB, Nat.mul_assoc, ← Nat.pow_add]; congr 2; omega
  rw [e1, e2, ← Nat.add_mul]
  generalize i % 16 = r at *
  generalize i / 16 = s at *
  have hp : 0 < 65536 ^ s := Nat.pow_pos (by omega)
  have hlow : ∀ a, dig 65536 (a * 65536 ^ s) s = a % 65536 := fun a => by unfold dig; rw [Nat.mul_div_cancel _ hp]
  obtain ⟨t, ht⟩ : ∃ t, 16 = (r + 1) + t := ⟨16 - (r + 1), by omega⟩
  have hsplit : (65536 : Nat) = 2 ^ (r + 1) * 2 ^ t := by rw [← Nat.pow_add, ← ht]
  have hmod : q * 2 ^ (r + 1) % 65536 = 2 ^ (r + 1) * (q % 2 ^ t) := by rw [hsplit, Nat.mul_comm q, Nat.mul_mod_mul_left]
  have hlt : q % 2 ^ t + 1 ≤ 2 ^ t := Nat.mod_lt _ (Nat.two_pow_pos t)
  have hle : 2 ^ (r + 1) * (q % 2 ^ t) + 2 ^ (r + 1) ≤ 65536 := by
    rw [hsplit]; have := Nat.mul_le_mul_left (2 ^ (r + 1)) hlt; rw [Nat.mul_add, Nat.mul_one] at this; exact this
  have hr2 : 2 ^ r < 2 ^ (r + 1) := by rw [Nat.pow_succ]; have := Nat.two_pow_pos r; omega
  have hsum : (q * 2 ^ (r + 1) + 2 ^ r) % 65536 = q * 2 ^ (r + 1) % 65536 + 2 ^ r := by
    rw [Nat.add_mod, Nat.mod_eq_of_lt (show 2 ^ r < 65536 by omega), Nat.mod_eq_of_lt (by rw [hmod]; omega)]
  have hdiv : (q * 2 ^ (r + 1) + 2 ^ r) / 65536 = q * 2 ^ (r + 1) / 65536 := by
    have h1 := Nat.div_add_mod (q * 2 ^ (r + 1) + 2 ^ r) 65536
    have h2 := Nat.div_add_mod (q * 2 ^ (r + 1)) 65536
    omega
  by_cases hps : p = s
  · subst hps
    rw [if_pos rfl, hlow, hlow, hsum]
  · rw [if_neg hps]
    rcases Nat.lt_or_ge p s with h | h
    · have hz : ∀ a, dig 65536 (a * 65536 ^ s) p = 0 := fun a => by
        have := mul_low (B := 65536) (U := 0) (V := a) h
        rw [Nat.zero_add] at this
        rw [this]; simp [dig]
      rw [hz, hz]
    · obtain ⟨u, rfl⟩ : ∃ u, p = s + 1 + u := ⟨p - s - 1, by omega⟩
      have hz : ∀ a, dig 65536 (a * 65536 ^ s) (s + 1 + u) = a / 65536 / 65536 ^ u % 65536 := fun a => by
        unfold dig
        rw [Nat.pow_add, Nat.pow_succ, ← Nat.div_div_eq_div_mul, ← Nat.div_div_eq_div_mul, Nat.mul_div_cancel _ hp]
      rw [hz, hz, hdiv]
theorem set_bit_lt (q i : Nat) : dig 65536 (q * 2 ^ (i + 1)) (i / 16) + 2 ^ (i % 16) < 65536 := by
  have h := set_bit q i (i / 16)
  rw [if_pos rfl] at h
  rw [← h]
  exact dig_lt (by omega) _ _
end Go.Proofs.Ythhgogpglocjdaa
namespace Go.Proofs.Ythhgogpglocjdaa
open Go.RowKit

/-- A whole number as it comes in: it need not be canonical. -/
def WhlV (w : World) (V : Value) (z : Int) (k : Nat) : Prop := ∃ neg N n v, V = .agg #[.bool neg, v] ∧ Num 4294967296 .u32 w v N n ∧ sgn neg N = z ∧ len 4294967296 N ≤ k
theorem WhlV.kept {w w' : World} {V : Value} {z : Int} {l : Nat} (h : WhlV w V z l) (k : Keeps w w') : WhlV w' V z l := by
  obtain ⟨neg, N, n, v, e, hn, h⟩ := h
  exact ⟨neg, N, n, v, e, k _ _ _ _ _ hn, h⟩
theorem WhlV.mono {w : World} {V : Value} {z : Int} {k l : Nat} (h : WhlV w V z k) (e : k ≤ l) : WhlV w V z l := by
  obtain ⟨neg, N, n, v, e1, hn, h, h'⟩ := h
  exact ⟨neg, N, n, v, e1, hn, h, by omega⟩
theorem Whl.v {w : World} {V : Value} {z : Int} {k : Nat} (h : Whl w V z) (e : len 4294967296 z.natAbs ≤ k) : WhlV w V z k := by
  obtain ⟨v, e1, hn⟩ := h
  exact ⟨_, _, _, v, e1, hn, sgn_of z, e⟩
theorem Num.whl {w : World} {v : Value} {N n k : Nat} (h : Num 4294967296 .u32 w v N n) (e : len 4294967296 N ≤ k) : WhlV w (.agg #[.bool false, v]) (N : Int) k :=
  ⟨_, _, _, v, rfl, h, by simp [sgn], e⟩
theorem Num.slice {w : World} {B : Nat} {K : IntKind} {v : Value} {N n : Nat} (h : Num B K w v N n) : ∃ A c, v = .slice A n c ∧ Hid (Num B K w v N n) := by
  obtain ⟨A, c, rfl, -⟩ := id h
  exact ⟨A, c, rfl, h⟩

theorem wmul_v (Va Vb : Value) (z y : Int) (k l : Nat) (w : World) (ha : WhlV w Va z k) (hb : WhlV w Vb y l) (hs : k + l < 1099511627776) :
    Calls Try.prog 18 #[Va, Vb] w fun e w' => ∃ V, e = .returned V ∧ Whl w' V (z * y) ∧ Grew w w' := by
  obtain ⟨na, N, n, va, rfl, h1, rfl, h2⟩ := ha
  obtain ⟨nb, M, m, vb, rfl, g1, rfl, g2⟩ := hb
  exact wmul_any na nb va vb N M n m w h1 g1 (by omega)
theorem wadd_v (Va Vb : Value) (z y : Int) (k l : Nat) (w : World) (ha : WhlV w Va z k) (hb : WhlV w Vb y l) (hs : k < 549755813888 ∧ l < 549755813888) :
    Calls Try.prog 57 #[Va, Vb] w fun e w' => ∃ V, e = .returned V ∧ Whl w' V (z + y) ∧ Grew w w' := by
  obtain ⟨na, N, n, va, rfl, h1, rfl, h2⟩ := ha
  obtain ⟨nb, M, m, vb, rfl, g1, rfl, g2⟩ := hb
  exact wadd_any na nb va vb N M n m w h1 g1 ⟨by omega, by omega⟩
theorem wsub_v (Va Vb : Value) (z y : Int) (k l : Nat) (w : World) (ha : WhlV w Va z k) (hb : WhlV w Vb y l) (hs : k < 549755813888 ∧ l < 549755813888) :
    Calls Try.prog 42 #[Va, Vb] w fun e w' => ∃ V, e = .returned V ∧ Whl w' V (z - y) ∧ Grew w w' := by
  obtain ⟨na, N, n, va, rfl, h1, rfl, h2⟩ := ha
  obtain ⟨nb, M, m, vb, rfl, g1, rfl, g2⟩ := hb
  exact wsub_any na nb va vb N M n m w h1 g1 ⟨by omega, by omega⟩
theorem wneg_v (Va : Value) (z : Int) (k : Nat) (w : World) (ha : WhlV w Va z k) (hs : k < 1099511627776) :
    Calls Try.prog 70 #[Va] w fun e w' => ∃ V, e = .returned V ∧ Whl w' V (-z) ∧ Grew w w' := by
  obtain ⟨na, N, n, va, rfl, h1, rfl, h2⟩ := ha
  exact wneg_any na va N n w h1 (by omega)
theorem sign_v (Va : Value) (z : Int) (k : Nat) (w : World) (ha : WhlV w Va z k) (hs : k < 1099511627776) :
    Calls Try.prog 43 #[Va] w fun e w' => e = .returned (.int .i64 (sg z)) ∧ Grew w w' := by
  obtain ⟨na, N, n, va, rfl, h1, rfl, h2⟩ := ha
  exact sign_any na va N n w h1 (by omega)
theorem wcmp_v (Va Vb : Value) (z y : Int) (k l : Nat) (w : World) (ha : WhlV w Va z k) (hb : WhlV w Vb y l) (hs : k < 549755813888 ∧ l < 549755813888) :
    Calls Try.prog 21 #[Va, Vb] w fun e w' => e = .returned (.int .i64 (cmpZ z y)) ∧ Grew w w' := by
  obtain ⟨na, N, n, va, rfl, h1, rfl, h2⟩ := ha
  obtain ⟨nb, M, m, vb, rfl, g1, rfl, g2⟩ := hb
  exact wcmp_any na nb va vb N M n m w h1 g1 ⟨by omega, by omega⟩

/-- A ratio, laid open. -/
theorem RatQ.open {w : World} {V : Value} {q : Rat} {k : Nat} (h : RatQ w V q k) : ∃ z D b A n c C m d, V = .agg #[.bool b, .slice A n c, .slice C m d] ∧ Hid (mkRat z D = q) ∧ D ≠ 0 ∧ Hid (WhlV w (.agg #[.bool b, .slice A n c]) z k) ∧
    Hid (Num 4294967296 .u32 w (.slice C m d) D m) ∧ len 4294967296 z.natAbs ≤ k ∧ len 4294967296 D ≤ k ∧ Hid (m = len 4294967296 D) ∧ Hid (Whl w (.agg #[.bool b, .slice A n c]) z) := by
  obtain ⟨z, D, ⟨va, vd, rfl, h1, h2, h3⟩, h4, h5, h6⟩ := h
  obtain ⟨A, c, rfl, -⟩ := id h1
  obtain ⟨C, d, rfl, -⟩ := id h2
  exact ⟨z, D, _, A, _, c, C, _, d, rfl, h4, h3, ⟨_, _, _, _, rfl, h1, sgn_of z, h5⟩, h2, h5, h6, rfl, ⟨_, rfl, h1⟩⟩
theorem RatQ.parts {w : World} {b : Bool} {A C : Option Addr} {n c m d k : Nat} {q : Rat} (h : RatQ w (.agg #[.bool b, .slice A n c, .slice C m d]) q k) : ∃ z D, Hid (mkRat z D = q) ∧ D ≠ 0 ∧ Hid (WhlV w (.agg #[.bool b, .slice A n c]) z k) ∧
    Hid (Num 4294967296 .u32 w (.slice C m d) D m) ∧ len 4294967296 z.natAbs ≤ k ∧ len 4294967296 D ≤ k ∧ Hid (m = len 4294967296 D) ∧ Hid (Whl w (.agg #[.bool b, .slice A n c]) z) := by
  obtain ⟨z, D, b', A', n', c', C', m', d', e, h1, h2, h3, h4, h5, h6, h7, h8⟩ := h.open
  injection e with e; injection e with e; injection e with e1 e2; injection e2 with e2 e3; injection e3 with e3 e4
  injection e1 with e1; injection e2 with e2 e2' e2''; injection e3 with e3 e3' e3''
  subst e1; subst e2; subst e2'; subst e2''; subst e3; subst e3'; subst e3''
  exact ⟨z, D, h1, h2, h3, h4, h5, h6, h7, h8⟩
theorem RatQ.mk {w : World} {b : Bool} {A C : Option Addr} {n c m d D k : Nat} {z : Int} {q : Rat} (hw : Whl w (.agg #[.bool b, .slice A n c]) z) (hd : Num 4294967296 .u32 w (.slice C m d) D m) (hm : m = len 4294967296 D)
    (h0 : D ≠ 0) (hq : mkRat z D = q) (h1 : len 4294967296 z.natAbs ≤ k) (h2 : len 4294967296 D ≤ k) : RatQ w (.agg #[.bool b, .slice A n c, .slice C m d]) q k := by
  obtain ⟨v, e, hn⟩ := hw
  subst hm
  injection e with e; injection e with e; injection e with e1 e2; injection e1 with e1; injection e2 with e2 e3
  subst e1; subst e2
  exact ⟨z, D, ⟨_, _, rfl, hn, hd, h0⟩, hq, h1, h2⟩
theorem FracC.mk {w : World} {b : Bool} {A C : Option Addr} {n c m d D : Nat} {z : Int} {q : Rat} (hw : Whl w (.agg #[.bool b, .slice A n c]) z) (hd : Num 4294967296 .u32 w (.slice C m d) D m) (hm : m = len 4294967296 D)
    (h1 : z = q.num) (h2 : D = q.den) : FracC w (.agg #[.bool b, .slice A n c, .slice C m d]) q := by
  obtain ⟨v, e, hn⟩ := hw
  subst hm; subst h1; subst h2
  injection e with e; injection e with e; injection e with e1 e2; injection e1 with e1; injection e2 with e2 e3
  subst e1; subst e2
  exact ⟨_, _, rfl, hn, hd, q.den_nz⟩

theorem FracC.parts {w : World} {b : Bool} {A C : Option Addr} {n c m d : Nat} {q : Rat} (h : FracC w (.agg #[.bool b, .slice A n c, .slice C m d]) q) :
    Hid (Whl w (.agg #[.bool b, .slice A n c]) q.num) ∧ Hid (Num 4294967296 .u32 w (.slice C m d) q.den m) ∧ Hid (m = len 4294967296 q.den) := by
  obtain ⟨va, vd, e, h1, h2, h3⟩ := h
  injection e with e; injection e with e; injection e with e1 e2; injection e2 with e2 e3; injection e3 with e3 e4
  injection e1 with e1; subst e1; subst e2; subst e3
  obtain ⟨A', c', e5, -⟩ := id h2
  injection e5 with e5 e6 e7
  subst e6
  exact ⟨⟨_, rfl, h1⟩, h2, rfl⟩

theorem isUnit_g (v : Value) (N n : Nat) (w : World) (h : Num 4294967296 .u32 w v N n) (hn : n = len 4294967296 N) : Calls Try.prog 64 #[v] w fun e w' => e = .returned (.bool (decide (N = 1))) ∧ Grew w w' := by
  subst hn
  exact (isUnit_any v N w h).mono fun _ _ ⟨h1, h2⟩ => ⟨h1, h2 ▸ Grew.refl _⟩
theorem parts_v (V : Value) (q : Rat) (k : Nat) (w : World) (h : FracV w V q k) (hk : 1 ≤ k) (hs : k < 549755813888) :
    Calls Try.prog 54 #[V] w fun e w' => ∃ V', e = .returned V' ∧ RatQ w' V' q k ∧ Grew w w' := by
  obtain ⟨neg, N, D, n, m, va, vd, rfl, h1, h2, rfl, h3, h4⟩ := h
  by_cases hD : D = 0
  · subst hD
    refine (parts_zero neg va vd N n m w h1 h2).mono ?_
    rintro e w' ⟨V, rfl, hV, g⟩
    exact ⟨V, rfl, ⟨0, 1, hV, by simp, by simp [len_zero], by rw [len1]; exact hk⟩, g⟩
  · refine (parts_pos neg va vd N D n m w h1 h2 hD ⟨by omega, by omega⟩).mono ?_
    rintro e w' ⟨V, rfl, hV, g⟩
    exact ⟨V, rfl, ⟨_, _, hV, rfl, by rw [sgn_abs]; exact h3, h4⟩, g⟩
end Go.Proofs.Ythhgogpglocjdaa
