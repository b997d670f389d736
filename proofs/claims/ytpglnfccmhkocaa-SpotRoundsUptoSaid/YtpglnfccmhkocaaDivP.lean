/- Plain arithmetic of a long division (no program in sight). -/
import Derived.Test.YtpglnfccmhkocaaTake
namespace Go.Proofs.Ytpglnfccmhkocaa

/-- The shift that brings the divisor's highest bit to the top. -/
theorem norm_ok {M n s : Nat} (hl : len 4294967296 M = n + 2) (hs : s = 32 - Lib.bitLen (dig 4294967296 M (n + 1))) :
    s < 32 ∧ Lib.bitLen (dig 4294967296 M (n + 1)) ≤ 32 ∧ M * 2 ^ s < 4294967296 ^ (n + 2) ∧ 2147483648 ≤ dig 4294967296 (M * 2 ^ s) (n + 1) := by
  have hM := lt_len (B := 4294967296) (by omega) M
  rw [hl] at hM
  have htop := top_ne (B := 4294967296) (by omega) (show len 4294967296 M = (n + 1) + 1 from hl)
  have htl := dig_lt (B := 4294967296) (by omega) M (n + 1)
  have hdt := dig_top hM
  obtain ⟨b1, b2⟩ := bitLenAux_bd 64 (dig 4294967296 M (n + 1)) (by omega)
  obtain ⟨b3, b4⟩ := b2 htop
  change 0 < Lib.bitLen _ at b3
  change 2 ^ (Lib.bitLen _ - 1) ≤ _ at b4
  change _ < 2 ^ Lib.bitLen _ at b1
  generalize hbl : Lib.bitLen (dig 4294967296 M (n + 1)) = bl at *
  have hb32 : bl ≤ 32 := by
    rcases Nat.lt_or_ge 32 bl with h | h
    · have := Nat.pow_le_pow_right (n := 2) (by omega) (show 32 ≤ bl - 1 by omega)
      omega
    · exact h
  have hp := pow_pos' (B := 4294967296) (by omega) (n + 1)
  have e32 : 2 ^ bl * 2 ^ s = 4294967296 := by rw [← Nat.pow_add, hs, show bl + (32 - bl) = 32 from by omega]
  have e31 : 2 ^ (bl - 1) * 2 ^ s = 2147483648 := by rw [← Nat.pow_add, hs, show bl - 1 + (32 - bl) = 31 from by omega]
  have hps := Nat.two_pow_pos s
  have hV : M * 2 ^ s < 4294967296 ^ (n + 2) := by
    have h1 : M < 2 ^ bl * 4294967296 ^ (n + 1) := by
      rw [← Nat.div_lt_iff_lt_mul hp, hdt]; exact b1
    have h2 := Nat.mul_lt_mul_of_pos_right h1 hps
    have e : 2 ^ bl * 4294967296 ^ (n + 1) * 2 ^ s = 4294967296 ^ (n + 1) * 4294967296 := by
      rw [Nat.mul_right_comm, e32, Nat.mul_comm]
    rw [e] at h2
    exact h2
  refine ⟨by omega, hb32, hV, ?_⟩
  rw [← dig_top hV, Nat.le_div_iff_mul_le hp]
  have h3 : 2 ^ (bl - 1) * 4294967296 ^ (n + 1) ≤ M := by
    rw [← Nat.le_div_iff_mul_le hp, hdt]; exact b4
  have h4 := Nat.mul_le_mul_right (2 ^ s) h3
  rw [Nat.mul_right_comm, e31] at h4
  exact h4

/-- The dividend is short enough for the first step. -/
theorem div_start {N V n s d : Nat} (hN : N < 4294967296 ^ (n + 2 + d)) (hs : s < 32) (hV : V < 4294967296 ^ (n + 2)) (ht : 2147483648 ≤ dig 4294967296 V (n + 1)) : N * 2 ^ s < V * 4294967296 ^ (d + 1) := by
  have hp := pow_pos' (B := 4294967296) (by omega) (n + 1)
  rw [← dig_top hV, Nat.le_div_iff_mul_le hp] at ht
  have h1 : 2 ^ s ≤ 2147483648 := Nat.pow_le_pow_right (n := 2) (j := 31) (by omega) (by omega)
  have h2 : N * 2 ^ s < 4294967296 ^ (n + 2 + d) * 2147483648 := by
    have := Nat.mul_le_mul_left N h1
    have := Nat.mul_lt_mul_of_pos_right hN (show 0 < 2147483648 by omega)
    omega
  have h3 := Nat.mul_le_mul_right (4294967296 ^ (d + 1)) ht
  rw [show 2147483648 * 4294967296 ^ (n + 1) * 4294967296 ^ (d + 1) = 4294967296 ^ (n + 2 + d) * 2147483648 from by
    rw [Nat.mul_assoc, ← Nat.pow_add, show n + 1 + (d + 1) = n + 2 + d from by omega, Nat.mul_comm]] at h3
  exact Nat.lt_of_lt_of_le h2 h3

/-- One step: what is left, and the quotient's digit. -/
theorem div_facts {A V i : Nat} (hV : 0 < V) :
    A % (V * 4294967296 ^ (i + 1)) / 4294967296 ^ i < V * 4294967296 ∧
    A % (V * 4294967296 ^ (i + 1)) / 4294967296 ^ i / V = dig 4294967296 (A / V) i ∧
    A % (V * 4294967296 ^ i) = (A % (V * 4294967296 ^ (i + 1)) / 4294967296 ^ i % V) * 4294967296 ^ i + A % (V * 4294967296 ^ (i + 1)) % 4294967296 ^ i := by
  have hp := pow_pos' (B := 4294967296) (by omega) i
  have hp1 := pow_pos' (B := 4294967296) (by omega) (i + 1)
  have hVp : 0 < V * 4294967296 ^ (i + 1) := Nat.mul_pos hV hp1
  have hX := Nat.mod_lt A hVp
  have e0 : V * 4294967296 ^ (i + 1) = V * 4294967296 * 4294967296 ^ i := by rw [Nat.pow_succ, Nat.mul_assoc, Nat.mul_comm 4294967296]
  have e1 : A % (V * 4294967296 ^ i) = A % (V * 4294967296 ^ (i + 1)) % (V * 4294967296 ^ i) := by
    rw [Nat.pow_succ, ← Nat.mul_assoc, Nat.mod_mul_right_mod]
  refine ⟨?_, ?_, ?_⟩
  · rw [Nat.div_lt_iff_lt_mul hp, ← e0]; exact hX
  · rw [Nat.div_div_eq_div_mul, Nat.mul_comm (4294967296 ^ i) V]
    unfold dig
    rw [Nat.div_div_eq_div_mul]
    have h1 : A / (V * 4294967296 ^ i) % 4294967296 = A % (V * 4294967296 ^ i * 4294967296) / (V * 4294967296 ^ i) := (Nat.mod_mul_right_div_self A (V * 4294967296 ^ i) 4294967296).symm
    rw [h1, Nat.pow_succ, ← Nat.mul_assoc]
  · rw [e1]
    generalize A % (V * 4294967296 ^ (i + 1)) = X
    rw [Nat.mul_comm V, Nat.mod_mul, Nat.add_comm, Nat.mul_comm (4294967296 ^ i)]

theorem dig_div (X i p : Nat) : dig 4294967296 (X / 4294967296 ^ i) p = dig 4294967296 X (i + p) := by
  unfold dig; rw [Nat.div_div_eq_div_mul, ← Nat.pow_add]

/-- The row behind a step. -/
theorem div_row {V X i l L p : Nat} {f : Nat → Nat} {R : Nat} (hp : p < L) (hV : V < 4294967296 ^ l) (hf : ∀ p, p < L → f p = dig 4294967296 X p)
    (hX : X < V * 4294967296 ^ (i + 1)) (hR : ∀ p, p ≤ l → dig 4294967296 R p = dig 4294967296 (X / 4294967296 ^ i % V) p) :
    part f R i (l + 1) p = dig 4294967296 (X / 4294967296 ^ i % V * 4294967296 ^ i + X % 4294967296 ^ i) p := by
  have hpp := pow_pos' (B := 4294967296) (by omega) i
  have hV0 : 0 < V := by
    rcases Nat.eq_zero_or_pos V with h | h
    · subst h; omega
    · exact h
  have hr := Nat.mod_lt (X / 4294967296 ^ i) hV0
  have hlow := Nat.mod_lt X hpp
  unfold part
  by_cases h : i ≤ p ∧ p < i + (l + 1)
  · rw [if_pos h, hR _ (by omega)]
    obtain ⟨j, rfl⟩ : ∃ j, p = i + j := ⟨p - i, by omega⟩
    rw [← dig_div, show i + j - i = j from by omega, Nat.add_comm, Nat.add_mul_div_right _ _ hpp, Nat.div_eq_of_lt hlow, Nat.zero_add]
  · rw [if_neg h, hf p hp]
    by_cases hpi : p < i
    · rw [Nat.add_comm, mul_low hpi]
      have h2 := Nat.div_add_mod X (4294967296 ^ i)
      have h3 := mul_low (B := 4294967296) (U := X % 4294967296 ^ i) (V := X / 4294967296 ^ i) (p := p) (s := i) hpi
      rw [Nat.mul_comm, Nat.add_comm, h2] at h3
      exact h3
    · have h1 : X < 4294967296 ^ (l + (i + 1)) := by
        rw [Nat.pow_add]; exact Nat.lt_of_lt_of_le hX (Nat.mul_le_mul_right _ (Nat.le_of_lt hV))
      have h2 : X / 4294967296 ^ i % V * 4294967296 ^ i + X % 4294967296 ^ i < 4294967296 ^ (l + (i + 1)) := by
        have h3 : (X / 4294967296 ^ i % V + 1) * 4294967296 ^ i ≤ 4294967296 ^ l * 4294967296 ^ i := Nat.mul_le_mul_right _ (by omega)
        rw [← Nat.pow_add, Nat.add_mul, Nat.one_mul] at h3
        have h4 : 4294967296 ^ (l + i) ≤ 4294967296 ^ (l + (i + 1)) := Nat.pow_le_pow_right (by omega) (by omega)
        omega
      rw [dig_zero_of_lt (by omega) h1 (by omega), dig_zero_of_lt (by omega) h2 (by omega)]

theorem part_part (f : Nat → Nat) (R R' i s p : Nat) : part (part f R i s) R' i s p = part f R' i s p := by
  unfold part
  by_cases h : i ≤ p ∧ p < i + s
  · rw [if_pos h, if_pos h]
  · rw [if_neg h, if_neg h, if_neg h]
theorem part_in (f : Nat → Nat) (R i s p : Nat) (h : p < s) : part f R i s (i + p) = dig 4294967296 R p := by
  unfold part; rw [if_pos (by omega), show i + p - i = p from by omega]

/-- What is left by the true digit, and the words of it. -/
theorem left_dig {U V m p : Nat} (hp : p ≤ m) : dig 4294967296 (U + 4294967296 ^ (m + 1) - U / V * V) p = dig 4294967296 (U % V) p := by
  have h := Nat.div_add_mod U V
  have e : ∀ P, U + P - U / V * V = U % V + P := fun P => by
    have h2 : U / V * V = V * (U / V) := Nat.mul_comm _ _
    omega
  rw [e]
  exact dig_add_pow _ hp
theorem left_back {U V m : Nat} (hV : V < 4294967296 ^ (m + 1)) : U + 4294967296 ^ (m + 1) - (U / V + 1) * V + V = U + 4294967296 ^ (m + 1) - U / V * V := by
  have h := Nat.div_add_mod U V
  rw [Nat.add_mul, Nat.one_mul, Nat.mul_comm (U / V) V]
  generalize 4294967296 ^ (m + 1) = P at *
  generalize V * (U / V) = z at *
  omega

end Go.Proofs.Ytpglnfccmhkocaa
