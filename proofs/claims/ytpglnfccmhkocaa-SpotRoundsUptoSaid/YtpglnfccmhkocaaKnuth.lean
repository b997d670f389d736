/- Plain arithmetic of a long division's step (no program in sight). -/
import Derived.Test.YtpglnfccmhkocaaNum
namespace Go.Proofs.Ytpglnfccmhkocaa

/-- What the guess may be: not too small, and at most one too great. -/
theorem guess_ok {B U V Q q D u3 v2 Ul Vl : Nat} (hU : U = u3 * D + Ul) (hV : V = v2 * D + Vl) (hVl : Vl < D)
    (hQ : Q = U / V) (hv : B ≤ v2) (hQB : Q < B) (hge : Q ≤ q) (hle : q * v2 ≤ u3) : Q ≤ q ∧ q ≤ Q + 1 := by
  refine ⟨hge, ?_⟩
  rcases Nat.lt_or_ge (Q + 1) q with h | h
  · exfalso
    have hVp : 0 < V := by
      have : 0 < v2 * D := Nat.mul_pos (by omega) (by omega)
      omega
    have h1 : U < (Q + 1) * V := by
      rw [hQ, Nat.mul_comm, Nat.mul_add, Nat.mul_one]
      have := Nat.div_add_mod U V
      have := Nat.mod_lt U hVp
      omega
    have h2 : (Q + 2) * v2 ≤ u3 := Nat.le_trans (Nat.mul_le_mul_right _ h) hle
    have h3 : (Q + 2) * v2 * D ≤ U := by
      have := Nat.mul_le_mul_right D h2
      omega
    have h4 : (Q + 1) * V ≤ (Q + 1) * ((v2 + 1) * D) := Nat.mul_le_mul_left _ (by rw [Nat.add_mul, Nat.one_mul]; omega)
    have h5 : (Q + 2) * v2 * D < (Q + 1) * (v2 + 1) * D := by rw [Nat.mul_assoc (Q + 1)]; omega
    have h6 : (Q + 2) * v2 < (Q + 1) * (v2 + 1) := Nat.lt_of_mul_lt_mul_right h5
    have e1 : (Q + 2) * v2 = Q * v2 + 2 * v2 := by rw [Nat.add_mul]
    have e2 : (Q + 1) * (v2 + 1) = Q * v2 + v2 + Q + 1 := by rw [Nat.add_mul, Nat.mul_add]; omega
    omega
  · exact h

/-- A guess that was refused is above. -/
theorem guess_hi {U V Q q D u3 v2 Ul Vl : Nat} (hU : U = u3 * D + Ul) (hUl : Ul < D) (hV : V = v2 * D + Vl) (hQ : Q = U / V) (hv : 0 < v2) (hD : 0 < D) (h : u3 < q * v2) : Q < q := by
  have hVp : 0 < V := by
    have : 0 < v2 * D := Nat.mul_pos hv hD
    omega
  rw [hQ, Nat.div_lt_iff_lt_mul hVp]
  have h1 : (u3 + 1) * D ≤ q * v2 * D := Nat.mul_le_mul_right _ h
  have h2 : q * (v2 * D) ≤ q * V := Nat.mul_le_mul_left _ (by omega)
  rw [Nat.add_mul, Nat.one_mul] at h1
  rw [← Nat.mul_assoc] at h2
  omega

theorem dig_top {N n : Nat} (h : N < 4294967296 ^ (n + 1)) : N / 4294967296 ^ n = dig 4294967296 N n := by
  unfold dig
  rw [Nat.mod_eq_of_lt]
  rw [Nat.div_lt_iff_lt_mul (pow_pos' (by omega) n), Nat.mul_comm, ← Nat.pow_succ]
  exact h

/-- The numbers of a guess: U of n + 3 words, V of n + 2. -/
theorem guess_nums (U V n : Nat) (hV : V < 4294967296 ^ (n + 2)) (hU : U < V * 4294967296) :
    U / 4294967296 ^ n = (dig 4294967296 U (n + 2) * 4294967296 + dig 4294967296 U (n + 1)) * 4294967296 + dig 4294967296 U n ∧
    V / 4294967296 ^ n = dig 4294967296 V (n + 1) * 4294967296 + dig 4294967296 V n ∧
    dig 4294967296 U (n + 2) * 4294967296 + dig 4294967296 U (n + 1) < (dig 4294967296 V (n + 1) + 1) * 4294967296 := by
  have hU3 : U < 4294967296 ^ (n + 3) := by
    rw [Nat.pow_succ]
    exact Nat.lt_of_lt_of_le hU (Nat.mul_le_mul_right _ (Nat.le_of_lt hV))
  have a1 := div_succ (B := 4294967296) U n
  have a2 := div_succ (B := 4294967296) U (n + 1)
  have a3 : U / 4294967296 ^ (n + 1 + 1) = dig 4294967296 U (n + 2) := dig_top hU3
  have b1 := div_succ (B := 4294967296) V n
  have b2 := dig_top hV
  refine ⟨by omega, by omega, ?_⟩
  -- U / B^(n+1) < (V / B^(n+1) + 1) * B
  have hp := pow_pos' (B := 4294967296) (by omega) (n + 1)
  have c1 : U / 4294967296 ^ (n + 1) < (dig 4294967296 V (n + 1) + 1) * 4294967296 := by
    rw [Nat.div_lt_iff_lt_mul hp, ← b2]
    have d1 := Nat.div_add_mod V (4294967296 ^ (n + 1))
    have d2 := Nat.mod_lt V hp
    have d3 : V < (V / 4294967296 ^ (n + 1) + 1) * 4294967296 ^ (n + 1) := by rw [Nat.add_mul, Nat.one_mul, Nat.mul_comm]; omega
    have d4 := Nat.mul_lt_mul_of_pos_right d3 (show 0 < 4294967296 by omega)
    rw [show (V / 4294967296 ^ (n + 1) + 1) * 4294967296 * 4294967296 ^ (n + 1) = (V / 4294967296 ^ (n + 1) + 1) * 4294967296 ^ (n + 1) * 4294967296 from by simp only [Nat.mul_comm, Nat.mul_left_comm]]
    exact Nat.lt_trans hU d4
  omega

/-- The first guess isn't too small. -/
theorem guess_first {U V n : Nat} (hV : V < 4294967296 ^ (n + 2)) (hU : U < V * 4294967296) (ht : 0 < dig 4294967296 V (n + 1)) :
    U / V ≤ (dig 4294967296 U (n + 2) * 4294967296 + dig 4294967296 U (n + 1)) / dig 4294967296 V (n + 1) := by
  have hU3 : U < 4294967296 ^ (n + 3) := by
    rw [Nat.pow_succ]
    exact Nat.lt_of_lt_of_le hU (Nat.mul_le_mul_right _ (Nat.le_of_lt hV))
  have a2 := div_succ (B := 4294967296) U (n + 1)
  have a3 : U / 4294967296 ^ (n + 1 + 1) = dig 4294967296 U (n + 2) := dig_top hU3
  have b2 := dig_top hV
  have hp := pow_pos' (B := 4294967296) (by omega) (n + 1)
  rw [show dig 4294967296 U (n + 2) * 4294967296 + dig 4294967296 U (n + 1) = U / 4294967296 ^ (n + 1) from by rw [a2, a3]; omega, ← b2, Nat.div_div_eq_div_mul]
  rw [b2.symm] at ht
  apply Nat.div_le_div_left
  · rw [Nat.mul_comm]; exact Nat.div_mul_le_self _ _
  · exact Nat.mul_pos hp ht

theorem div_lt_base {U V : Nat} (hU : U < V * 4294967296) : U / V < 4294967296 := by
  rcases Nat.eq_zero_or_pos V with h | h
  · subst h; omega
  · rw [Nat.div_lt_iff_lt_mul h, Nat.mul_comm]; exact hU


theorem guess_prodB {B q left v u top next : Nat} (hq : left + q * top = v) : (q * next ≤ left * B + u ↔ q * (top * B + next) ≤ v * B + u) := by
  have e1 : q * (top * B + next) = q * top * B + q * next := by rw [Nat.mul_add, Nat.mul_assoc]
  rw [e1, ← hq, Nat.add_mul]
  generalize q * top * B = z
  generalize left * B = y
  omega
theorem guess_prod {q left v u top next : Nat} (hq : left + q * top = v) : (q * next ≤ left * 4294967296 + u ↔ q * (top * 4294967296 + next) ≤ v * 4294967296 + u) := guess_prodB hq

section
variable {U V n q left : Nat} (hV : V < 4294967296 ^ (n + 2)) (hU : U < V * 4294967296) (ht : 2147483648 ≤ dig 4294967296 V (n + 1))
  (hq : left + q * dig 4294967296 V (n + 1) = dig 4294967296 U (n + 2) * 4294967296 + dig 4294967296 U (n + 1))
include hV hU ht hq

theorem guess_refuse (h : left * 4294967296 + dig 4294967296 U n < q * dig 4294967296 V n) : U / V < q := by
  obtain ⟨n1, n2, n3⟩ := guess_nums U V n hV hU
  have hp := pow_pos' (B := 4294967296) (by omega) n
  refine guess_hi (D := 4294967296 ^ n) (u3 := U / 4294967296 ^ n) (v2 := V / 4294967296 ^ n) (Ul := U % 4294967296 ^ n) (Vl := V % 4294967296 ^ n) ?_ (Nat.mod_lt _ hp) ?_ rfl ?_ hp ?_
  · rw [Nat.mul_comm]; exact (Nat.div_add_mod _ _).symm
  · rw [Nat.mul_comm]; exact (Nat.div_add_mod _ _).symm
  · omega
  · rw [n1, n2]
    exact Nat.not_le.1 fun hc => Nat.not_le.2 h ((guess_prod hq).2 hc)

theorem guess_exit (h : q * dig 4294967296 V n ≤ left * 4294967296 + dig 4294967296 U n) (hge : U / V ≤ q) : q ≤ U / V + 1 := by
  obtain ⟨n1, n2, n3⟩ := guess_nums U V n hV hU
  have hp := pow_pos' (B := 4294967296) (by omega) n
  refine (guess_ok (B := 4294967296) (D := 4294967296 ^ n) (u3 := U / 4294967296 ^ n) (v2 := V / 4294967296 ^ n) (Ul := U % 4294967296 ^ n) (Vl := V % 4294967296 ^ n) ?_ ?_ (Nat.mod_lt _ hp) rfl ?_ (div_lt_base hU) hge ?_).2
  · rw [Nat.mul_comm]; exact (Nat.div_add_mod _ _).symm
  · rw [Nat.mul_comm]; exact (Nat.div_add_mod _ _).symm
  · omega
  · rw [n1, n2]
    exact (guess_prod hq).1 h

omit ht in
theorem guess_brk (hl : 4294967296 ≤ left) : q < 4294967296 ∧ q * dig 4294967296 V n ≤ left * 4294967296 + dig 4294967296 U n := by
  obtain ⟨n1, n2, n3⟩ := guess_nums U V n hV hU
  have hn := dig_lt (B := 4294967296) (by omega) V n
  have hqB : q < 4294967296 := by
    rcases Nat.lt_or_ge q 4294967296 with h | h
    · exact h
    · have := Nat.mul_le_mul_right (dig 4294967296 V (n + 1)) h
      omega
  refine ⟨hqB, ?_⟩
  have h1 : q * dig 4294967296 V n ≤ 4294967296 * 4294967296 := Nat.mul_le_mul (by omega) (by omega)
  have h2 : 4294967296 * 4294967296 ≤ left * 4294967296 := Nat.mul_le_mul_right _ hl
  omega

end

theorem guess_startB {v t B : Nat} (hB : 2 < B) (ht : B ≤ 2 * t) (n3 : v < (t + 1) * B) : v / t ≤ B + 1 := by
  have e : (B + 2) * t = t * B + 2 * t := by rw [Nat.add_mul, Nat.mul_comm]
  have e2 : (t + 1) * B = t * B + B := by rw [Nat.add_mul, Nat.one_mul]
  have : v / t < B + 2 := by
    rw [Nat.div_lt_iff_lt_mul (by omega), e]
    omega
  omega

theorem guess_start {U V n : Nat} (hV : V < 4294967296 ^ (n + 2)) (hU : U < V * 4294967296) (ht : 2147483648 ≤ dig 4294967296 V (n + 1)) :
    (dig 4294967296 U (n + 2) * 4294967296 + dig 4294967296 U (n + 1)) / dig 4294967296 V (n + 1) ≤ 4294967297 :=
  guess_startB (by omega) (by omega) (guess_nums U V n hV hU).2.2

/-- TAKE: what is carried out of the first j digits of a number times a digit. -/
def mc (B V q j : Nat) : Nat := q * (V % B ^ j) / B ^ j
section
variable {B : Nat}
theorem mc_zero (V q : Nat) : mc B V q 0 = 0 := by simp [mc, Nat.mod_one]
theorem mc_lt (hB : 0 < B) {V q : Nat} (hq : q < B) (j : Nat) : mc B V q j < B := by
  unfold mc
  have h := pow_pos' hB j
  rw [Nat.div_lt_iff_lt_mul h]
  exact Nat.mul_lt_mul'' hq (Nat.mod_lt _ h)
theorem mc_dig (hB : 0 < B) (V q j : Nat) : (dig B V j * q + mc B V q j) % B = dig B (q * V) j := by
  have h := pow_pos' hB j
  have e : q * V / B ^ j = q * (V / B ^ j) + mc B V q j := by
    unfold mc
    conv => lhs; rw [← Nat.div_add_mod V (B ^ j)]
    rw [Nat.mul_add, Nat.mul_left_comm, Nat.mul_add_div h]
  conv => rhs; unfold dig
  rw [e, div_succ (B := B) V j, Nat.mul_add, Nat.mul_left_comm, Nat.add_assoc, Nat.mul_add_mod, Nat.mul_comm q]
theorem mc_succ (hB : 0 < B) (V q j : Nat) : mc B V q (j + 1) = (dig B V j * q + mc B V q j) / B := by
  have h := pow_pos' hB j
  unfold mc
  rw [mod_succ, Nat.pow_succ, ← Nat.div_div_eq_div_mul, Nat.mul_add, Nat.mul_left_comm, Nat.add_mul_div_left _ _ h, Nat.add_comm, Nat.mul_comm q]

theorem dig_add_pow (U : Nat) {j n : Nat} (h : j ≤ n) : dig B (U + B ^ (n + 1)) j = dig B U j := by
  have := mul_low (B := B) (U := U) (V := 1) (p := j) (s := n + 1) (by omega)
  rwa [Nat.one_mul] at this
theorem mod_add_pow (U : Nat) {j n : Nat} (h : j ≤ n + 1) : (U + B ^ (n + 1)) % B ^ j = U % B ^ j := by
  obtain ⟨d, hd⟩ : ∃ d, n + 1 = j + d := ⟨n + 1 - j, by omega⟩
  rw [hd, Nat.pow_add, Nat.add_mul_mod_self_left]
end

/-- One step of the subtraction of W from U, taken with one more at the top. -/
theorem take_step (U W n j x y c : Nat) (hj : j ≤ n) (hW : W < 4294967296 ^ (n + 1)) (hx : x = dig 4294967296 U j) (hy : y = dig 4294967296 W j) (hc : c = borrow 4294967296 U W j) :
    (((x : Int) - y - c) % 4294967296 = (dig 4294967296 (U + 4294967296 ^ (n + 1) - W) j : Nat)) ∧ ((if x < y + c then 1 else 0) = (borrow 4294967296 U W (j + 1))) := by
  have h1 := borrow_dig (B := 4294967296) (by omega) (U + 4294967296 ^ (n + 1)) W j (by omega)
  have h2 := borrow_succ (B := 4294967296) (by omega) U W j
  have h3 := borrow_le (B := 4294967296) U W j
  have h4 := dig_lt (B := 4294967296) (by omega) U j
  have h5 := dig_lt (B := 4294967296) (by omega) W j
  have hb : borrow 4294967296 (U + 4294967296 ^ (n + 1)) W j = borrow 4294967296 U W j := by
    unfold borrow; rw [mod_add_pow U (by omega)]
  rw [dig_add_pow U hj, hb] at h1
  rw [← hx, ← hy, ← hc] at h1 h2
  rw [← hc] at h3
  rw [← hx] at h4
  rw [← hy] at h5
  rw [← h1, h2]
  exact ⟨by omega, rfl⟩

theorem take_end {U W n : Nat} (hU : U < 4294967296 ^ (n + 1)) (hW : W < 4294967296 ^ (n + 1)) : (borrow 4294967296 U W (n + 1) = 0) ↔ W ≤ U := by
  unfold borrow
  rw [Nat.mod_eq_of_lt hU, Nat.mod_eq_of_lt hW]
  split <;> omega

end Go.Proofs.Ytpglnfccmhkocaa
