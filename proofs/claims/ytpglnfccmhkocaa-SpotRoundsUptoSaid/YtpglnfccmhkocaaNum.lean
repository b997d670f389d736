/- Plain arithmetic: the digits of a number to a base. Conditions: none (no program in sight). -/
import Derived.Below
namespace Go.Proofs.Ytpglnfccmhkocaa

/-- Digit i of N to the base B. -/
def dig (B N i : Nat) : Nat := N / B ^ i % B
/-- The first k digits of N. -/
def digs (B N k : Nat) : List Nat := (List.range k).map (dig B N)
/-- The number of a list of digits. -/
def val (B : Nat) : List Nat → Nat
  | [] => 0
  | x :: r => x + B * val B r
/-- How many of the first k digits count. -/
def lenN (B N : Nat) : Nat → Nat
  | 0 => 0
  | k + 1 => if dig B N k = 0 then lenN B N k else k + 1

section
variable {B : Nat}

theorem dig_lt (hB : 0 < B) (N i : Nat) : dig B N i < B := Nat.mod_lt _ hB
theorem digs_length (N k : Nat) : (digs B N k).length = k := by simp [digs]
theorem digs_getD (N k i : Nat) (h : i < k) : (digs B N k).getD i 0 = dig B N i := by simp [digs, h]
theorem digs_succ (N k : Nat) : digs B N (k + 1) = digs B N k ++ [dig B N k] := by simp [digs, List.range_succ]
theorem digs_zero (N : Nat) : digs B N 0 = [] := rfl
theorem digs_get? (N k i : Nat) (h : i < k) : (digs B N k)[i]? = some (dig B N i) := by simp [digs, h]

theorem pow_pos' (hB : 0 < B) (k : Nat) : 0 < B ^ k := Nat.pow_pos hB

theorem mod_succ (N k : Nat) : N % B ^ (k + 1) = N % B ^ k + B ^ k * dig B N k := Nat.mod_pow_succ

theorem val_append (xs ys : List Nat) : val B (xs ++ ys) = val B xs + B ^ xs.length * val B ys := by
  induction xs with
  | nil => simp [val]
  | cons x r ih => simp only [List.cons_append, val, ih, List.length_cons, Nat.pow_succ]; rw [Nat.mul_add, ← Nat.mul_assoc, Nat.mul_comm B (B ^ r.length)]; omega

theorem val_digs (N k : Nat) : val B (digs B N k) = N % B ^ k := by
  induction k with
  | zero => simp [digs, val, Nat.mod_one]
  | succ k ih => rw [digs_succ, val_append, ih, digs_length, mod_succ]; simp [val]

theorem dig_zero_of_lt {N k i : Nat} (hB : 0 < B) (h : N < B ^ k) (hi : k ≤ i) : dig B N i = 0 := by
  unfold dig
  rw [Nat.div_eq_of_lt (Nat.lt_of_lt_of_le h (Nat.pow_le_pow_right hB hi)), Nat.zero_mod]

theorem val_lt (hB : 0 < B) : ∀ (xs : List Nat), (∀ x ∈ xs, x < B) → val B xs < B ^ xs.length
  | [], _ => by simp [val]
  | x :: r, h => by
    have h1 := val_lt hB r fun y hy => h y (List.mem_cons_of_mem _ hy)
    have h2 := h x List.mem_cons_self
    simp only [val, List.length_cons, Nat.pow_succ]
    have : B * (val B r + 1) ≤ B ^ r.length * B := by rw [Nat.mul_comm]; exact Nat.mul_le_mul_right _ h1
    rw [Nat.mul_add] at this
    omega

theorem dig_val (hB : 0 < B) : ∀ (xs : List Nat), (∀ x ∈ xs, x < B) → ∀ i, dig B (val B xs) i = xs.getD i 0
  | [], _, i => by simp [val, dig]
  | x :: r, h, i => by
    have h2 := h x List.mem_cons_self
    rcases i with _ | i
    · simp only [dig, val, Nat.pow_zero, Nat.div_one, List.getD_cons_zero]
      rw [Nat.add_mul_mod_self_left, Nat.mod_eq_of_lt h2]
    · simp only [List.getD_cons_succ]
      rw [← dig_val hB r (fun y hy => h y (List.mem_cons_of_mem _ hy)) i]
      simp only [dig, val, Nat.pow_succ]
      rw [Nat.mul_comm (B ^ i) B, ← Nat.div_div_eq_div_mul, Nat.add_mul_div_left _ _ hB, Nat.div_eq_of_lt h2, Nat.zero_add]

theorem lenN_le (N : Nat) : ∀ k, lenN B N k ≤ k
  | 0 => Nat.le_refl _
  | k + 1 => by unfold lenN; split; exact Nat.le_succ_of_le (lenN_le N k); exact Nat.le_refl _

theorem lenN_zero {N : Nat} (hB : 0 < B) : ∀ k, N < B ^ k → N < B ^ lenN B N k
  | 0, h => h
  | k + 1, h => by
    unfold lenN
    split
    · rename_i h0
      refine lenN_zero hB k ?_
      have := mod_succ (B := B) N k
      rw [h0, Nat.mod_eq_of_lt h, Nat.mul_zero, Nat.add_zero] at this
      rw [this]
      exact Nat.mod_lt _ (pow_pos' hB k)
    · exact h

theorem lenN_min {N : Nat} (hB : 0 < B) : ∀ k j, N < B ^ j → lenN B N k ≤ j
  | 0, j, _ => Nat.zero_le _
  | k + 1, j, h => by
    unfold lenN
    split
    · exact lenN_min hB k j h
    · rename_i h0
      rcases Nat.lt_or_ge k j with hk | hk
      · exact hk
      · exact absurd (dig_zero_of_lt hB h hk) h0

/-- How many digits a number has. -/
def len (B N : Nat) : Nat := lenN B N N
theorem lt_pow_self' (hB : 1 < B) (N : Nat) : N < B ^ N := Nat.lt_pow_self hB
theorem lt_len (hB : 1 < B) (N : Nat) : N < B ^ len B N := lenN_zero (by omega) N (lt_pow_self' hB N)
theorem len_le {N k : Nat} (hB : 0 < B) (h : N < B ^ k) : len B N ≤ k := lenN_min hB _ _ h
theorem lenN_eq {N k : Nat} (hB : 1 < B) (h : N < B ^ k) : lenN B N k = len B N :=
  Nat.le_antisymm (lenN_min (by omega) _ _ (lt_len hB N)) (lenN_min (by omega) _ _ (lenN_zero (by omega) k h))
theorem len_zero : len B 0 = 0 := rfl
theorem lt_pow_of_len {N k : Nat} (hB : 1 < B) (h : len B N ≤ k) : N < B ^ k :=
  Nat.lt_of_lt_of_le (lt_len hB N) (Nat.pow_le_pow_right (by omega) h)
theorem len_le_iff {N k : Nat} (hB : 1 < B) : len B N ≤ k ↔ N < B ^ k := ⟨lt_pow_of_len hB, len_le (by omega)⟩
theorem len_mono {N M : Nat} (hB : 1 < B) (h : N ≤ M) : len B N ≤ len B M :=
  (len_le_iff hB).2 (Nat.lt_of_le_of_lt h (lt_len hB M))
theorem len_eq_zero {N : Nat} (hB : 1 < B) : len B N = 0 ↔ N = 0 := by
  constructor
  · intro h
    have := lt_len hB N
    rw [h, Nat.pow_zero] at this
    omega
  · rintro rfl; rfl
theorem pow_le_of_len {N k : Nat} (hB : 1 < B) (h : k < len B N) : B ^ k ≤ N := by
  rcases Nat.lt_or_ge N (B ^ k) with hl | hl
  · have := len_le (by omega) hl; omega
  · exact hl
theorem top_ne {N k : Nat} (hB : 1 < B) (h : len B N = k + 1) : dig B N k ≠ 0 := by
  intro h0
  have h1 := lt_len hB N
  rw [h] at h1
  have := mod_succ (B := B) N k
  rw [h0, Nat.mod_eq_of_lt h1, Nat.mul_zero, Nat.add_zero] at this
  have h2 : N < B ^ k := by rw [this]; exact Nat.mod_lt _ (pow_pos' (by omega) k)
  have := len_le (by omega) h2
  omega
theorem len_add (hB : 1 < B) (N M k : Nat) (hn : len B N ≤ k) (hm : len B M ≤ k) : len B (N + M) ≤ k + 1 := by
  rw [len_le_iff hB] at *
  rw [Nat.pow_succ]
  have : B ^ k * 2 ≤ B ^ k * B := Nat.mul_le_mul_left _ hB
  omega
theorem len_mul (hB : 1 < B) (N M k l : Nat) (hn : len B N ≤ k) (hm : len B M ≤ l) : len B (N * M) ≤ k + l := by
  rw [len_le_iff hB] at *
  rw [Nat.pow_add]
  exact Nat.mul_lt_mul'' hn hm

/-- The first k digits are all there is: the number is theirs. -/
theorem mod_of_len {N k : Nat} (hB : 1 < B) (h : len B N ≤ k) : N % B ^ k = N := Nat.mod_eq_of_lt (lt_pow_of_len hB h)

/-- Two numbers whose digits agree are one. -/
theorem eq_of_dig {N M : Nat} (hB : 1 < B) (h : ∀ i, dig B N i = dig B M i) : N = M := by
  have e : ∀ k, N % B ^ k = M % B ^ k := by
    intro k
    rw [← val_digs, ← val_digs]
    unfold digs
    rw [List.map_congr_left fun i _ => h i]
  have h1 := e (N + M)
  rw [Nat.mod_eq_of_lt, Nat.mod_eq_of_lt] at h1
  · exact h1
  · exact Nat.lt_of_lt_of_le (lt_pow_self' hB M) (Nat.pow_le_pow_right (by omega) (by omega))
  · exact Nat.lt_of_lt_of_le (lt_pow_self' hB N) (Nat.pow_le_pow_right (by omega) (by omega))

theorem len_top {S k : Nat} (hB : 1 < B) (h : len B S ≤ k + 1) : (dig B S k = 0 → len B S ≤ k) ∧ (dig B S k ≠ 0 → len B S = k + 1) := by
  have hS := lt_pow_of_len hB h
  have e := lenN_eq hB hS
  unfold lenN at e
  constructor
  · intro h0
    rw [if_pos h0] at e
    rw [← e]
    exact lenN_le _ _
  · intro h0
    rw [if_neg h0] at e
    exact e.symm

/-- How two numbers stand. -/
def cmpN (N M : Nat) : Int := if N < M then -1 else if M < N then 1 else 0
theorem cmpN_lt {N M : Nat} (h : N < M) : cmpN N M = -1 := if_pos h
theorem cmpN_gt {N M : Nat} (h : M < N) : cmpN N M = 1 := by unfold cmpN; rw [if_neg (by omega), if_pos h]
theorem cmpN_self (N : Nat) : cmpN N N = 0 := by unfold cmpN; rw [if_neg (by omega), if_neg (by omega)]

/-- The digits from k on. -/
theorem div_succ (N k : Nat) : N / B ^ k = B * (N / B ^ (k + 1)) + dig B N k := by
  rw [Nat.pow_succ, ← Nat.div_div_eq_div_mul]
  exact (Nat.div_add_mod _ _).symm
theorem lt_of_dig {N M k : Nat} (h : N / B ^ (k + 1) = M / B ^ (k + 1)) (hd : dig B N k < dig B M k) : N < M := by
  have h1 := div_succ (B := B) N k
  have h2 := div_succ (B := B) M k
  rw [h] at h1
  rcases Nat.lt_or_ge N M with hl | hl
  · exact hl
  · have := Nat.div_le_div_right (c := B ^ k) hl; omega
theorem div_eq_of_dig {N M k : Nat} (h : N / B ^ (k + 1) = M / B ^ (k + 1)) (hd : dig B N k = dig B M k) : N / B ^ k = M / B ^ k := by
  rw [div_succ, div_succ M, h, hd]
theorem lt_of_len {N M : Nat} (hB : 1 < B) (h : len B N < len B M) : N < M := by
  rcases Nat.lt_or_ge N M with hl | hl
  · exact hl
  · have := len_mono hB hl; omega

/-- ADD: the carry into digit k, and what becomes of digit k. -/
def carry (B N M k : Nat) : Nat := (N % B ^ k + M % B ^ k) / B ^ k
theorem carry_zero (N M : Nat) : carry B N M 0 = 0 := by simp [carry, Nat.mod_one]
theorem carry_le (hB : 0 < B) (N M k : Nat) : carry B N M k ≤ 1 := by
  unfold carry
  have h := pow_pos' hB k
  have h1 := Nat.mod_lt N h
  have h2 := Nat.mod_lt M h
  have : (N % B ^ k + M % B ^ k) / B ^ k < 2 := by rw [Nat.div_lt_iff_lt_mul h]; omega
  omega
theorem carry_dig (hB : 0 < B) (N M k : Nat) : (dig B N k + dig B M k + carry B N M k) % B = dig B (N + M) k := by
  have h := pow_pos' hB k
  unfold dig carry
  have e : (N + M) / B ^ k = N / B ^ k + M / B ^ k + (N % B ^ k + M % B ^ k) / B ^ k := by
    have h1 := Nat.div_add_mod N (B ^ k)
    have h2 := Nat.div_add_mod M (B ^ k)
    generalize N % B ^ k = a at *
    generalize M % B ^ k = b at *
    generalize N / B ^ k = c at *
    generalize M / B ^ k = d at *
    generalize B ^ k = p at *
    subst h1; subst h2
    rw [show p * c + a + (p * d + b) = (a + b) + p * (c + d) from by rw [Nat.mul_add]; omega, Nat.add_mul_div_left _ _ h]
    omega
  rw [e, Nat.add_mod, Nat.add_mod (N / B ^ k % B), Nat.mod_mod, Nat.mod_mod, ← Nat.add_mod (N / B ^ k), ← Nat.add_mod]
theorem carry_succ (hB : 0 < B) (N M k : Nat) : carry B N M (k + 1) = (dig B N k + dig B M k + carry B N M k) / B := by
  have h := pow_pos' hB k
  unfold carry
  rw [mod_succ, mod_succ, Nat.pow_succ, ← Nat.div_div_eq_div_mul]
  congr 1
  rw [show N % B ^ k + B ^ k * dig B N k + (M % B ^ k + B ^ k * dig B M k) = (N % B ^ k + M % B ^ k) + B ^ k * (dig B N k + dig B M k) from by rw [Nat.mul_add]; omega, Nat.add_mul_div_left _ _ h]
  omega
theorem carry_last (hB : 1 < B) (N M k : Nat) (hn : len B N ≤ k) (hm : len B M ≤ k) : carry B N M k = dig B (N + M) k := by
  have h1 := carry_dig (by omega) N M k (B := B)
  rw [dig_zero_of_lt (by omega) (lt_pow_of_len hB hn) (Nat.le_refl _), dig_zero_of_lt (by omega) (lt_pow_of_len hB hm) (Nat.le_refl _)] at h1
  have h2 := carry_le (by omega) N M k (B := B)
  rw [← h1, Nat.mod_eq_of_lt (by omega)]
  omega

/-- SUB: the borrow. -/
def borrow (B N M k : Nat) : Nat := if N % B ^ k < M % B ^ k then 1 else 0
theorem borrow_zero (N M : Nat) : borrow B N M 0 = 0 := by simp [borrow, Nat.mod_one]
theorem borrow_le (N M k : Nat) : borrow B N M k ≤ 1 := by unfold borrow; split <;> omega
theorem borrow_succ (hB : 0 < B) (N M k : Nat) : borrow B N M (k + 1) = if dig B N k < dig B M k + borrow B N M k then 1 else 0 := by
  have h := pow_pos' hB k
  unfold borrow
  rw [mod_succ, mod_succ]
  have h1 := Nat.mod_lt N h
  have h2 := Nat.mod_lt M h
  generalize N % B ^ k = a at *
  generalize M % B ^ k = b at *
  generalize dig B N k = x at *
  generalize dig B M k = y at *
  generalize B ^ k = p at *
  have key : (a + p * x < b + p * y) ↔ (x < y + if a < b then 1 else 0) := by
    rcases Nat.lt_trichotomy x y with hxy | hxy | hxy
    · obtain ⟨d, rfl⟩ := Nat.exists_eq_add_of_lt hxy
      rw [show p * (x + d + 1) = p * x + p * d + p from by rw [Nat.mul_add, Nat.mul_add, Nat.mul_one]]
      split <;> constructor <;> intro _ <;> omega
    · subst hxy
      split <;> constructor <;> intro _ <;> omega
    · obtain ⟨d, rfl⟩ := Nat.exists_eq_add_of_lt hxy
      rw [show p * (y + d + 1) = p * y + p * d + p from by rw [Nat.mul_add, Nat.mul_add, Nat.mul_one]]
      split <;> constructor <;> intro _ <;> omega
  by_cases hc : a + p * x < b + p * y
  · rw [if_pos hc, if_pos (key.1 hc)]
  · rw [if_neg hc, if_neg (fun h => hc (key.2 h))]
theorem borrow_dig (hB : 1 < B) (N M k : Nat) (hle : M ≤ N) : (B + dig B N k - dig B M k - borrow B N M k) % B = dig B (N - M) k := by
  -- from the sum (N - M) + M = N
  have h1 := carry_dig (by omega) (N - M) M k (B := B)
  rw [Nat.sub_add_cancel hle] at h1
  have hc : carry B (N - M) M k = borrow B N M k := by
    have h := pow_pos' (show 0 < B by omega) k
    unfold carry borrow
    have e : N % B ^ k = ((N - M) % B ^ k + M % B ^ k) % B ^ k := by rw [← Nat.add_mod, Nat.sub_add_cancel hle]
    have a1 := Nat.mod_lt (N - M) h
    have a2 := Nat.mod_lt M h
    rw [e]
    generalize (N - M) % B ^ k = a at *
    generalize M % B ^ k = b at *
    generalize B ^ k = p at *
    rcases Nat.lt_or_ge (a + b) p with hl | hl
    · rw [Nat.mod_eq_of_lt hl, Nat.div_eq_of_lt hl, if_neg (by omega)]
    · rw [Nat.mod_eq_sub_mod hl, Nat.mod_eq_of_lt (by omega), if_pos (by omega), Nat.div_eq_of_lt_le (k := 1) (by omega) (by omega)]
  rw [hc] at h1
  have a1 := dig_lt (show 0 < B by omega) (N - M) k
  have a2 := dig_lt (show 0 < B by omega) M k
  have a3 := borrow_le N M k (B := B)
  generalize dig B (N - M) k = z at *
  generalize dig B M k = y at *
  generalize borrow B N M k = c at *
  rw [← h1]
  rcases Nat.lt_or_ge (z + y + c) B with hl | hl
  · rw [Nat.mod_eq_of_lt hl, show B + (z + y + c) - y - c = z + B from by omega, Nat.add_mod_right, Nat.mod_eq_of_lt a1]
  · have e1 : (z + y + c) % B = z + y + c - B := by rw [Nat.mod_eq_sub_mod hl]; exact Nat.mod_eq_of_lt (by omega)
    have e2 : B + (z + y + c - B) - y - c = z := by omega
    rw [e1, e2, Nat.mod_eq_of_lt a1]

/-- MUL: a row of the product as it grows: below s the new digits, from s on the old ones. -/
def mix (B T U s p : Nat) : Nat := if p < s then dig B U p else dig B T p

theorem mul_low {U V p s : Nat} (hp : p < s) : dig B (U + V * B ^ s) p = dig B U p := by
  unfold dig
  obtain ⟨d, rfl⟩ : ∃ d, s = p + 1 + d := ⟨s - p - 1, by omega⟩
  rcases Nat.eq_zero_or_pos B with h0 | hB
  · subst h0; simp [Nat.pow_add, Nat.pow_succ]
  · have h := pow_pos' hB p
    rw [show V * B ^ (p + 1 + d) = B ^ p * (B * (V * B ^ d)) from by rw [Nat.pow_add, Nat.pow_succ]; simp only [Nat.mul_comm, Nat.mul_left_comm, Nat.mul_assoc], Nat.add_mul_div_left _ _ h, Nat.add_mul_mod_self_left]

theorem mul_step (hB : 1 < B) (T U x y c s : Nat) (hc : U / B ^ s = T / B ^ s + c) (hx : x < B) (hy : y < B) (hcB : c < B) :
    (x * y + dig B T s + c) % B = dig B (U + x * y * B ^ s) s ∧ (U + x * y * B ^ s) / B ^ (s + 1) = T / B ^ (s + 1) + (x * y + dig B T s + c) / B ∧ (x * y + dig B T s + c) / B < B := by
  have hB0 : 0 < B := by omega
  have h := pow_pos' hB0 s
  have e1 : (U + x * y * B ^ s) / B ^ s = T / B ^ s + c + x * y := by
    rw [Nat.mul_comm (x * y), Nat.add_mul_div_left _ _ h, hc]
  have e2 := div_succ (B := B) T s
  have e3 : T / B ^ s + c + x * y = (x * y + dig B T s + c) + B * (T / B ^ (s + 1)) := by omega
  refine ⟨?_, ?_, ?_⟩
  · conv => rhs; unfold dig
    rw [e1, e3, Nat.add_mul_mod_self_left]
  · rw [Nat.pow_succ, ← Nat.div_div_eq_div_mul, e1, e3, Nat.add_mul_div_left _ _ hB0, Nat.pow_succ]
    omega
  · have hd := dig_lt hB0 T s
    rw [Nat.div_lt_iff_lt_mul hB0]
    have : x * y ≤ (B - 1) * (B - 1) := Nat.mul_le_mul (by omega) (by omega)
    obtain ⟨b, rfl⟩ : ∃ b, B = b + 1 := ⟨B - 1, by omega⟩
    simp only [Nat.add_sub_cancel] at this
    rw [show (b + 1) * (b + 1) = b * b + b + b + 1 from by rw [Nat.add_mul, Nat.mul_add]; omega]
    omega

theorem mul_end {T U c s : Nat} (hc : U / B ^ s = T / B ^ s + c) (hT : T < B ^ s) (hcB : c < B) : c = dig B U s := by
  rw [Nat.div_eq_of_lt hT, Nat.zero_add] at hc
  unfold dig
  rw [hc, Nat.mod_eq_of_lt hcB]

theorem mul_row (N M i k : Nat) : (N % B ^ i) * M + dig B N i * (M % B ^ (k + 1)) * B ^ i = (N % B ^ i) * M + dig B N i * (M % B ^ k) * B ^ i + dig B N i * dig B M k * B ^ (i + k) := by
  rw [mod_succ, Nat.pow_add]
  rw [Nat.mul_add, Nat.add_mul, Nat.add_assoc]
  congr 2
  simp only [Nat.mul_comm, Nat.mul_left_comm, Nat.mul_assoc]

theorem mul_next (N M i : Nat) : (N % B ^ i) * M + dig B N i * M * B ^ i = (N % B ^ (i + 1)) * M := by
  rw [mod_succ, Nat.add_mul]
  congr 1
  simp only [Nat.mul_comm, Nat.mul_left_comm]

end
end Go.Proofs.Ytpglnfccmhkocaa
