/- Plain arithmetic: the digits of a number to a base. Conditions: none (no program in sight). Words for memory: growth of the world; a slice of digits that reads as a number; append, with the draws counted. Conditions: none. nat.size: how many words count. Condition: the slice reads as a number. math/bits: Add32, Sub32. Conditions: the operands are words. -/
import Derived.Below
import Derived.WalkKit
import Derived.Lib.Hide
import Derived.Deep.Draws
import Derived.Laws.CopyOwn
import Derived.Test.YtngbcbncllfblaaGreatProg
namespace Go.Proofs.YtngbcbncllfblaaGreat

/-- Digit i of N to the base B. -/
def dig (B N i : Nat) : Nat := N / B ^ i % B
/-- The first k digits of N. -/
def digs (B N k : Nat) : List Nat := (List.range k).map (dig B N)
/-- How many of the first k digits count. -/
def lenN (B N : Nat) : Nat → Nat
  | 0 => 0
  | k + 1 => if dig B N k = 0 then lenN B N k else k + 1

section
variable {B : Nat}

theorem dig_lt (hB : 0 < B) (N i : Nat) : dig B N i < B := Nat.mod_lt _ hB
theorem digs_length (N k : Nat) : (digs B N k).length = k := by simp [digs]
theorem digs_succ (N k : Nat) : digs B N (k + 1) = digs B N k ++ [dig B N k] := by simp [digs, List.range_succ]
theorem digs_get? (N k i : Nat) (h : i < k) : (digs B N k)[i]? = some (dig B N i) := by simp [digs, h]

theorem pow_pos' (hB : 0 < B) (k : Nat) : 0 < B ^ k := Nat.pow_pos hB

theorem mod_succ (N k : Nat) : N % B ^ (k + 1) = N % B ^ k + B ^ k * dig B N k := Nat.mod_pow_succ

theorem dig_zero_of_lt {N k i : Nat} (hB : 0 < B) (h : N < B ^ k) (hi : k ≤ i) : dig B N i = 0 := by
  unfold dig
  rw [Nat.div_eq_of_lt (Nat.lt_of_lt_of_le h (Nat.pow_le_pow_right hB hi)), Nat.zero_mod]

theorem lenN_zero {N : Nat} (hB : 0 < B) : ∀ k, N < B ^ k → N < B ^ lenN B N k
  | 0, h => h
  | k + 1, h => by
    unfold lenN
    split
    · rename_i h0
      refine lenN_zero hB k ?_
      have := mod_succ (B := B) N k
      rw [h0, Nat.mod_eq_of_lt h, Nat.mul_zero, Nat.add_zero] at this
      rw [this]
      exact Nat.mod_lt _ (pow_pos' hB k)
    · exact h

theorem lenN_min {N : Nat} (hB : 0 < B) : ∀ k j, N < B ^ j → lenN B N k ≤ j
  | 0, j, _ => Nat.zero_le _
  | k + 1, j, h => by
    unfold lenN
    split
    · exact lenN_min hB k j h
    · rename_i h0
      rcases Nat.lt_or_ge k j with hk | hk
      · exact hk
      · exact absurd (dig_zero_of_lt hB h hk) h0

/-- How many digits a number has. -/
def len (B N : Nat) : Nat := lenN B N N
theorem lt_pow_self' (hB : 1 < B) (N : Nat) : N < B ^ N := Nat.lt_pow_self hB
theorem lt_len (hB : 1 < B) (N : Nat) : N < B ^ len B N := lenN_zero (by omega) N (lt_pow_self' hB N)
theorem len_le {N k : Nat} (hB : 0 < B) (h : N < B ^ k) : len B N ≤ k := lenN_min hB _ _ h
theorem lenN_eq {N k : Nat} (hB : 1 < B) (h : N < B ^ k) : lenN B N k = len B N :=
  Nat.le_antisymm (lenN_min (by omega) _ _ (lt_len hB N)) (lenN_min (by omega) _ _ (lenN_zero (by omega) k h))
theorem len_zero : len B 0 = 0 := rfl
theorem lt_pow_of_len {N k : Nat} (hB : 1 < B) (h : len B N ≤ k) : N < B ^ k :=
  Nat.lt_of_lt_of_le (lt_len hB N) (Nat.pow_le_pow_right (by omega) h)
theorem len_le_iff {N k : Nat} (hB : 1 < B) : len B N ≤ k ↔ N < B ^ k := ⟨lt_pow_of_len hB, len_le (by omega)⟩
theorem len_mono {N M : Nat} (hB : 1 < B) (h : N ≤ M) : len B N ≤ len B M :=
  (len_le_iff hB).2 (Nat.lt_of_le_of_lt h (lt_len hB M))
theorem len_eq_zero {N : Nat} (hB : 1 < B) : len B N = 0 ↔ N = 0 := by
  constructor
  · intro h
    have := lt_len hB N
    rw [h, Nat.pow_zero] at this
    omega
  · rintro rfl; rfl
theorem top_ne {N k : Nat} (hB : 1 < B) (h : len B N = k + 1) : dig B N k ≠ 0 := by
  intro h0
  have h1 := lt_len hB N
  rw [h] at h1
  have := mod_succ (B := B) N k
  rw [h0, Nat.mod_eq_of_lt h1, Nat.mul_zero, Nat.add_zero] at this
  have h2 : N < B ^ k := by rw [this]; exact Nat.mod_lt _ (pow_pos' (by omega) k)
  have := len_le (by omega) h2
  omega
theorem len_add (hB : 1 < B) (N M k : Nat) (hn : len B N ≤ k) (hm : len B M ≤ k) : len B (N + M) ≤ k + 1 := by
  rw [len_le_iff hB] at *
  rw [Nat.pow_succ]
  have : B ^ k * 2 ≤ B ^ k * B := Nat.mul_le_mul_left _ hB
  omega
theorem len_mul (hB : 1 < B) (N M k l : Nat) (hn : len B N ≤ k) (hm : len B M ≤ l) : len B (N * M) ≤ k + l := by
  rw [len_le_iff hB] at *
  rw [Nat.pow_add]
  exact Nat.mul_lt_mul'' hn hm

/-- How two numbers stand. -/
def cmpN (N M : Nat) : Int := if N < M then -1 else if M < N then 1 else 0
theorem cmpN_lt {N M : Nat} (h : N < M) : cmpN N M = -1 := if_pos h
theorem cmpN_gt {N M : Nat} (h : M < N) : cmpN N M = 1 := by unfold cmpN; rw [if_neg (by omega), if_pos h]
theorem cmpN_self (N : Nat) : cmpN N N = 0 := by unfold cmpN; rw [if_neg (by omega), if_neg (by omega)]

/-- The digits from k on. -/
theorem div_succ (N k : Nat) : N / B ^ k = B * (N / B ^ (k + 1)) + dig B N k := by
  rw [Nat.pow_succ, ← Nat.div_div_eq_div_mul]
  exact (Nat.div_add_mod _ _).symm
theorem lt_of_dig {N M k : Nat} (h : N / B ^ (k + 1) = M / B ^ (k + 1)) (hd : dig B N k < dig B M k) : N < M := by
  have h1 := div_succ (B := B) N k
  have h2 := div_succ (B := B) M k
  rw [h] at h1
  rcases Nat.lt_or_ge N M with hl | hl
  · exact hl
  · have := Nat.div_le_div_right (c := B ^ k) hl; omega
theorem div_eq_of_dig {N M k : Nat} (h : N / B ^ (k + 1) = M / B ^ (k + 1)) (hd : dig B N k = dig B M k) : N / B ^ k = M / B ^ k := by
  rw [div_succ, div_succ M, h, hd]
theorem lt_of_len {N M : Nat} (hB : 1 < B) (h : len B N < len B M) : N < M := by
  rcases Nat.lt_or_ge N M with hl | hl
  · exact hl
  · have := len_mono hB hl; omega

/-- ADD: the carry into digit k, and what becomes of digit k. -/
def carry (B N M k : Nat) : Nat := (N % B ^ k + M % B ^ k) / B ^ k
theorem carry_zero (N M : Nat) : carry B N M 0 = 0 := by simp [carry, Nat.mod_one]
theorem carry_le (hB : 0 < B) (N M k : Nat) : carry B N M k ≤ 1 := by
  unfold carry
  have h := pow_pos' hB k
  have h1 := Nat.mod_lt N h
  have h2 := Nat.mod_lt M h
  have : (N % B ^ k + M % B ^ k) / B ^ k < 2 := by rw [Nat.div_lt_iff_lt_mul h]; omega
  omega
theorem carry_dig (hB : 0 < B) (N M k : Nat) : (dig B N k + dig B M k + carry B N M k) % B = dig B (N + M) k := by
  have h := pow_pos' hB k
  unfold dig carry
  have e : (N + M) / B ^ k = N / B ^ k + M / B ^ k + (N % B ^ k + M % B ^ k) / B ^ k := by
    have h1 := Nat.div_add_mod N (B ^ k)
    have h2 := Nat.div_add_mod M (B ^ k)
    generalize N % B ^ k = a at *
    generalize M % B ^ k = b at *
    generalize N / B ^ k = c at *
    generalize M / B ^ k = d at *
    generalize B ^ k = p at *
    subst h1; subst h2
    rw [show p * c + a + (p * d + b) = (a + b) + p * (c + d) from by rw [Nat.mul_add]; omega, Nat.add_mul_div_left _ _ h]
    omega
  rw [e, Nat.add_mod, Nat.add_mod (N / B ^ k % B), Nat.mod_mod, Nat.mod_mod, ← Nat.add_mod (N / B ^ k), ← Nat.add_mod]
theorem carry_succ (hB : 0 < B) (N M k : Nat) : carry B N M (k + 1) = (dig B N k + dig B M k + carry B N M k) / B := by
  have h := pow_pos' hB k
  unfold carry
  rw [mod_succ, mod_succ, Nat.pow_succ, ← Nat.div_div_eq_div_mul]
  congr 1
  rw [show N % B ^ k + B ^ k * dig B N k + (M % B ^ k + B ^ k * dig B M k) = (N % B ^ k + M % B ^ k) + B ^ k * (dig B N k + dig B M k) from by rw [Nat.mul_add]; omega, Nat.add_mul_div_left _ _ h]
  omega
/-- SUB: the borrow. -/
def borrow (B N M k : Nat) : Nat := if N % B ^ k < M % B ^ k then 1 else 0
theorem borrow_zero (N M : Nat) : borrow B N M 0 = 0 := by simp [borrow, Nat.mod_one]
theorem borrow_le (N M k : Nat) : borrow B N M k ≤ 1 := by unfold borrow; split <;> omega
theorem borrow_succ (hB : 0 < B) (N M k : Nat) : borrow B N M (k + 1) = if dig B N k < dig B M k + borrow B N M k then 1 else 0 := by
  have h := pow_pos' hB k
  unfold borrow
  rw [mod_succ, mod_succ]
  have h1 := Nat.mod_lt N h
  have h2 := Nat.mod_lt M h
  generalize N % B ^ k = a at *
  generalize M % B ^ k = b at *
  generalize dig B N k = x at *
  generalize dig B M k = y at *
  generalize B ^ k = p at *
  have key : (a + p * x < b + p * y) ↔ (x < y + if a < b then 1 else 0) := by
    rcases Nat.lt_trichotomy x y with hxy | hxy | hxy
    · obtain ⟨d, rfl⟩ := Nat.exists_eq_add_of_lt hxy
      rw [show p * (x + d + 1) = p * x + p * d + p from by rw [Nat.mul_add, Nat.mul_add, Nat.mul_one]]
      split <;> constructor <;> intro _ <;> omega
    · subst hxy
      split <;> constructor <;> intro _ <;> omega
    · obtain ⟨d, rfl⟩ := Nat.exists_eq_add_of_lt hxy
      rw [show p * (y + d + 1) = p * y + p * d + p from by rw [Nat.mul_add, Nat.mul_add, Nat.mul_one]]
      split <;> constructor <;> intro _ <;> omega
  by_cases hc : a + p * x < b + p * y
  · rw [if_pos hc, if_pos (key.1 hc)]
  · rw [if_neg hc, if_neg (fun h => hc (key.2 h))]
theorem borrow_dig (hB : 1 < B) (N M k : Nat) (hle : M ≤ N) : (B + dig B N k - dig B M k - borrow B N M k) % B = dig B (N - M) k := by
  -- from the sum (N - M) + M = N
  have h1 := carry_dig (by omega) (N - M) M k (B := B)
  rw [Nat.sub_add_cancel hle] at h1
  have hc : carry B (N - M) M k = borrow B N M k := by
    have h := pow_pos' (show 0 < B by omega) k
    unfold carry borrow
    have e : N % B ^ k = ((N - M) % B ^ k + M % B ^ k) % B ^ k := by rw [← Nat.add_mod, Nat.sub_add_cancel hle]
    have a1 := Nat.mod_lt (N - M) h
    have a2 := Nat.mod_lt M h
    rw [e]
    generalize (N - M) % B ^ k = a at *
    generalize M % B ^ k = b at *
    generalize B ^ k = p at *
    rcases Nat.lt_or_ge (a + b) p with hl | hl
    · rw [Nat.mod_eq_of_lt hl, Nat.div_eq_of_lt hl, if_neg (by omega)]
    · rw [Nat.mod_eq_sub_mod hl, Nat.mod_eq_of_lt (by omega), if_pos (by omega), Nat.div_eq_of_lt_le (k := 1) (by omega) (by omega)]
  rw [hc] at h1
  have a1 := dig_lt (show 0 < B by omega) (N - M) k
  have a2 := dig_lt (show 0 < B by omega) M k
  have a3 := borrow_le N M k (B := B)
  generalize dig B (N - M) k = z at *
  generalize dig B M k = y at *
  generalize borrow B N M k = c at *
  rw [← h1]
  rcases Nat.lt_or_ge (z + y + c) B with hl | hl
  · rw [Nat.mod_eq_of_lt hl, show B + (z + y + c) - y - c = z + B from by omega, Nat.add_mod_right, Nat.mod_eq_of_lt a1]
  · have e1 : (z + y + c) % B = z + y + c - B := by rw [Nat.mod_eq_sub_mod hl]; exact Nat.mod_eq_of_lt (by omega)
    have e2 : B + (z + y + c - B) - y - c = z := by omega
    rw [e1, e2, Nat.mod_eq_of_lt a1]

/-- MUL: a row of the product as it grows: below s the new digits, from s on the old ones. -/
def mix (B T U s p : Nat) : Nat := if p < s then dig B U p else dig B T p

theorem mul_low {U V p s : Nat} (hp : p < s) : dig B (U + V * B ^ s) p = dig B U p := by
  unfold dig
  obtain ⟨d, rfl⟩ : ∃ d, s = p + 1 + d := ⟨s - p - 1, by omega⟩
  rcases Nat.eq_zero_or_pos B with h0 | hB
  · subst h0; simp [Nat.pow_add, Nat.pow_succ]
  · have h := pow_pos' hB p
    rw [show V * B ^ (p + 1 + d) = B ^ p * (B * (V * B ^ d)) from by rw [Nat.pow_add, Nat.pow_succ]; simp only [Nat.mul_comm, Nat.mul_left_comm, Nat.mul_assoc], Nat.add_mul_div_left _ _ h, Nat.add_mul_mod_self_left]

theorem mul_step (hB : 1 < B) (T U x y c s : Nat) (hc : U / B ^ s = T / B ^ s + c) (hx : x < B) (hy : y < B) (hcB : c < B) :
    (x * y + dig B T s + c) % B = dig B (U + x * y * B ^ s) s ∧ (U + x * y * B ^ s) / B ^ (s + 1) = T / B ^ (s + 1) + (x * y + dig B T s + c) / B ∧ (x * y + dig B T s + c) / B < B := by
  have hB0 : 0 < B := by omega
  have h := pow_pos' hB0 s
  have e1 : (U + x * y * B ^ s) / B ^ s = T / B ^ s + c + x * y := by
    rw [Nat.mul_comm (x * y), Nat.add_mul_div_left _ _ h, hc]
  have e2 := div_succ (B := B) T s
  have e3 : T / B ^ s + c + x * y = (x * y + dig B T s + c) + B * (T / B ^ (s + 1)) := by omega
  refine ⟨?_, ?_, ?_⟩
  · conv => rhs; unfold dig
    rw [e1, e3, Nat.add_mul_mod_self_left]
  · rw [Nat.pow_succ, ← Nat.div_div_eq_div_mul, e1, e3, Nat.add_mul_div_left _ _ hB0, Nat.pow_succ]
    omega
  · have hd := dig_lt hB0 T s
    rw [Nat.div_lt_iff_lt_mul hB0]
    have : x * y ≤ (B - 1) * (B - 1) := Nat.mul_le_mul (by omega) (by omega)
    obtain ⟨b, rfl⟩ : ∃ b, B = b + 1 := ⟨B - 1, by omega⟩
    simp only [Nat.add_sub_cancel] at this
    rw [show (b + 1) * (b + 1) = b * b + b + b + 1 from by rw [Nat.add_mul, Nat.mul_add]; omega]
    omega

theorem mul_end {T U c s : Nat} (hc : U / B ^ s = T / B ^ s + c) (hT : T < B ^ s) (hcB : c < B) : c = dig B U s := by
  rw [Nat.div_eq_of_lt hT, Nat.zero_add] at hc
  unfold dig
  rw [hc, Nat.mod_eq_of_lt hcB]

theorem mul_row (N M i k : Nat) : (N % B ^ i) * M + dig B N i * (M % B ^ (k + 1)) * B ^ i = (N % B ^ i) * M + dig B N i * (M % B ^ k) * B ^ i + dig B N i * dig B M k * B ^ (i + k) := by
  rw [mod_succ, Nat.pow_add]
  rw [Nat.mul_add, Nat.add_mul, Nat.add_assoc]
  congr 2
  simp only [Nat.mul_comm, Nat.mul_left_comm, Nat.mul_assoc]

theorem mul_next (N M i : Nat) : (N % B ^ i) * M + dig B N i * M * B ^ i = (N % B ^ (i + 1)) * M := by
  rw [mod_succ, Nat.add_mul]
  congr 1
  simp only [Nat.mul_comm, Nat.mul_left_comm]

end
end Go.Proofs.YtngbcbncllfblaaGreat
namespace Go.Proofs.YtngbcbncllfblaaGreat
open Go.RowKit

theorem ret_int {k : IntKind} {a b : Int} (h : a = b) : Ending.returned (.int k a) = .returned (.int k b) := by rw [h]

theorem ret_ints {k j : IntKind} {a b c d : Int} (h : a = b) (h' : c = d) : Ending.returned (.tuple #[.int k a, .int j c]) = .returned (.tuple #[.int k b, .int j d]) := by rw [h, h']

theorem ret_ib {k : IntKind} {a b : Int} {c d : Bool} (h : a = b) (h' : c = d) : Ending.returned (.tuple #[.int k a, .bool c]) = .returned (.tuple #[.int k b, .bool d]) := by rw [h, h']

/-- What was there is as it was; new blocks and draws alone. -/
structure Grew (w w' : World) : Prop where
  below : Below w.heap.size w w'
  drawn : w.drawn ≤ w'.drawn

theorem Grew.refl (w : World) : Grew w w := ⟨Below.refl _ _, Nat.le_refl _⟩
theorem Grew.trans {a b c : World} (h : Grew a b) (k : Grew b c) : Grew a c :=
  ⟨h.below.trans (k.below.mono h.below.size), Nat.le_trans h.drawn k.drawn⟩
theorem Grew.size {a b : World} (h : Grew a b) : a.heap.size ≤ b.heap.size := h.below.size
theorem Grew.drew {a w : World} (h : Grew a w) : Grew a w.drew := ⟨h.below.drew, Nat.le_succ_of_le h.drawn⟩
theorem Grew.drewN {a w : World} (h : Grew a w) (n : Nat) : Grew a (w.drewN n) :=
  ⟨⟨h.below.os, h.below.tape, h.below.output, h.below.size, h.below.block⟩, Nat.le_trans h.drawn (Nat.le_add_right _ _)⟩
theorem Grew.alloc {a w : World} (h : Grew a w) (o : Obj) : Grew a (w.alloc o) := ⟨h.below.alloc h.size o, h.drawn⟩
theorem Grew.setCell {a w : World} (h : Grew a w) {p : Addr} (hp : a.heap.size ≤ p.block) (u : Value) : Grew a (w.setCell p u) := ⟨h.below.setCell hp u, h.drawn⟩
theorem Grew.grown {a w w' : World} {row : Option Nat} (h : Grew a w) (hg : w.grownBy w' row) (hd : w.drawn ≤ w'.drawn) (hr : ∀ k, row = some k → a.heap.size ≤ k) : Grew a w' :=
  ⟨h.below.grown hg h.size hr, Nat.le_trans h.drawn hd⟩
theorem Grew.cell {a w : World} (h : Grew a w) {p : Addr} {v : Value} (hp : a.cell? p = some v) : w.cell? p = some v :=
  (h.below.cell (World.block_lt_of_cell? a p hp)).trans hp

/-- All cells and marks of before, as the walk wants them. -/
theorem Grew.olds {W w : World} (h : Grew W w) : (∀ b o, b < W.heap.size → w.cell? ⟨b, o, none⟩ = W.cell? ⟨b, o, none⟩) ∧ (∀ b o, b < W.heap.size → w.frozen? ⟨b, o, none⟩ = W.frozen? ⟨b, o, none⟩) :=
  ⟨fun b o hb => h.below.cell (p := ⟨b, o, none⟩) hb, fun b o hb => h.below.frozen (p := ⟨b, o, none⟩) hb⟩

/-- A slice of n digits of kind K to the base B that reads as N. -/
def Num (B : Nat) (K : IntKind) (w : World) (v : Value) (N n : Nat) : Prop :=
  ∃ A c, v = .slice A n c ∧ n ≤ c ∧ c ≤ 9223372036854775807 ∧ N < B ^ n ∧
    (0 < n → ∃ b off, A = some ⟨b, off, none⟩ ∧ ∀ i, i < n → w.cell? ⟨b, off + i, none⟩ = some (.int K (dig B N i : Nat)))

/-- The first n digits of N as values. -/
def dvals (B : Nat) (K : IntKind) (N n : Nat) : List Value := (digs B N n).map fun (d : Nat) => Value.int K d
theorem dvals_succ (B : Nat) (K : IntKind) (N n : Nat) : dvals B K N (n + 1) = dvals B K N n ++ [.int K (dig B N n : Nat)] := by simp [dvals, digs_succ]
theorem dvals_length (B : Nat) (K : IntKind) (N n : Nat) : (dvals B K N n).length = n := by simp [dvals, digs_length]

section
variable {w w' : World} {B : Nat} {K : IntKind} {v : Value} {N n : Nat}

theorem Num.grew (h : Num B K w v N n) (g : Grew w w') : Num B K w' v N n := by
  obtain ⟨A, c, hv, h1, h2, h4, h3⟩ := h
  refine ⟨A, c, hv, h1, h2, h4, fun hn => ?_⟩
  obtain ⟨b, off, hA, hc⟩ := h3 hn
  exact ⟨b, off, hA, fun i hi => g.cell (hc i hi)⟩

theorem Num.nil (w : World) (B : Nat) (K : IntKind) : Num B K w (.slice none 0 0) 0 0 := ⟨none, 0, rfl, by simp, by omega, by simp, by simp⟩

theorem Num.len_le (hB : 0 < B) (h : Num B K w v N n) : len B N ≤ n := by
  obtain ⟨A, c, hv, h1, h2, h4, h3⟩ := h
  exact Go.Proofs.YtngbcbncllfblaaGreat.len_le hB h4

/-- A shorter cut of the same digits. -/
theorem Num.cut {A : Option Addr} {c k : Nat} (h : Num B K w (.slice A n c) N n) (hk : k ≤ n) (hl : N < B ^ k) : Num B K w (.slice A k c) N k := by
  obtain ⟨A', c', hv, h1, h2, h4, h3⟩ := h
  injection hv with e1 e2 e3
  subst e1; subst e3
  refine ⟨A, c, rfl, by omega, h2, hl, fun hn => ?_⟩
  obtain ⟨b, off, hA, hc⟩ := h3 (by omega)
  exact ⟨b, off, hA, fun i hi => hc i (by omega)⟩

/-- What the call owns, as a number. -/
theorem Num.of_own {base e : Nat} (h : w.ownsRow base e 1 v n (dvals B K N n)) (hN : N < B ^ n) : Num B K w v N n := by
  rcases h.2 with ⟨rfl, rfl⟩ | ⟨g, cap, cur, rfl, hb, hg, h1, h2, h3, h4⟩
  · exact ⟨none, 0, rfl, by omega, by omega, hN, by simp⟩
  · refine ⟨_, cap, rfl, h1, h2, hN, fun _ => ⟨g, 0, rfl, fun i hi => ?_⟩⟩
    have := h.cells (g := g) rfl i (.int K (dig B N i : Nat)) (by rw [dvals, List.getElem?_map, digs_get? N n i hi]; rfl)
    unfold Addr.add at this
    split at this
    · rename_i hi0
      subst hi0
      simpa using this
    · simpa using this
end

theorem Grew.setRow {a w : World} (h : Grew a w) {g : Nat} (hg : a.heap.size ≤ g) (cs : Array Value) : Grew a (w.setRow g cs) := ⟨below_setRow h.below hg cs, h.drawn⟩

/-- A block known whole, as a number. -/
theorem Num.of_blk {w : World} {B : Nat} {K : IntKind} {N n g c : Nat} {t : TypeId} {cur : Array Value} (hg : w.heap[g]? = some (.cells cur t (0, 0))) (hn : n ≤ c) (hc : c ≤ 9223372036854775807) (hN : N < B ^ n)
    (h : ∀ i, i < n → cur[i]? = some (.int K (dig B N i : Nat))) : Num B K w (.slice (some ⟨g, 0, none⟩) n c) N n :=
  ⟨_, c, rfl, hn, hc, hN, fun _ => ⟨g, 0, rfl, fun i hi => by rw [Nat.zero_add, cell_of_row w g i cur t (0, 0) hg]; exact h i hi⟩⟩

/-- A block known whole: L digits f of kind K. -/
def Row (w : World) (g : Nat) (t : TypeId) (K : IntKind) (f : Nat → Nat) (L : Nat) : Prop :=
  w.heap[g]? = some (.cells ((List.range L).map fun p => Value.int K (f p : Nat)).toArray t (0, 0))

section
variable {w w' : World} {g : Nat} {t : TypeId} {K : IntKind} {f f' : Nat → Nat} {L : Nat}
theorem Row.cell (h : Row w g t K f L) {p : Nat} (hp : p < L) : w.cell? ⟨g, p, none⟩ = some (.int K (f p : Nat)) := by
  rw [cell_of_row w g p _ t (0, 0) h]; simp [hp]
theorem Row.frozen (h : Row w g t K f L) (p : Nat) : w.frozen? ⟨g, p, none⟩ = false := by
  unfold Row at h; simp [World.frozen?, h]
theorem Row.lt (h : Row w g t K f L) : g < w.heap.size := (Array.getElem?_eq_some_iff.1 h).1
theorem Row.congr (h : Row w g t K f L) (e : ∀ p, p < L → f p = f' p) : Row w g t K f' L := by
  unfold Row at *
  rw [h]
  congr 3
  exact List.map_congr_left fun p hp => by rw [e p (List.mem_range.1 hp)]
theorem Row.set (h : Row w g t K f L) (p x : Nat) : Row (w.setCell ⟨g, p, none⟩ (.int K (x : Nat))) g t K (fun q => if q = p then x else f q) L := by
  unfold Row at *
  simp only [World.setCell, Array.getElem?_modify, if_true, h, Option.map_some]
  rw [if_neg (by simp), List.setIfInBounds_toArray]
  congr 3
  refine List.ext_getElem (by simp) fun q h1 h2 => ?_
  simp only [List.getElem_set, List.getElem_map, List.getElem_range]
  by_cases e : q = p
  · subst e; simp
  · rw [if_neg (fun h => e h.symm), if_neg e]
theorem Row.far (h : Row w g t K f L) {p : Addr} (hp : g ≠ p.block) (u : Value) : Row (w.setCell p u) g t K f L := (Below.heap_setCell w p u g hp).trans h
theorem Row.alloc (h : Row w g t K f L) (o : Obj) : Row (w.alloc o) g t K f L := (Below.heap_alloc w o g h.lt).trans h
theorem Row.drew (h : Row w g t K f L) : Row w.drew g t K f L := h
theorem Row.drewN (h : Row w g t K f L) (n : Nat) : Row (w.drewN n) g t K f L := h
theorem Row.grew (h : Row w g t K f L) (hg : Grew w w') : Row w' g t K f L := (hg.below.block g h.lt).trans h
theorem Row.made (w : World) (t : TypeId) (K : IntKind) (L : Nat) : Row (w.alloc (.cells (madeCells #[.int K 0] L) t)) w.heap.size t K (fun _ => 0) L := by
  unfold Row
  rw [heap_alloc_new]
  congr 2
  apply Array.ext'
  rw [toList_madeCells_one]
  apply List.ext_getElem?
  intro q
  by_cases hq : q < L
  · simp [hq]
  · rw [List.getElem?_eq_none (by simp; omega), List.getElem?_eq_none (by simp; omega)]
theorem Row.num {B N n c : Nat} (h : Row w g t K f L) (hn : n ≤ L) (hc : n ≤ c) (hc' : c ≤ 9223372036854775807) (hN : N < B ^ n) (e : ∀ p, p < n → f p = dig B N p) : Num B K w (.slice (some ⟨g, 0, none⟩) n c) N n :=
  ⟨_, c, rfl, hc, hc', hN, fun _ => ⟨g, 0, rfl, fun i hi => by rw [Nat.zero_add, h.cell (by omega), e i hi]⟩⟩
end

/-- Only block g has turned, and what is new. -/
structure Wrote (g : Nat) (w w' : World) : Prop where
  os : w'.os = w.os
  tape : w'.tape = w.tape
  output : w'.output = w.output
  size : w.heap.size ≤ w'.heap.size
  drawn : w.drawn ≤ w'.drawn
  block : ∀ k, k < w.heap.size → k ≠ g → w'.heap[k]? = w.heap[k]?

section
variable {g : Nat} {a b c w : World}
theorem Wrote.refl (g : Nat) (w : World) : Wrote g w w := ⟨rfl, rfl, rfl, Nat.le_refl _, Nat.le_refl _, fun _ _ _ => rfl⟩
theorem Wrote.trans (h : Wrote g a b) (k : Wrote g b c) : Wrote g a c :=
  ⟨k.os.trans h.os, k.tape.trans h.tape, k.output.trans h.output, Nat.le_trans h.size k.size, Nat.le_trans h.drawn k.drawn, fun i hi hg => (k.block i (Nat.lt_of_lt_of_le hi h.size) hg).trans (h.block i hi hg)⟩
theorem Wrote.of_grew (h : Grew a b) (g : Nat) : Wrote g a b := ⟨h.below.os, h.below.tape, h.below.output, h.below.size, h.drawn, fun k hk _ => h.below.block k hk⟩
theorem Wrote.setCell (h : Wrote g a w) (p : Nat) (u : Value) : Wrote g a (w.setCell ⟨g, p, none⟩ u) :=
  ⟨h.os, h.tape, h.output, by simpa [World.setCell] using h.size, h.drawn, fun k hk hg => (Below.heap_setCell w ⟨g, p, none⟩ u k hg).trans (h.block k hk hg)⟩
theorem Wrote.drew (h : Wrote g a w) : Wrote g a w.drew := ⟨h.os, h.tape, h.output, h.size, Nat.le_succ_of_le h.drawn, h.block⟩
theorem Wrote.cell (h : Wrote g a b) {p : Addr} {v : Value} (hp : a.cell? p = some v) (hg : p.block ≠ g) : b.cell? p = some v :=
  (World.cell?_of_block (w := a) (h.block p.block (World.block_lt_of_cell? a p hp) hg)).trans hp
theorem Grew.wrote (h : Grew a b) (k : Wrote g b c) (hg : a.heap.size ≤ g) : Grew a c :=
  ⟨⟨k.os.trans h.below.os, k.tape.trans h.below.tape, k.output.trans h.below.output, Nat.le_trans h.size k.size, fun i hi => (k.block i (Nat.lt_of_lt_of_le hi h.size) (by omega)).trans (h.below.block i hi)⟩, Nat.le_trans h.drawn k.drawn⟩
theorem Wrote.row {t : TypeId} {K : IntKind} {f : Nat → Nat} {L r : Nat} (h : Wrote g a b) (hr : Row a r t K f L) (hne : r ≠ g) : Row b r t K f L := (h.block r hr.lt hne).trans hr
end

section
variable {P : Program} (w : World)

/-- copy into the head of a row that is known whole, as many as fit. -/
theorem wpList_copy1 {ops : Array Oper} {rest : List Oper} {o : Oper} {a : Act} {Q : Exit → Act → World → Prop} (hgd : o.guard = none) (d s : Operand) (dT sT : TypeId)
    (ho : o.op = .call { callee := .builtin .copy, args := #[d, s], argTypes := #[dT, sT] }) (elem : TypeId) (hu : P.underlying dT = some (.slice elem)) (hsz : (P.info? elem).map (·.size) = some 1)
    (g dLen dCap : Nat) (ad : Addr) (sLen sCap : Nat) (hd : a.eval d = .slice (some ⟨g, 0, none⟩) dLen dCap) (hs : a.eval s = .slice (some ad) sLen sCap)
    (cur : Array Value) (t : TypeId) (hg : w.heap[g]? = some (.cells cur t (0, 0))) (cs : List Value) (hn : cs.length = Nat.min sLen dLen)
    (hsrc : ∀ j v, cs[j]? = some v → w.cell? (ad.add j) = some v) (hfit : cs.length ≤ cur.size) (h1 : ∀ v ∈ cs, v.oneCell' = true)
    (h : ∀ w', w'.heap[g]? = some (.cells (cs ++ cur.toList.drop cs.length).toArray t (0, 0)) → (∀ W, W.heap.size ≤ g → Grew W w → Grew W w') → wpList P ops Q rest (a.put o.dst (goInt cs.length)) w') : wpList P ops Q (o :: rest) a w := by
  refine wpList_copy_own hgd d s dT sT ho elem hu hsz g 0 dLen dCap ad sLen sCap hd hs cur t hg cs hn hsrc (by omega) h1 ?_
  refine h _ ?_ fun W hW hG => hG.setRow hW _
  have := setRow_heap w g cur (cur.toList.take 0 ++ (cs ++ cur.toList.drop (0 + cs.length))).toArray t _ hg
  simpa using this

theorem drawn_append (base : Nat) (t ty e : TypeId) (i : TypeInfo) (z : Value) (size bytes : Nat) (ht : P.underlying t = some (.slice e)) (hi : P.info? e = some i) (hz : i.zero = some z)
    (hsize : i.size = size) (hby : i.bytes = bytes) (hsz : 0 < size)
    (v : Value) (n : Nat) (xs : List Value) (hown : w.ownsRow base e size v n xs)
    (a : Addr) (m c : Nat) (news : List Value) (hl : news.length = m * size) (hnews : ∀ j u, news[j]? = some u → w.cell? (a.add j) = some u) (h1 : ∀ u ∈ news, u.oneCell' = true)
    (h63 : n + m ≤ maxLen) (hbytes : (n + m) * bytes ≤ 140737488355328) (v' : Value) (w' : World)
    (hr : (Builtin.append_ #[t, t] ty #[v, .slice (some a) m c]).run P w = .ok v' w') : w.drawn ≤ w'.drawn := by
  subst hsize
  subst hby
  have hsmall : n + m ≤ 9223372036854775807 := by simp only [maxLen] at h63; omega
  rcases hown.2 with ⟨rfl, rfl⟩ | ⟨g, cap, cur, rfl, hbg, hg, hnc, hcm, hcs, htake⟩
  · by_cases hm : m = 0
    · subst hm
      have hn : news = [] := List.eq_nil_of_length_eq_zero (by simpa using hl)
      subst hn
      have e1 : (Builtin.append_ #[t, t] ty #[.slice none 0 0, .slice (some a) 0 c]).run P w = .ok (.slice none 0 0) w := by
        simp [Builtin.append_, run_underlying ht, sizeOf, typeInfo, hi, Builtin.lenOf, Builtin.firstCells, loadCells, loadCellsFrom]
      rw [e1] at hr
      injection hr with _ hr
      subst hr
      exact Nat.le_refl _
    · have e1 := run_append_nil (P := P) w t ty e i z ht hi hz a m c news hl hnews (by omega) (by omega) (by have hb := hbytes; simp only [Nat.zero_add] at hb; omega)
      rw [e1] at hr
      injection hr with _ hr
      subst hr
      exact Nat.le_succ _
  · by_cases hroom : n + m ≤ cap
    · have hfit : n * i.size + news.length ≤ cur.size := by rw [hl, hcs, ← Nat.add_mul]; exact Nat.mul_le_mul_right _ hroom
      have e1 := run_append_room (P := P) w t ty e i ht hi g n cap cur hg a m c news hl hnews h1 hroom hfit
      rw [e1] at hr
      injection hr with _ hr
      subst hr
      exact Nat.le_refl _
    · have holds : ∀ j u, xs[j]? = some u → w.cell? ((⟨g, 0, none⟩ : Addr).add j) = some u := hown.cells (g := g) rfl
      have e1 := run_append_grow (P := P) w t ty e i z ht hi hz ⟨g, 0, none⟩ n cap xs hown.1 holds a m c news hl hnews (by omega) (by omega) (growslice_fits (by omega) hbytes)
      rw [e1] at hr
      injection hr with _ hr
      subst hr
      exact Nat.le_succ _

/-- append, for the walk: the row that the call owns is longer; what was there when the call began is as it was. -/
theorem wpList_app {ops : Array Oper} {rest : List Oper} {o : Oper} {a : Act} {Q : Exit → Act → World → Prop} (hgd : o.guard = none) (s x : Operand) (t : TypeId)
    (ho : o.op = .call { callee := .builtin .append, args := #[s, x], argTypes := #[t, t] })
    (base : Nat) (e : TypeId) (z : Value) (size bytes : Nat) (ht : P.underlying t = some (.slice e)) (hi : (P.info? e).map (fun i => (i.zero, i.size, i.bytes)) = some (some z, size, bytes))
    (hzs : z.cells.size = size) (hsz : 0 < size)
    (v : Value) (n : Nat) (xs : List Value) (hs : a.eval s = v) (hown : w.ownsRow base e size v n xs)
    (ad : Addr) (m c : Nat) (news : List Value) (hx : a.eval x = .slice (some ad) m c) (hl : news.length = m * size) (hnews : ∀ j u, news[j]? = some u → w.cell? (ad.add j) = some u) (h1 : ∀ u ∈ news, u.oneCell' = true)
    (hbytes : (n + m) * bytes ≤ 140737488355328) (hby : 0 < bytes) (hbase : base ≤ w.heap.size)
    (h : ∀ v' w', w'.ownsRow base e size v' (n + m) (xs ++ news) → (∀ W, W.heap.size ≤ base → Grew W w → Grew W w') → wpList P ops Q rest (a.put o.dst v') w') : wpList P ops Q (o :: rest) a w := by
  obtain ⟨i, hi, hz, hsize, hbyt⟩ := info_parts hi
  have h63 : n + m ≤ maxLen := by
    have : (n + m) * 1 ≤ (n + m) * bytes := Nat.mul_le_mul_left _ hby
    simp only [maxLen]; omega
  refine wpList_plain hgd fun _ hK => ?_
  obtain ⟨v', w', hr, h2, h3, h4⟩ := run_append_own (P := P) w base t o.type e i z size bytes ht hi hz hsize hbyt hzs hsz v n xs hown ad m c news hl hnews h1 h63 hbytes hbase
  have hd := drawn_append (P := P) w base t o.type e i z size bytes ht hi hz hsize hbyt hsz v n xs hown ad m c news hl hnews h1 h63 hbytes v' w' hr
  unfold Oper.wp execOp
  simp only [ho, resolve, invoke, builtin, Sem.run_bind, Sem.run_pure, Result.andThen_ok, List.map_toArray, List.map_cons, List.map_nil, hs, hx, hr]
  exact hK _ _ (h v' w' h2 fun W hW hG => hG.grown h3 hd fun k hk => Nat.le_trans hW (hown.lt k hk).1)

/-- append of one element, which the walk has laid into a block of its own. -/
theorem wpList_app1 {ops : Array Oper} {rest : List Oper} {o : Oper} {a : Act} {Q : Exit → Act → World → Prop} (hgd : o.guard = none) (s x : Operand) (t : TypeId)
    (ho : o.op = .call { callee := .builtin .append, args := #[s, x], argTypes := #[t, t] })
    (base : Nat) (e : TypeId) (z : Value) (size bytes : Nat) (ht : P.underlying t = some (.slice e)) (hi : (P.info? e).map (fun i => (i.zero, i.size, i.bytes)) = some (some z, size, bytes))
    (hzs : z.cells.size = size) (hsz : 0 < size)
    (v : Value) (n : Nat) (xs : List Value) (hs : a.eval s = v) (hown : w.ownsRow base e size v n xs)
    (us : Array Value) (hus : us.size = size) (h1 : ∀ u ∈ us.toList, u.oneCell' = true) (hx : a.eval x = .slice (some ⟨w.heap.size, 0, none⟩) 1 1)
    (hbytes : (n + 1) * bytes ≤ 140737488355328) (hby : 0 < bytes) (hbase : base ≤ w.heap.size)
    (h : ∀ v' w', w'.ownsRow base e size v' (n + 1) (xs ++ us.toList) → (∀ W, W.heap.size ≤ base → Grew W w → Grew W w') → wpList P ops Q rest (a.put o.dst v') w') : wpList P ops Q (o :: rest) a (w.alloc (.cells us e)) := by
  refine wpList_app (w.alloc (.cells us e)) hgd s x t ho base e z size bytes ht hi hzs hsz v n xs hs (hown.alloc _) ⟨w.heap.size, 0, none⟩ 1 1 us.toList hx (by simp [hus]) ?_ h1 hbytes hby (by simp; omega) fun v' w' h2 h3 => h v' w' h2 fun W hW hG => h3 W hW (hG.alloc _)
  intro j u hu
  have hadd : (⟨w.heap.size, 0, none⟩ : Addr).add j = ⟨w.heap.size, j, none⟩ := by unfold Addr.add; split <;> simp_all
  rw [hadd, cell_of_row _ w.heap.size j us e (0, 0) (heap_alloc_new w _)]
  simpa using hu
end

end Go.Proofs.YtngbcbncllfblaaGreat
namespace Go.Proofs.YtngbcbncllfblaaGreat
open Go.RowKit

set_option maxHeartbeats 400000 in
theorem size_any (v : Value) (N n : Nat) (w : World) (hv : Num 4294967296 .u32 w v N n) :
    Calls Tryz.prog 262 #[v] w fun e w' => e = .returned (.int .i64 (len 4294967296 N : Nat)) ∧ w = w' := by
  obtain ⟨A, c, rfl, h1, h2, h4, h3⟩ := hv
  have hm : n ≤ 9223372036854775807 := by omega
  have HS : Hid (lenN 4294967296 N n = len 4294967296 N) := Lib.hid (lenN_eq (by omega) h4)
  clear h4
  go_enter Tryz.func262, Tryz.ntmps262
  go_wp2
  go_loop [3] (fun t => ∃ k : Nat, k ≤ n ∧ t = .int .i64 k ∧ Hid (lenN 4294967296 N k = len 4294967296 N)) (fun t => (intOf t).toNat)
  case atStart => exact ⟨n, Nat.le_refl _, rfl, HS⟩
  case round =>
    obtain ⟨k, hk, rfl, hs⟩ := hrel
    rcases k with _ | j
    · go_wp2
      go_ret
      exact ⟨by rw [← hs.out]; rfl, rfl⟩
    · obtain ⟨b, off, rfl, hc⟩ := h3 (by omega)
      have hcell := hc j (by omega)
      clear hc h3
      by_cases hz : dig 4294967296 N j = 0
      · rw [hz] at hcell
        go_wp2
        go_round
        case rel => exact ⟨j, by omega, by go_num, Lib.hid (by rw [← hs.out]; simp only [lenN, hz, if_true])⟩
        case measure => simp [intOf]
      · have hp : 0 < dig 4294967296 N j := by omega
        have hs' : Hid (lenN 4294967296 N (j + 1) = j + 1) := Lib.hid (by simp only [lenN, if_neg hz])
        generalize hx : dig 4294967296 N j = x at *
        have hpb : ((x : Int) == 0) = false := by simp; omega
        clear hx
        go_wp2
        go_ret
        exact ⟨ret_int (by rw [← hs.out, hs'.out]; rfl), rfl⟩
end Go.Proofs.YtngbcbncllfblaaGreat
namespace Go.Proofs.YtngbcbncllfblaaGreat
open Go.RowKit

set_option maxHeartbeats 400000 in
theorem add32_any (x y c : Int) (w : World) (hx0 : 0 ≤ x) (hx : x < 4294967296) (hy0 : 0 ≤ y) (hy : y < 4294967296) (hc0 : 0 ≤ c) (hc : c ≤ 1) :
    Calls Tryz.prog 340 #[.int .u32 x, .int .u32 y, .int .u32 c] w fun e w' => e = .returned (.tuple #[.int .u32 ((x + y + c) % 4294967296), .int .u32 ((x + y + c) / 4294967296)]) ∧ w = w' := by
  go_enter Tryz.func340, Tryz.ntmps340
  go_wp2
  go_ret2
  exact ⟨rfl, rfl⟩

def bor (x y c : Int) : Int := if x < y + c then 1 else 0

theorem top31 (n : Nat) (h : n < 4294967296) : n / 2147483648 = (n.testBit 31).toNat := by
  rw [Nat.testBit_eq_decide_div_mod_eq]
  have : n / 2 ^ 31 % 2 = n / 2147483648 := by omega
  rw [this]
  rcases Nat.lt_or_ge n 2147483648 with hl | hl
  · have e : n / 2147483648 = 0 := by omega
    rw [e]; rfl
  · have e : n / 2147483648 = 1 := by omega
    rw [e]; rfl

theorem test31 (n : Nat) (h : n < 4294967296) : n.testBit 31 = decide (2147483648 ≤ n) := by
  rw [Nat.testBit_eq_decide_div_mod_eq]
  have : n / 2 ^ 31 % 2 = n / 2147483648 := by omega
  rw [this]
  rcases Nat.lt_or_ge n 2147483648 with hl | hl
  · have e : n / 2147483648 = 0 := by omega
    rw [e]; simp; omega
  · have e : n / 2147483648 = 1 := by omega
    rw [e]; simp; omega

theorem sub32_bits (x y c : Int) (hx0 : 0 ≤ x) (hx : x < 4294967296) (hy0 : 0 ≤ y) (hy : y < 4294967296) (hc0 : 0 ≤ c) (hc : c ≤ 1) :
    bits .or .u32 (bits .and .u32 (bits .xor .u32 IntKind.u32.max x) y) (bits .and .u32 (bits .xor .u32 IntKind.u32.max (bits .xor .u32 x y)) ((x - y - c) % 4294967296)) / 2147483648 = bor x y c := by
  have e0 : IntKind.u32.max = 4294967295 := rfl
  rw [e0]
  obtain ⟨x, rfl⟩ := Int.eq_ofNat_of_zero_le hx0
  obtain ⟨y, rfl⟩ := Int.eq_ofNat_of_zero_le hy0
  obtain ⟨d, hd⟩ := Int.eq_ofNat_of_zero_le (show 0 ≤ ((x : Int) - y - c) % 4294967296 by omega)
  have hd2 : d < 4294967296 := by omega
  rw [hd]
  have hxn : x < 2 ^ 32 := by omega
  have hyn : y < 2 ^ 32 := by omega
  have hdn : d < 2 ^ 32 := by omega
  have hm : 4294967295 < 2 ^ 32 := by omega
  have e1 : bits .xor .u32 (4294967295 : Int) x = ((4294967295 ^^^ x : Nat) : Int) := u32_xor_nat 4294967295 x (by omega) (by omega)
  have b1 : 4294967295 ^^^ x < 2 ^ 32 := Nat.xor_lt_two_pow hm hxn
  have e2 : bits .xor .u32 (x : Int) y = ((x ^^^ y : Nat) : Int) := u32_xor_nat x y (by omega) (by omega)
  have b2 : x ^^^ y < 2 ^ 32 := Nat.xor_lt_two_pow hxn hyn
  have e3 : bits .xor .u32 (4294967295 : Int) ((x ^^^ y : Nat) : Int) = ((4294967295 ^^^ (x ^^^ y) : Nat) : Int) := u32_xor_nat 4294967295 _ (by omega) (by omega)
  have b3 : 4294967295 ^^^ (x ^^^ y) < 2 ^ 32 := Nat.xor_lt_two_pow hm b2
  rw [e1, e2, e3, u32_and_nat _ _ (by omega) (by omega), u32_and_nat _ _ (by omega) (by omega)]
  have b4 : (4294967295 ^^^ x) &&& y < 2 ^ 32 := Nat.and_lt_two_pow _ hyn
  have b5 : (4294967295 ^^^ (x ^^^ y)) &&& d < 2 ^ 32 := Nat.and_lt_two_pow _ hdn
  rw [u32_or_nat _ _ (by omega) (by omega)]
  have b6 := Nat.or_lt_two_pow b4 b5
  have key := top31 _ (show ((4294967295 ^^^ x) &&& y ||| (4294967295 ^^^ (x ^^^ y)) &&& d) < 4294967296 by omega)
  have goal : (((((4294967295 ^^^ x) &&& y ||| (4294967295 ^^^ (x ^^^ y)) &&& d) / 2147483648 : Nat)) : Int) = bor x y c := by
    rw [key]
    simp only [Nat.testBit_or, Nat.testBit_and, Nat.testBit_xor]
    rw [test31 x (by omega), test31 y (by omega), test31 d hd2, show Nat.testBit 4294967295 31 = true from by decide]
    unfold bor
    by_cases h1 : 2147483648 ≤ x <;> by_cases h2 : 2147483648 ≤ y <;> by_cases h3 : 2147483648 ≤ d <;> simp [h1, h2, h3] <;> omega
  rw [← goal]
  omega

set_option maxHeartbeats 400000 in
theorem sub32_any (x y c : Int) (w : World) (hx0 : 0 ≤ x) (hx : x < 4294967296) (hy0 : 0 ≤ y) (hy : y < 4294967296) (hc0 : 0 ≤ c) (hc : c ≤ 1) :
    Calls Tryz.prog 341 #[.int .u32 x, .int .u32 y, .int .u32 c] w fun e w' => e = .returned (.tuple #[.int .u32 ((x - y - c) % 4294967296), .int .u32 (bor x y c)]) ∧ w = w' := by
  have hs : IntKind.u32.signed = false := rfl
  have hb := Lib.hid (sub32_bits x y c hx0 hx hy0 hy hc0 hc)
  go_enter Tryz.func341, Tryz.ntmps341
  go_wp2
  go_ret2
  exact ⟨ret_ints (by omega) hb.out, rfl⟩
end Go.Proofs.YtngbcbncllfblaaGreat
