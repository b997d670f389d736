/- Plain: division bit by bit. Conditions: none (no program in sight). nat.Sub: what is left of a number. Condition: both read; fewer than 2^40 words. nat.Mul: the product of two numbers. Condition: both read; fewer than 2^40 words together. nat.small: a number by one word. Condition: it reads; the word isn't 0; fewer than 2^40 words. -/
import Derived.Test.YtpglnfccmhkocaaJRef9
import Derived.Test.YtpglnfccmhkocaaJRef1
import Derived.RegionTactic
import Derived.BigRegion
namespace Go.Proofs.Ytpglnfccmhkocaa
open Go.RowKit

/-- The carry while a number is doubled, and a bit is added. -/
def dcar (R b j : Nat) : Nat := (2 * (R % 65536 ^ j) + b) / 65536 ^ j
theorem dcar_zero (R b : Nat) : dcar R b 0 = b := by simp [dcar, Nat.mod_one]
theorem dcar_le (R b j : Nat) (hb : b ≤ 1) : dcar R b j ≤ 1 := by
  unfold dcar
  have hp : 0 < 65536 ^ j := Nat.pow_pos (by omega)
  have hm := Nat.mod_lt R hp
  have : (2 * (R % 65536 ^ j) + b) / 65536 ^ j < 2 := by rw [Nat.div_lt_iff_lt_mul hp]; omega
  omega
theorem dcar_succ (R b j : Nat) : dcar R b (j + 1) = (2 * dig 65536 R j + dcar R b j) / 65536 := by
  unfold dcar
  have hp : 0 < 65536 ^ j := Nat.pow_pos (by omega)
  rw [mod_succ, Nat.pow_succ, ← Nat.div_div_eq_div_mul]
  rw [show 2 * (R % 65536 ^ j + 65536 ^ j * dig 65536 R j) + b = (2 * (R % 65536 ^ j) + b) + 65536 ^ j * (2 * dig 65536 R j) from by
    rw [Nat.mul_add, ← Nat.mul_assoc 2, Nat.mul_comm 2 (65536 ^ j), Nat.mul_assoc]; omega]
  rw [Nat.add_mul_div_left _ _ hp, Nat.add_comm]
theorem dcar_dig (R b j : Nat) : (2 * dig 65536 R j + dcar R b j) % 65536 = dig 65536 (2 * R + b) j := by
  have hp : 0 < 65536 ^ j := Nat.pow_pos (by omega)
  have hR : R = R % 65536 ^ j + 65536 ^ j * (R / 65536 ^ j) := (Nat.mod_add_div R (65536 ^ j)).symm
  have e : 2 * R + b = (2 * (R % 65536 ^ j) + b) + 65536 ^ j * (2 * (R / 65536 ^ j)) := by
    have e2 : 65536 ^ j * (2 * (R / 65536 ^ j)) = 2 * (65536 ^ j * (R / 65536 ^ j)) := by rw [Nat.mul_left_comm]
    rw [e2]; omega
  unfold dcar
  rw [show dig 65536 (2 * R + b) j = (2 * R + b) / 65536 ^ j % 65536 from rfl, e, Nat.add_mul_div_left _ _ hp]
  rw [show dig 65536 R j = R / 65536 ^ j % 65536 from rfl]
  generalize R / 65536 ^ j = x
  generalize (2 * (R % 65536 ^ j) + b) / 65536 ^ j = y
  omega
theorem dbl_step (R b j : Nat) (hb : b ≤ 1) :
    (2 * ((dig 65536 R j : Nat) : Int) + (dcar R b j : Nat)) % 65536 = (dig 65536 (2 * R + b) j : Nat) ∧ (2 * ((dig 65536 R j : Nat) : Int) + (dcar R b j : Nat)) / 65536 = (dcar R b (j + 1) : Nat) ∧
    2 * ((dig 65536 R j : Nat) : Int) + (dcar R b j : Nat) < 131072 := by
  have h1 := dig_lt (B := 65536) (by omega) R j
  have h2 := dcar_le R b j hb
  rw [← dcar_dig, dcar_succ]
  refine ⟨by omega, by omega, by omega⟩

/-- What is left, and how often: one bit more. -/
theorem div_bit_lo (N M i : Nat) (h : 2 * (N / 2 ^ (i + 1) % M) + N / 2 ^ i % 2 < M) :
    N / 2 ^ i % M = 2 * (N / 2 ^ (i + 1) % M) + N / 2 ^ i % 2 ∧ N / 2 ^ i / M * 2 ^ i = N / 2 ^ (i + 1) / M * 2 ^ (i + 1) := by
  have e : N / 2 ^ i = 2 * (N / 2 ^ (i + 1)) + N / 2 ^ i % 2 := by
    rw [Nat.pow_succ, ← Nat.div_div_eq_div_mul]; omega
  generalize hb : N / 2 ^ i % 2 = b at *
  generalize N / 2 ^ (i + 1) = x at *
  rw [e]
  have ex := Nat.mod_add_div x M
  have e2 : 2 * x + b = (2 * (x % M) + b) + M * (2 * (x / M)) := by
    have : M * (2 * (x / M)) = 2 * (M * (x / M)) := by rw [Nat.mul_left_comm]
    omega
  constructor
  · rw [e2, Nat.add_mul_mod_self_left, Nat.mod_eq_of_lt h]
  · rw [e2, Nat.add_mul_div_left _ _ (by omega), Nat.div_eq_of_lt h, Nat.pow_succ]
    rw [Nat.zero_add, Nat.mul_comm 2 (x / M), Nat.mul_assoc, Nat.mul_comm 2 (2 ^ i)]
theorem div_bit_hi (N M i : Nat) (h0 : 0 < M) (h : M ≤ 2 * (N / 2 ^ (i + 1) % M) + N / 2 ^ i % 2) :
    N / 2 ^ i % M = 2 * (N / 2 ^ (i + 1) % M) + N / 2 ^ i % 2 - M ∧ N / 2 ^ i / M * 2 ^ i = N / 2 ^ (i + 1) / M * 2 ^ (i + 1) + 2 ^ i := by
  have e : N / 2 ^ i = 2 * (N / 2 ^ (i + 1)) + N / 2 ^ i % 2 := by
    rw [Nat.pow_succ, ← Nat.div_div_eq_div_mul]; omega
  have hb2 : N / 2 ^ i % 2 < 2 := Nat.mod_lt _ (by omega)
  generalize hb : N / 2 ^ i % 2 = b at *
  generalize N / 2 ^ (i + 1) = x at *
  rw [e]
  have ex := Nat.mod_add_div x M
  have hr := Nat.mod_lt x h0
  have e2 : 2 * x + b = (2 * (x % M) + b - M) + M * (2 * (x / M) + 1) := by
    have : M * (2 * (x / M) + 1) = 2 * (M * (x / M)) + M := by rw [Nat.mul_add, Nat.mul_left_comm, Nat.mul_one]
    omega
  have hlt : 2 * (x % M) + b - M < M := by omega
  constructor
  · rw [e2, Nat.add_mul_mod_self_left, Nat.mod_eq_of_lt hlt]
  · rw [e2, Nat.add_mul_div_left _ _ (by omega), Nat.div_eq_of_lt hlt, Nat.pow_succ]
    rw [Nat.zero_add, Nat.add_mul, Nat.one_mul, Nat.mul_comm 2 (x / M), Nat.mul_assoc, Nat.mul_comm 2 (2 ^ i)]

/-- A bit that was 0 is set: in its digit alone. -/
theorem set_bit (q i p : Nat) : dig 65536 (q * 2 ^ (i + 1) + 2 ^ i) p = if p = i / 16 then dig 65536 (q * 2 ^ (i + 1)) p + 2 ^ (i % 16) else dig 65536 (q * 2 ^ (i + 1)) p := by
  have hr : i % 16 < 16 := Nat.mod_lt _ (by omega)
  have hB : ∀ s, (65536 : Nat) ^ s = 2 ^ (16 * s) := fun s => by rw [show (65536 : Nat) = 2 ^ 16 from rfl, ← Nat.pow_mul]
  have e1 : 2 ^ i = 2 ^ (i % 16) * 65536 ^ (i / 16) := by rw [hB, ← Nat.pow_add]; congr 1; omega
  have e2 : q * 2 ^ (i + 1) = q * 2 ^ (i % 16 + 1) * 65536 ^ (i / 16) := by rw [hB, Nat.mul_assoc, ← Nat.pow_add]; congr 2; omega
  rw [e1, e2, ← Nat.add_mul]
  generalize i % 16 = r at *
  generalize i / 16 = s at *
  have hp : 0 < 65536 ^ s := Nat.pow_pos (by omega)
  have hlow : ∀ a, dig 65536 (a * 65536 ^ s) s = a % 65536 := fun a => by unfold dig; rw [Nat.mul_div_cancel _ hp]
  obtain ⟨t, ht⟩ : ∃ t, 16 = (r + 1) + t := ⟨16 - (r + 1), by omega⟩
  have hsplit : (65536 : Nat) = 2 ^ (r + 1) * 2 ^ t := by rw [← Nat.pow_add, ← ht]
  have hmod : q * 2 ^ (r + 1) % 65536 = 2 ^ (r + 1) * (q % 2 ^ t) := by rw [hsplit, Nat.mul_comm q, Nat.mul_mod_mul_left]
  have hlt : q % 2 ^ t + 1 ≤ 2 ^ t := Nat.mod_lt _ (Nat.two_pow_pos t)
  have hle : 2 ^ (r + 1) * (q % 2 ^ t) + 2 ^ (r + 1) ≤ 65536 := by
    rw [hsplit]; have := Nat.mul_le_mul_left (2 ^ (r + 1)) hlt; rw [Nat.mul_add, Nat.mul_one] at this; exact this
  have hr2 : 2 ^ r < 2 ^ (r + 1) := by rw [Nat.pow_succ]; have := Nat.two_pow_pos r; omega
  have hsum : (q * 2 ^ (r + 1) + 2 ^ r) % 65536 = q * 2 ^ (r + 1) % 65536 + 2 ^ r := by
    rw [Nat.add_mod, Nat.mod_eq_of_lt (show 2 ^ r < 65536 by omega), Nat.mod_eq_of_lt (by rw [hmod]; omega)]
  have hdiv : (q * 2 ^ (r + 1) + 2 ^ r) / 65536 = q * 2 ^ (r + 1) / 65536 := by
    have h1 := Nat.div_add_mod (q * 2 ^ (r + 1) + 2 ^ r) 65536
    have h2 := Nat.div_add_mod (q * 2 ^ (r + 1)) 65536
    omega
  by_cases hps : p = s
  · subst hps
    rw [if_pos rfl, hlow, hlow, hsum]
  · rw [if_neg hps]
    rcases Nat.lt_or_ge p s with h | h
    · have hz : ∀ a, dig 65536 (a * 65536 ^ s) p = 0 := fun a => by
        have := mul_low (B := 65536) (U := 0) (V := a) h
        rw [Nat.zero_add] at this
        rw [this]; simp [dig]
      rw [hz, hz]
    · obtain ⟨u, rfl⟩ : ∃ u, p = s + 1 + u := ⟨p - s - 1, by omega⟩
      have hz : ∀ a, dig 65536 (a * 65536 ^ s) (s + 1 + u) = a / 65536 / 65536 ^ u % 65536 := fun a => by
        unfold dig
        rw [Nat.pow_add, Nat.pow_succ, ← Nat.div_div_eq_div_mul, ← Nat.div_div_eq_div_mul, Nat.mul_div_cancel _ hp]
      rw [hz, hz, hdiv]
theorem set_bit_lt (q i : Nat) : dig 65536 (q * 2 ^ (i + 1)) (i / 16) + 2 ^ (i % 16) < 65536 := by
  have h := set_bit q i (i / 16)
  rw [if_pos rfl] at h
  rw [← h]
  exact dig_lt (by omega) _ _
end Go.Proofs.Ytpglnfccmhkocaa
namespace Go.Proofs.Ytpglnfccmhkocaa
open Go.RowKit

theorem sub_step (N M k : Nat) (x y c : Nat) (hle : M ≤ N) (hx : x = dig 4294967296 N k) (hy : y = dig 4294967296 M k) (hc : c = borrow 4294967296 N M k) :
    (((x : Int) - y - c) % 4294967296 = (dig 4294967296 (N - M) k : Nat)) ∧ (bor x y c = (borrow 4294967296 N M (k + 1) : Nat)) := by
  have h1 := borrow_dig (B := 4294967296) (by omega) N M k hle
  have h2 := borrow_succ (B := 4294967296) (by omega) N M k
  have h3 := borrow_le (B := 4294967296) N M k
  have h4 := dig_lt (B := 4294967296) (by omega) N k
  have h5 := dig_lt (B := 4294967296) (by omega) M k
  rw [← hx, ← hy, ← hc] at h1 h2
  rw [← hc] at h3
  rw [← hx] at h4
  rw [← hy] at h5
  rw [← h1, h2]
  constructor
  · omega
  · unfold bor
    by_cases h : x < y + c
    · rw [if_pos h, if_pos (by omega)]; rfl
    · rw [if_neg h, if_neg (by omega)]; rfl

set_option maxRecDepth 100000 in
set_option maxHeartbeats 1000000 in
theorem sub_no (va vb : Value) (N M n m : Nat) (w : World) (ha : Num 4294967296 .u32 w va N n) (hb : Num 4294967296 .u32 w vb M m) (hlt : N < M) :
    Calls Try.prog 117 #[va, vb] w fun e w' => e = .returned (.tuple #[.slice none 0 0, .bool false]) ∧ Grew w w' := by
  go_enter Try.func117, Try.ntmps117
  go_wp2_with fail
  refine (cmp_any _ _ _ _ _ _ _ ha hb).mono ?_
  rintro e w1 ⟨rfl, hG⟩
  rw [cmpN_lt hlt]
  go_wp2_with fail
  go_ret2
  exact ⟨rfl, hG⟩

set_option maxRecDepth 100000 in
set_option maxHeartbeats 1000000 in
theorem sub_yes (va vb : Value) (N M n m : Nat) (w : World) (ha : Num 4294967296 .u32 w va N n) (hb : Num 4294967296 .u32 w vb M m) (hle : M ≤ N) (hsz : len 4294967296 N < 1099511627776) :
    Calls Try.prog 117 #[va, vb] w fun e w' => ∃ v, e = .returned (.tuple #[v, .bool true]) ∧ Num 4294967296 .u32 w' v (N - M) (len 4294967296 (N - M)) ∧ Grew w w' := by
  have hNs := lt_len (B := 4294967296) (by omega) N
  have hMs := lt_len (B := 4294967296) (by omega) M
  have hn := ha.len_le (by omega)
  have hm := hb.len_le (by omega)
  have hml := len_mono (B := 4294967296) (by omega) hle
  have hc0 : ¬ cmpN N M < 0 := by
    unfold cmpN
    rw [if_neg (by omega)]
    split <;> omega
  have hr := len_mono (B := 4294967296) (by omega) (Nat.sub_le N M)
  have hrl := lt_pow_of_len (B := 4294967296) (by omega) hr
  have Hle := Lib.hid hle
  clear hle
  generalize hk : len 4294967296 N = k at *
  generalize hl : len 4294967296 M = l at *
  have Hk := Lib.hid hk
  have Hl := Lib.hid hl
  clear hk hl
  generalize hcm : cmpN N M = cm at *
  have Hcm := Lib.hid hcm
  clear hcm
  have Hrl := Lib.hid hrl
  clear hrl
  have hmk := make_u32 0 k (by omega) (by omega)
  rw [mk0] at hmk
  obtain ⟨A, ca, rfl, a1, a2, a3, a4⟩ := id ha
  obtain ⟨C, cb, rfl, b1, b2, b3, b4⟩ := id hb
  have hcb : decide (cm < 0) = false := by simp; omega
  go_enter Try.func117, Try.ntmps117
  go_wp2_with fail
  refine (cmp_any _ _ _ _ _ _ _ ha hb).mono ?_
  rintro e w1 ⟨rfl, hG⟩
  rw [Hcm.out]
  go_wp2_with fail
  refine (size_any _ _ _ _ (ha.grew hG)).mono ?_
  rintro e w' ⟨rfl, rfl⟩
  rw [Hk.out]
  go_wp2_with fail
  refine (size_any _ _ _ _ (hb.grew hG)).mono ?_
  rintro e w' ⟨rfl, rfl⟩
  rw [Hl.out]
  clear ha hb
  go_wp2_with fail
  go_loopg [8, 9, 25] k (fun gk out cr i wr => ∃ j : Nat, gk + j = k ∧ i = .int .i64 j ∧ cr = .int .u32 (borrow 4294967296 N M j : Nat) ∧ wr.ownsRow w1.heap.size 80 1 out j (dvals 4294967296 .u32 (N - M) j) ∧ Grew w1 wr)
  case atStart => exact ⟨0, rfl, rfl, by rw [borrow_zero]; rfl, World.ownsRow_made _ _ _ (Nat.le_refl _) (by simp only [maxLen]; omega) (by simp [size_madeCells]), (Grew.refl _).alloc _⟩
  case round =>
    obtain ⟨j, hj, rfl, rfl, hown, hG1⟩ := hrel
    by_cases hlt : j < k
    · obtain ⟨ba, oa, rfl, hca⟩ := a4 (by omega)
      have hcx := hG1.cell (hG.cell (hca j (by omega)))
      have hx := dig_lt (B := 4294967296) (by omega) N j
      have hcl := borrow_le (B := 4294967296) N M j
      by_cases hjl : j < l
      · obtain ⟨bb, ob, rfl, hcbb⟩ := b4 (by omega)
        have hcy := hG1.cell (hG.cell (hcbb j (by omega)))
        have hy := dig_lt (B := 4294967296) (by omega) M j
        have hstep := Lib.hid (sub_step N M j _ _ _ Hle.out rfl rfl rfl)
        have hsucc := Lib.hid (dvals_succ 4294967296 .u32 (N - M) j)
        generalize dig 4294967296 N j = x at *
        generalize dig 4294967296 M j = y at *
        generalize borrow 4294967296 N M j = c at *
        go_wp2_with (first | fail | (go_at_call 134; refine (sub32_any _ _ _ _ (by omega) (by omega) (by omega) (by omega) (by omega) (by omega)).mono ?_; rintro e w' ⟨rfl, rfl⟩) | (at_builtin; refine wpList_app1 _ rfl (.tmp 45) (.tmp 47) 22 rfl w1.heap.size 80 (.int .u32 0) 1 4 Try.underlying22 info_u32 rfl (by omega) _ j _ rfl hown _ rfl (by simp [Value.oneCell']) rfl (by omega) (by omega) (by exact hG1.size) ?_; intro v1 w2 hown1 hG2))
        go_roundg (gk - 1)
        case rel => exact ⟨j + 1, by omega, by go_num, by rw [hstep.out.2], by rw [hsucc.out, ← hstep.out.1]; exact hown1, hG2 _ (Nat.le_refl _) hG1⟩
        case measure => omega
      · have hy0 : dig 4294967296 M j = 0 := dig_zero_of_lt (by omega) hMs (by omega)
        have hstep := Lib.hid (sub_step N M j _ 0 _ Hle.out rfl hy0.symm rfl)
        have hsucc := Lib.hid (dvals_succ 4294967296 .u32 (N - M) j)
        clear hy0
        generalize dig 4294967296 N j = x at *
        generalize borrow 4294967296 N M j = c at *
        go_wp2_with (first | fail | (go_at_call 134; refine (sub32_any _ _ _ _ (by omega) (by omega) (by omega) (by omega) (by omega) (by omega)).mono ?_; rintro e w' ⟨rfl, rfl⟩) | (at_builtin; refine wpList_app1 _ rfl (.tmp 45) (.tmp 47) 22 rfl w1.heap.size 80 (.int .u32 0) 1 4 Try.underlying22 info_u32 rfl (by omega) _ j _ rfl hown _ rfl (by simp [Value.oneCell']) rfl (by omega) (by omega) (by exact hG1.size) ?_; intro v1 w2 hown1 hG2))
        go_roundg (gk - 1)
        case rel => exact ⟨j + 1, by omega, by go_num, by rw [← hstep.out.2]; rfl, by rw [hsucc.out, ← hstep.out.1]; exact hown1, hG2 _ (Nat.le_refl _) hG1⟩
        case measure => omega
    · obtain rfl : j = k := by omega
      have hnum := Num.of_own hown Hrl.out
      obtain ⟨D, cd, rfl, d1, d2, d3, d4⟩ := id hnum
      have q1 : ((len 4294967296 (N - M) : Nat) : Int) ≤ (j : Int) := by omega
      have q2 : ((len 4294967296 (N - M) : Nat) : Int) ≤ (cd : Int) := by omega
      have hcut := hnum.cut (k := len 4294967296 (N - M)) hr (lt_len (by omega) _)
      clear hmk hown d3
      go_wp2_with fail
      refine (size_any _ _ _ _ hnum).mono ?_
      rintro e w' ⟨rfl, rfl⟩
      have Hcut := Lib.hid hcut
      clear hcut hnum
      generalize hs : len 4294967296 (N - M) = s at *
      have Hs := Lib.hid hs
      clear hs
      go_wp2_with fail
      go_ret2
      exact ⟨_, rfl, by rw [Hs.out]; exact Hcut.out, hG.trans hG1⟩
end Go.Proofs.Ytpglnfccmhkocaa
namespace Go.Proofs.Ytpglnfccmhkocaa
open Go.RowKit

theorem mul_in (T U x y c s : Nat) (hc : U / 4294967296 ^ s = T / 4294967296 ^ s + c) (hx : x < 4294967296) (hy : y < 4294967296) (hcB : c < 4294967296) :
    ((x : Int) * y + (dig 4294967296 T s : Nat) + c) % 4294967296 = (dig 4294967296 (U + x * y * 4294967296 ^ s) s : Nat) ∧
    (∃ c' : Nat, ((x : Int) * y + (dig 4294967296 T s : Nat) + c) / 4294967296 = c' ∧ c' < 4294967296 ∧ (U + x * y * 4294967296 ^ s) / 4294967296 ^ (s + 1) = T / 4294967296 ^ (s + 1) + c') ∧
    0 ≤ (x : Int) * y + (dig 4294967296 T s : Nat) + c ∧ (x : Int) * y + (dig 4294967296 T s : Nat) + c < 18446744073709551616 ∧ 0 ≤ (x : Int) * y ∧ (x : Int) * y < 18446744065119617026 := by
  obtain ⟨h1, h2, h3⟩ := mul_step (B := 4294967296) (by omega) T U x y c s hc hx hy hcB
  have hd := dig_lt (B := 4294967296) (by omega) T s
  have hm : x * y ≤ 4294967295 * 4294967295 := Nat.mul_le_mul (by omega) (by omega)
  have e : ((x * y : Nat) : Int) = (x : Int) * y := by simp
  rw [← h1]
  rw [h2]
  generalize dig 4294967296 T s = d at *
  generalize x * y = z at *
  rw [← e]
  refine ⟨by omega, ⟨(z + d + c) / 4294967296, by omega, h3, rfl⟩, by omega, by omega, by omega, by omega⟩

theorem mul_zero (va vb : Value) (N M n m : Nat) (w : World) (ha : Num 4294967296 .u32 w va N n) (hb : Num 4294967296 .u32 w vb M m) (h0 : N = 0 ∨ M = 0) (hsz : len 4294967296 N + len 4294967296 M < 1099511627776) :
    Calls Try.prog 73 #[va, vb] w fun e w' => ∃ v, e = .returned v ∧ Num 4294967296 .u32 w' v (N * M) (len 4294967296 (N * M)) ∧ Grew w w' := by
  have e0 : N * M = 0 := by rcases h0 with rfl | rfl <;> simp
  rw [e0, len_zero]
  have e1 : len 4294967296 N = 0 ∨ len 4294967296 M = 0 := by rcases h0 with rfl | rfl <;> simp [len_zero]
  clear h0 e0
  generalize hk : len 4294967296 N = k at *
  generalize hl : len 4294967296 M = l at *
  have Hk := Lib.hid hk
  have Hl := Lib.hid hl
  clear hk hl
  by_cases hk0 : k = 0
  · subst hk0
    go_enter Try.func73, Try.ntmps73
    go_wp2_with fail
    refine (size_any _ _ _ _ ha).mono ?_
    rintro e w' ⟨rfl, rfl⟩
    rw [Hk.out]
    go_wp2_with fail
    refine (size_any _ _ _ _ hb).mono ?_
    rintro e w' ⟨rfl, rfl⟩
    rw [Hl.out]
    go_wp2_with fail
    go_ret
    exact ⟨_, rfl, Num.nil _ _ _, Grew.refl _⟩
  · have hl0 : l = 0 := by omega
    subst hl0
    have hk1 : ((k : Int) == 0) = false := by simp; omega
    go_enter Try.func73, Try.ntmps73
    go_wp2_with fail
    refine (size_any _ _ _ _ ha).mono ?_
    rintro e w' ⟨rfl, rfl⟩
    rw [Hk.out]
    go_wp2_with fail
    refine (size_any _ _ _ _ hb).mono ?_
    rintro e w' ⟨rfl, rfl⟩
    rw [Hl.out]
    go_wp2_with fail
    go_ret
    exact ⟨_, rfl, Num.nil _ _ _, Grew.refl _⟩

theorem row_in {w : World} {g t L T U V s v : Nat} {K : IntKind} (h : Row w g t K (mix 4294967296 T U s) L) (hv : v = dig 4294967296 (U + V * 4294967296 ^ s) s) :
    Row (w.setCell ⟨g, s, none⟩ (.int K (v : Nat))) g t K (mix 4294967296 T (U + V * 4294967296 ^ s) (s + 1)) L := by
  refine (h.set s v).congr fun p _ => ?_
  by_cases e : p = s
  · subst e; simp [mix, hv]
  · simp only [if_neg e, mix]
    by_cases hp : p < s
    · rw [if_pos hp, if_pos (by omega), mul_low hp]
    · rw [if_neg hp, if_neg (by omega)]

theorem row_out {w : World} {g t L T U s c : Nat} {K : IntKind} (h : Row w g t K (mix 4294967296 T U s) L) (hc : U / 4294967296 ^ s = T / 4294967296 ^ s + c) (hT : T < 4294967296 ^ s) (hU : U < 4294967296 ^ (s + 1)) (hcB : c < 4294967296) :
    Row (w.setCell ⟨g, s, none⟩ (.int K (c : Nat))) g t K (dig 4294967296 U) L := by
  refine (h.set s c).congr fun p _ => ?_
  by_cases e : p = s
  · subst e; simp [← mul_end hc hT hcB]
  · simp only [if_neg e, mix]
    by_cases hp : p < s
    · rw [if_pos hp]
    · rw [if_neg hp, dig_zero_of_lt (by omega) hT (by omega), dig_zero_of_lt (by omega) hU (by omega)]

set_option maxRecDepth 100000 in
set_option maxHeartbeats 4000000 in
theorem mul_pos (va vb : Value) (N M n m : Nat) (w : World) (ha : Num 4294967296 .u32 w va N n) (hb : Num 4294967296 .u32 w vb M m) (hN : N ≠ 0) (hM : M ≠ 0) (hsz : len 4294967296 N + len 4294967296 M < 1099511627776) :
    Calls Try.prog 73 #[va, vb] w fun e w' => ∃ v, e = .returned v ∧ Num 4294967296 .u32 w' v (N * M) (len 4294967296 (N * M)) ∧ Grew w w' := by
  have hNs := lt_len (B := 4294967296) (by omega) N
  have hMs := lt_len (B := 4294967296) (by omega) M
  have hn := ha.len_le (by omega)
  have hm := hb.len_le (by omega)
  have hk0 : len 4294967296 N ≠ 0 := fun h => hN ((len_eq_zero (by omega)).1 h)
  have hl0 : len 4294967296 M ≠ 0 := fun h => hM ((len_eq_zero (by omega)).1 h)
  clear hN hM
  have hml := len_mul (B := 4294967296) (by omega) N M _ _ (Nat.le_refl _) (Nat.le_refl _)
  have hmp := lt_pow_of_len (B := 4294967296) (by omega) hml
  generalize hk : len 4294967296 N = k at *
  generalize hl : len 4294967296 M = l at *
  have Hk := Lib.hid hk
  have Hl := Lib.hid hl
  clear hk hl
  have hmk := make_u32 (k + l) (k + l) (by omega) (by omega)
  rw [show ((k + l : Nat) : Int) = (k : Int) + (l : Int) from by omega] at hmk
  obtain ⟨A, ca, rfl, a1, a2, a3, a4⟩ := id ha
  obtain ⟨C, cb, rfl, b1, b2, b3, b4⟩ := id hb
  obtain ⟨ba, oa, rfl, hca⟩ := a4 (by omega)
  obtain ⟨bb, ob, rfl, hcb⟩ := b4 (by omega)
  clear a3 a4 b3 b4
  have HNs := Lib.hid hNs
  have HMs := Lib.hid hMs
  have Hmp := Lib.hid hmp
  clear hNs hMs hmp
  have hk1 : ((k : Int) == 0) = false := by simp; omega
  have hl1 : ((l : Int) == 0) = false := by simp; omega
  have Hca := Lib.hid hca
  have Hcb := Lib.hid hcb
  clear hca hcb
  go_enter Try.func73, Try.ntmps73
  go_wp2_with fail
  refine (size_any _ _ _ _ ha).mono ?_
  rintro e w' ⟨rfl, rfl⟩
  rw [Hk.out]
  go_wp2_with fail
  refine (size_any _ _ _ _ hb).mono ?_
  rintro e w' ⟨rfl, rfl⟩
  rw [Hl.out]
  clear ha hb
  go_wp2_with fail
  go_loopg [27] k (fun gk i wr => ∃ j : Nat, gk + j = k ∧ i = .int .i64 j ∧ Row wr w.heap.size 80 .u32 (dig 4294967296 (N % 4294967296 ^ j * M)) (k + l) ∧ Grew w wr)
  case atStart => exact ⟨0, rfl, rfl, (Row.made w _ _ _).congr (fun p _ => by simp [Nat.mod_one, dig]), (Grew.refl _).alloc _⟩
  case round =>
    obtain ⟨i, hi, rfl, hR, hG⟩ := hrel
    obtain ⟨wo, rfl⟩ : ∃ wo : World, wo = wr := ⟨_, rfl⟩
    obtain ⟨G, rfl⟩ : ∃ G : Nat, G = gk := ⟨_, rfl⟩
    by_cases hlt : i < k
    · go_wp2_with fail
      go_loopg [9, 31] l (fun gk c kk wr => ∃ j cc : Nat, gk + j = l ∧ kk = .int .i64 j ∧ c = .int .u64 cc ∧ cc < 4294967296 ∧ Hid ((N % 4294967296 ^ i * M + dig 4294967296 N i * (M % 4294967296 ^ j) * 4294967296 ^ i) / 4294967296 ^ (i + j) = N % 4294967296 ^ i * M / 4294967296 ^ (i + j) + cc) ∧ Row wr w.heap.size 80 .u32 (mix 4294967296 (N % 4294967296 ^ i * M) (N % 4294967296 ^ i * M + dig 4294967296 N i * (M % 4294967296 ^ j) * 4294967296 ^ i) (i + j)) (k + l) ∧ Grew w wr)
      case atStart =>
        refine ⟨0, 0, rfl, rfl, rfl, by omega, Lib.hid (by simp [Nat.mod_one]), hR.congr (fun p _ => ?_), hG⟩
        simp [mix, Nat.mod_one]
      case round =>
        obtain ⟨j, c, hj, rfl, rfl, hc, hcar, hRr, hGr⟩ := hrel
        by_cases hjl : j < l
        · have hcx := hGr.cell (Hca.out i (by omega))
          have hcy := hGr.cell (Hcb.out j (by omega))
          have hcd := hRr.cell (p := i + j) (by omega)
          have hfz := hRr.frozen (i + j)
          have hx := dig_lt (B := 4294967296) (by omega) N i
          have hy := dig_lt (B := 4294967296) (by omega) M j
          have hmix : mix 4294967296 (N % 4294967296 ^ i * M) (N % 4294967296 ^ i * M + dig 4294967296 N i * (M % 4294967296 ^ j) * 4294967296 ^ i) (i + j) (i + j) = dig 4294967296 (N % 4294967296 ^ i * M) (i + j) := by unfold mix; rw [if_neg (by omega)]
          rw [hmix] at hcd
          have hrow := Lib.hid (mul_row (B := 4294967296) N M i j)
          have hstep := mul_in _ _ _ _ _ _ hcar.out hx hy hc
          have hdd := dig_lt (B := 4294967296) (by omega) (N % 4294967296 ^ i * M) (i + j)
          rw [← hrow.out] at hstep
          have HR := Lib.hid hRr
          clear hRr hmix hR hcar
          generalize hxx : dig 4294967296 N i = x at *
          generalize hyy : dig 4294967296 M j = y at *
          generalize hd : dig 4294967296 (N % 4294967296 ^ i * M) (i + j) = d at *
          have Hxx := Lib.hid hxx
          have Hyy := Lib.hid hyy
          have Hd := Lib.hid hd
          clear hxx hyy hd
          obtain ⟨s1, ⟨c', s2, s3, s4⟩, s5, s6, s7, s8⟩ := hstep
          have hand := and_low (x * y + d + c) (by omega)
          rw [show ((x * y + d + c : Nat) : Int) = (x : Int) * y + d + c from by simp] at hand
          have S1 := Lib.hid s1
          have S2 := Lib.hid s2
          have S4 := Lib.hid s4
          have hij : (i : Int) + j < (k : Int) + l := by omega
          have q1 : (i : Int) < (n : Int) := by omega
          have q2 : (j : Int) < (m : Int) := by omega
          clear s1 s2 s4
          go_wp2_with fail
          go_quiet (fail)
          go_wp2_with fail
          go_roundg (gk - 1)
          case rel =>
            refine ⟨j + 1, c', by omega, by go_num, by rw [S2.out], s3, Lib.hid ?_, ?_, ?_⟩
            · exact S4.out
            · rw [S1.out, hrow.out]
              exact row_in (HR.out.drewN nq) rfl
            · exact (hGr.drewN _).setCell (Nat.le_refl _) _
          case measure => omega
        · obtain rfl : j = l := by omega
          have hfz := hRr.frozen (i + j)
          have hcd := hRr.cell (p := i + j) (by omega)
          have HR := Lib.hid hRr
          have hij : (i : Int) + j < (k : Int) + j := by omega
          have hcm : (c : Int) % 4294967296 = c := by omega
          have hT : N % 4294967296 ^ i * M < 4294967296 ^ (i + j) := by
            rw [Nat.pow_add]; exact Nat.mul_lt_mul'' (Nat.mod_lt _ (pow_pos' (B := 4294967296) (by omega) i)) HMs.out
          have hU : N % 4294967296 ^ (i + 1) * M < 4294967296 ^ (i + j + 1) := by
            rw [show i + j + 1 = (i + 1) + j from by omega, Nat.pow_add 4294967296 (i + 1) j]; exact Nat.mul_lt_mul'' (Nat.mod_lt _ (pow_pos' (B := 4294967296) (by omega) (i + 1))) HMs.out
          have hUe : N % 4294967296 ^ i * M + dig 4294967296 N i * (M % 4294967296 ^ j) * 4294967296 ^ i = N % 4294967296 ^ (i + 1) * M := by
            rw [Nat.mod_eq_of_lt HMs.out]; exact mul_next N M i
          have HT := Lib.hid hT
          have HU := Lib.hid hU
          have HUe := Lib.hid hUe
          clear hT hU hUe hRr hR
          generalize mix 4294967296 (N % 4294967296 ^ i * M) (N % 4294967296 ^ i * M + dig 4294967296 N i * (M % 4294967296 ^ j) * 4294967296 ^ i) (i + j) (i + j) = d at hcd
          go_wp2_with fail
          go_roundg (G - 1)
          case rel =>
            refine ⟨i + 1, by omega, by go_num, ?_, hGr.setCell (Nat.le_refl _) _⟩
            have h1 := hcar.out
            have h2 := HR.out
            rw [HUe.out] at h1 h2
            exact row_out h2 h1 HT.out HU.out hc
          case measure => omega
    · obtain rfl : i = k := by omega
      have hR' : Row wo w.heap.size 80 .u32 (dig 4294967296 (N * M)) (i + l) := by rw [Nat.mod_eq_of_lt HNs.out] at hR; exact hR
      have hnum := hR'.num (B := 4294967296) (n := i + l) (c := i + l) (Nat.le_refl _) (Nat.le_refl _) (by omega) Hmp.out (fun _ _ => rfl)
      have q1 : ((len 4294967296 (N * M) : Nat) : Int) ≤ (i : Int) + l := by omega
      have hcut := hnum.cut (k := len 4294967296 (N * M)) hml (lt_len (by omega) _)
      clear hmk hR hR'
      go_wp2_with fail
      refine (size_any _ _ _ _ hnum).mono ?_
      rintro e w' ⟨rfl, rfl⟩
      have Hcut := Lib.hid hcut
      clear hcut hnum
      generalize hs : len 4294967296 (N * M) = s at *
      have Hs := Lib.hid hs
      clear hs
      go_wp2_with fail
      go_ret
      exact ⟨_, rfl, by rw [Hs.out]; exact Hcut.out, hG⟩

theorem mul_any (va vb : Value) (N M n m : Nat) (w : World) (ha : Num 4294967296 .u32 w va N n) (hb : Num 4294967296 .u32 w vb M m) (hsz : len 4294967296 N + len 4294967296 M < 1099511627776) :
    Calls Try.prog 73 #[va, vb] w fun e w' => ∃ v, e = .returned v ∧ Num 4294967296 .u32 w' v (N * M) (len 4294967296 (N * M)) ∧ Grew w w' := by
  by_cases h : N = 0 ∨ M = 0
  · exact mul_zero va vb N M n m w ha hb h hsz
  · exact mul_pos va vb N M n m w ha hb (fun e => h (.inl e)) (fun e => h (.inr e)) hsz
end Go.Proofs.Ytpglnfccmhkocaa
namespace Go.Proofs.Ytpglnfccmhkocaa
open Go.RowKit

theorem small_step (N b i r : Nat) (hb : 0 < b) (hr : r = N / 4294967296 ^ (i + 1) % b) :
    (r * 4294967296 + dig 4294967296 N i) / b = dig 4294967296 (N / b) i ∧ (r * 4294967296 + dig 4294967296 N i) % b = N / 4294967296 ^ i % b ∧ (r * 4294967296 + dig 4294967296 N i) / b < 4294967296 := by
  have h1 := div_succ (B := 4294967296) N i
  have h2 := dig_lt (B := 4294967296) (by omega) N i
  have h3 := Nat.div_add_mod (N / 4294967296 ^ (i + 1)) b
  have h4 := Nat.mod_lt (N / 4294967296 ^ (i + 1)) hb
  have h5 : dig 4294967296 (N / b) i = N / 4294967296 ^ i / b % 4294967296 := by
    unfold dig; rw [Nat.div_div_eq_div_mul, Nat.mul_comm, ← Nat.div_div_eq_div_mul]
  rw [h5]
  rw [← hr] at h3 h4
  generalize dig 4294967296 N i = d at *
  generalize N / 4294967296 ^ (i + 1) = H at *
  generalize N / 4294967296 ^ i = X at *
  clear hr h5
  have e : X = r * 4294967296 + d + b * (4294967296 * (H / b)) := by
    rw [h1]
    have : 4294967296 * H = 4294967296 * (b * (H / b)) + 4294967296 * r := by rw [← Nat.mul_add, h3]
    rw [this, show b * (4294967296 * (H / b)) = 4294967296 * (b * (H / b)) from by simp only [Nat.mul_left_comm]]
    omega
  have e2 : (r * 4294967296 + d) / b < 4294967296 := by
    rw [Nat.div_lt_iff_lt_mul hb]
    have : (r + 1) * 4294967296 ≤ b * 4294967296 := Nat.mul_le_mul_right _ h4
    omega
  refine ⟨?_, ?_, e2⟩
  · rw [e, Nat.add_mul_div_left _ _ hb, Nat.add_mul_mod_self_left, Nat.mod_eq_of_lt e2]
  · rw [e, Nat.add_mul_mod_self_left]

theorem small_cast (r x b : Nat) (h : (r * 4294967296 + x) / b < 4294967296) : ((r : Int) * 4294967296 + x) / b % 4294967296 = (((r * 4294967296 + x) / b : Nat) : Int) ∧ ((r : Int) * 4294967296 + x) % b = (((r * 4294967296 + x) % b : Nat) : Int) := by
  have e : (r : Int) * 4294967296 + x = ((r * 4294967296 + x : Nat) : Int) := by omega
  rw [e, ← Int.natCast_ediv, ← Int.natCast_emod]
  refine ⟨?_, rfl⟩
  generalize (r * 4294967296 + x) / b = q at h ⊢
  omega

set_option maxRecDepth 100000 in
set_option maxHeartbeats 4000000 in
theorem small_any (va : Value) (N n b : Nat) (w : World) (ha : Num 4294967296 .u32 w va N n) (hb0 : 0 < b) (hbB : b < 4294967296) (hsz : len 4294967296 N < 1099511627776) :
    Calls Try.prog 128 #[va, .int .u32 (b : Int)] w fun e w' => ∃ v, e = .returned (.tuple #[v, .int .u32 ((N % b : Nat) : Int)]) ∧ Num 4294967296 .u32 w' v (N / b) (len 4294967296 (N / b)) ∧ Grew w w' := by
  have hn := ha.len_le (by omega)
  have hNs := lt_len (B := 4294967296) (by omega) N
  have hml := len_mono (B := 4294967296) (by omega) (Nat.div_le_self N b)
  have hmp := lt_pow_of_len (B := 4294967296) (by omega) hml
  generalize hk : len 4294967296 N = k at *
  have Hk := Lib.hid hk
  clear hk
  have hmk := make_u32 k k (by omega) (by omega)
  obtain ⟨A, ca, rfl, a1, a2, a3, a4⟩ := id ha
  clear a3
  have HNs := Lib.hid hNs
  have Hmp := Lib.hid hmp
  clear hNs hmp
  have hbz : ((b : Int) == 0) = false := by simp; omega
  go_enter Try.func128, Try.ntmps128
  go_wp2_with fail
  refine (size_any _ _ _ _ ha).mono ?_
  rintro e w' ⟨rfl, rfl⟩
  rw [Hk.out]
  clear ha
  go_wp2_with fail
  go_loopg [7, 8] k (fun gk r i wr => ∃ rr : Nat, gk ≤ k ∧ i = .int .i64 ((gk : Int) - 1) ∧ r = .int .u64 rr ∧ rr < b ∧ Hid (rr = N / 4294967296 ^ gk % b) ∧ Row wr w.heap.size 80 .u32 (fun p => if p < gk then 0 else dig 4294967296 (N / b) p) k ∧ Grew w wr)
  case atStart =>
    refine ⟨0, Nat.le_refl _, rfl, rfl, hb0, Lib.hid ?_, (Row.made w _ _ _).congr fun p hp => ?_, (Grew.refl _).alloc _⟩
    · rw [Nat.div_eq_of_lt HNs.out, Nat.zero_mod]
    · simp [hp]
  case round =>
    obtain ⟨r, hgk, rfl, rfl, hr, hR, hRow, hG⟩ := hrel
    rcases gk with _ | j
    · have hR' : Row wr w.heap.size 80 .u32 (dig 4294967296 (N / b)) k := hRow.congr fun p _ => by simp
      have hnum := hR'.num (B := 4294967296) (n := k) (c := k) (Nat.le_refl _) (Nat.le_refl _) (by omega) Hmp.out (fun _ _ => rfl)
      have q1 : ((len 4294967296 (N / b) : Nat) : Int) ≤ (k : Int) := by omega
      have hcut := hnum.cut (k := len 4294967296 (N / b)) hml (lt_len (by omega) _)
      have hr32 : (r : Int) % 4294967296 = r := by omega
      have e1 := hR.out
      rw [Nat.pow_zero, Nat.div_one] at e1
      have E1 := Lib.hid e1
      clear hmk hRow hR' e1 hR
      go_wp2_with fail
      refine (size_any _ _ _ _ hnum).mono ?_
      rintro e w' ⟨rfl, rfl⟩
      have Hcut := Lib.hid hcut
      clear hcut hnum
      generalize hs : len 4294967296 (N / b) = s at *
      have Hs := Lib.hid hs
      clear hs
      go_wp2_with fail
      go_ret2
      exact ⟨_, by rw [← E1.out]; rfl, by rw [Hs.out]; exact Hcut.out, hG⟩
    · obtain ⟨ba, oa, rfl, hca⟩ := a4 (by omega)
      have hcx := hG.cell (hca j (by omega))
      have hfz := hRow.frozen j
      have hcd := hRow.cell (p := j) (by omega)
      have hx := dig_lt (B := 4294967296) (by omega) N j
      have hst := small_step N b j r hb0 hR.out
      have hor := or_low r (dig 4294967296 N j) (by omega) hx
      clear hca a4
      have HR := Lib.hid hRow
      clear hRow hR
      generalize dig 4294967296 N j = x at *
      have q1 : (j : Int) < (n : Int) := by omega
      have q3 : ((j + 1 : Nat) : Int) - 1 = (j : Int) := by omega
      rw [q3]
      obtain ⟨s1, s2, s3⟩ := hst
      have S1 := Lib.hid s1
      have S2 := Lib.hid s2
      clear s1 s2
      simp only [Nat.lt_succ_self, if_true] at hcd
      go_wp2_with fail
      go_region
      go_wp2
      go_roundg j
      case rel =>
        have hcst := small_cast r x b s3
        have hlt := Nat.mod_lt (r * 4294967296 + x) hb0
        refine ⟨(r * 4294967296 + x) % b, by omega, rfl, by rw [hcst.2], hlt, Lib.hid S2.out, ?_, ?_⟩
        · rw [hcst.1]
          refine ((HR.out.set j _).drew).congr fun p hp => ?_
          by_cases e : p = j
          · subst e; simp [S1.out]
          · simp only [if_neg e]
            by_cases hpj : p < j
            · rw [if_pos hpj, if_pos (by omega)]
            · rw [if_neg hpj, if_neg (by omega)]
        · exact (hG.setCell (Nat.le_refl _) _).drew
      case measure => omega
end Go.Proofs.Ytpglnfccmhkocaa
