/- r01.bit, r01.Bits, r01.small, r01.Of. Condition: what comes in reads. r01.small, r01.Of, r01.twice, r01.Power. Conditions: what comes in reads; numbers of fewer than 2^40 bits. Plain: division bit by bit. Conditions: none (no program in sight). The calls of package whole over readings. Conditions: what comes in reads; fewer than 2^39 words. -/
import Derived.Test.YtngbcbncllfblaaGreatJRef7
import Derived.Test.YtngbcbncllfblaaGreatJKit
namespace Go.Proofs.YtngbcbncllfblaaGreat
open Go.RowKit

theorem bit_dig (N i : Nat) : dig 65536 N (i / 16) / 2 ^ (i % 16) % 2 = N / 2 ^ i % 2 := by
  unfold dig
  have hr : i % 16 < 16 := Nat.mod_lt _ (by omega)
  have e1 : N / 2 ^ i = N / 65536 ^ (i / 16) / 2 ^ (i % 16) := by
    rw [show (65536 : Nat) = 2 ^ 16 from rfl, ← Nat.pow_mul, Nat.div_div_eq_div_mul, ← Nat.pow_add, Nat.div_add_mod]
  rw [e1]
  generalize N / 65536 ^ (i / 16) = a
  generalize i % 16 = r at *
  obtain ⟨s, hs⟩ : ∃ s, 16 = r + (s + 1) := ⟨16 - r - 1, by omega⟩
  rw [show (65536 : Nat) = 2 ^ r * 2 ^ (s + 1) from by rw [← Nat.pow_add, ← hs], Nat.mod_mul_right_div_self, Nat.pow_succ, Nat.mul_comm (2 ^ s) 2, Nat.mod_mul_right_mod]

theorem bit_val (d s : Nat) : ((d : Int) / 2 ^ s).tmod 2 = ((d / 2 ^ s % 2 : Nat) : Int) := by
  have e : (d : Int) / 2 ^ s = ((d / 2 ^ s : Nat) : Int) := by simp
  rw [e]
  generalize d / 2 ^ s = y
  rw [Int.tmod_eq_emod_of_nonneg (by omega)]
  omega

set_option maxRecDepth 100000 in
set_option maxHeartbeats 2000000 in
theorem rbit_any (v : Value) (N n i : Nat) (w : World) (hv : Num 65536 .u64 w v N n) (hi : i ≤ 4611686018427387904) :
    Calls Tryz.prog 250 #[v, .int .i64 (i : Int)] w fun e w' => e = .returned (.int .u64 ((N / 2 ^ i % 2 : Nat) : Int)) ∧ w = w' := by
  have hd := bit_dig N i
  have hx := dig_lt (B := 65536) (by omega) N (i / 16)
  have A1 := Lib.hid (rat_any v N n (i / 16) w hv (by omega))
  have e1 : ((i : Int) / 16) = ((i / 16 : Nat) : Int) := by omega
  have e2 : ((i : Int) % 16) = ((i % 16 : Nat) : Int) := by omega
  have hr : i % 16 < 16 := Nat.mod_lt _ (by omega)
  obtain ⟨A, c, rfl, -⟩ := id hv
  replace hd := Lib.hid hd
  replace e1 := Lib.hid e1
  replace e2 := Lib.hid e2
  clear hv
  go_enter Tryz.func250, Tryz.ntmps250
  go_wp2_with (first | fail | (rw [e1.out]; go_at_call 249; refine A1.out.mono ?_; rintro e w' ⟨rfl, rfl⟩))
  go_ret
  exact ⟨by rw [← hd.out, ← bit_val]; rfl, rfl⟩

theorem lt_of_bit {N k : Nat} (h : N < 2 ^ (k + 1)) (h0 : N / 2 ^ k % 2 = 0) : N < 2 ^ k := by
  have h1 : N / 2 ^ k < 2 := by
    rw [Nat.div_lt_iff_lt_mul (Nat.two_pow_pos k), Nat.mul_comm, ← Nat.pow_succ]; exact h
  have h2 : N / 2 ^ k = 0 := by
    clear h
    generalize N / 2 ^ k = y at *
    omega
  exact (Nat.div_eq_zero_iff_lt (Nat.two_pow_pos k)).1 h2

set_option maxRecDepth 100000 in
set_option maxHeartbeats 4000000 in
theorem rbits_any (va : Value) (N n : Nat) (w : World) (ha : Num 4294967296 .u32 w va N n) (hsz : n < 274877906944) :
    Calls Tryz.prog 193 #[va] w fun e w' => ∃ b : Nat, e = .returned (.int .i64 (b : Int)) ∧ (b = 0 ↔ N = 0) ∧ Grew w w' := by
  have l1 : len 65536 N < 549755813889 := by
    have h1 := ha.len_le (by omega); have := len_half N; omega
  have hNs := lt_len (B := 65536) (by omega) N
  go_enter Tryz.func193, Tryz.ntmps193
  go_wp2_with fail
  refine (rhalf_any _ _ _ _ ha (by omega)).mono ?_
  rintro e w1 ⟨v1, rfl, h1, g1⟩
  obtain ⟨A, ca, rfl, -⟩ := id h1
  generalize len 65536 N = L at *
  have h2 := Lib.hid (show N < 2 ^ (16 * L) by rw [Nat.pow_mul]; exact hNs)
  replace h1 := Lib.hid h1
  replace g1 := Lib.hid g1
  clear ha hNs
  go_wp2_with fail
  rw [show (16 * (L : Int) - 1) = ((16 * L : Nat) : Int) - 1 from by omega]
  go_loopg [4] (16 * L) (fun gk i wr => ∃ k : Nat, gk = k ∧ k < 8796093022224 ∧ i = .int .i64 ((k : Int) - 1) ∧ Hid (N < 2 ^ k) ∧ w1 = wr)
  case atStart => exact ⟨16 * L, rfl, by omega, rfl, h2, rfl⟩
  case round =>
    obtain ⟨k, hgk, hk, rfl, he, rfl⟩ := hrel
    have hgl : k ≤ gk := by omega
    clear hgk
    rcases k with _ | j
    · have e0 : N = 0 := by have := he.out; simpa using this
      replace e0 := Lib.hid e0
      rw [show ((0 : Nat) : Int) - 1 = -1 from rfl]
      go_wp2_with fail
      go_ret
      exact ⟨0, rfl, by rw [e0.out], g1.out⟩
    · have A1 := Lib.hid (rbit_any (.slice A L ca) N L j w1 h1.out (by omega))
      have e1 := Lib.hid (fun h => lt_of_bit (N := N) (k := j) he.out h)
      have e2 : N / 2 ^ j % 2 ≠ 0 → N ≠ 0 := fun h e => h (by rw [e]; simp)
      replace e2 := Lib.hid e2
      have hb : N / 2 ^ j % 2 < 2 := Nat.mod_lt _ (by omega)
      rw [show ((j + 1 : Nat) : Int) - 1 = (j : Int) from by omega]
      clear he
      generalize N / 2 ^ j % 2 = b at *
      rcases Nat.eq_zero_or_pos b with rfl | hp
      · have r := Lib.hid (e1.out rfl)
        go_wp2_with (first | fail | (go_at_call 250; refine A1.out.mono ?_; rintro e w' ⟨rfl, rfl⟩))
        go_roundg j
        case rel => exact ⟨j, rfl, by omega, rfl, r, rfl⟩
        case measure => omega
      · obtain rfl : b = 1 := by omega
        have r := Lib.hid (e2.out (by omega))
        go_wp2_with (first | fail | (go_at_call 250; refine A1.out.mono ?_; rintro e w' ⟨rfl, rfl⟩))
        go_ret
        exact ⟨j + 1, ret_int (by omega), ⟨fun h => by omega, fun h => absurd h r.out⟩, g1.out⟩
end Go.Proofs.YtngbcbncllfblaaGreat
namespace Go.Proofs.YtngbcbncllfblaaGreat
open Go.RowKit

set_option maxRecDepth 100000 in
set_option maxHeartbeats 4000000 in
theorem r1small_any (va : Value) (N n : Nat) (w : World) (ha : Num 65536 .u64 w va N n) (hn : n ≤ 4) :
    Calls Tryz.prog 294 #[va] w fun e w' => e = .returned (.int .u64 (N : Int)) ∧ w = w' := by
  obtain ⟨A, ca, rfl, a1, a2, a3, a4⟩ := ha
  have h64 : N < 18446744073709551616 := by
    have : 65536 ^ n ≤ 65536 ^ 4 := Nat.pow_le_pow_right (by omega) hn
    have e : (65536 : Nat) ^ 4 = 18446744073709551616 := rfl
    omega
  have h0 := Lib.hid (show N / 65536 ^ n = 0 from Nat.div_eq_of_lt a3)
  clear a3
  go_enter Tryz.func294, Tryz.ntmps294
  go_wp2_with fail
  go_loopg [3, 4] n (fun gk v i wr => ∃ k : Nat, gk = k ∧ k ≤ n ∧ i = .int .i64 ((k : Int) - 1) ∧ v = .int .u64 ((N / 65536 ^ k : Nat) : Int) ∧ w = wr)
  case atStart => exact ⟨n, rfl, Nat.le_refl _, rfl, by rw [h0.out]; rfl, rfl⟩
  case round =>
    obtain ⟨k, hgk, hk, rfl, rfl, rfl⟩ := hrel
    have hgl : k ≤ gk := by omega
    clear hgk
    rcases k with _ | j
    · rw [show ((0 : Nat) : Int) - 1 = -1 from rfl, Nat.pow_zero, Nat.div_one]
      go_wp2_with fail
      go_ret
      exact ⟨rfl, rfl⟩
    · obtain ⟨b, off, rfl, hc⟩ := a4 (by omega)
      have hcell := hc j (by omega)
      have hd := div_step N j
      have hle : N / 65536 ^ j ≤ N := Nat.div_le_self _ _
      have hx := dig_lt (B := 65536) (by omega) N j
      rw [show ((j + 1 : Nat) : Int) - 1 = (j : Int) from by omega]
      clear hc a4
      generalize N / 65536 ^ (j + 1) = t at *
      generalize hq : N / 65536 ^ j = q at *
      generalize dig 65536 N j = x at *
      have e1 : (t : Int) * 65536 < 18446744073709551616 := by omega
      have e2 : (t : Int) * 65536 + x < 18446744073709551616 := by omega
      replace hd := Lib.hid hd
      replace hq := Lib.hid hq
      go_wp2_with fail
      go_roundg j
      case rel => exact ⟨j, rfl, by omega, rfl, by rw [hq.out, hd.out]; go_num, rfl⟩
      case measure => omega

theorem num_four (w : World) (a b c d : Nat) (ha : a < 65536) (hb : b < 65536) (hc : c < 65536) (hd : d < 65536) (t : TypeId) :
    Num 65536 .u64 (w.alloc (.cells #[.int .u64 (a : Int), .int .u64 (b : Int), .int .u64 (c : Int), .int .u64 (d : Int)] t)) (.slice (some ⟨w.heap.size, 0, none⟩) 4 4) (a + 65536 * (b + 65536 * (c + 65536 * d))) 4 := by
  refine Num.of_blk (heap_alloc_new w _) (Nat.le_refl _) (by omega) (by simp only [Nat.reducePow]; omega) fun i hi => ?_
  rcases i with _ | _ | _ | _ | i
  · simp [dig]; omega
  · simp [dig]; omega
  · simp [dig]; omega
  · simp [dig]; omega
  · omega

set_option maxRecDepth 100000 in
set_option maxHeartbeats 4000000 in
theorem r1of_any (x : Int) (N : Nat) (w : World) (hx : x = (N : Int)) (hN : N < 18446744073709551616) :
    Calls Tryz.prog 192 #[.int .u64 x] w fun e w' => ∃ v, e = .returned v ∧ Num 4294967296 .u32 w' v N (len 4294967296 N) ∧ Grew w w' := by
  subst hx
  have h2 := num_four w (N % 65536) (N / 65536 % 65536) (N / 65536 / 65536 % 65536) (N / 65536 / 65536 / 65536) (by omega) (by omega) (by omega) (by omega) 175
  rw [show N % 65536 + 65536 * (N / 65536 % 65536 + 65536 * (N / 65536 / 65536 % 65536 + 65536 * (N / 65536 / 65536 / 65536))) = N from by omega] at h2
  have H2 := Lib.hid h2
  have hb : (N : Int) < 18446744073709551616 := by omega
  clear h2 hN
  go_enter Tryz.func192, Tryz.ntmps192
  go_wp2_with fail
  refine (rwords_any _ N 4 _ H2.out (by omega)).mono ?_
  rintro e w' ⟨v, rfl, h1, h3⟩
  replace h1 := Lib.hid h1
  replace h3 := Lib.hid h3
  go_wp2_with fail
  go_ret
  exact ⟨v, rfl, h1.out, ((Grew.refl w).alloc _).trans h3.out⟩

set_option maxRecDepth 100000 in
set_option maxHeartbeats 4000000 in
theorem r1twice_any (va : Value) (N L : Nat) (w : World) (ha : Num 65536 .u64 w va N L) (hL : L < 549755813889) :
    Calls Tryz.prog 327 #[va, .int .u64 0] w fun e w' => ∃ v, e = .returned v ∧ Num 65536 .u64 w' v (N + N) (len 65536 (N + N)) ∧ Grew w w' := by
  obtain ⟨A, ca, rfl, -, -, a3, -⟩ := id ha
  have hNM := Lib.hid (show N + N < 65536 ^ (L + 1) by rw [Nat.pow_succ]; omega)
  replace ha := Lib.hid ha
  clear a3
  go_enter Tryz.func327, Tryz.ntmps327
  go_wp2_with fail
  go_loopg [5, 6, 7] (L + 1) (fun gk out cr i wr => ∃ j : Nat, gk + j = L + 1 ∧ i = .int .i64 j ∧ cr = .int .u64 (carry 65536 N N j : Nat) ∧ wr.ownsRow w.heap.size 175 1 out j (dvals 65536 .u64 (N + N) j) ∧ Grew w wr)
  case atStart => exact ⟨0, rfl, rfl, by rw [carry_zero]; rfl, World.ownsRow_nil _ _ _ _, Grew.refl _⟩
  case round =>
    obtain ⟨j, hj, rfl, rfl, hown, hG⟩ := hrel
    by_cases hlt : j < L + 1
    · have A1 := Lib.hid (rat_any (.slice A L ca) N L j wr (ha.out.grew hG) (by omega))
      have hx := dig_lt (B := 65536) (by omega) N j
      have hc := carry_le (B := 65536) (by omega) N N j
      have hstep := radd_step N N j _ _ _ rfl rfl rfl
      have hsucc := Lib.hid (dvals_succ 65536 .u64 (N + N) j)
      have hsz1 := hG.size
      have q1 := Lib.hid hG
      have q2 := Lib.hid hown
      have hjx : (j : Int) < (L : Int) + 1 := by omega
      clear hG hown
      rw [show ((dig 65536 N j : Nat) : Int) + (dig 65536 N j : Nat) + (carry 65536 N N j : Nat) = 2 * ((dig 65536 N j : Nat) : Int) + (carry 65536 N N j : Nat) from by omega] at hstep
      replace hstep := Lib.hid hstep
      generalize dig 65536 N j = x at *
      generalize carry 65536 N N j = c at *
      go_wp2_with (first | fail | (go_at_call 249; refine A1.out.mono ?_; rintro e w' ⟨rfl, rfl⟩) | (at_builtin; refine wpList_app1 _ rfl (.tmp 23) (.tmp 26) 243 rfl w.heap.size 175 (.int .u64 0) 1 8 Tryz.underlying243 info_u64 rfl (by omega) _ j _ rfl q2.out _ rfl (by simp [Value.oneCell']) rfl (by omega) (by omega) hsz1 ?_; intro v3 w3 hown1 hG1))
      go_roundg (gk - 1)
      case rel => exact ⟨j + 1, by omega, by go_num, by rw [hstep.out.2], by rw [hsucc.out, ← hstep.out.1]; exact hown1, hG1 _ (Nat.le_refl _) q1.out⟩
      case measure => omega
    · obtain rfl : j = L + 1 := by omega
      have hnum := Lib.hid (Num.of_own hown hNM.out)
      obtain ⟨D, cd, rfl, -⟩ := id hnum.out
      have hjx : ¬ ((L : Int) + 1 < (L : Int) + 1) := by omega
      replace hG := Lib.hid hG
      clear hown
      go_wp2_with fail
      refine (rcut_any _ _ _ _ hnum.out).mono ?_
      rintro e w4 ⟨v4, rfl, h4, rfl⟩
      replace h4 := Lib.hid h4
      go_wp2_with fail
      go_ret
      exact ⟨_, rfl, h4.out, hG.out⟩
theorem len_pow2 (j : Nat) : len 65536 (2 ^ j) ≤ j / 16 + 1 := by
  refine len_le (by omega) ?_
  rw [show (65536 : Nat) = 2 ^ 16 from rfl, ← Nat.pow_mul]
  exact Nat.pow_lt_pow_right (by omega) (by omega)

set_option maxRecDepth 100000 in
set_option maxHeartbeats 4000000 in
theorem r1power_any (n : Nat) (w : World) (hn : n < 8796093022208) :
    Calls Tryz.prog 293 #[.int .i64 (n : Int)] w fun e w' => ∃ v, e = .returned v ∧ Num 4294967296 .u32 w' v (2 ^ n) (len 4294967296 (2 ^ n)) ∧ Grew w w' := by
  have hone := Lib.hid (show Num 65536 .u64 (w.alloc (.cells #[.int .u64 1] 175)) (.slice (some ⟨w.heap.size, 0, none⟩) 1 1) (2 ^ 0) (len 65536 (2 ^ 0)) by
    refine Num.of_blk (heap_alloc_new w _) (Nat.le_refl _) (by omega) (by simp) fun i hi => ?_
    have hi : i < 1 := hi
    obtain rfl : i = 0 := by omega
    simp [dig])
  go_enter Tryz.func293, Tryz.ntmps293
  go_wp2_with fail
  go_loopg [3, 4] n (fun gk v i wr => ∃ j : Nat, gk + j = n ∧ i = .int .i64 j ∧ Num 65536 .u64 wr v (2 ^ j) (len 65536 (2 ^ j)) ∧ Grew w wr)
  case atStart => exact ⟨0, rfl, rfl, hone.out, (Grew.refl _).alloc _⟩
  case round =>
    obtain ⟨j, hj, rfl, hnum, hG⟩ := hrel
    have hlp := len_pow2 j
    obtain ⟨A, ca, rfl, -⟩ := id hnum
    replace hnum := Lib.hid hnum
    replace hG := Lib.hid hG
    replace hlp := Lib.hid (show len 65536 (2 ^ j) < 549755813889 by omega)
    by_cases hlt : j < n
    · go_wp2_with fail
      refine (r1twice_any _ _ _ _ hnum.out hlp.out).mono ?_
      rintro e w4 ⟨v4, rfl, h4, g4⟩
      rw [show 2 ^ j + 2 ^ j = 2 ^ (j + 1) from by rw [Nat.pow_succ]; omega] at h4
      replace h4 := Lib.hid h4
      replace g4 := Lib.hid (hG.out.trans g4)
      go_wp2_with fail
      go_roundg (gk - 1)
      case rel => exact ⟨j + 1, by omega, by go_num, h4.out, g4.out⟩
      case measure => omega
    · obtain rfl : j = n := by omega
      go_wp2_with fail
      refine (rwords_any _ _ _ _ hnum.out (by have := hlp.out; omega)).mono ?_
      rintro e w4 ⟨v4, rfl, h4, g4⟩
      replace h4 := Lib.hid h4
      replace g4 := Lib.hid (hG.out.trans g4)
      go_wp2_with fail
      go_ret
      exact ⟨_, rfl, h4.out, g4.out⟩
end Go.Proofs.YtngbcbncllfblaaGreat
namespace Go.Proofs.YtngbcbncllfblaaGreat
open Go.RowKit

/-- The carry while a number is doubled, and a bit is added. -/
def dcar (R b j : Nat) : Nat := (2 * (R % 65536 ^ j) + b) / 65536 ^ j
theorem dcar_zero (R b : Nat) : dcar R b 0 = b := by simp [dcar, Nat.mod_one]
theorem dcar_le (R b j : Nat) (hb : b ≤ 1) : dcar R b j ≤ 1 := by
  unfold dcar
  have hp : 0 < 65536 ^ j := Nat.pow_pos (by omega)
  have hm := Nat.mod_lt R hp
  have : (2 * (R % 65536 ^ j) + b) / 65536 ^ j < 2 := by rw [Nat.div_lt_iff_lt_mul hp]; omega
  omega
theorem dcar_succ (R b j : Nat) : dcar R b (j + 1) = (2 * dig 65536 R j + dcar R b j) / 65536 := by
  unfold dcar
  have hp : 0 < 65536 ^ j := Nat.pow_pos (by omega)
  rw [mod_succ, Nat.pow_succ, ← Nat.div_div_eq_div_mul]
  rw [show 2 * (R % 65536 ^ j + 65536 ^ j * dig 65536 R j) + b = (2 * (R % 65536 ^ j) + b) + 65536 ^ j * (2 * dig 65536 R j) from by
    rw [Nat.mul_add, ← Nat.mul_assoc 2, Nat.mul_comm 2 (65536 ^ j), Nat.mul_assoc]; omega]
  rw [Nat.add_mul_div_left _ _ hp, Nat.add_comm]
theorem dcar_dig (R b j : Nat) : (2 * dig 65536 R j + dcar R b j) % 65536 = dig 65536 (2 * R + b) j := by
  have hp : 0 < 65536 ^ j := Nat.pow_pos (by omega)
  have hR : R = R % 65536 ^ j + 65536 ^ j * (R / 65536 ^ j) := (Nat.mod_add_div R (65536 ^ j)).symm
  have e : 2 * R + b = (2 * (R % 65536 ^ j) + b) + 65536 ^ j * (2 * (R / 65536 ^ j)) := by
    have e2 : 65536 ^ j * (2 * (R / 65536 ^ j)) = 2 * (65536 ^ j * (R / 65536 ^ j)) := by rw [Nat.mul_left_comm]
    rw [e2]; omega
  unfold dcar
  rw [show dig 65536 (2 * R + b) j = (2 * R + b) / 65536 ^ j % 65536 from rfl, e, Nat.add_mul_div_left _ _ hp]
  rw [show dig 65536 R j = R / 65536 ^ j % 65536 from rfl]
  generalize R / 65536 ^ j = x
  generalize (2 * (R % 65536 ^ j) + b) / 65536 ^ j = y
  omega
theorem dbl_step (R b j : Nat) (hb : b ≤ 1) :
    (2 * ((dig 65536 R j : Nat) : Int) + (dcar R b j : Nat)) % 65536 = (dig 65536 (2 * R + b) j : Nat) ∧ (2 * ((dig 65536 R j : Nat) : Int) + (dcar R b j : Nat)) / 65536 = (dcar R b (j + 1) : Nat) ∧
    2 * ((dig 65536 R j : Nat) : Int) + (dcar R b j : Nat) < 131072 := by
  have h1 := dig_lt (B := 65536) (by omega) R j
  have h2 := dcar_le R b j hb
  rw [← dcar_dig, dcar_succ]
  refine ⟨by omega, by omega, by omega⟩

/-- What is left, and how often: one bit more. -/
theorem div_bit_lo (N M i : Nat) (h : 2 * (N / 2 ^ (i + 1) % M) + N / 2 ^ i % 2 < M) :
    N / 2 ^ i % M = 2 * (N / 2 ^ (i + 1) % M) + N / 2 ^ i % 2 ∧ N / 2 ^ i / M * 2 ^ i = N / 2 ^ (i + 1) / M * 2 ^ (i + 1) := by
  have e : N / 2 ^ i = 2 * (N / 2 ^ (i + 1)) + N / 2 ^ i % 2 := by
    rw [Nat.pow_succ, ← Nat.div_div_eq_div_mul]; omega
  generalize hb : N / 2 ^ i % 2 = b at *
  generalize N / 2 ^ (i + 1) = x at *
  rw [e]
  have ex := Nat.mod_add_div x M
  have e2 : 2 * x + b = (2 * (x % M) + b) + M * (2 * (x / M)) := by
    have : M * (2 * (x / M)) = 2 * (M * (x / M)) := by rw [Nat.mul_left_comm]
    omega
  constructor
  · rw [e2, Nat.add_mul_mod_self_left, Nat.mod_eq_of_lt h]
  · rw [e2, Nat.add_mul_div_left _ _ (by omega), Nat.div_eq_of_lt h, Nat.pow_succ]
    rw [Nat.zero_add, Nat.mul_comm 2 (x / M), Nat.mul_assoc, Nat.mul_comm 2 (2 ^ i)]
theorem div_bit_hi (N M i : Nat) (h0 : 0 < M) (h : M ≤ 2 * (N / 2 ^ (i + 1) % M) + N / 2 ^ i % 2) :
    N / 2 ^ i % M = 2 * (N / 2 ^ (i + 1) % M) + N / 2 ^ i % 2 - M ∧ N / 2 ^ i / M * 2 ^ i = N / 2 ^ (i + 1) / M * 2 ^ (i + 1) + 2 ^ i := by
  have e : N / 2 ^ i = 2 * (N / 2 ^ (i + 1)) + N / 2 ^ i % 2 := by
    rw [Nat.pow_succ, ← Nat.div_div_eq_div_mul]; omega
  have hb2 : N / 2 ^ i % 2 < 2 := Nat.mod_lt _ (by omega)
  generalize hb : N / 2 ^ i % 2 = b at *
  generalize N / 2 ^ (i + 1) = x at *
  rw [e]
  have ex := Nat.mod_add_div x M
  have hr := Nat.mod_lt x h0
  have e2 : 2 * x + b = (2 * (x % M) + b - M) + M * (2 * (x / M) + 1) := by
    have : M * (2 * (x / M) + 1) = 2 * (M * (x / M)) + M := by rw [Nat.mul_add, Nat.mul_left_comm, Nat.mul_one]
    omega
  have hlt : 2 * (x % M) + b - M < M := by omega
  constructor
  · rw [e2, Nat.add_mul_mod_self_left, Nat.mod_eq_of_lt hlt]
  · rw [e2, Nat.add_mul_div_left _ _ (by omega), Nat.div_eq_of_lt hlt, Nat.pow_succ]
    rw [Nat.zero_add, Nat.add_mul, Nat.one_mul, Nat.mul_comm 2 (x / M), Nat.mul_assoc, Nat.mul_comm 2 (2 ^ i)]

/-- A bit that was 0 is set: in its digit alone. -/
theorem set_bit (q i p : Nat) : dig 65536 (q * 2 ^ (i + 1) + 2 ^ i) p = if p = i / 16 then dig 65536 (q * 2 ^ (i + 1)) p + 2 ^ (i % 16) else dig 65536 (q * 2 ^ (i + 1)) p := by
  have hr : i % 16 < 16 := Nat.mod_lt _ (by omega)
  have hB : ∀ s, (65536 : Nat) ^ s = 2 ^ (16 * s) := fun s => by rw [show (65536 : Nat) = 2 ^ 16 from rfl, ← Nat.pow_mul]
  have e1 : 2 ^ i = 2 ^ (i % 16) * 65536 ^ (i / 16) := by rw [hB, ← Nat.pow_add]; congr 1; omega
  have e2 : q * 2 ^ (i + 1) = q * 2 ^ (i % 16 + 1) * 65536 ^ (i / 16) := by rw [hB, Nat.mul_assoc, ← Nat.pow_add]; congr 2; omega
  rw [e1, e2, ← Nat.add_mul]
  generalize i % 16 = r at *
  generalize i / 16 = s at *
  have hp : 0 < 65536 ^ s := Nat.pow_pos (by omega)
  have hlow : ∀ a, dig 65536 (a * 65536 ^ s) s = a % 65536 := fun a => by unfold dig; rw [Nat.mul_div_cancel _ hp]
  obtain ⟨t, ht⟩ : ∃ t, 16 = (r + 1) + t := ⟨16 - (r + 1), by omega⟩
  have hsplit : (65536 : Nat) = 2 ^ (r + 1) * 2 ^ t := by rw [← Nat.pow_add, ← ht]
  have hmod : q * 2 ^ (r + 1) % 65536 = 2 ^ (r + 1) * (q % 2 ^ t) := by rw [hsplit, Nat.mul_comm q, Nat.mul_mod_mul_left]
  have hlt : q % 2 ^ t + 1 ≤ 2 ^ t := Nat.mod_lt _ (Nat.two_pow_pos t)
  have hle : 2 ^ (r + 1) * (q % 2 ^ t) + 2 ^ (r + 1) ≤ 65536 := by
    rw [hsplit]; have := Nat.mul_le_mul_left (2 ^ (r + 1)) hlt; rw [Nat.mul_add, Nat.mul_one] at this; exact this
  have hr2 : 2 ^ r < 2 ^ (r + 1) := by rw [Nat.pow_succ]; have := Nat.two_pow_pos r; omega
  have hsum : (q * 2 ^ (r + 1) + 2 ^ r) % 65536 = q * 2 ^ (r + 1) % 65536 + 2 ^ r := by
    rw [Nat.add_mod, Nat.mod_eq_of_lt (show 2 ^ r < 65536 by omega), Nat.mod_eq_of_lt (by rw [hmod]; omega)]
  have hdiv : (q * 2 ^ (r + 1) + 2 ^ r) / 65536 = q * 2 ^ (r + 1) / 65536 := by
    have h1 := Nat.div_add_mod (q * 2 ^ (r + 1) + 2 ^ r) 65536
    have h2 := Nat.div_add_mod (q * 2 ^ (r + 1)) 65536
    omega
  by_cases hps : p = s
  · subst hps
    rw [if_pos rfl, hlow, hlow, hsum]
  · rw [if_neg hps]
    rcases Nat.lt_or_ge p s with h | h
    · have hz : ∀ a, dig 65536 (a * 65536 ^ s) p = 0 := fun a => by
        have := mul_low (B := 65536) (U := 0) (V := a) h
        rw [Nat.zero_add] at this
        rw [this]; simp [dig]
      rw [hz, hz]
    · obtain ⟨u, rfl⟩ : ∃ u, p = s + 1 + u := ⟨p - s - 1, by omega⟩
      have hz : ∀ a, dig 65536 (a * 65536 ^ s) (s + 1 + u) = a / 65536 / 65536 ^ u % 65536 := fun a => by
        unfold dig
        rw [Nat.pow_add, Nat.pow_succ, ← Nat.div_div_eq_div_mul, ← Nat.div_div_eq_div_mul, Nat.mul_div_cancel _ hp]
      rw [hz, hz, hdiv]
theorem set_bit_lt (q i : Nat) : dig 65536 (q * 2 ^ (i + 1)) (i / 16) + 2 ^ (i % 16) < 65536 := by
  have h := set_bit q i (i / 16)
  rw [if_pos rfl] at h
  rw [← h]
  exact dig_lt (by omega) _ _
end Go.Proofs.YtngbcbncllfblaaGreat
namespace Go.Proofs.YtngbcbncllfblaaGreat
open Go.RowKit

/-- A whole number as it comes in: it need not be canonical. -/
def WhlV (w : World) (V : Value) (z : Int) (k : Nat) : Prop := ∃ neg N n v, V = .agg #[.bool neg, v] ∧ Num 4294967296 .u32 w v N n ∧ sgn neg N = z ∧ len 4294967296 N ≤ k
theorem WhlV.kept {w w' : World} {V : Value} {z : Int} {l : Nat} (h : WhlV w V z l) (k : Keeps w w') : WhlV w' V z l := by
  obtain ⟨neg, N, n, v, e, hn, h⟩ := h
  exact ⟨neg, N, n, v, e, k _ _ _ _ _ hn, h⟩
theorem Whl.v {w : World} {V : Value} {z : Int} {k : Nat} (h : Whl w V z) (e : len 4294967296 z.natAbs ≤ k) : WhlV w V z k := by
  obtain ⟨v, e1, hn⟩ := h
  exact ⟨_, _, _, v, e1, hn, sgn_of z, e⟩
theorem Num.whl {w : World} {v : Value} {N n k : Nat} (h : Num 4294967296 .u32 w v N n) (e : len 4294967296 N ≤ k) : WhlV w (.agg #[.bool false, v]) (N : Int) k :=
  ⟨_, _, _, v, rfl, h, by simp [sgn], e⟩
theorem Num.slice {w : World} {B : Nat} {K : IntKind} {v : Value} {N n : Nat} (h : Num B K w v N n) : ∃ A c, v = .slice A n c ∧ Hid (Num B K w v N n) := by
  obtain ⟨A, c, rfl, -⟩ := id h
  exact ⟨A, c, rfl, h⟩

theorem wmul_v (Va Vb : Value) (z y : Int) (k l : Nat) (w : World) (ha : WhlV w Va z k) (hb : WhlV w Vb y l) (hs : k + l < 1099511627776) :
    Calls Tryz.prog 149 #[Va, Vb] w fun e w' => ∃ V, e = .returned V ∧ Whl w' V (z * y) ∧ Grew w w' := by
  obtain ⟨na, N, n, va, rfl, h1, rfl, h2⟩ := ha
  obtain ⟨nb, M, m, vb, rfl, g1, rfl, g2⟩ := hb
  exact wmul_any na nb va vb N M n m w h1 g1 (by omega)
theorem sign_v (Va : Value) (z : Int) (k : Nat) (w : World) (ha : WhlV w Va z k) (hs : k < 1099511627776) :
    Calls Tryz.prog 147 #[Va] w fun e w' => e = .returned (.int .i64 (sg z)) ∧ Grew w w' := by
  obtain ⟨na, N, n, va, rfl, h1, rfl, h2⟩ := ha
  exact sign_any na va N n w h1 (by omega)
theorem wcmp_v (Va Vb : Value) (z y : Int) (k l : Nat) (w : World) (ha : WhlV w Va z k) (hb : WhlV w Vb y l) (hs : k < 549755813888 ∧ l < 549755813888) :
    Calls Tryz.prog 148 #[Va, Vb] w fun e w' => e = .returned (.int .i64 (cmpZ z y)) ∧ Grew w w' := by
  obtain ⟨na, N, n, va, rfl, h1, rfl, h2⟩ := ha
  obtain ⟨nb, M, m, vb, rfl, g1, rfl, g2⟩ := hb
  exact wcmp_any na nb va vb N M n m w h1 g1 ⟨by omega, by omega⟩

/-- A ratio, laid open. -/
theorem RatQ.open {w : World} {V : Value} {q : Rat} {k : Nat} (h : RatQ w V q k) : ∃ z D b A n c C m d, V = .agg #[.bool b, .slice A n c, .slice C m d] ∧ Hid (mkRat z D = q) ∧ D ≠ 0 ∧ Hid (WhlV w (.agg #[.bool b, .slice A n c]) z k) ∧
    Hid (Num 4294967296 .u32 w (.slice C m d) D m) ∧ len 4294967296 z.natAbs ≤ k ∧ len 4294967296 D ≤ k ∧ Hid (m = len 4294967296 D) ∧ Hid (Whl w (.agg #[.bool b, .slice A n c]) z) := by
  obtain ⟨z, D, ⟨va, vd, rfl, h1, h2, h3⟩, h4, h5, h6⟩ := h
  obtain ⟨A, c, rfl, -⟩ := id h1
  obtain ⟨C, d, rfl, -⟩ := id h2
  exact ⟨z, D, _, A, _, c, C, _, d, rfl, h4, h3, ⟨_, _, _, _, rfl, h1, sgn_of z, h5⟩, h2, h5, h6, rfl, ⟨_, rfl, h1⟩⟩
theorem RatQ.parts {w : World} {b : Bool} {A C : Option Addr} {n c m d k : Nat} {q : Rat} (h : RatQ w (.agg #[.bool b, .slice A n c, .slice C m d]) q k) : ∃ z D, Hid (mkRat z D = q) ∧ D ≠ 0 ∧ Hid (WhlV w (.agg #[.bool b, .slice A n c]) z k) ∧
    Hid (Num 4294967296 .u32 w (.slice C m d) D m) ∧ len 4294967296 z.natAbs ≤ k ∧ len 4294967296 D ≤ k ∧ Hid (m = len 4294967296 D) ∧ Hid (Whl w (.agg #[.bool b, .slice A n c]) z) := by
  obtain ⟨z, D, b', A', n', c', C', m', d', e, h1, h2, h3, h4, h5, h6, h7, h8⟩ := h.open
  injection e with e; injection e with e; injection e with e1 e2; injection e2 with e2 e3; injection e3 with e3 e4
  injection e1 with e1; injection e2 with e2 e2' e2''; injection e3 with e3 e3' e3''
  subst e1; subst e2; subst e2'; subst e2''; subst e3; subst e3'; subst e3''
  exact ⟨z, D, h1, h2, h3, h4, h5, h6, h7, h8⟩
theorem FracC.mk {w : World} {b : Bool} {A C : Option Addr} {n c m d D : Nat} {z : Int} {q : Rat} (hw : Whl w (.agg #[.bool b, .slice A n c]) z) (hd : Num 4294967296 .u32 w (.slice C m d) D m) (hm : m = len 4294967296 D)
    (h1 : z = q.num) (h2 : D = q.den) : FracC w (.agg #[.bool b, .slice A n c, .slice C m d]) q := by
  obtain ⟨v, e, hn⟩ := hw
  subst hm; subst h1; subst h2
  injection e with e; injection e with e; injection e with e1 e2; injection e1 with e1; injection e2 with e2 e3
  subst e1; subst e2
  exact ⟨_, _, rfl, hn, hd, q.den_nz⟩

theorem isUnit_g (v : Value) (N n : Nat) (w : World) (h : Num 4294967296 .u32 w v N n) (hn : n = len 4294967296 N) : Calls Tryz.prog 175 #[v] w fun e w' => e = .returned (.bool (decide (N = 1))) ∧ Grew w w' := by
  subst hn
  exact (isUnit_any v N w h).mono fun _ _ ⟨h1, h2⟩ => ⟨h1, h2 ▸ Grew.refl _⟩
theorem parts_v (V : Value) (q : Rat) (k : Nat) (w : World) (h : FracV w V q k) (hk : 1 ≤ k) (hs : k < 549755813888) :
    Calls Tryz.prog 146 #[V] w fun e w' => ∃ V', e = .returned V' ∧ RatQ w' V' q k ∧ Grew w w' := by
  obtain ⟨neg, N, D, n, m, va, vd, rfl, h1, h2, rfl, h3, h4⟩ := h
  by_cases hD : D = 0
  · subst hD
    refine (parts_zero neg va vd N n m w h1 h2).mono ?_
    rintro e w' ⟨V, rfl, hV, g⟩
    exact ⟨V, rfl, ⟨0, 1, hV, by simp, by simp [len_zero], by rw [len1]; exact hk⟩, g⟩
  · refine (parts_pos neg va vd N D n m w h1 h2 hD ⟨by omega, by omega⟩).mono ?_
    rintro e w' ⟨V, rfl, hV, g⟩
    exact ⟨V, rfl, ⟨_, _, hV, rfl, by rw [sgn_abs]; exact h3, h4⟩, g⟩
end Go.Proofs.YtngbcbncllfblaaGreat
