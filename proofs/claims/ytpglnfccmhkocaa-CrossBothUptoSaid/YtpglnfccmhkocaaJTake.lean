/- nat.left, nat.Shift by fewer than 32 bits. Condition: it reads; fewer than 2^40 words. Plain arithmetic of a long division's step (no program in sight). nat.guess: a digit of a long division, at most one too great. Condition: the divisor's highest bit is set. nat.take, nat.give: a divisor is taken so often from the words of a rest, and given back once. Condition: the rest lies in a row of the call's own, the divisor elsewhere. -/
import Derived.Test.YtpglnfccmhkocaaJSmall
import Derived.Test.YtpglnfccmhkocaaJBits
namespace Go.Proofs.Ytpglnfccmhkocaa
open Go.RowKit

/-- What is carried out of the first j digits of a number that is shifted to the left. -/
def lc (N s j : Nat) : Nat := N % 4294967296 ^ j * 2 ^ s / 4294967296 ^ j
theorem lc_zero (N s : Nat) : lc N s 0 = 0 := by simp [lc, Nat.mod_one]
theorem lc_lt (N s j : Nat) : lc N s j < 2 ^ s := by
  unfold lc
  have h := pow_pos' (B := 4294967296) (by omega) j
  rw [Nat.div_lt_iff_lt_mul h, Nat.mul_comm]
  exact Nat.mul_lt_mul_of_pos_left (Nat.mod_lt _ h) (Nat.two_pow_pos s)
theorem lc_dig (N s j : Nat) : (dig 4294967296 N j * 2 ^ s + lc N s j) % 4294967296 = dig 4294967296 (N * 2 ^ s) j := by
  have h := pow_pos' (B := 4294967296) (by omega) j
  have e : N * 2 ^ s / 4294967296 ^ j = N / 4294967296 ^ j * 2 ^ s + lc N s j := by
    unfold lc
    have h1 := Nat.div_add_mod N (4294967296 ^ j)
    conv => lhs; rw [← h1]
    rw [Nat.add_mul, Nat.mul_assoc, Nat.mul_add_div h]
  conv => rhs; unfold dig
  rw [e, div_succ (B := 4294967296) N j |> (fun h => h), Nat.add_mul, Nat.mul_assoc, Nat.add_assoc, Nat.mul_add_mod]
theorem lc_succ (N s j : Nat) : lc N s (j + 1) = (dig 4294967296 N j * 2 ^ s + lc N s j) / 4294967296 := by
  have h := pow_pos' (B := 4294967296) (by omega) j
  unfold lc
  rw [mod_succ, Nat.pow_succ, ← Nat.div_div_eq_div_mul, Nat.add_mul, Nat.mul_assoc, Nat.add_mul_div_left _ _ h, Nat.add_comm]

theorem left_step (N s j x c : Nat) (hs : s < 32) (hx : x = dig 4294967296 N j) (hc : c = lc N s j) :
    ∃ v : Nat, bits .or .u64 (IntKind.u64.wrap ((x : Int) * 2 ^ s)) (c : Int) = (v : Int) ∧ v < 18446744073709551616 ∧ v % 4294967296 = dig 4294967296 (N * 2 ^ s) j ∧ v / 4294967296 = lc N s (j + 1) := by
  have hxl := dig_lt (B := 4294967296) (by omega) N j
  have hcl := lc_lt N s j
  rw [← hx] at hxl
  rw [← hc] at hcl
  have hp : 2 ^ s ≤ 2 ^ 31 := Nat.pow_le_pow_right (by omega) (by omega)
  have hm : x * 2 ^ s ≤ 4294967295 * 2 ^ 31 := Nat.mul_le_mul (by omega) hp
  have hcast : (x : Int) * 2 ^ s = ((x * 2 ^ s : Nat) : Int) := by simp
  refine ⟨x * 2 ^ s + c, ?_, ?_, ?_, ?_⟩
  · have hw : IntKind.u64.wrap ((x * 2 ^ s : Nat) : Int) = ((x * 2 ^ s : Nat) : Int) := IntWalk.u64_in _ (by generalize x * 2 ^ s = z at *; omega)
    rw [hcast, hw, u64_or_nat _ _ (by omega) (by omega)]
    congr 1
    have := Nat.two_pow_add_eq_or_of_lt (i := s) (b := c) hcl x
    rw [Nat.mul_comm x]
    exact this.symm
  · omega
  · rw [hx, hc]; exact lc_dig N s j
  · rw [hx, hc, lc_succ]

set_option maxRecDepth 100000 in
set_option maxHeartbeats 4000000 in
theorem left_any (va : Value) (N k s : Nat) (w : World) (ha : Num 4294967296 .u32 w va N k) (hk : k = len 4294967296 N) (hs : s < 32) (hsz : k < 1099511627776) :
    Calls Try.prog 106 #[va, .int .i64 0, .int .i64 (s : Int)] w fun e w' => ∃ v, e = .returned v ∧ Num 4294967296 .u32 w' v (N * 2 ^ s) (len 4294967296 (N * 2 ^ s)) ∧ Grew w w' := by
  have hmk := make_u32 0 (k + 1) (by omega) (by omega)
  rw [mk1, mk0] at hmk
  have hlast := lc_dig N s k
  have hll := lc_lt N s k
  have hp : 2 ^ s ≤ 2 ^ 31 := Nat.pow_le_pow_right (by omega) (by omega)
  obtain ⟨A, ca, rfl, a1, a2, a3, a4⟩ := id ha
  rw [dig_zero_of_lt (by omega) a3 (Nat.le_refl _), Nat.zero_mul, Nat.zero_add, Nat.mod_eq_of_lt (by omega)] at hlast
  have hlen : N * 2 ^ s < 4294967296 ^ (k + 1) := by
    rw [Nat.pow_succ]; exact Nat.mul_lt_mul'' a3 (by omega)
  have Hk := Lib.hid hk
  have Hlast := Lib.hid hlast
  have Hlen := Lib.hid hlen
  have Hll : Hid (lc N s k < 2147483648) := Lib.hid (by omega)
  clear hk hlast hlen a3 hll hp
  go_enter Try.func106, Try.ntmps106
  go_wp2_with fail
  go_loopg [7, 8, 21] k (fun gk out cr i wr => ∃ j : Nat, gk + j = k ∧ i = .int .i64 j ∧ cr = .int .u64 (lc N s j : Nat) ∧ wr.ownsRow w.heap.size 80 1 out j (dvals 4294967296 .u32 (N * 2 ^ s) j) ∧ Grew w wr)
  case atStart => exact ⟨0, rfl, rfl, by rw [lc_zero]; rfl, World.ownsRow_made _ _ _ (Nat.le_refl _) (by simp only [maxLen]; omega) (by simp [size_madeCells]), (Grew.refl _).alloc _⟩
  case round =>
    obtain ⟨j, hj, rfl, rfl, hown, hG⟩ := hrel
    by_cases hlt : j < k
    · obtain ⟨ba, oa, rfl, hca⟩ := a4 (by omega)
      have hcx := hG.cell (hca j (by omega))
      have hx := dig_lt (B := 4294967296) (by omega) N j
      obtain ⟨v, hv1, hv2, hv3, hv4⟩ := left_step N s j _ _ hs rfl rfl
      have hsucc := Lib.hid (dvals_succ 4294967296 .u32 (N * 2 ^ s) j)
      have Hv3 := Lib.hid hv3
      have Hv4 := Lib.hid hv4
      have hand := and_low v hv2
      clear hv3 hv4
      generalize dig 4294967296 N j = x at *
      generalize lc N s j = c at *
      go_wp2_with (first | fail | (at_builtin; refine wpList_app1 _ rfl (.tmp 31) (.tmp 35) 22 rfl w.heap.size 80 (.int .u32 0) 1 4 Try.underlying22 info_u32 rfl (by omega) _ j _ rfl hown _ rfl (by simp [Value.oneCell']) rfl (by omega) (by omega) (by exact hG.size) ?_; intro v1 w1 hown1 hG1))
      go_roundg (gk - 1)
      case rel => exact ⟨j + 1, by omega, by go_num, by rw [← Hv4.out]; simp, by rw [hsucc.out, ← Hv3.out]; exact hown1, hG1 _ (Nat.le_refl _) hG⟩
      case measure => omega
    · obtain rfl : j = k := by omega
      have hsucc := Lib.hid (dvals_succ 4294967296 .u32 (N * 2 ^ s) j)
      have Hl2 := Hlast.out
      have Hl3 := Hll.out
      rw [Hlast.out] at Hl3
      rw [Hl2]
      clear Hl2
      generalize hd : dig 4294967296 (N * 2 ^ s) j = d at *
      have Hd := Lib.hid hd
      clear hd
      have hdm : (d : Int) % 4294967296 = d := by omega
      have hlenle := len_le (B := 4294967296) (by omega) Hlen.out
      go_wp2_with (first | fail | (at_builtin; refine wpList_app1 _ rfl (.tmp 40) (.tmp 43) 22 rfl w.heap.size 80 (.int .u32 0) 1 4 Try.underlying22 info_u32 rfl (by omega) _ j _ rfl hown _ rfl (by simp [Value.oneCell']) rfl (by omega) (by omega) (by exact hG.size) ?_; intro v1 w1 hown1 hG1))
      have hnum : Num 4294967296 .u32 w1 v1 (N * 2 ^ s) (j + 1) := Num.of_own (base := w.heap.size) (e := 80) (by rw [hsucc.out]; exact hown1) Hlen.out
      obtain ⟨D, cd, rfl, d1, d2, d3, d4⟩ := id hnum
      have q1 : ((len 4294967296 (N * 2 ^ s) : Nat) : Int) ≤ (cd : Int) := by omega
      have hcut := hnum.cut (k := len 4294967296 (N * 2 ^ s)) hlenle (lt_len (by omega) _)
      clear hown1 d3 hmk
      go_wp2_with fail
      refine (size_any _ _ _ _ hnum).mono ?_
      rintro e w' ⟨rfl, rfl⟩
      have Hcut := Lib.hid hcut
      clear hcut hnum
      generalize hs' : len 4294967296 (N * 2 ^ s) = z at *
      have Hs := Lib.hid hs'
      clear hs'
      go_wp2_with fail
      go_ret
      exact ⟨_, rfl, by rw [Hs.out]; exact Hcut.out, hG1 _ (Nat.le_refl _) hG⟩

set_option maxRecDepth 100000 in
set_option maxHeartbeats 4000000 in
theorem shift_up (va : Value) (N n s : Nat) (w : World) (ha : Num 4294967296 .u32 w va N n) (hs : s < 32) (hsz : len 4294967296 N < 1099511627776) :
    Calls Try.prog 76 #[va, .int .i64 (s : Int)] w fun e w' => ∃ v, e = .returned v ∧ Num 4294967296 .u32 w' v (N * 2 ^ s) (len 4294967296 (N * 2 ^ s)) ∧ Grew w w' := by
  obtain ⟨A, ca, rfl, a1, a2, a3, a4⟩ := id ha
  have hn := ha.len_le (by omega)
  have hcut := ha.cut (k := len 4294967296 N) hn (lt_len (by omega) _)
  by_cases hk0 : len 4294967296 N = 0
  · obtain rfl : N = 0 := (len_eq_zero (by omega)).1 hk0
    clear hcut
    have hnil : Num 4294967296 .u32 w (.slice none 0 0) 0 (len 4294967296 0) := Num.nil _ _ _
    go_enter Try.func76, Try.ntmps76
    go_wp2_with fail
    refine (size_any _ _ _ _ ha).mono ?_
    rintro e w' ⟨rfl, rfl⟩
    rw [len_zero]
    go_wp2_with fail
    go_ret
    exact ⟨_, rfl, by simpa using hnil, Grew.refl _⟩
  · have Hcut := Lib.hid hcut
    have hkp : 0 < len 4294967296 N := by omega
    generalize hk : len 4294967296 N = k at *
    have Hk := Lib.hid hk
    clear hk hcut hk0
    have q1 : (k : Int) ≤ (ca : Int) := by omega
    have q2 : ((k : Int) == 0) = false := by simp <;> omega
    have q3 : (s : Int) ≤ 31 := by omega
    have q4 : (s : Int) / 32 = 0 := by omega
    have q5 : (s : Int) % 32 = s := by omega
    have q6 : decide (4096 < (s : Int)) = false := by simp <;> omega
    have q7 : decide ((s : Int) < -4096) = false := by simp <;> omega
    go_enter Try.func76, Try.ntmps76
    go_wp2_with fail
    refine (size_any _ _ _ _ ha).mono ?_
    rintro e w' ⟨rfl, rfl⟩
    rw [Hk.out]
    go_wp2_with fail
    refine (left_any _ _ _ _ _ Hcut.out Hk.out.symm hs hsz).mono ?_
    rintro e w' ⟨v, rfl, h1, h2⟩
    go_wp2_with fail
    go_ret
    exact ⟨v, rfl, h1, h2⟩

theorem shr_step (N s i x y : Nat) (hs : s < 32) (hx : x = dig 4294967296 N i) (hy : y = dig 4294967296 N (i + 1)) :
    (x + 4294967296 * y) / 2 ^ s % 4294967296 = dig 4294967296 (N / 2 ^ s) i := by
  have h1 := div_succ (B := 4294967296) N i
  have h2 := div_succ (B := 4294967296) N (i + 1)
  rw [← hx] at h1
  rw [← hy] at h2
  have hps := Nat.two_pow_pos s
  have e1 : N / 2 ^ s / 4294967296 ^ i = N / 4294967296 ^ i / 2 ^ s := by
    rw [Nat.div_div_eq_div_mul, Nat.mul_comm, ← Nat.div_div_eq_div_mul]
  unfold dig
  rw [e1, h1, h2]
  generalize N / 4294967296 ^ (i + 1 + 1) = Q
  obtain ⟨d, hd⟩ : ∃ d, 4294967296 = 2 ^ s * d := ⟨2 ^ (32 - s), by rw [← Nat.pow_add, show s + (32 - s) = 32 from by omega]⟩
  have e2 : 4294967296 * (4294967296 * Q + y) + x = (x + 4294967296 * y) + 2 ^ s * (4294967296 * (d * Q)) := by
    have : 2 ^ s * (4294967296 * (d * Q)) = 4294967296 * (2 ^ s * d * Q) := by simp only [Nat.mul_comm, Nat.mul_left_comm, Nat.mul_assoc]
    rw [this, ← hd]
    omega
  rw [e2, Nat.add_mul_div_left _ _ hps, Nat.add_mul_mod_self_left]

theorem shr_and (v s : Nat) (h : v < 18446744073709551616) : bits .and .u64 ((v : Int) / 2 ^ s) 4294967295 = ((v / 2 ^ s % 4294967296 : Nat) : Int) := by
  have e : (v : Int) / 2 ^ s = ((v / 2 ^ s : Nat) : Int) := by simp
  have h2 : v / 2 ^ s ≤ v := Nat.div_le_self _ _
  rw [e, and_low _ (by omega)]
  omega

theorem or_high (x y : Nat) (hx : x < 4294967296) (hy : y < 4294967296) : bits .or .u64 (x : Int) ((y : Int) * 4294967296) = ((x + 4294967296 * y : Nat) : Int) := by
  have h := u64_or_nat x (y * 4294967296) (by omega) (by omega)
  rw [Nat.or_comm, show y * 4294967296 ||| x = y * 4294967296 + x from by
    have := Nat.two_pow_add_eq_or_of_lt (i := 32) (b := x) (by omega) y
    rw [Nat.mul_comm y 4294967296]
    exact this.symm] at h
  rw [show ((y * 4294967296 : Nat) : Int) = (y : Int) * 4294967296 from by omega] at h
  rw [h]; omega

set_option maxRecDepth 100000 in
set_option maxHeartbeats 4000000 in
theorem shift_down (va : Value) (N n s : Nat) (w : World) (ha : Num 4294967296 .u32 w va N n) (hs : s < 32) (hs0 : 0 < s) (hsz : len 4294967296 N < 1099511627776) :
    Calls Try.prog 76 #[va, .int .i64 (-(s : Int))] w fun e w' => ∃ v, e = .returned v ∧ Num 4294967296 .u32 w' v (N / 2 ^ s) (len 4294967296 (N / 2 ^ s)) ∧ Grew w w' := by
  obtain ⟨A, ca, rfl, a1, a2, a3, a4⟩ := id ha
  have hn := ha.len_le (by omega)
  have hdl := len_mono (B := 4294967296) (by omega) (Nat.div_le_self N (2 ^ s))
  by_cases hk0 : len 4294967296 N = 0
  · obtain rfl : N = 0 := (len_eq_zero (by omega)).1 hk0
    have q1 : (0 : Int) ≤ (ca : Int) := by omega
    have hnil : Num 4294967296 .u32 w (.slice none 0 0) 0 (len 4294967296 0) := Num.nil _ _ _
    go_enter Try.func76, Try.ntmps76
    go_wp2_with fail
    refine (size_any _ _ _ _ ha).mono ?_
    rintro e w' ⟨rfl, rfl⟩
    rw [len_zero]
    go_wp2_with fail
    go_ret
    exact ⟨_, rfl, by simpa using hnil, Grew.refl _⟩
  · have hkp : 0 < len 4294967296 N := by omega
    have hNlt := Lib.hid (lt_len (B := 4294967296) (by omega) N)
    generalize hk : len 4294967296 N = k at *
    have Hk := Lib.hid hk
    clear hk hk0 a3
    have hmk := make_u32 0 k (by omega) (by omega)
    rw [mk0] at hmk
    have q1 : (k : Int) ≤ (ca : Int) := by omega
    have q2 : ((k : Int) == 0) = false := by simp <;> omega
    have q3 : (s : Int) ≤ 31 := by omega
    have q4 : (s : Int) / 32 = 0 := by omega
    have q5 : (s : Int) % 32 = s := by omega
    have q6 : decide (4096 < -(s : Int)) = false := by simp <;> omega
    have q7 : decide (-(s : Int) < -4096) = false := by simp <;> omega
    have q8 : decide (0 ≤ -(s : Int)) = false := by simp <;> omega
    have q9 : decide ((k : Int) ≤ 0) = false := by simp <;> omega
    go_enter Try.func76, Try.ntmps76
    go_wp2_with fail
    refine (size_any _ _ _ _ ha).mono ?_
    rintro e w' ⟨rfl, rfl⟩
    rw [Hk.out]
    go_wp2_with fail
    rw [show decide ((4096 : Int) < (s : Int)) = false from by simp <;> omega, show decide (s = 0) = false from by simp <;> omega, show decide (k = 0) = false from by simp <;> omega, q5]
    clear q6 q7 q8 q9 q4 q5
    go_loopg [7, 8] k (fun gk out i wr => ∃ j : Nat, gk + j = k ∧ i = .int .i64 j ∧ wr.ownsRow w.heap.size 80 1 out j (dvals 4294967296 .u32 (N / 2 ^ s) j) ∧ Grew w wr)
    case atStart => exact ⟨0, rfl, rfl, World.ownsRow_made _ _ _ (Nat.le_refl _) (by simp only [maxLen]; omega) (by simp [size_madeCells]), (Grew.refl _).alloc _⟩
    case round =>
      obtain ⟨j, hj, rfl, hown, hG⟩ := hrel
      by_cases hlt : j < k
      · obtain ⟨ba, oa, rfl, hca⟩ := a4 (by omega)
        have hcx := hG.cell (hca j (by omega))
        have hx := dig_lt (B := 4294967296) (by omega) N j
        have hsucc := Lib.hid (dvals_succ 4294967296 .u32 (N / 2 ^ s) j)
        by_cases hj1 : j + 1 < k
        · have hcy : wr.cell? ⟨ba, oa + (j + 1), none⟩ = _ := hG.cell (hca (j + 1) (by omega))
          have hy := dig_lt (B := 4294967296) (by omega) N (j + 1)
          have hst := Lib.hid (shr_step N s j _ _ hs rfl rfl)
          have hor := or_high _ _ hx hy
          have hand := shr_and (dig 4294967296 N j + 4294967296 * dig 4294967296 N (j + 1)) s (by omega)
          rw [hst.out] at hand
          have hd := dig_lt (B := 4294967296) (by omega) (N / 2 ^ s) j
          clear hst
          generalize dig 4294967296 N j = x at *
          generalize dig 4294967296 N (j + 1) = y at *
          generalize x + 4294967296 * y = v at *
          generalize dig 4294967296 (N / 2 ^ s) j = d at *
          have hdm : (d : Int) % 4294967296 = d := by omega
          go_wp2_with (first | fail | (at_builtin; refine wpList_app1 _ rfl (.tmp 79) (.tmp 85) 22 rfl w.heap.size 80 (.int .u32 0) 1 4 Try.underlying22 info_u32 rfl (by omega) _ j _ rfl hown _ rfl (by simp [Value.oneCell']) rfl (by omega) (by omega) (by exact hG.size) ?_; intro v1 w1 hown1 hG1))
          go_roundg (gk - 1)
          case rel => exact ⟨j + 1, by omega, by go_num, by rw [hsucc.out]; exact hown1, hG1 _ (Nat.le_refl _) hG⟩
          case measure => omega
        · have hy0 : dig 4294967296 N (j + 1) = 0 := dig_zero_of_lt (by omega) hNlt.out (by omega)
          have hst := Lib.hid (shr_step N s j _ 0 hs rfl hy0.symm)
          have hand := shr_and (dig 4294967296 N j) s (by omega)
          have h2 := hst.out
          rw [Nat.mul_zero, Nat.add_zero] at h2
          rw [h2] at hand
          have hd := dig_lt (B := 4294967296) (by omega) (N / 2 ^ s) j
          clear hst h2 hy0
          generalize dig 4294967296 N j = x at *
          generalize dig 4294967296 (N / 2 ^ s) j = d at *
          have hdm : (d : Int) % 4294967296 = d := by omega
          go_wp2_with (first | fail | (at_builtin; refine wpList_app1 _ rfl (.tmp 79) (.tmp 85) 22 rfl w.heap.size 80 (.int .u32 0) 1 4 Try.underlying22 info_u32 rfl (by omega) _ j _ rfl hown _ rfl (by simp [Value.oneCell']) rfl (by omega) (by omega) (by exact hG.size) ?_; intro v1 w1 hown1 hG1))
          go_roundg (gk - 1)
          case rel => exact ⟨j + 1, by omega, by go_num, by rw [hsucc.out]; exact hown1, hG1 _ (Nat.le_refl _) hG⟩
          case measure => omega
      · obtain rfl : j = k := by omega
        have hlt2 := lt_pow_of_len (B := 4294967296) (by omega) hdl
        have hnum := Num.of_own hown hlt2
        obtain ⟨D, cd, rfl, d1, d2, d3, d4⟩ := id hnum
        have z1 : ((len 4294967296 (N / 2 ^ s) : Nat) : Int) ≤ (cd : Int) := by omega
        have hcut := hnum.cut (k := len 4294967296 (N / 2 ^ s)) hdl (lt_len (by omega) _)
        clear hmk hown d3 hlt2
        go_wp2_with fail
        refine (size_any _ _ _ _ hnum).mono ?_
        rintro e w' ⟨rfl, rfl⟩
        have Hcut := Lib.hid hcut
        clear hcut hnum
        generalize hz : len 4294967296 (N / 2 ^ s) = z at *
        have Hz := Lib.hid hz
        clear hz
        go_wp2_with fail
        go_ret
        exact ⟨_, rfl, by rw [Hz.out]; exact Hcut.out, hG⟩
end Go.Proofs.Ytpglnfccmhkocaa
namespace Go.Proofs.Ytpglnfccmhkocaa

/-- What the guess may be: not too small, and at most one too great. -/
theorem guess_ok {B U V Q q D u3 v2 Ul Vl : Nat} (hU : U = u3 * D + Ul) (hV : V = v2 * D + Vl) (hVl : Vl < D)
    (hQ : Q = U / V) (hv : B ≤ v2) (hQB : Q < B) (hge : Q ≤ q) (hle : q * v2 ≤ u3) : Q ≤ q ∧ q ≤ Q + 1 := by
  refine ⟨hge, ?_⟩
  rcases Nat.lt_or_ge (Q + 1) q with h | h
  · exfalso
    have hVp : 0 < V := by
      have : 0 < v2 * D := Nat.mul_pos (by omega) (by omega)
      omega
    have h1 : U < (Q + 1) * V := by
      rw [hQ, Nat.mul_comm, Nat.mul_add, Nat.mul_one]
      have := Nat.div_add_mod U V
      have := Nat.mod_lt U hVp
      omega
    have h2 : (Q + 2) * v2 ≤ u3 := Nat.le_trans (Nat.mul_le_mul_right _ h) hle
    have h3 : (Q + 2) * v2 * D ≤ U := by
      have := Nat.mul_le_mul_right D h2
      omega
    have h4 : (Q + 1) * V ≤ (Q + 1) * ((v2 + 1) * D) := Nat.mul_le_mul_left _ (by rw [Nat.add_mul, Nat.one_mul]; omega)
    have h5 : (Q + 2) * v2 * D < (Q + 1) * (v2 + 1) * D := by rw [Nat.mul_assoc (Q + 1)]; omega
    have h6 : (Q + 2) * v2 < (Q + 1) * (v2 + 1) := Nat.lt_of_mul_lt_mul_right h5
    have e1 : (Q + 2) * v2 = Q * v2 + 2 * v2 := by rw [Nat.add_mul]
    have e2 : (Q + 1) * (v2 + 1) = Q * v2 + v2 + Q + 1 := by rw [Nat.add_mul, Nat.mul_add]; omega
    omega
  · exact h

/-- A guess that was refused is above. -/
theorem guess_hi {U V Q q D u3 v2 Ul Vl : Nat} (hU : U = u3 * D + Ul) (hUl : Ul < D) (hV : V = v2 * D + Vl) (hQ : Q = U / V) (hv : 0 < v2) (hD : 0 < D) (h : u3 < q * v2) : Q < q := by
  have hVp : 0 < V := by
    have : 0 < v2 * D := Nat.mul_pos hv hD
    omega
  rw [hQ, Nat.div_lt_iff_lt_mul hVp]
  have h1 : (u3 + 1) * D ≤ q * v2 * D := Nat.mul_le_mul_right _ h
  have h2 : q * (v2 * D) ≤ q * V := Nat.mul_le_mul_left _ (by omega)
  rw [Nat.add_mul, Nat.one_mul] at h1
  rw [← Nat.mul_assoc] at h2
  omega

theorem dig_top {N n : Nat} (h : N < 4294967296 ^ (n + 1)) : N / 4294967296 ^ n = dig 4294967296 N n := by
  unfold dig
  rw [Nat.mod_eq_of_lt]
  rw [Nat.div_lt_iff_lt_mul (pow_pos' (by omega) n), Nat.mul_comm, ← Nat.pow_succ]
  exact h

/-- The numbers of a guess: U of n + 3 words, V of n + 2. -/
theorem guess_nums (U V n : Nat) (hV : V < 4294967296 ^ (n + 2)) (hU : U < V * 4294967296) :
    U / 4294967296 ^ n = (dig 4294967296 U (n + 2) * 4294967296 + dig 4294967296 U (n + 1)) * 4294967296 + dig 4294967296 U n ∧
    V / 4294967296 ^ n = dig 4294967296 V (n + 1) * 4294967296 + dig 4294967296 V n ∧
    dig 4294967296 U (n + 2) * 4294967296 + dig 4294967296 U (n + 1) < (dig 4294967296 V (n + 1) + 1) * 4294967296 := by
  have hU3 : U < 4294967296 ^ (n + 3) := by
    rw [Nat.pow_succ]
    exact Nat.lt_of_lt_of_le hU (Nat.mul_le_mul_right _ (Nat.le_of_lt hV))
  have a1 := div_succ (B := 4294967296) U n
  have a2 := div_succ (B := 4294967296) U (n + 1)
  have a3 : U / 4294967296 ^ (n + 1 + 1) = dig 4294967296 U (n + 2) := dig_top hU3
  have b1 := div_succ (B := 4294967296) V n
  have b2 := dig_top hV
  refine ⟨by omega, by omega, ?_⟩
  -- U / B^(n+1) < (V / B^(n+1) + 1) * B
  have hp := pow_pos' (B := 4294967296) (by omega) (n + 1)
  have c1 : U / 4294967296 ^ (n + 1) < (dig 4294967296 V (n + 1) + 1) * 4294967296 := by
    rw [Nat.div_lt_iff_lt_mul hp, ← b2]
    have d1 := Nat.div_add_mod V (4294967296 ^ (n + 1))
    have d2 := Nat.mod_lt V hp
    have d3 : V < (V / 4294967296 ^ (n + 1) + 1) * 4294967296 ^ (n + 1) := by rw [Nat.add_mul, Nat.one_mul, Nat.mul_comm]; omega
    have d4 := Nat.mul_lt_mul_of_pos_right d3 (show 0 < 4294967296 by omega)
    rw [show (V / 4294967296 ^ (n + 1) + 1) * 4294967296 * 4294967296 ^ (n + 1) = (V / 4294967296 ^ (n + 1) + 1) * 4294967296 ^ (n + 1) * 4294967296 from by simp only [Nat.mul_comm, Nat.mul_left_comm]]
    exact Nat.lt_trans hU d4
  omega

/-- The first guess isn't too small. -/
theorem guess_first {U V n : Nat} (hV : V < 4294967296 ^ (n + 2)) (hU : U < V * 4294967296) (ht : 0 < dig 4294967296 V (n + 1)) :
    U / V ≤ (dig 4294967296 U (n + 2) * 4294967296 + dig 4294967296 U (n + 1)) / dig 4294967296 V (n + 1) := by
  have hU3 : U < 4294967296 ^ (n + 3) := by
    rw [Nat.pow_succ]
    exact Nat.lt_of_lt_of_le hU (Nat.mul_le_mul_right _ (Nat.le_of_lt hV))
  have a2 := div_succ (B := 4294967296) U (n + 1)
  have a3 : U / 4294967296 ^ (n + 1 + 1) = dig 4294967296 U (n + 2) := dig_top hU3
  have b2 := dig_top hV
  have hp := pow_pos' (B := 4294967296) (by omega) (n + 1)
  rw [show dig 4294967296 U (n + 2) * 4294967296 + dig 4294967296 U (n + 1) = U / 4294967296 ^ (n + 1) from by rw [a2, a3]; omega, ← b2, Nat.div_div_eq_div_mul]
  rw [b2.symm] at ht
  apply Nat.div_le_div_left
  · rw [Nat.mul_comm]; exact Nat.div_mul_le_self _ _
  · exact Nat.mul_pos hp ht

theorem div_lt_base {U V : Nat} (hU : U < V * 4294967296) : U / V < 4294967296 := by
  rcases Nat.eq_zero_or_pos V with h | h
  · subst h; omega
  · rw [Nat.div_lt_iff_lt_mul h, Nat.mul_comm]; exact hU


theorem guess_prodB {B q left v u top next : Nat} (hq : left + q * top = v) : (q * next ≤ left * B + u ↔ q * (top * B + next) ≤ v * B + u) := by
  have e1 : q * (top * B + next) = q * top * B + q * next := by rw [Nat.mul_add, Nat.mul_assoc]
  rw [e1, ← hq, Nat.add_mul]
  generalize q * top * B = z
  generalize left * B = y
  omega
theorem guess_prod {q left v u top next : Nat} (hq : left + q * top = v) : (q * next ≤ left * 4294967296 + u ↔ q * (top * 4294967296 + next) ≤ v * 4294967296 + u) := guess_prodB hq

section
variable {U V n q left : Nat} (hV : V < 4294967296 ^ (n + 2)) (hU : U < V * 4294967296) (ht : 2147483648 ≤ dig 4294967296 V (n + 1))
  (hq : left + q * dig 4294967296 V (n + 1) = dig 4294967296 U (n + 2) * 4294967296 + dig 4294967296 U (n + 1))
include hV hU ht hq

theorem guess_refuse (h : left * 4294967296 + dig 4294967296 U n < q * dig 4294967296 V n) : U / V < q := by
  obtain ⟨n1, n2, n3⟩ := guess_nums U V n hV hU
  have hp := pow_pos' (B := 4294967296) (by omega) n
  refine guess_hi (D := 4294967296 ^ n) (u3 := U / 4294967296 ^ n) (v2 := V / 4294967296 ^ n) (Ul := U % 4294967296 ^ n) (Vl := V % 4294967296 ^ n) ?_ (Nat.mod_lt _ hp) ?_ rfl ?_ hp ?_
  · rw [Nat.mul_comm]; exact (Nat.div_add_mod _ _).symm
  · rw [Nat.mul_comm]; exact (Nat.div_add_mod _ _).symm
  · omega
  · rw [n1, n2]
    exact Nat.not_le.1 fun hc => Nat.not_le.2 h ((guess_prod hq).2 hc)

theorem guess_exit (h : q * dig 4294967296 V n ≤ left * 4294967296 + dig 4294967296 U n) (hge : U / V ≤ q) : q ≤ U / V + 1 := by
  obtain ⟨n1, n2, n3⟩ := guess_nums U V n hV hU
  have hp := pow_pos' (B := 4294967296) (by omega) n
  refine (guess_ok (B := 4294967296) (D := 4294967296 ^ n) (u3 := U / 4294967296 ^ n) (v2 := V / 4294967296 ^ n) (Ul := U % 4294967296 ^ n) (Vl := V % 4294967296 ^ n) ?_ ?_ (Nat.mod_lt _ hp) rfl ?_ (div_lt_base hU) hge ?_).2
  · rw [Nat.mul_comm]; exact (Nat.div_add_mod _ _).symm
  · rw [Nat.mul_comm]; exact (Nat.div_add_mod _ _).symm
  · omega
  · rw [n1, n2]
    exact (guess_prod hq).1 h

omit ht in
theorem guess_brk (hl : 4294967296 ≤ left) : q < 4294967296 ∧ q * dig 4294967296 V n ≤ left * 4294967296 + dig 4294967296 U n := by
  obtain ⟨n1, n2, n3⟩ := guess_nums U V n hV hU
  have hn := dig_lt (B := 4294967296) (by omega) V n
  have hqB : q < 4294967296 := by
    rcases Nat.lt_or_ge q 4294967296 with h | h
    · exact h
    · have := Nat.mul_le_mul_right (dig 4294967296 V (n + 1)) h
      omega
  refine ⟨hqB, ?_⟩
  have h1 : q * dig 4294967296 V n ≤ 4294967296 * 4294967296 := Nat.mul_le_mul (by omega) (by omega)
  have h2 : 4294967296 * 4294967296 ≤ left * 4294967296 := Nat.mul_le_mul_right _ hl
  omega

end

theorem guess_startB {v t B : Nat} (hB : 2 < B) (ht : B ≤ 2 * t) (n3 : v < (t + 1) * B) : v / t ≤ B + 1 := by
  have e : (B + 2) * t = t * B + 2 * t := by rw [Nat.add_mul, Nat.mul_comm]
  have e2 : (t + 1) * B = t * B + B := by rw [Nat.add_mul, Nat.one_mul]
  have : v / t < B + 2 := by
    rw [Nat.div_lt_iff_lt_mul (by omega), e]
    omega
  omega

theorem guess_start {U V n : Nat} (hV : V < 4294967296 ^ (n + 2)) (hU : U < V * 4294967296) (ht : 2147483648 ≤ dig 4294967296 V (n + 1)) :
    (dig 4294967296 U (n + 2) * 4294967296 + dig 4294967296 U (n + 1)) / dig 4294967296 V (n + 1) ≤ 4294967297 :=
  guess_startB (by omega) (by omega) (guess_nums U V n hV hU).2.2

/-- TAKE: what is carried out of the first j digits of a number times a digit. -/
def mc (B V q j : Nat) : Nat := q * (V % B ^ j) / B ^ j
section
variable {B : Nat}
theorem mc_zero (V q : Nat) : mc B V q 0 = 0 := by simp [mc, Nat.mod_one]
theorem mc_lt (hB : 0 < B) {V q : Nat} (hq : q < B) (j : Nat) : mc B V q j < B := by
  unfold mc
  have h := pow_pos' hB j
  rw [Nat.div_lt_iff_lt_mul h]
  exact Nat.mul_lt_mul'' hq (Nat.mod_lt _ h)
theorem mc_dig (hB : 0 < B) (V q j : Nat) : (dig B V j * q + mc B V q j) % B = dig B (q * V) j := by
  have h := pow_pos' hB j
  have e : q * V / B ^ j = q * (V / B ^ j) + mc B V q j := by
    unfold mc
    conv => lhs; rw [← Nat.div_add_mod V (B ^ j)]
    rw [Nat.mul_add, Nat.mul_left_comm, Nat.mul_add_div h]
  conv => rhs; unfold dig
  rw [e, div_succ (B := B) V j, Nat.mul_add, Nat.mul_left_comm, Nat.add_assoc, Nat.mul_add_mod, Nat.mul_comm q]
theorem mc_succ (hB : 0 < B) (V q j : Nat) : mc B V q (j + 1) = (dig B V j * q + mc B V q j) / B := by
  have h := pow_pos' hB j
  unfold mc
  rw [mod_succ, Nat.pow_succ, ← Nat.div_div_eq_div_mul, Nat.mul_add, Nat.mul_left_comm, Nat.add_mul_div_left _ _ h, Nat.add_comm, Nat.mul_comm q]

theorem dig_add_pow (U : Nat) {j n : Nat} (h : j ≤ n) : dig B (U + B ^ (n + 1)) j = dig B U j := by
  have := mul_low (B := B) (U := U) (V := 1) (p := j) (s := n + 1) (by omega)
  rwa [Nat.one_mul] at this
theorem mod_add_pow (U : Nat) {j n : Nat} (h : j ≤ n + 1) : (U + B ^ (n + 1)) % B ^ j = U % B ^ j := by
  obtain ⟨d, hd⟩ : ∃ d, n + 1 = j + d := ⟨n + 1 - j, by omega⟩
  rw [hd, Nat.pow_add, Nat.add_mul_mod_self_left]
end

/-- One step of the subtraction of W from U, taken with one more at the top. -/
theorem take_step (U W n j x y c : Nat) (hj : j ≤ n) (hW : W < 4294967296 ^ (n + 1)) (hx : x = dig 4294967296 U j) (hy : y = dig 4294967296 W j) (hc : c = borrow 4294967296 U W j) :
    (((x : Int) - y - c) % 4294967296 = (dig 4294967296 (U + 4294967296 ^ (n + 1) - W) j : Nat)) ∧ ((if x < y + c then 1 else 0) = (borrow 4294967296 U W (j + 1))) := by
  have h1 := borrow_dig (B := 4294967296) (by omega) (U + 4294967296 ^ (n + 1)) W j (by omega)
  have h2 := borrow_succ (B := 4294967296) (by omega) U W j
  have h3 := borrow_le (B := 4294967296) U W j
  have h4 := dig_lt (B := 4294967296) (by omega) U j
  have h5 := dig_lt (B := 4294967296) (by omega) W j
  have hb : borrow 4294967296 (U + 4294967296 ^ (n + 1)) W j = borrow 4294967296 U W j := by
    unfold borrow; rw [mod_add_pow U (by omega)]
  rw [dig_add_pow U hj, hb] at h1
  rw [← hx, ← hy, ← hc] at h1 h2
  rw [← hc] at h3
  rw [← hx] at h4
  rw [← hy] at h5
  rw [← h1, h2]
  exact ⟨by omega, rfl⟩

theorem take_end {U W n : Nat} (hU : U < 4294967296 ^ (n + 1)) (hW : W < 4294967296 ^ (n + 1)) : (borrow 4294967296 U W (n + 1) = 0) ↔ W ≤ U := by
  unfold borrow
  rw [Nat.mod_eq_of_lt hU, Nat.mod_eq_of_lt hW]
  split <;> omega

end Go.Proofs.Ytpglnfccmhkocaa
namespace Go.Proofs.Ytpglnfccmhkocaa
open Go.RowKit

theorem guess_dec {left top q v : Nat} (h : left + q * top = v) (h0 : 0 < q) : left + top + (q - 1) * top = v := by
  obtain ⟨j, rfl⟩ : ∃ j, q = j + 1 := ⟨q - 1, by omega⟩
  rw [Nat.add_mul] at h
  rw [Nat.add_sub_cancel]
  omega

theorem wrap_div (v t : Nat) (h : v < 18446744073709551616) : IntKind.u64.wrap ((v : Int) / t) = ((v / t : Nat) : Int) := by
  have e : (v : Int) / t = ((v / t : Nat) : Int) := by simp
  have h2 : v / t ≤ v := Nat.div_le_self _ _
  rw [e]
  generalize v / t = z at *
  exact IntWalk.u64_in _ (by omega)
theorem emod_cast (v t : Nat) : (v : Int) % t = ((v % t : Nat) : Int) := by simp

set_option maxRecDepth 100000 in
set_option maxHeartbeats 4000000 in
theorem guess_any (vp : Value) (U V n : Nat) (w : World) (hp : Num 4294967296 .u32 w vp U (n + 3)) (hV : V < 4294967296 ^ (n + 2)) (hU : U < V * 4294967296) (ht : 2147483648 ≤ dig 4294967296 V (n + 1)) :
    Calls Try.prog 130 #[vp, .int .u32 (dig 4294967296 V (n + 1) : Nat), .int .u32 (dig 4294967296 V n : Nat)] w fun e w' => ∃ q : Nat, e = .returned (.int .u64 (q : Nat)) ∧ U / V ≤ q ∧ q ≤ U / V + 1 ∧ q < 4294967296 ∧ Grew w w' := by
  obtain ⟨A, c, rfl, a1, a2, a3, a4⟩ := hp
  obtain ⟨b, off, rfl, hc⟩ := a4 (by omega)
  have c0 := hc n (by omega)
  have c1 : w.cell? ⟨b, off + (n + 1), none⟩ = _ := hc (n + 1) (by omega)
  have c2 : w.cell? ⟨b, off + (n + 2), none⟩ = _ := hc (n + 2) (by omega)
  have x0 := dig_lt (B := 4294967296) (by omega) U n
  have x1 := dig_lt (B := 4294967296) (by omega) U (n + 1)
  have x2 := dig_lt (B := 4294967296) (by omega) U (n + 2)
  have y0 := dig_lt (B := 4294967296) (by omega) V n
  have y1 := dig_lt (B := 4294967296) (by omega) V (n + 1)
  have hstart := guess_start hV hU ht
  have hfirst := Lib.hid (guess_first hV hU (by omega))
  have hQ := div_lt_base hU
  have href := Lib.hid (fun q left => guess_refuse (q := q) (left := left) hV hU ht)
  have hexit := Lib.hid (fun q left => guess_exit (q := q) (left := left) hV hU ht)
  have hbrk := Lib.hid (fun q left => guess_brk (q := q) (left := left) hV hU)
  have hor := or_low _ _ x2 x1
  clear hc a4 a3 hV hU
  generalize dig 4294967296 U n = u0 at *
  generalize dig 4294967296 U (n + 1) = u1 at *
  generalize dig 4294967296 U (n + 2) = u2 at *
  generalize dig 4294967296 V n = next at *
  generalize dig 4294967296 V (n + 1) = top at *
  generalize U / V = Q at *
  rw [show (u2 : Int) * 4294967296 + u1 = ((u2 * 4294967296 + u1 : Nat) : Int) from by omega] at hor
  have hv : u2 * 4294967296 + u1 < 18446744073709551616 := by omega
  generalize u2 * 4294967296 + u1 = v at *
  have htz : ((top : Int) == 0) = false := by simp; omega
  have q1 : ((n + 3 : Nat) : Int) = (n : Int) + 3 := by omega
  go_enter Try.func130, Try.ntmps130
  go_wp2_with fail
  rw [show (n : Int) + 3 - 1 = (n : Int) + 2 from by omega]
  have z1 : (n : Int) + 2 - 1 = (n : Int) + 1 := by omega
  have z2 : (n : Int) + 2 - 2 = (n : Int) := by omega
  go_quiet (fail)
  go_wp2_with fail
  go_quiet (fail)
  go_wp2_with fail
  rw [wrap_div v top hv, emod_cast v top]
  have hl0 := Nat.mod_lt v (show 0 < top by omega)
  have hm0 := Nat.div_add_mod v top
  clear hor c1 c2 htz
  go_loopg [9, 10] (v / top) (fun gk q l wr => ∃ left : Nat, q = .int .u64 (gk : Nat) ∧ l = .int .u64 (left : Nat) ∧ left < 4294967296 ∧ gk ≤ 4294967297 ∧ Hid (left + gk * top = v) ∧ Q ≤ gk ∧ Grew w wr)
  case atStart => exact ⟨v % top, rfl, rfl, by omega, hstart, Lib.hid (by rw [Nat.mul_comm]; omega), hfirst.out, ((Grew.refl w).drewN _).drewN _⟩
  case round =>
    obtain ⟨left, rfl, rfl, hll, hgl, hqv, hQl, hG⟩ := hrel
    have c0' := hG.cell c0
    clear c0
    have hor2 := or_low left u0 hll x0
    by_cases hbig : 4294967295 < gk
    · as_aux_lemma =>
      have hb1 : (4294967295 : Int) < (gk : Int) := by omega
      have HQ' : Hid (left + top + (gk - 1) * top = v) := Lib.hid (guess_dec hqv.out (by omega))
      by_cases hbk : 4294967295 < left + top
      · have hbk' : (4294967295 : Int) < (left : Int) + top := by omega
        go_wp2_with fail
        go_ret
        have hx := hbrk.out (gk - 1) (left + top) HQ'.out (by omega)
        have he := hexit.out (gk - 1) (left + top) HQ'.out hx.2 (by omega)
        exact ⟨gk - 1, ret_int (by omega), by omega, he, hx.1, hG⟩
      · have hbk' : ¬ (4294967295 : Int) < (left : Int) + top := by omega
        go_wp2_with fail
        go_roundg (gk - 1)
        case rel => exact ⟨left + top, congrArg _ (by omega), by go_num, by omega, by omega, Lib.hid HQ'.out, by omega, hG⟩
        case measure => omega
    · have hb1 : ¬ (4294967295 : Int) < (gk : Int) := by omega
      have hm : gk * next ≤ 4294967295 * 4294967295 := Nat.mul_le_mul (by omega) (by omega)
      have hm1 : ((gk * next : Nat) : Int) = (gk : Int) * next := by simp
      have hm2 : 0 ≤ (gk : Int) * next := by omega
      have hm3 : (gk : Int) * next ≤ 18446744065119617025 := by omega
      by_cases hcmp : left * 4294967296 + u0 < gk * next
      · as_aux_lemma =>
        have hcmp' : (left : Int) * 4294967296 + u0 < (gk : Int) * next := by omega
        have hr1 := href.out gk left hqv.out hcmp
        have HQ' : Hid (left + top + (gk - 1) * top = v) := Lib.hid (guess_dec hqv.out (by omega))
        clear hm1 hm
        by_cases hbk : 4294967295 < left + top
        · have hbk' : (4294967295 : Int) < (left : Int) + top := by omega
          go_wp2_with fail
          go_ret
          have hx := hbrk.out (gk - 1) (left + top) HQ'.out (by omega)
          have he := hexit.out (gk - 1) (left + top) HQ'.out hx.2 (by omega)
          exact ⟨gk - 1, ret_int (by omega), by omega, he, hx.1, hG⟩
        · have hbk' : ¬ (4294967295 : Int) < (left : Int) + top := by omega
          go_wp2_with fail
          go_roundg (gk - 1)
          case rel => exact ⟨left + top, congrArg _ (by omega), by go_num, by omega, by omega, Lib.hid HQ'.out, by omega, hG⟩
          case measure => omega
      · as_aux_lemma =>
        have hcmp' : ¬ (left : Int) * 4294967296 + u0 < (gk : Int) * next := by omega
        have he := hexit.out gk left hqv.out (by omega) hQl
        clear hm1 hm
        go_wp2_with fail
        go_ret
        exact ⟨gk, rfl, hQl, he, by omega, hG⟩
end Go.Proofs.Ytpglnfccmhkocaa
namespace Go.Proofs.Ytpglnfccmhkocaa
open Go.RowKit

theorem bor_nat (x y c : Nat) : bor x y c = ((if x < y + c then 1 else 0 : Nat) : Int) := by
  unfold bor
  by_cases h : x < y + c
  · rw [if_pos h, if_pos (by omega)]; rfl
  · rw [if_neg h, if_neg (by omega)]; rfl

/-- The words of a rest, of which n + 1 from i on have turned to those of R, below i + s. -/
def part (f : Nat → Nat) (R i s p : Nat) : Nat := if i ≤ p ∧ p < i + s then dig 4294967296 R (p - i) else f p
theorem part_zero (f : Nat → Nat) (R i : Nat) : part f R i 0 = f := by funext p; unfold part; rw [if_neg (by omega)]
theorem part_at (f : Nat → Nat) (R i s : Nat) : part f R i s (i + s) = f (i + s) := by unfold part; rw [if_neg (by omega)]
theorem part_set {w : World} {g t R i s L x : Nat} {K : IntKind} {f : Nat → Nat} (h : Row w g t K (part f R i s) L) (hx : x = dig 4294967296 R s) : Row (w.setCell ⟨g, i + s, none⟩ (.int K (x : Nat))) g t K (part f R i (s + 1)) L := by
  refine (h.set (i + s) x).congr fun p _ => ?_
  by_cases e : p = i + s
  · subst e
    simp only [if_true, part]
    rw [if_pos (by omega), hx, show i + s - i = s from by omega]
  · simp only [if_neg e, part]
    by_cases hp : i ≤ p ∧ p < i + s
    · rw [if_pos hp, if_pos (by omega)]
    · rw [if_neg hp, if_neg (by omega)]

theorem take_in (V q j : Nat) (x c : Nat) (hq : q < 4294967296) (hx : x = dig 4294967296 V j) (hc : c = mc 4294967296 V q j) :
    ∃ v : Nat, (x : Int) * q + c = (v : Int) ∧ v < 18446744073709551616 ∧ (x : Int) * q < 18446744073709551616 ∧ 0 ≤ (x : Int) * q ∧ (v : Int) % 4294967296 = (dig 4294967296 (q * V) j : Nat) ∧ (v : Int) / 4294967296 = (mc 4294967296 V q (j + 1) : Nat) := by
  have h1 := mc_dig (B := 4294967296) (by omega) V q j
  have h2 := mc_succ (B := 4294967296) (by omega) V q j
  have h3 := mc_lt (B := 4294967296) (by omega) (V := V) hq j
  have h4 := dig_lt (B := 4294967296) (by omega) V j
  rw [← hx, ← hc] at h1 h2
  rw [← hc] at h3
  rw [← hx] at h4
  have hm : x * q ≤ 4294967295 * 4294967295 := Nat.mul_le_mul (by omega) (by omega)
  have e : (x : Int) * q = ((x * q : Nat) : Int) := by simp
  rw [← h1, h2, e]
  generalize x * q = z at *
  exact ⟨z + c, by omega, by omega, by omega, by omega, by omega, by omega⟩

set_option maxRecDepth 100000 in
set_option maxHeartbeats 4000000 in
theorem take_any (g i n c bb ob cb U V q L : Nat) (f : Nat → Nat) (w : World) (hR : Row w g 80 .u32 f L) (hL : i + n + 1 ≤ L) (hc : n + 1 ≤ c) (hc2 : c < 1099511627776) (hcb : n ≤ cb)
    (hf : ∀ p, p ≤ n → f (i + p) = dig 4294967296 U p) (hb : ∀ p, p < n → w.cell? ⟨bb, ob + p, none⟩ = some (.int .u32 (dig 4294967296 V p : Nat))) (hne : bb ≠ g) (hV : V < 4294967296 ^ n) (hU : U < 4294967296 ^ (n + 1)) (hq : q < 4294967296) :
    Calls Try.prog 131 #[.slice (some ⟨g, i, none⟩) (n + 1) c, .slice (some ⟨bb, ob, none⟩) n cb, .int .u64 (q : Nat)] w fun e w' =>
      e = .returned (.bool (decide (q * V ≤ U))) ∧ Row w' g 80 .u32 (part f (U + 4294967296 ^ (n + 1) - q * V) i (n + 1)) L ∧ Wrote g w w' := by
  have hW : q * V < 4294967296 ^ (n + 1) := by
    rw [Nat.pow_succ, Nat.mul_comm]; exact Nat.mul_lt_mul'' hV hq
  have HW := Lib.hid hW
  have hend := Lib.hid (take_end hU hW)
  have hmn : mc 4294967296 V q n = dig 4294967296 (q * V) n := by
    have h1 := mc_dig (B := 4294967296) (by omega) V q n
    rw [dig_zero_of_lt (by omega) hV (Nat.le_refl _), Nat.zero_mul, Nat.zero_add, Nat.mod_eq_of_lt (mc_lt (by omega) hq n)] at h1
    exact h1
  have Hmn := Lib.hid hmn
  have Hf := Lib.hid hf
  have Hb := Lib.hid hb
  clear hW hmn hf hb hV hU
  go_enter Try.func131, Try.ntmps131
  go_wp2_with fail
  go_loopg [7, 8, 15] n (fun gk cr br k wr => ∃ j : Nat, gk + j = n ∧ k = .int .i64 j ∧ cr = .int .u64 (mc 4294967296 V q j : Nat) ∧ br = .int .u32 (borrow 4294967296 U (q * V) j : Nat) ∧ Row wr g 80 .u32 (part f (U + 4294967296 ^ (n + 1) - q * V) i j) L ∧ Wrote g w wr)
  case atStart => exact ⟨0, rfl, rfl, by rw [mc_zero]; rfl, by rw [borrow_zero]; rfl, by rw [part_zero]; exact hR, Wrote.refl _ _⟩
  case round =>
    obtain ⟨j, hj, rfl, rfl, rfl, hRr, hWr⟩ := hrel
    by_cases hlt : j < n
    · as_aux_lemma =>
      have hcb0 := hWr.cell (Hb.out j hlt) hne
      have hca := hRr.cell (p := i + j) (by omega)
      rw [part_at, Hf.out j (by omega)] at hca
      have hfz := hRr.frozen (i + j)
      have hx := dig_lt (B := 4294967296) (by omega) V j
      have hy := dig_lt (B := 4294967296) (by omega) U j
      have hdl := dig_lt (B := 4294967296) (by omega) (q * V) j
      have hbl := borrow_le (B := 4294967296) U (q * V) j
      obtain ⟨v, v1, v2, v3, v4, v5, v6⟩ := take_in V q j _ _ hq rfl rfl
      have hst := take_step U (q * V) n j _ _ _ (by omega) HW.out rfl rfl rfl
      have HR := Lib.hid hRr
      have S1 := Lib.hid hst.1
      have S2 := Lib.hid hst.2
      have hml := mc_lt (B := 4294967296) (by omega) (V := V) hq j
      have hand := and_low v v2
      rw [v5] at hand
      clear hst hRr v5
      generalize dig 4294967296 V j = x at *
      generalize dig 4294967296 U j = y at *
      generalize dig 4294967296 (q * V) j = d at *
      generalize borrow 4294967296 U (q * V) j = br at *
      generalize mc 4294967296 V q j = m at *
      have hdm : (d : Int) % 4294967296 = d := by omega
      have q1 : (j : Int) < (n : Int) + 1 := by omega
      go_wp2_with fail
      refine (sub32_any _ _ _ _ (by omega) (by omega) (by omega) (by omega) (by omega) (by omega)).mono ?_
      rintro e w' ⟨rfl, rfl⟩
      rw [S1.out, bor_nat, S2.out]
      have hl2 := borrow_le (B := 4294967296) U (q * V) (j + 1)
      go_wp2_with fail
      go_roundg (gk - 1)
      case rel => exact ⟨j + 1, by omega, by go_num, by first | rfl | rw [v6], rfl, part_set HR.out rfl, hWr.setCell _ _⟩
      case measure => omega
    · as_aux_lemma =>
      obtain rfl : j = n := by omega
      have hca := hRr.cell (p := i + j) (by omega)
      rw [part_at, Hf.out j (by omega)] at hca
      have hfz := hRr.frozen (i + j)
      have hy := dig_lt (B := 4294967296) (by omega) U j
      have hbl := borrow_le (B := 4294967296) U (q * V) j
      have hst := take_step U (q * V) j j _ _ _ (by omega) HW.out rfl rfl rfl
      have hdl := dig_lt (B := 4294967296) (by omega) (q * V) j
      have HR := Lib.hid hRr
      have S1 := Lib.hid hst.1
      have S2 := Lib.hid hst.2
      rw [Hmn.out]
      clear hst hRr Hmn
      generalize dig 4294967296 U j = y at *
      generalize dig 4294967296 (q * V) j = d at *
      generalize borrow 4294967296 U (q * V) j = br at *
      have hdm : (d : Int) % 4294967296 = d := by omega
      have q1 : (j : Int) < (j : Int) + 1 := by omega
      go_wp2_with fail
      refine (sub32_any _ _ _ _ (by omega) (by omega) (by omega) (by omega) (by omega) (by omega)).mono ?_
      rintro e w' ⟨rfl, rfl⟩
      rw [S1.out, bor_nat, S2.out]
      have hl2 := borrow_le (B := 4294967296) U (q * V) (j + 1)
      have hend2 := hend.out
      generalize borrow 4294967296 U (q * V) (j + 1) = br2 at *
      have Hend2 := Lib.hid hend2
      clear hend2 hend
      go_wp2_with fail
      go_ret
      refine ⟨?_, part_set HR.out rfl, hWr.setCell _ _⟩
      by_cases h : q * V ≤ U
      · have := Hend2.out.2 h
        subst this
        rw [decide_eq_true h]; rfl
      · have h0 : br2 ≠ 0 := fun e => h (Hend2.out.1 e)
        have : br2 = 1 := by omega
        subst this
        rw [decide_eq_false h]; rfl

theorem give_step (X V j x y c : Nat) (hx : x = dig 4294967296 X j) (hy : y = dig 4294967296 V j) (hc : c = carry 4294967296 X V j) :
    (((x : Int) + y + c) % 4294967296 = (dig 4294967296 (X + V) j : Nat)) ∧ (((x : Int) + y + c) / 4294967296 = (carry 4294967296 X V (j + 1) : Nat)) := add_step X V j x y c hx hy hc

set_option maxRecDepth 100000 in
set_option maxHeartbeats 4000000 in
theorem give_any (g i n c bb ob cb X V L : Nat) (f : Nat → Nat) (w : World) (hR : Row w g 80 .u32 f L) (hL : i + n + 1 ≤ L) (hc : n + 1 ≤ c) (hc2 : c < 1099511627776) (hcb : n ≤ cb)
    (hf : ∀ p, p ≤ n → f (i + p) = dig 4294967296 X p) (hb : ∀ p, p < n → w.cell? ⟨bb, ob + p, none⟩ = some (.int .u32 (dig 4294967296 V p : Nat))) (hne : bb ≠ g) (hV : V < 4294967296 ^ n) :
    Calls Try.prog 132 #[.slice (some ⟨g, i, none⟩) (n + 1) c, .slice (some ⟨bb, ob, none⟩) n cb] w fun e w' =>
      e = .returned (.tuple #[]) ∧ Row w' g 80 .u32 (part f (X + V) i (n + 1)) L ∧ Wrote g w w' := by
  have Hf := Lib.hid hf
  have Hb := Lib.hid hb
  have hv0 := dig_zero_of_lt (B := 4294967296) (by omega) hV (Nat.le_refl _)
  have Hv0 := Lib.hid hv0
  clear hf hb hV hv0
  go_enter Try.func132, Try.ntmps132
  go_wp2_with fail
  go_loopg [4, 9] n (fun gk cr k wr => ∃ j : Nat, gk + j = n ∧ k = .int .i64 j ∧ cr = .int .u32 (carry 4294967296 X V j : Nat) ∧ Row wr g 80 .u32 (part f (X + V) i j) L ∧ Wrote g w wr)
  case atStart => exact ⟨0, rfl, rfl, by rw [carry_zero]; rfl, by rw [part_zero]; exact hR, Wrote.refl _ _⟩
  case round =>
    obtain ⟨j, hj, rfl, rfl, hRr, hWr⟩ := hrel
    by_cases hlt : j < n
    · as_aux_lemma =>
      have hcb0 := hWr.cell (Hb.out j hlt) hne
      have hca := hRr.cell (p := i + j) (by omega)
      rw [part_at, Hf.out j (by omega)] at hca
      have hfz := hRr.frozen (i + j)
      have hx := dig_lt (B := 4294967296) (by omega) X j
      have hy := dig_lt (B := 4294967296) (by omega) V j
      have hcl := carry_le (B := 4294967296) (by omega) X V j
      have hst := give_step X V j _ _ _ rfl rfl rfl
      have HR := Lib.hid hRr
      have S1 := Lib.hid hst.1
      have S2 := Lib.hid hst.2
      clear hst hRr
      generalize dig 4294967296 X j = x at *
      generalize dig 4294967296 V j = y at *
      generalize carry 4294967296 X V j = cr at *
      have q1 : (j : Int) < (n : Int) + 1 := by omega
      go_wp2_with fail
      refine (add32_any _ _ _ _ (by omega) (by omega) (by omega) (by omega) (by omega) (by omega)).mono ?_
      rintro e w' ⟨rfl, rfl⟩
      rw [S1.out, S2.out]
      go_wp2_with fail
      go_roundg (gk - 1)
      case rel => exact ⟨j + 1, by omega, by go_num, rfl, part_set HR.out rfl, hWr.setCell _ _⟩
      case measure => omega
    · as_aux_lemma =>
      obtain rfl : j = n := by omega
      have hca := hRr.cell (p := i + j) (by omega)
      rw [part_at, Hf.out j (by omega)] at hca
      have hfz := hRr.frozen (i + j)
      have hx := dig_lt (B := 4294967296) (by omega) X j
      have hcl := carry_le (B := 4294967296) (by omega) X V j
      have hst := (give_step X V j _ 0 _ rfl Hv0.out.symm rfl).1
      have HR := Lib.hid hRr
      have S1 := Lib.hid hst
      clear hst hRr
      generalize dig 4294967296 X j = x at *
      generalize carry 4294967296 X V j = cr at *
      have q1 : (j : Int) < (j : Int) + 1 := by omega
      go_wp2_with fail
      go_end0
      have e : ((x : Int) + cr) % 4294967296 = (dig 4294967296 (X + V) j : Nat) := by rw [← S1.out]; congr 2 <;> simp
      rw [e]
      exact ⟨rfl, part_set HR.out rfl, hWr.setCell _ _⟩
end Go.Proofs.Ytpglnfccmhkocaa
