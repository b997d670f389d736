/- nat.left, nat.Shift by fewer than 32 bits. Condition: it reads; fewer than 2^40 words. -/
import Derived.Test.YtpglnfccmhkocaaSmall
namespace Go.Proofs.Ytpglnfccmhkocaa
open Go.RowKit

/-- What is carried out of the first j digits of a number that is shifted to the left. -/
def lc (N s j : Nat) : Nat := N % 4294967296 ^ j * 2 ^ s / 4294967296 ^ j
theorem lc_zero (N s : Nat) : lc N s 0 = 0 := by simp [lc, Nat.mod_one]
theorem lc_lt (N s j : Nat) : lc N s j < 2 ^ s := by
  unfold lc
  have h := pow_pos' (B := 4294967296) (by omega) j
  rw [Nat.div_lt_iff_lt_mul h, Nat.mul_comm]
  exact Nat.mul_lt_mul_of_pos_left (Nat.mod_lt _ h) (Nat.two_pow_pos s)
theorem lc_dig (N s j : Nat) : (dig 4294967296 N j * 2 ^ s + lc N s j) % 4294967296 = dig 4294967296 (N * 2 ^ s) j := by
  have h := pow_pos' (B := 4294967296) (by omega) j
  have e : N * 2 ^ s / 4294967296 ^ j = N / 4294967296 ^ j * 2 ^ s + lc N s j := by
    unfold lc
    have h1 := Nat.div_add_mod N (4294967296 ^ j)
    conv => lhs; rw [← h1]
    rw [Nat.add_mul, Nat.mul_assoc, Nat.mul_add_div h]
  conv => rhs; unfold dig
  rw [e, div_succ (B := 4294967296) N j |> (fun h => h), Nat.add_mul, Nat.mul_assoc, Nat.add_assoc, Nat.mul_add_mod]
theorem lc_succ (N s j : Nat) : lc N s (j + 1) = (dig 4294967296 N j * 2 ^ s + lc N s j) / 4294967296 := by
  have h := pow_pos' (B := 4294967296) (by omega) j
  unfold lc
  rw [mod_succ, Nat.pow_succ, ← Nat.div_div_eq_div_mul, Nat.add_mul, Nat.mul_assoc, Nat.add_mul_div_left _ _ h, Nat.add_comm]

theorem left_step (N s j x c : Nat) (hs : s < 32) (hx : x = dig 4294967296 N j) (hc : c = lc N s j) :
    ∃ v : Nat, bits .or .u64 (IntKind.u64.wrap ((x : Int) * 2 ^ s)) (c : Int) = (v : Int) ∧ v < 18446744073709551616 ∧ v % 4294967296 = dig 4294967296 (N * 2 ^ s) j ∧ v / 4294967296 = lc N s (j + 1) := by
  have hxl := dig_lt (B := 4294967296) (by omega) N j
  have hcl := lc_lt N s j
  rw [← hx] at hxl
  rw [← hc] at hcl
  have hp : 2 ^ s ≤ 2 ^ 31 := Nat.pow_le_pow_right (by omega) (by omega)
  have hm : x * 2 ^ s ≤ 4294967295 * 2 ^ 31 := Nat.mul_le_mul (by omega) hp
  have hcast : (x : Int) * 2 ^ s = ((x * 2 ^ s : Nat) : Int) := by simp
  refine ⟨x * 2 ^ s + c, ?_, ?_, ?_, ?_⟩
  · have hw : IntKind.u64.wrap ((x * 2 ^ s : Nat) : Int) = ((x * 2 ^ s : Nat) : Int) := IntWalk.u64_in _ (by generalize x * 2 ^ s = z at *; omega)
    rw [hcast, hw, u64_or_nat _ _ (by omega) (by omega)]
    congr 1
    have := Nat.two_pow_add_eq_or_of_lt (i := s) (b := c) hcl x
    rw [Nat.mul_comm x]
    exact this.symm
  · omega
  · rw [hx, hc]; exact lc_dig N s j
  · rw [hx, hc, lc_succ]

set_option maxRecDepth 100000 in
set_option maxHeartbeats 4000000 in
theorem left_any (va : Value) (N k s : Nat) (w : World) (ha : Num 4294967296 .u32 w va N k) (hk : k = len 4294967296 N) (hs : s < 32) (hsz : k < 1099511627776) :
    Calls Try.prog 106 #[va, .int .i64 0, .int .i64 (s : Int)] w fun e w' => ∃ v, e = .returned v ∧ Num 4294967296 .u32 w' v (N * 2 ^ s) (len 4294967296 (N * 2 ^ s)) ∧ Grew w w' := by
  have hmk := make_u32 0 (k + 1) (by omega) (by omega)
  rw [mk1, mk0] at hmk
  have hlast := lc_dig N s k
  have hll := lc_lt N s k
  have hp : 2 ^ s ≤ 2 ^ 31 := Nat.pow_le_pow_right (by omega) (by omega)
  obtain ⟨A, ca, rfl, a1, a2, a3, a4⟩ := id ha
  rw [dig_zero_of_lt (by omega) a3 (Nat.le_refl _), Nat.zero_mul, Nat.zero_add, Nat.mod_eq_of_lt (by omega)] at hlast
  have hlen : N * 2 ^ s < 4294967296 ^ (k + 1) := by
    rw [Nat.pow_succ]; exact Nat.mul_lt_mul'' a3 (by omega)
  have Hk := Lib.hid hk
  have Hlast := Lib.hid hlast
  have Hlen := Lib.hid hlen
  have Hll : Hid (lc N s k < 2147483648) := Lib.hid (by omega)
  clear hk hlast hlen a3 hll hp
  go_enter Try.func106, Try.ntmps106
  go_wp2_with fail
  go_loopg [7, 8, 21] k (fun gk out cr i wr => ∃ j : Nat, gk + j = k ∧ i = .int .i64 j ∧ cr = .int .u64 (lc N s j : Nat) ∧ wr.ownsRow w.heap.size 80 1 out j (dvals 4294967296 .u32 (N * 2 ^ s) j) ∧ Grew w wr)
  case atStart => exact ⟨0, rfl, rfl, by rw [lc_zero]; rfl, World.ownsRow_made _ _ _ (Nat.le_refl _) (by simp only [maxLen]; omega) (by simp [size_madeCells]), (Grew.refl _).alloc _⟩
  case round =>
    obtain ⟨j, hj, rfl, rfl, hown, hG⟩ := hrel
    by_cases hlt : j < k
    · obtain ⟨ba, oa, rfl, hca⟩ := a4 (by omega)
      have hcx := hG.cell (hca j (by omega))
      have hx := dig_lt (B := 4294967296) (by omega) N j
      obtain ⟨v, hv1, hv2, hv3, hv4⟩ := left_step N s j _ _ hs rfl rfl
      have hsucc := Lib.hid (dvals_succ 4294967296 .u32 (N * 2 ^ s) j)
      have Hv3 := Lib.hid hv3
      have Hv4 := Lib.hid hv4
      have hand := and_low v hv2
      clear hv3 hv4
      generalize dig 4294967296 N j = x at *
      generalize lc N s j = c at *
      go_wp2_with (first | fail | (at_builtin; refine wpList_app1 _ rfl (.tmp 31) (.tmp 35) 22 rfl w.heap.size 80 (.int .u32 0) 1 4 Try.underlying22 info_u32 rfl (by omega) _ j _ rfl hown _ rfl (by simp [Value.oneCell']) rfl (by omega) (by omega) (by exact hG.size) ?_; intro v1 w1 hown1 hG1))
      go_roundg (gk - 1)
      case rel => exact ⟨j + 1, by omega, by go_num, by rw [← Hv4.out]; simp, by rw [hsucc.out, ← Hv3.out]; exact hown1, hG1 _ (Nat.le_refl _) hG⟩
      case measure => omega
    · obtain rfl : j = k := by omega
      have hsucc := Lib.hid (dvals_succ 4294967296 .u32 (N * 2 ^ s) j)
      have Hl2 := Hlast.out
      have Hl3 := Hll.out
      rw [Hlast.out] at Hl3
      rw [Hl2]
      clear Hl2
      generalize hd : dig 4294967296 (N * 2 ^ s) j = d at *
      have Hd := Lib.hid hd
      clear hd
      have hdm : (d : Int) % 4294967296 = d := by omega
      have hlenle := len_le (B := 4294967296) (by omega) Hlen.out
      go_wp2_with (first | fail | (at_builtin; refine wpList_app1 _ rfl (.tmp 40) (.tmp 43) 22 rfl w.heap.size 80 (.int .u32 0) 1 4 Try.underlying22 info_u32 rfl (by omega) _ j _ rfl hown _ rfl (by simp [Value.oneCell']) rfl (by omega) (by omega) (by exact hG.size) ?_; intro v1 w1 hown1 hG1))
      have hnum : Num 4294967296 .u32 w1 v1 (N * 2 ^ s) (j + 1) := Num.of_own (base := w.heap.size) (e := 80) (by rw [hsucc.out]; exact hown1) Hlen.out
      obtain ⟨D, cd, rfl, d1, d2, d3, d4⟩ := id hnum
      have q1 : ((len 4294967296 (N * 2 ^ s) : Nat) : Int) ≤ (cd : Int) := by omega
      have hcut := hnum.cut (k := len 4294967296 (N * 2 ^ s)) hlenle (lt_len (by omega) _)
      clear hown1 d3 hmk
      go_wp2_with fail
      refine (size_any _ _ _ _ hnum).mono ?_
      rintro e w' ⟨rfl, rfl⟩
      have Hcut := Lib.hid hcut
      clear hcut hnum
      generalize hs' : len 4294967296 (N * 2 ^ s) = z at *
      have Hs := Lib.hid hs'
      clear hs'
      go_wp2_with fail
      go_ret
      exact ⟨_, rfl, by rw [Hs.out]; exact Hcut.out, hG1 _ (Nat.le_refl _) hG⟩

set_option maxRecDepth 100000 in
set_option maxHeartbeats 4000000 in
theorem shift_up (va : Value) (N n s : Nat) (w : World) (ha : Num 4294967296 .u32 w va N n) (hs : s < 32) (hsz : len 4294967296 N < 1099511627776) :
    Calls Try.prog 76 #[va, .int .i64 (s : Int)] w fun e w' => ∃ v, e = .returned v ∧ Num 4294967296 .u32 w' v (N * 2 ^ s) (len 4294967296 (N * 2 ^ s)) ∧ Grew w w' := by
  obtain ⟨A, ca, rfl, a1, a2, a3, a4⟩ := id ha
  have hn := ha.len_le (by omega)
  have hcut := ha.cut (k := len 4294967296 N) hn (lt_len (by omega) _)
  by_cases hk0 : len 4294967296 N = 0
  · obtain rfl : N = 0 := (len_eq_zero (by omega)).1 hk0
    clear hcut
    have hnil : Num 4294967296 .u32 w (.slice none 0 0) 0 (len 4294967296 0) := Num.nil _ _ _
    go_enter Try.func76, Try.ntmps76
    go_wp2_with fail
    refine (size_any _ _ _ _ ha).mono ?_
    rintro e w' ⟨rfl, rfl⟩
    rw [len_zero]
    go_wp2_with fail
    go_ret
    exact ⟨_, rfl, by simpa using hnil, Grew.refl _⟩
  · have Hcut := Lib.hid hcut
    have hkp : 0 < len 4294967296 N := by omega
    generalize hk : len 4294967296 N = k at *
    have Hk := Lib.hid hk
    clear hk hcut hk0
    have q1 : (k : Int) ≤ (ca : Int) := by omega
    have q2 : ((k : Int) == 0) = false := by simp <;> omega
    have q3 : (s : Int) ≤ 31 := by omega
    have q4 : (s : Int) / 32 = 0 := by omega
    have q5 : (s : Int) % 32 = s := by omega
    have q6 : decide (4096 < (s : Int)) = false := by simp <;> omega
    have q7 : decide ((s : Int) < -4096) = false := by simp <;> omega
    go_enter Try.func76, Try.ntmps76
    go_wp2_with fail
    refine (size_any _ _ _ _ ha).mono ?_
    rintro e w' ⟨rfl, rfl⟩
    rw [Hk.out]
    go_wp2_with fail
    refine (left_any _ _ _ _ _ Hcut.out Hk.out.symm hs hsz).mono ?_
    rintro e w' ⟨v, rfl, h1, h2⟩
    go_wp2_with fail
    go_ret
    exact ⟨v, rfl, h1, h2⟩

theorem shr_step (N s i x y : Nat) (hs : s < 32) (hx : x = dig 4294967296 N i) (hy : y = dig 4294967296 N (i + 1)) :
    (x + 4294967296 * y) / 2 ^ s % 4294967296 = dig 4294967296 (N / 2 ^ s) i := by
  have h1 := div_succ (B := 4294967296) N i
  have h2 := div_succ (B := 4294967296) N (i + 1)
  rw [← hx] at h1
  rw [← hy] at h2
  have hps := Nat.two_pow_pos s
  have e1 : N / 2 ^ s / 4294967296 ^ i = N / 4294967296 ^ i / 2 ^ s := by
    rw [Nat.div_div_eq_div_mul, Nat.mul_comm, ← Nat.div_div_eq_div_mul]
  unfold dig
  rw [e1, h1, h2]
  generalize N / 4294967296 ^ (i + 1 + 1) = Q
  obtain ⟨d, hd⟩ : ∃ d, 4294967296 = 2 ^ s * d := ⟨2 ^ (32 - s), by rw [← Nat.pow_add, show s + (32 - s) = 32 from by omega]⟩
  have e2 : 4294967296 * (4294967296 * Q + y) + x = (x + 4294967296 * y) + 2 ^ s * (4294967296 * (d * Q)) := by
    have : 2 ^ s * (4294967296 * (d * Q)) = 4294967296 * (2 ^ s * d * Q) := by simp only [Nat.mul_comm, Nat.mul_left_comm, Nat.mul_assoc]
    rw [this, ← hd]
    omega
  rw [e2, Nat.add_mul_div_left _ _ hps, Nat.add_mul_mod_self_left]

theorem shr_and (v s : Nat) (h : v < 18446744073709551616) : bits .and .u64 ((v : Int) / 2 ^ s) 4294967295 = ((v / 2 ^ s % 4294967296 : Nat) : Int) := by
  have e : (v : Int) / 2 ^ s = ((v / 2 ^ s : Nat) : Int) := by simp
  have h2 : v / 2 ^ s ≤ v := Nat.div_le_self _ _
  rw [e, and_low _ (by omega)]
  omega

theorem or_high (x y : Nat) (hx : x < 4294967296) (hy : y < 4294967296) : bits .or .u64 (x : Int) ((y : Int) * 4294967296) = ((x + 4294967296 * y : Nat) : Int) := by
  have h := u64_or_nat x (y * 4294967296) (by omega) (by omega)
  rw [Nat.or_comm, show y * 4294967296 ||| x = y * 4294967296 + x from by
    have := Nat.two_pow_add_eq_or_of_lt (i := 32) (b := x) (by omega) y
    rw [Nat.mul_comm y 4294967296]
    exact this.symm] at h
  rw [show ((y * 4294967296 : Nat) : Int) = (y : Int) * 4294967296 from by omega] at h
  rw [h]; omega

set_option maxRecDepth 100000 in
set_option maxHeartbeats 4000000 in
theorem shift_down (va : Value) (N n s : Nat) (w : World) (ha : Num 4294967296 .u32 w va N n) (hs : s < 32) (hs0 : 0 < s) (hsz : len 4294967296 N < 1099511627776) :
    Calls Try.prog 76 #[va, .int .i64 (-(s : Int))] w fun e w' => ∃ v, e = .returned v ∧ Num 4294967296 .u32 w' v (N / 2 ^ s) (len 4294967296 (N / 2 ^ s)) ∧ Grew w w' := by
  obtain ⟨A, ca, rfl, a1, a2, a3, a4⟩ := id ha
  have hn := ha.len_le (by omega)
  have hdl := len_mono (B := 4294967296) (by omega) (Nat.div_le_self N (2 ^ s))
  by_cases hk0 : len 4294967296 N = 0
  · obtain rfl : N = 0 := (len_eq_zero (by omega)).1 hk0
    have q1 : (0 : Int) ≤ (ca : Int) := by omega
    have hnil : Num 4294967296 .u32 w (.slice none 0 0) 0 (len 4294967296 0) := Num.nil _ _ _
    go_enter Try.func76, Try.ntmps76
    go_wp2_with fail
    refine (size_any _ _ _ _ ha).mono ?_
    rintro e w' ⟨rfl, rfl⟩
    rw [len_zero]
    go_wp2_with fail
    go_ret
    exact ⟨_, rfl, by simpa using hnil, Grew.refl _⟩
  · have hkp : 0 < len 4294967296 N := by omega
    have hNlt := Lib.hid (lt_len (B := 4294967296) (by omega) N)
    generalize hk : len 4294967296 N = k at *
    have Hk := Lib.hid hk
    clear hk hk0 a3
    have hmk := make_u32 0 k (by omega) (by omega)
    rw [mk0] at hmk
    have q1 : (k : Int) ≤ (ca : Int) := by omega
    have q2 : ((k : Int) == 0) = false := by simp <;> omega
    have q3 : (s : Int) ≤ 31 := by omega
    have q4 : (s : Int) / 32 = 0 := by omega
    have q5 : (s : Int) % 32 = s := by omega
    have q6 : decide (4096 < -(s : Int)) = false := by simp <;> omega
    have q7 : decide (-(s : Int) < -4096) = false := by simp <;> omega
    have q8 : decide (0 ≤ -(s : Int)) = false := by simp <;> omega
    have q9 : decide ((k : Int) ≤ 0) = false := by simp <;> omega
    go_enter Try.func76, Try.ntmps76
    go_wp2_with fail
    refine (size_any _ _ _ _ ha).mono ?_
    rintro e w' ⟨rfl, rfl⟩
    rw [Hk.out]
    go_wp2_with fail
    rw [show decide ((4096 : Int) < (s : Int)) = false from by simp <;> omega, show decide (s = 0) = false from by simp <;> omega, show decide (k = 0) = false from by simp <;> omega, q5]
    clear q6 q7 q8 q9 q4 q5
    go_loopg [7, 8] k (fun gk out i wr => ∃ j : Nat, gk + j = k ∧ i = .int .i64 j ∧ wr.ownsRow w.heap.size 80 1 out j (dvals 4294967296 .u32 (N / 2 ^ s) j) ∧ Grew w wr)
    case atStart => exact ⟨0, rfl, rfl, World.ownsRow_made _ _ _ (Nat.le_refl _) (by simp only [maxLen]; omega) (by simp [size_madeCells]), (Grew.refl _).alloc _⟩
    case round =>
      obtain ⟨j, hj, rfl, hown, hG⟩ := hrel
      by_cases hlt : j < k
      · obtain ⟨ba, oa, rfl, hca⟩ := a4 (by omega)
        have hcx := hG.cell (hca j (by omega))
        have hx := dig_lt (B := 4294967296) (by omega) N j
        have hsucc := Lib.hid (dvals_succ 4294967296 .u32 (N / 2 ^ s) j)
        by_cases hj1 : j + 1 < k
        · have hcy : wr.cell? ⟨ba, oa + (j + 1), none⟩ = _ := hG.cell (hca (j + 1) (by omega))
          have hy := dig_lt (B := 4294967296) (by omega) N (j + 1)
          have hst := Lib.hid (shr_step N s j _ _ hs rfl rfl)
          have hor := or_high _ _ hx hy
          have hand := shr_and (dig 4294967296 N j + 4294967296 * dig 4294967296 N (j + 1)) s (by omega)
          rw [hst.out] at hand
          have hd := dig_lt (B := 4294967296) (by omega) (N / 2 ^ s) j
          clear hst
          generalize dig 4294967296 N j = x at *
          generalize dig 4294967296 N (j + 1) = y at *
          generalize x + 4294967296 * y = v at *
          generalize dig 4294967296 (N / 2 ^ s) j = d at *
          have hdm : (d : Int) % 4294967296 = d := by omega
          go_wp2_with (first | fail | (at_builtin; refine wpList_app1 _ rfl (.tmp 79) (.tmp 85) 22 rfl w.heap.size 80 (.int .u32 0) 1 4 Try.underlying22 info_u32 rfl (by omega) _ j _ rfl hown _ rfl (by simp [Value.oneCell']) rfl (by omega) (by omega) (by exact hG.size) ?_; intro v1 w1 hown1 hG1))
          go_roundg (gk - 1)
          case rel => exact ⟨j + 1, by omega, by go_num, by rw [hsucc.out]; exact hown1, hG1 _ (Nat.le_refl _) hG⟩
          case measure => omega
        · have hy0 : dig 4294967296 N (j + 1) = 0 := dig_zero_of_lt (by omega) hNlt.out (by omega)
          have hst := Lib.hid (shr_step N s j _ 0 hs rfl hy0.symm)
          have hand := shr_and (dig 4294967296 N j) s (by omega)
          have h2 := hst.out
          rw [Nat.mul_zero, Nat.add_zero] at h2
          rw [h2] at hand
          have hd := dig_lt (B := 4294967296) (by omega) (N / 2 ^ s) j
          clear hst h2 hy0
          generalize dig 4294967296 N j = x at *
          generalize dig 4294967296 (N / 2 ^ s) j = d at *
          have hdm : (d : Int) % 4294967296 = d := by omega
          go_wp2_with (first | fail | (at_builtin; refine wpList_app1 _ rfl (.tmp 79) (.tmp 85) 22 rfl w.heap.size 80 (.int .u32 0) 1 4 Try.underlying22 info_u32 rfl (by omega) _ j _ rfl hown _ rfl (by simp [Value.oneCell']) rfl (by omega) (by omega) (by exact hG.size) ?_; intro v1 w1 hown1 hG1))
          go_roundg (gk - 1)
          case rel => exact ⟨j + 1, by omega, by go_num, by rw [hsucc.out]; exact hown1, hG1 _ (Nat.le_refl _) hG⟩
          case measure => omega
      · obtain rfl : j = k := by omega
        have hlt2 := lt_pow_of_len (B := 4294967296) (by omega) hdl
        have hnum := Num.of_own hown hlt2
        obtain ⟨D, cd, rfl, d1, d2, d3, d4⟩ := id hnum
        have z1 : ((len 4294967296 (N / 2 ^ s) : Nat) : Int) ≤ (cd : Int) := by omega
        have hcut := hnum.cut (k := len 4294967296 (N / 2 ^ s)) hdl (lt_len (by omega) _)
        clear hmk hown d3 hlt2
        go_wp2_with fail
        refine (size_any _ _ _ _ hnum).mono ?_
        rintro e w' ⟨rfl, rfl⟩
        have Hcut := Lib.hid hcut
        clear hcut hnum
        generalize hz : len 4294967296 (N / 2 ^ s) = z at *
        have Hz := Lib.hid hz
        clear hz
        go_wp2_with fail
        go_ret
        exact ⟨_, rfl, by rw [Hz.out]; exact Hcut.out, hG⟩
end Go.Proofs.Ytpglnfccmhkocaa
