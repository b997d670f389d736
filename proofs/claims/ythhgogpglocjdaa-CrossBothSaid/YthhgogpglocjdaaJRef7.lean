/- r01.cmp, r01.Cmp. Condition: what comes in reads; fewer than 2^40 digits. r01.Add. Condition: what comes in reads; fewer than 2^38 words. r01.sub, r01.Sub. Condition: what comes in reads; fewer than 2^38 words. r01.Mul. Condition: what comes in reads; fewer than 2^37 words. -/
import Derived.Test.YthhgogpglocjdaaJRef3
namespace Go.Proofs.Ythhgogpglocjdaa
open Go.RowKit

theorem div_step (N k : Nat) : N / 65536 ^ k = N / 65536 ^ (k + 1) * 65536 + dig 65536 N k := by
  unfold dig
  rw [Nat.pow_succ, ← Nat.div_div_eq_div_mul]
  omega
theorem lt_of_step {N M k : Nat} (h : N / 65536 ^ (k + 1) = M / 65536 ^ (k + 1)) (hd : dig 65536 N k < dig 65536 M k) : N < M := by
  have h1 := div_step N k
  have h2 := div_step M k
  rcases Nat.lt_or_ge N M with h3 | h3
  · exact h3
  · have := Nat.div_le_div_right (c := 65536 ^ k) h3
    rw [h] at h1
    omega
theorem eq_of_step {N M k : Nat} (h : N / 65536 ^ (k + 1) = M / 65536 ^ (k + 1)) (hd : dig 65536 N k = dig 65536 M k) : N / 65536 ^ k = M / 65536 ^ k := by
  rw [div_step N k, div_step M k, h, hd]

end Go.Proofs.Ythhgogpglocjdaa
namespace Go.Proofs.Ythhgogpglocjdaa
open Go.RowKit

theorem radd_step (N M k : Nat) (x y c : Nat) (hx : x = dig 65536 N k) (hy : y = dig 65536 M k) (hc : c = carry 65536 N M k) :
    (((x : Int) + y + c) % 65536 = (dig 65536 (N + M) k : Nat)) ∧ (((x : Int) + y + c) / 65536 = (carry 65536 N M (k + 1) : Nat)) := by
  subst hx; subst hy; subst hc
  rw [← carry_dig (by omega), carry_succ (by omega)]
  constructor <;> omega

set_option maxRecDepth 100000 in
set_option maxHeartbeats 4000000 in
theorem rnadd_any (va vb : Value) (N M n m : Nat) (w : World) (ha : Num 4294967296 .u32 w va N n) (hb : Num 4294967296 .u32 w vb M m) (hsz : n < 274877906944 ∧ m < 274877906944) :
    Calls Try.prog 59 #[va, vb] w fun e w' => ∃ v, e = .returned v ∧ Num 4294967296 .u32 w' v (N + M) (len 4294967296 (N + M)) ∧ Grew w w' := by
  have l1 : len 65536 N < 549755813889 := by
    have h1 := ha.len_le (by omega); have := len_half N; omega
  have l2 : len 65536 M < 549755813889 := by
    have h1 := hb.len_le (by omega); have := len_half M; omega
  have hNs := lt_len (B := 65536) (by omega) N
  have hMs := lt_len (B := 65536) (by omega) M
  go_enter Try.func59, Try.ntmps59
  go_wp2_with fail
  refine (rhalf_any _ _ _ _ ha (by omega)).mono ?_
  rintro e w1 ⟨v1, rfl, h1, g1⟩
  replace hb := hb.grew g1
  go_wp2_with fail
  refine (rhalf_any _ _ _ _ hb (by omega)).mono ?_
  rintro e w2 ⟨v2, rfl, h2, g2⟩
  replace h1 := h1.grew g2
  replace g2 := Lib.hid (g1.trans g2)
  obtain ⟨A, ca, rfl, -⟩ := id h1
  obtain ⟨C, cb, rfl, -⟩ := id h2
  generalize len 65536 N = L at *
  generalize len 65536 M = K at *
  obtain ⟨X, hX⟩ : ∃ X : Nat, X = max L K := ⟨_, rfl⟩
  have hmi : max (L : Int) (K : Int) = (X : Int) := by omega
  have hXb : X < 549755813889 := by omega
  have hNM := Lib.hid (show N + M < 65536 ^ (X + 1) by
    have e1 := Nat.pow_le_pow_right (n := 65536) (by omega) (show L ≤ X by omega)
    have e2 := Nat.pow_le_pow_right (n := 65536) (by omega) (show K ≤ X by omega)
    rw [Nat.pow_succ]
    omega)
  replace h1 := Lib.hid h1
  replace h2 := Lib.hid h2
  clear g1 ha hb hNs hMs hX l1 l2
  go_wp2_with fail
  go_loopg [7, 8, 9] (X + 1) (fun gk out cr i wr => ∃ j : Nat, gk + j = X + 1 ∧ i = .int .i64 j ∧ cr = .int .u64 (carry 65536 N M j : Nat) ∧ wr.ownsRow w2.heap.size 71 1 out j (dvals 65536 .u64 (N + M) j) ∧ Grew w2 wr)
  case atStart => exact ⟨0, rfl, rfl, by rw [carry_zero]; rfl, World.ownsRow_nil _ _ _ _, Grew.refl _⟩
  case round =>
    obtain ⟨j, hj, rfl, rfl, hown, hG⟩ := hrel
    by_cases hlt : j < X + 1
    · have A1 := Lib.hid (rat_any (.slice A L ca) N L j wr (h1.out.grew hG) (by omega))
      have A2 := Lib.hid (rat_any (.slice C K cb) M K j wr (h2.out.grew hG) (by omega))
      have hx := dig_lt (B := 65536) (by omega) N j
      have hy := dig_lt (B := 65536) (by omega) M j
      have hc := carry_le (B := 65536) (by omega) N M j
      have hstep := Lib.hid (radd_step N M j _ _ _ rfl rfl rfl)
      have hsucc := Lib.hid (dvals_succ 65536 .u64 (N + M) j)
      have hsz1 := hG.size
      have q1 := Lib.hid hG
      have q2 := Lib.hid hown
      have hjx : (j : Int) < (X : Int) + 1 := by omega
      clear hG hown
      generalize dig 65536 N j = x at *
      generalize dig 65536 M j = y at *
      generalize carry 65536 N M j = c at *
      go_wp2_with (first | fail | (go_at_call_of 75 (Value.slice A L ca); refine A1.out.mono ?_; rintro e w' ⟨rfl, rfl⟩) | (go_at_call 75; refine A2.out.mono ?_; rintro e w' ⟨rfl, rfl⟩) | (at_builtin; refine wpList_app1 _ rfl (.tmp 34) (.tmp 37) 99 rfl w2.heap.size 71 (.int .u64 0) 1 8 Try.underlying99 info_u64 rfl (by omega) _ j _ rfl q2.out _ rfl (by simp [Value.oneCell']) rfl (by omega) (by omega) hsz1 ?_; intro v3 w3 hown1 hG1))
      go_roundg (gk - 1)
      case rel => exact ⟨j + 1, by omega, by go_num, by rw [hstep.out.2], by rw [hsucc.out, ← hstep.out.1]; exact hown1, hG1 _ (Nat.le_refl _) q1.out⟩
      case measure => omega
    · obtain rfl : j = X + 1 := by omega
      have hnum := Lib.hid (Num.of_own hown hNM.out)
      have hG' := Lib.hid (g2.out.trans hG)
      have hjx : ¬ ((X : Int) + 1 < (X : Int) + 1) := by omega
      obtain ⟨D, cd, rfl, -⟩ := id hnum.out
      clear hown hG
      go_wp2_with fail
      refine (rwords_any _ _ _ _ hnum.out (by omega)).mono ?_
      rintro e w4 ⟨v4, rfl, h4, g4⟩
      replace h4 := Lib.hid h4
      replace g4 := Lib.hid (hG'.out.trans g4)
      go_wp2_with fail
      go_ret
      exact ⟨_, rfl, h4.out, g4.out⟩
end Go.Proofs.Ythhgogpglocjdaa
namespace Go.Proofs.Ythhgogpglocjdaa
open Go.RowKit

theorem rsub_step (N M k : Nat) (x y c : Nat) (hle : M ≤ N) (hx : x = dig 65536 N k) (hy : y = dig 65536 M k) (hc : c = borrow 65536 N M k) :
    ((65536 + (x : Int) - y - c) % 65536 = (dig 65536 (N - M) k : Nat)) ∧ (1 - (65536 + (x : Int) - y - c) / 65536 = (borrow 65536 N M (k + 1) : Nat)) := by
  have hx2 := dig_lt (B := 65536) (by omega) N k
  have hy2 := dig_lt (B := 65536) (by omega) M k
  have hc2 := borrow_le (B := 65536) N M k
  have h1 := borrow_dig (B := 65536) (by omega) N M k hle
  have h2 := borrow_succ (B := 65536) (by omega) N M k
  rw [← h1, h2]
  subst hx; subst hy; subst hc
  constructor
  · omega
  · split <;> omega

end Go.Proofs.Ythhgogpglocjdaa
namespace Go.Proofs.Ythhgogpglocjdaa
open Go.RowKit

theorem make_u64 (l c : Nat) (hl : l ≤ c) (hc : c ≤ 1099511627776) (u : World) : (Instr.makeSlice 99 (.int .i64 (l : Int)) (.int .i64 (c : Int))).run Try.prog u =
    .ok (.slice (some ⟨u.heap.size, 0, none⟩) l c) (u.alloc (.cells (madeCells #[.int .u64 0] c) 71)) := by
  obtain ⟨i0, hi, hz0, hz1, hz2⟩ := info_parts info_u64
  have h := run_make (P := Try.prog) u 99 71 i0 (.int .u64 0) Try.underlying99 hi hz0 .i64 .i64 (l : Int) (c : Int) (by omega) (by omega) (by rw [hz2]; omega) (by omega)
  simpa [hz1, Value.cells] using h

theorem rmul_in (T U x y c s : Nat) (hc : U / 65536 ^ s = T / 65536 ^ s + c) (hx : x < 65536) (hy : y < 65536) (hcB : c < 65536) :
    (((dig 65536 T s : Nat) : Int) + (x : Int) * y + c) % 65536 = (dig 65536 (U + x * y * 65536 ^ s) s : Nat) ∧
    (∃ c' : Nat, (((dig 65536 T s : Nat) : Int) + (x : Int) * y + c) / 65536 = c' ∧ c' < 65536 ∧ (U + x * y * 65536 ^ s) / 65536 ^ (s + 1) = T / 65536 ^ (s + 1) + c') ∧
    0 ≤ ((dig 65536 T s : Nat) : Int) + (x : Int) * y + c ∧ ((dig 65536 T s : Nat) : Int) + (x : Int) * y + c < 4294967296 ∧ 0 ≤ (x : Int) * y ∧ (x : Int) * y < 4294967296 ∧ 0 ≤ ((dig 65536 T s : Nat) : Int) + (x : Int) * y ∧ ((dig 65536 T s : Nat) : Int) + (x : Int) * y < 4294967296 := by
  obtain ⟨h1, h2, h3⟩ := mul_step (B := 65536) (by omega) T U x y c s hc hx hy hcB
  have hd := dig_lt (B := 65536) (by omega) T s
  have hm : x * y ≤ 65535 * 65535 := Nat.mul_le_mul (by omega) (by omega)
  have e : (x : Int) * y = ((x * y : Nat) : Int) := by simp
  rw [e]
  generalize x * y = xy at *
  refine ⟨by omega, ⟨(xy + dig 65536 T s + c) / 65536, by omega, by omega, ?_⟩, by omega, by omega, by omega, by omega, by omega, by omega⟩
  first | exact h3 | (rw [h3]; done) | omega

theorem rrow_in {w : World} {g t L T U V s v : Nat} {K : IntKind} (h : Row w g t K (mix 65536 T U s) L) (hv : v = dig 65536 (U + V * 65536 ^ s) s) :
    Row (w.setCell ⟨g, s, none⟩ (.int K (v : Nat))) g t K (mix 65536 T (U + V * 65536 ^ s) (s + 1)) L := by
  refine (h.set s v).congr fun p _ => ?_
  by_cases e : p = s
  · subst e; simp [mix, hv]
  · simp only [if_neg e, mix]
    by_cases hp : p < s
    · rw [if_pos hp, if_pos (by omega), mul_low hp]
    · rw [if_neg hp, if_neg (by omega)]

theorem rrow_out {w : World} {g t L T U s c : Nat} {K : IntKind} (h : Row w g t K (mix 65536 T U s) L) (hc : U / 65536 ^ s = T / 65536 ^ s + c) (hT : T < 65536 ^ s) (hU : U < 65536 ^ (s + 1)) (hcB : c < 65536) :
    Row (w.setCell ⟨g, s, none⟩ (.int K (c : Nat))) g t K (dig 65536 U) L := by
  refine (h.set s c).congr fun p _ => ?_
  by_cases e : p = s
  · subst e; simp [← mul_end hc hT hcB]
  · simp only [if_neg e, mix]
    by_cases hp : p < s
    · rw [if_pos hp]
    · rw [if_neg hp, dig_zero_of_lt (by omega) hT (by omega), dig_zero_of_lt (by omega) hU (by omega)]

end Go.Proofs.Ythhgogpglocjdaa
