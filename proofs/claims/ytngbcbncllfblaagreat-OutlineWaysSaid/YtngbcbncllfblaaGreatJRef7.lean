/- r01.cmp, r01.Cmp. Condition: what comes in reads; fewer than 2^40 digits. r01.Add. Condition: what comes in reads; fewer than 2^38 words. r01.sub, r01.Sub. Condition: what comes in reads; fewer than 2^38 words. r01.Mul. Condition: what comes in reads; fewer than 2^37 words. -/
import Derived.Test.YtngbcbncllfblaaGreatJRef3
namespace Go.Proofs.YtngbcbncllfblaaGreat
open Go.RowKit

theorem div_step (N k : Nat) : N / 65536 ^ k = N / 65536 ^ (k + 1) * 65536 + dig 65536 N k := by
  unfold dig
  rw [Nat.pow_succ, ← Nat.div_div_eq_div_mul]
  omega
theorem lt_of_step {N M k : Nat} (h : N / 65536 ^ (k + 1) = M / 65536 ^ (k + 1)) (hd : dig 65536 N k < dig 65536 M k) : N < M := by
  have h1 := div_step N k
  have h2 := div_step M k
  rcases Nat.lt_or_ge N M with h3 | h3
  · exact h3
  · have := Nat.div_le_div_right (c := 65536 ^ k) h3
    rw [h] at h1
    omega
theorem eq_of_step {N M k : Nat} (h : N / 65536 ^ (k + 1) = M / 65536 ^ (k + 1)) (hd : dig 65536 N k = dig 65536 M k) : N / 65536 ^ k = M / 65536 ^ k := by
  rw [div_step N k, div_step M k, h, hd]

set_option maxRecDepth 100000 in
set_option maxHeartbeats 4000000 in
theorem rcmp_any (va vb : Value) (N M n m : Nat) (w : World) (ha : Num 65536 .u64 w va N n) (hb : Num 65536 .u64 w vb M m) (hsz : n < 1099511627776 ∧ m < 1099511627776) :
    Calls Tryz.prog 295 #[va, vb] w fun e w' => e = .returned (.int .i64 (cmpN N M)) ∧ w = w' := by
  obtain ⟨A, ca, rfl, a1, a2, a3, a4⟩ := id ha
  obtain ⟨C, cb, rfl, b1, b2, b3, b4⟩ := id hb
  have Ha := Lib.hid ha
  have Hb := Lib.hid hb
  have h0 : N / 65536 ^ (max n m) = M / 65536 ^ (max n m) := by
    rw [Nat.div_eq_of_lt (Nat.lt_of_lt_of_le a3 (Nat.pow_le_pow_right (by omega) (Nat.le_max_left _ _))), Nat.div_eq_of_lt (Nat.lt_of_lt_of_le b3 (Nat.pow_le_pow_right (by omega) (Nat.le_max_right _ _)))]
  replace h0 := Lib.hid h0
  clear a3 b3 a4 b4 ha hb
  go_enter Tryz.func295, Tryz.ntmps295
  go_wp2_with fail
  obtain ⟨X, hX⟩ : ∃ X : Nat, X = max n m := ⟨_, rfl⟩
  have hmi : max (n : Int) (m : Int) = (X : Int) := by omega
  have hXb : X < 1099511627776 := by omega
  rw [hmi]
  rw [← hX] at h0
  clear hmi hX hsz
  go_loopg [5] X (fun gk i wr => ∃ k : Nat, gk = k ∧ k < 1099511627776 ∧ i = .int .i64 ((k : Int) - 1) ∧ Hid (N / 65536 ^ k = M / 65536 ^ k) ∧ w = wr)
  case atStart => exact ⟨X, rfl, hXb, rfl, h0, rfl⟩
  case round =>
    obtain ⟨k, hgk, hk, rfl, he, rfl⟩ := hrel
    have hgl : k ≤ gk := by omega
    clear hgk
    rcases k with _ | j
    · have e0 : N = M := by have := he.out; simpa using this
      replace e0 := Lib.hid e0
      rw [show ((0 : Nat) : Int) - 1 = -1 from rfl]
      go_wp2_with fail
      go_ret
      exact ⟨by rw [e0.out, cmpN_self]; rfl, rfl⟩
    · have e1 := Lib.hid (fun h => cmpN_lt (lt_of_step (N := N) (M := M) (k := j) he.out h))
      have e2 := Lib.hid (fun h => cmpN_gt (lt_of_step (N := M) (M := N) (k := j) he.out.symm h))
      have e3 := Lib.hid (fun h => eq_of_step (N := N) (M := M) (k := j) he.out h)
      have A1 := Lib.hid (rat_any (.slice A n ca) N n j w Ha.out (by omega))
      have A2 := Lib.hid (rat_any (.slice C m cb) M m j w Hb.out (by omega))
      rw [show ((j + 1 : Nat) : Int) - 1 = (j : Int) from by omega]
      clear he
      generalize dig 65536 N j = x at *
      generalize dig 65536 M j = y at *
      rcases Nat.lt_trichotomy x y with h | h | h
      · have r := Lib.hid (e1.out h)
        go_wp2_with (first | fail | (go_at_call_of 249 (Value.slice A n ca); refine A1.out.mono ?_; rintro e w' ⟨rfl, rfl⟩) | (go_at_call 249; refine A2.out.mono ?_; rintro e w' ⟨rfl, rfl⟩))
        go_ret
        exact ⟨by rw [r.out]; rfl, rfl⟩
      · subst h
        have r := Lib.hid (e3.out rfl)
        go_wp2_with (first | fail | (go_at_call_of 249 (Value.slice A n ca); refine A1.out.mono ?_; rintro e w' ⟨rfl, rfl⟩) | (go_at_call 249; refine A2.out.mono ?_; rintro e w' ⟨rfl, rfl⟩))
        go_roundg j
        case rel => exact ⟨j, rfl, by omega, rfl, r, rfl⟩
        case measure => omega
      · have r := Lib.hid (e2.out h)
        have h' : ¬ x < y := by omega
        go_wp2_with (first | fail | (go_at_call_of 249 (Value.slice A n ca); refine A1.out.mono ?_; rintro e w' ⟨rfl, rfl⟩) | (go_at_call 249; refine A2.out.mono ?_; rintro e w' ⟨rfl, rfl⟩))
        go_ret
        exact ⟨by rw [r.out]; rfl, rfl⟩

set_option maxRecDepth 100000 in
set_option maxHeartbeats 1000000 in
theorem rCmp_any (va vb : Value) (N M n m : Nat) (w : World) (ha : Num 4294967296 .u32 w va N n) (hb : Num 4294967296 .u32 w vb M m) (hsz : n < 274877906944 ∧ m < 274877906944) :
    Calls Tryz.prog 278 #[va, vb] w fun e w' => e = .returned (.int .i64 (cmpN N M)) ∧ Grew w w' := by
  have l1 : len 65536 N < 1099511627776 := by
    have h1 := ha.len_le (by omega); have := len_half N; omega
  have l2 : len 65536 M < 1099511627776 := by
    have h1 := hb.len_le (by omega); have := len_half M; omega
  go_enter Tryz.func278, Tryz.ntmps278
  go_wp2_with fail
  refine (rhalf_any _ _ _ _ ha (by omega)).mono ?_
  rintro e w1 ⟨v1, rfl, h1, g1⟩
  replace hb := hb.grew g1
  go_wp2_with fail
  refine (rhalf_any _ _ _ _ hb (by omega)).mono ?_
  rintro e w2 ⟨v2, rfl, h2, g2⟩
  replace h1 := h1.grew g2
  go_wp2_with fail
  refine (rcmp_any _ _ _ _ _ _ _ h1 h2 ⟨l1, l2⟩).mono ?_
  rintro e w' ⟨rfl, rfl⟩
  go_wp2_with fail
  go_ret
  exact ⟨rfl, g1.trans g2⟩
end Go.Proofs.YtngbcbncllfblaaGreat
namespace Go.Proofs.YtngbcbncllfblaaGreat
open Go.RowKit

theorem radd_step (N M k : Nat) (x y c : Nat) (hx : x = dig 65536 N k) (hy : y = dig 65536 M k) (hc : c = carry 65536 N M k) :
    (((x : Int) + y + c) % 65536 = (dig 65536 (N + M) k : Nat)) ∧ (((x : Int) + y + c) / 65536 = (carry 65536 N M (k + 1) : Nat)) := by
  subst hx; subst hy; subst hc
  rw [← carry_dig (by omega), carry_succ (by omega)]
  constructor <;> omega

set_option maxRecDepth 100000 in
set_option maxHeartbeats 4000000 in
theorem rnadd_any (va vb : Value) (N M n m : Nat) (w : World) (ha : Num 4294967296 .u32 w va N n) (hb : Num 4294967296 .u32 w vb M m) (hsz : n < 274877906944 ∧ m < 274877906944) :
    Calls Tryz.prog 191 #[va, vb] w fun e w' => ∃ v, e = .returned v ∧ Num 4294967296 .u32 w' v (N + M) (len 4294967296 (N + M)) ∧ Grew w w' := by
  have l1 : len 65536 N < 549755813889 := by
    have h1 := ha.len_le (by omega); have := len_half N; omega
  have l2 : len 65536 M < 549755813889 := by
    have h1 := hb.len_le (by omega); have := len_half M; omega
  have hNs := lt_len (B := 65536) (by omega) N
  have hMs := lt_len (B := 65536) (by omega) M
  go_enter Tryz.func191, Tryz.ntmps191
  go_wp2_with fail
  refine (rhalf_any _ _ _ _ ha (by omega)).mono ?_
  rintro e w1 ⟨v1, rfl, h1, g1⟩
  replace hb := hb.grew g1
  go_wp2_with fail
  refine (rhalf_any _ _ _ _ hb (by omega)).mono ?_
  rintro e w2 ⟨v2, rfl, h2, g2⟩
  replace h1 := h1.grew g2
  replace g2 := Lib.hid (g1.trans g2)
  obtain ⟨A, ca, rfl, -⟩ := id h1
  obtain ⟨C, cb, rfl, -⟩ := id h2
  generalize len 65536 N = L at *
  generalize len 65536 M = K at *
  obtain ⟨X, hX⟩ : ∃ X : Nat, X = max L K := ⟨_, rfl⟩
  have hmi : max (L : Int) (K : Int) = (X : Int) := by omega
  have hXb : X < 549755813889 := by omega
  have hNM := Lib.hid (show N + M < 65536 ^ (X + 1) by
    have e1 := Nat.pow_le_pow_right (n := 65536) (by omega) (show L ≤ X by omega)
    have e2 := Nat.pow_le_pow_right (n := 65536) (by omega) (show K ≤ X by omega)
    rw [Nat.pow_succ]
    omega)
  replace h1 := Lib.hid h1
  replace h2 := Lib.hid h2
  clear g1 ha hb hNs hMs hX l1 l2
  go_wp2_with fail
  go_loopg [7, 8, 9] (X + 1) (fun gk out cr i wr => ∃ j : Nat, gk + j = X + 1 ∧ i = .int .i64 j ∧ cr = .int .u64 (carry 65536 N M j : Nat) ∧ wr.ownsRow w2.heap.size 175 1 out j (dvals 65536 .u64 (N + M) j) ∧ Grew w2 wr)
  case atStart => exact ⟨0, rfl, rfl, by rw [carry_zero]; rfl, World.ownsRow_nil _ _ _ _, Grew.refl _⟩
  case round =>
    obtain ⟨j, hj, rfl, rfl, hown, hG⟩ := hrel
    by_cases hlt : j < X + 1
    · have A1 := Lib.hid (rat_any (.slice A L ca) N L j wr (h1.out.grew hG) (by omega))
      have A2 := Lib.hid (rat_any (.slice C K cb) M K j wr (h2.out.grew hG) (by omega))
      have hx := dig_lt (B := 65536) (by omega) N j
      have hy := dig_lt (B := 65536) (by omega) M j
      have hc := carry_le (B := 65536) (by omega) N M j
      have hstep := Lib.hid (radd_step N M j _ _ _ rfl rfl rfl)
      have hsucc := Lib.hid (dvals_succ 65536 .u64 (N + M) j)
      have hsz1 := hG.size
      have q1 := Lib.hid hG
      have q2 := Lib.hid hown
      have hjx : (j : Int) < (X : Int) + 1 := by omega
      clear hG hown
      generalize dig 65536 N j = x at *
      generalize dig 65536 M j = y at *
      generalize carry 65536 N M j = c at *
      go_wp2_with (first | fail | (go_at_call_of 249 (Value.slice A L ca); refine A1.out.mono ?_; rintro e w' ⟨rfl, rfl⟩) | (go_at_call 249; refine A2.out.mono ?_; rintro e w' ⟨rfl, rfl⟩) | (at_builtin; refine wpList_app1 _ rfl (.tmp 34) (.tmp 37) 243 rfl w2.heap.size 175 (.int .u64 0) 1 8 Tryz.underlying243 info_u64 rfl (by omega) _ j _ rfl q2.out _ rfl (by simp [Value.oneCell']) rfl (by omega) (by omega) hsz1 ?_; intro v3 w3 hown1 hG1))
      go_roundg (gk - 1)
      case rel => exact ⟨j + 1, by omega, by go_num, by rw [hstep.out.2], by rw [hsucc.out, ← hstep.out.1]; exact hown1, hG1 _ (Nat.le_refl _) q1.out⟩
      case measure => omega
    · obtain rfl : j = X + 1 := by omega
      have hnum := Lib.hid (Num.of_own hown hNM.out)
      have hG' := Lib.hid (g2.out.trans hG)
      have hjx : ¬ ((X : Int) + 1 < (X : Int) + 1) := by omega
      obtain ⟨D, cd, rfl, -⟩ := id hnum.out
      clear hown hG
      go_wp2_with fail
      refine (rwords_any _ _ _ _ hnum.out (by omega)).mono ?_
      rintro e w4 ⟨v4, rfl, h4, g4⟩
      replace h4 := Lib.hid h4
      replace g4 := Lib.hid (hG'.out.trans g4)
      go_wp2_with fail
      go_ret
      exact ⟨_, rfl, h4.out, g4.out⟩
end Go.Proofs.YtngbcbncllfblaaGreat
namespace Go.Proofs.YtngbcbncllfblaaGreat
open Go.RowKit

theorem rsub_step (N M k : Nat) (x y c : Nat) (hle : M ≤ N) (hx : x = dig 65536 N k) (hy : y = dig 65536 M k) (hc : c = borrow 65536 N M k) :
    ((65536 + (x : Int) - y - c) % 65536 = (dig 65536 (N - M) k : Nat)) ∧ (1 - (65536 + (x : Int) - y - c) / 65536 = (borrow 65536 N M (k + 1) : Nat)) := by
  have hx2 := dig_lt (B := 65536) (by omega) N k
  have hy2 := dig_lt (B := 65536) (by omega) M k
  have hc2 := borrow_le (B := 65536) N M k
  have h1 := borrow_dig (B := 65536) (by omega) N M k hle
  have h2 := borrow_succ (B := 65536) (by omega) N M k
  rw [← h1, h2]
  subst hx; subst hy; subst hc
  constructor
  · omega
  · split <;> omega

set_option maxRecDepth 100000 in
set_option maxHeartbeats 4000000 in
theorem rnsub_any (va vb : Value) (N M L K : Nat) (w : World) (ha : Num 65536 .u64 w va N L) (hb : Num 65536 .u64 w vb M K) (hle : M ≤ N) (hsz : L < 549755813889 ∧ K < 549755813889) :
    Calls Tryz.prog 319 #[va, vb] w fun e w' => ∃ v, e = .returned v ∧ Num 65536 .u64 w' v (N - M) (len 65536 (N - M)) ∧ Grew w w' := by
  obtain ⟨A, ca, rfl, -⟩ := id ha
  obtain ⟨C, cb, rfl, -⟩ := id hb
  have hNM := Lib.hid (show N - M < 65536 ^ L by
    obtain ⟨_, _, _, _, _, h, _⟩ := ha
    omega)
  replace ha := Lib.hid ha
  replace hb := Lib.hid hb
  replace hle := Lib.hid hle
  have hL : L < 549755813889 := hsz.1
  clear hsz
  go_enter Tryz.func319, Tryz.ntmps319
  go_wp2_with fail
  go_loopg [5, 6, 7] L (fun gk out cr i wr => ∃ j : Nat, gk + j = L ∧ i = .int .i64 j ∧ cr = .int .u64 (borrow 65536 N M j : Nat) ∧ wr.ownsRow w.heap.size 175 1 out j (dvals 65536 .u64 (N - M) j) ∧ Grew w wr)
  case atStart => exact ⟨0, rfl, rfl, by rw [borrow_zero]; rfl, World.ownsRow_nil _ _ _ _, Grew.refl _⟩
  case round =>
    obtain ⟨j, hj, rfl, rfl, hown, hG⟩ := hrel
    by_cases hlt : j < L
    · have A1 := Lib.hid (rat_any (.slice A L ca) N L j wr (ha.out.grew hG) (by omega))
      have A2 := Lib.hid (rat_any (.slice C K cb) M K j wr (hb.out.grew hG) (by omega))
      have hx := dig_lt (B := 65536) (by omega) N j
      have hy := dig_lt (B := 65536) (by omega) M j
      have hc := borrow_le (B := 65536) N M j
      have hstep := Lib.hid (rsub_step N M j _ _ _ hle.out rfl rfl rfl)
      have hsucc := Lib.hid (dvals_succ 65536 .u64 (N - M) j)
      have hsz1 := hG.size
      have q1 := Lib.hid hG
      have q2 := Lib.hid hown
      clear hG hown
      generalize dig 65536 N j = x at *
      generalize dig 65536 M j = y at *
      generalize borrow 65536 N M j = c at *
      have b1 : (0 : Int) ≤ 65536 + (x : Int) - y - c := by omega
      have b2 : 65536 + (x : Int) - y - c < 131072 := by omega
      have b3 : (0 : Int) ≤ 65536 + (x : Int) - y := by omega
      have b4 : (65536 + (x : Int) - y - c) / 65536 ≤ 1 := by omega
      have b5 : 0 ≤ (65536 + (x : Int) - y - c) / 65536 := by omega
      go_wp2_with (first | fail | (go_at_call_of 249 (Value.slice A L ca); refine A1.out.mono ?_; rintro e w' ⟨rfl, rfl⟩) | (go_at_call 249; refine A2.out.mono ?_; rintro e w' ⟨rfl, rfl⟩) | (at_builtin; refine wpList_app1 _ rfl (.tmp 25) (.tmp 28) 243 rfl w.heap.size 175 (.int .u64 0) 1 8 Tryz.underlying243 info_u64 rfl (by omega) _ j _ rfl q2.out _ rfl (by simp [Value.oneCell']) rfl (by omega) (by omega) hsz1 ?_; intro v3 w3 hown1 hG1))
      go_roundg (gk - 1)
      case rel => exact ⟨j + 1, by omega, by go_num, by rw [hstep.out.2], by rw [hsucc.out, ← hstep.out.1]; exact hown1, hG1 _ (Nat.le_refl _) q1.out⟩
      case measure => omega
    · obtain rfl : j = L := by omega
      have hnum := Lib.hid (Num.of_own hown hNM.out)
      obtain ⟨D, cd, rfl, -⟩ := id hnum.out
      replace hG := Lib.hid hG
      clear hown
      go_wp2_with fail
      refine (rcut_any _ _ _ _ hnum.out).mono ?_
      rintro e w4 ⟨v4, rfl, h4, rfl⟩
      replace h4 := Lib.hid h4
      go_wp2_with fail
      go_ret
      exact ⟨_, rfl, h4.out, hG.out⟩

set_option maxRecDepth 100000 in
set_option maxHeartbeats 4000000 in
theorem rSub_yes (va vb : Value) (N M n m : Nat) (w : World) (ha : Num 4294967296 .u32 w va N n) (hb : Num 4294967296 .u32 w vb M m) (hsz : n < 274877906944 ∧ m < 274877906944) (hle : M ≤ N) :
    Calls Tryz.prog 279 #[va, vb] w fun e w' => ∃ v, e = .returned (.tuple #[v, .bool true]) ∧ Num 4294967296 .u32 w' v (N - M) (len 4294967296 (N - M)) ∧ Grew w w' := by
  have l1 : len 65536 N < 549755813889 := by
    have h1 := ha.len_le (by omega); have := len_half N; omega
  have l2 : len 65536 M < 549755813889 := by
    have h1 := hb.len_le (by omega); have := len_half M; omega
  have l3 := len_mono (B := 65536) (by omega) (Nat.sub_le N M)
  have hc0 : ¬ cmpN N M < 0 := by
    unfold cmpN
    rw [if_neg (by omega)]
    split <;> omega
  go_enter Tryz.func279, Tryz.ntmps279
  go_wp2_with fail
  refine (rCmp_any _ _ _ _ _ _ _ ha hb hsz).mono ?_
  rintro e w1 ⟨rfl, g1⟩
  generalize cmpN N M = cm at *
  have hcb : decide (cm < 0) = false := by simp; omega
  replace ha := ha.grew g1
  replace hb := hb.grew g1
  go_wp2_with fail
  refine (rhalf_any _ _ _ _ ha (by omega)).mono ?_
  rintro e w2 ⟨v2, rfl, h2, g2⟩
  replace hb := hb.grew g2
  go_wp2_with fail
  refine (rhalf_any _ _ _ _ hb (by omega)).mono ?_
  rintro e w3 ⟨v3, rfl, h3, g3⟩
  replace h2 := h2.grew g3
  go_wp2_with fail
  refine (rnsub_any _ _ _ _ _ _ _ h2 h3 hle ⟨l1, l2⟩).mono ?_
  rintro e w4 ⟨v4, rfl, h4, g4⟩
  go_wp2_with fail
  refine (rwords_any _ _ _ _ h4 (by omega)).mono ?_
  rintro e w5 ⟨v5, rfl, h5, g5⟩
  have g := (((g1.trans g2).trans g3).trans g4).trans g5
  replace h5 := Lib.hid h5
  replace g := Lib.hid g
  clear g1 g2 g3 g4 g5 h2 h3 h4 ha hb
  go_wp2_with fail
  go_ret2
  exact ⟨_, rfl, h5.out, g.out⟩
end Go.Proofs.YtngbcbncllfblaaGreat
namespace Go.Proofs.YtngbcbncllfblaaGreat
open Go.RowKit

theorem make_u64 (l c : Nat) (hl : l ≤ c) (hc : c ≤ 1099511627776) (u : World) : (Instr.makeSlice 243 (.int .i64 (l : Int)) (.int .i64 (c : Int))).run Tryz.prog u =
    .ok (.slice (some ⟨u.heap.size, 0, none⟩) l c) (u.alloc (.cells (madeCells #[.int .u64 0] c) 175)) := by
  obtain ⟨i0, hi, hz0, hz1, hz2⟩ := info_parts info_u64
  have h := run_make (P := Tryz.prog) u 243 175 i0 (.int .u64 0) Tryz.underlying243 hi hz0 .i64 .i64 (l : Int) (c : Int) (by omega) (by omega) (by rw [hz2]; omega) (by omega)
  simpa [hz1, Value.cells] using h

theorem rmul_in (T U x y c s : Nat) (hc : U / 65536 ^ s = T / 65536 ^ s + c) (hx : x < 65536) (hy : y < 65536) (hcB : c < 65536) :
    (((dig 65536 T s : Nat) : Int) + (x : Int) * y + c) % 65536 = (dig 65536 (U + x * y * 65536 ^ s) s : Nat) ∧
    (∃ c' : Nat, (((dig 65536 T s : Nat) : Int) + (x : Int) * y + c) / 65536 = c' ∧ c' < 65536 ∧ (U + x * y * 65536 ^ s) / 65536 ^ (s + 1) = T / 65536 ^ (s + 1) + c') ∧
    0 ≤ ((dig 65536 T s : Nat) : Int) + (x : Int) * y + c ∧ ((dig 65536 T s : Nat) : Int) + (x : Int) * y + c < 4294967296 ∧ 0 ≤ (x : Int) * y ∧ (x : Int) * y < 4294967296 ∧ 0 ≤ ((dig 65536 T s : Nat) : Int) + (x : Int) * y ∧ ((dig 65536 T s : Nat) : Int) + (x : Int) * y < 4294967296 := by
  obtain ⟨h1, h2, h3⟩ := mul_step (B := 65536) (by omega) T U x y c s hc hx hy hcB
  have hd := dig_lt (B := 65536) (by omega) T s
  have hm : x * y ≤ 65535 * 65535 := Nat.mul_le_mul (by omega) (by omega)
  have e : (x : Int) * y = ((x * y : Nat) : Int) := by simp
  rw [e]
  generalize x * y = xy at *
  refine ⟨by omega, ⟨(xy + dig 65536 T s + c) / 65536, by omega, by omega, ?_⟩, by omega, by omega, by omega, by omega, by omega, by omega⟩
  first | exact h3 | (rw [h3]; done) | omega

theorem rrow_in {w : World} {g t L T U V s v : Nat} {K : IntKind} (h : Row w g t K (mix 65536 T U s) L) (hv : v = dig 65536 (U + V * 65536 ^ s) s) :
    Row (w.setCell ⟨g, s, none⟩ (.int K (v : Nat))) g t K (mix 65536 T (U + V * 65536 ^ s) (s + 1)) L := by
  refine (h.set s v).congr fun p _ => ?_
  by_cases e : p = s
  · subst e; simp [mix, hv]
  · simp only [if_neg e, mix]
    by_cases hp : p < s
    · rw [if_pos hp, if_pos (by omega), mul_low hp]
    · rw [if_neg hp, if_neg (by omega)]

theorem rrow_out {w : World} {g t L T U s c : Nat} {K : IntKind} (h : Row w g t K (mix 65536 T U s) L) (hc : U / 65536 ^ s = T / 65536 ^ s + c) (hT : T < 65536 ^ s) (hU : U < 65536 ^ (s + 1)) (hcB : c < 65536) :
    Row (w.setCell ⟨g, s, none⟩ (.int K (c : Nat))) g t K (dig 65536 U) L := by
  refine (h.set s c).congr fun p _ => ?_
  by_cases e : p = s
  · subst e; simp [← mul_end hc hT hcB]
  · simp only [if_neg e, mix]
    by_cases hp : p < s
    · rw [if_pos hp]
    · rw [if_neg hp, dig_zero_of_lt (by omega) hT (by omega), dig_zero_of_lt (by omega) hU (by omega)]

set_option maxRecDepth 100000 in
set_option maxHeartbeats 8000000 in
theorem rMul_any (va vb : Value) (N M n m : Nat) (w : World) (ha : Num 4294967296 .u32 w va N n) (hb : Num 4294967296 .u32 w vb M m) (hsz : n < 137438953472 ∧ m < 137438953472) :
    Calls Tryz.prog 229 #[va, vb] w fun e w' => ∃ v, e = .returned v ∧ Num 4294967296 .u32 w' v (N * M) (len 4294967296 (N * M)) ∧ Grew w w' := by
  have l1 : len 65536 N < 274877906945 := by
    have h1 := ha.len_le (by omega); have := len_half N; omega
  have l2 : len 65536 M < 274877906945 := by
    have h1 := hb.len_le (by omega); have := len_half M; omega
  have hNs := Lib.hid (lt_len (B := 65536) (by omega) N)
  have hMs := Lib.hid (lt_len (B := 65536) (by omega) M)
  go_enter Tryz.func229, Tryz.ntmps229
  go_wp2_with fail
  refine (rhalf_any _ _ _ _ ha (by omega)).mono ?_
  rintro e w1 ⟨v1, rfl, h1, g1⟩
  replace hb := hb.grew g1
  go_wp2_with fail
  refine (rhalf_any _ _ _ _ hb (by omega)).mono ?_
  rintro e w2 ⟨v2, rfl, h2, g2⟩
  replace h1 := h1.grew g2
  replace g2 := Lib.hid (g1.trans g2)
  obtain ⟨A, ca, rfl, a1, a2, -, a4⟩ := id h1
  obtain ⟨C, cb, rfl, b1, b2, -, b4⟩ := id h2
  generalize len 65536 N = k at *
  generalize len 65536 M = l at *
  have hmk := make_u64 (k + l + 1) (k + l + 1) (by omega) (by omega)
  rw [show ((k + l + 1 : Nat) : Int) = (k : Int) + (l : Int) + 1 from by omega] at hmk
  replace a4 := Lib.hid a4
  replace b4 := Lib.hid b4
  clear g1 ha hb h1 h2
  go_wp2_with fail
  go_loopg [8] k (fun gk i wr => ∃ j : Nat, gk + j = k ∧ i = .int .i64 j ∧ Row wr w2.heap.size 175 .u64 (dig 65536 (N % 65536 ^ j * M)) (k + l + 1) ∧ Grew w2 wr)
  case atStart => exact ⟨0, rfl, rfl, (Row.made w2 _ _ _).congr (fun p _ => by simp [Nat.mod_one, dig]), (Grew.refl _).alloc _⟩
  case round =>
    obtain ⟨i, hi, rfl, hR, hG⟩ := hrel
    obtain ⟨wo, rfl⟩ : ∃ wo : World, wo = wr := ⟨_, rfl⟩
    obtain ⟨G, rfl⟩ : ∃ G : Nat, G = gk := ⟨_, rfl⟩
    by_cases hlt : i < k
    · obtain ⟨ba, oa, rfl, hca⟩ := a4.out (by omega)
      replace hca := Lib.hid hca
      go_wp2_with fail
      go_loopg [9, 10] l (fun gk c kk wr => ∃ j cc : Nat, gk + j = l ∧ kk = .int .i64 j ∧ c = .int .u64 cc ∧ cc < 65536 ∧ Hid ((N % 65536 ^ i * M + dig 65536 N i * (M % 65536 ^ j) * 65536 ^ i) / 65536 ^ (i + j) = N % 65536 ^ i * M / 65536 ^ (i + j) + cc) ∧ Row wr w2.heap.size 175 .u64 (mix 65536 (N % 65536 ^ i * M) (N % 65536 ^ i * M + dig 65536 N i * (M % 65536 ^ j) * 65536 ^ i) (i + j)) (k + l + 1) ∧ Grew w2 wr)
      case atStart =>
        refine ⟨0, 0, rfl, rfl, rfl, by omega, Lib.hid (by simp [Nat.mod_one]), hR.congr (fun p _ => ?_), hG⟩
        simp [mix, Nat.mod_one]
      case round =>
        obtain ⟨j, c, hj, rfl, rfl, hc, hcar, hRr, hGr⟩ := hrel
        by_cases hjl : j < l
        · obtain ⟨bb, ob, rfl, hcb⟩ := b4.out (by omega)
          have hcx := hGr.cell (hca.out i (by omega))
          have hcy := hGr.cell (hcb j (by omega))
          have hcd := hRr.cell (p := i + j) (by omega)
          have hfz := hRr.frozen (i + j)
          have hx := dig_lt (B := 65536) (by omega) N i
          have hy := dig_lt (B := 65536) (by omega) M j
          have hmix : mix 65536 (N % 65536 ^ i * M) (N % 65536 ^ i * M + dig 65536 N i * (M % 65536 ^ j) * 65536 ^ i) (i + j) (i + j) = dig 65536 (N % 65536 ^ i * M) (i + j) := by unfold mix; rw [if_neg (by omega)]
          rw [hmix] at hcd
          have hrow := Lib.hid (mul_row (B := 65536) N M i j)
          have hstep := rmul_in _ _ _ _ _ _ hcar.out hx hy hc
          have hdd := dig_lt (B := 65536) (by omega) (N % 65536 ^ i * M) (i + j)
          rw [← hrow.out] at hstep
          have HR := Lib.hid hRr
          clear hRr hmix hR hcar hcb
          generalize hxx : dig 65536 N i = x at *
          generalize hyy : dig 65536 M j = y at *
          generalize hd : dig 65536 (N % 65536 ^ i * M) (i + j) = d at *
          have Hxx := Lib.hid hxx
          have Hyy := Lib.hid hyy
          have Hd := Lib.hid hd
          clear hxx hyy hd
          obtain ⟨s1, ⟨c', s2, s3, s4⟩, s5, s6, s7, s8, s9, s10⟩ := hstep
          have S1 := Lib.hid s1
          have S2 := Lib.hid s2
          have S4 := Lib.hid s4
          have hij : (i : Int) + j < (k : Int) + l + 1 := by omega
          have q1 : (i : Int) < (k : Int) := by omega
          have q2 : (j : Int) < (l : Int) := by omega
          clear s1 s2 s4
          go_wp2_with fail
          go_quiet (fail)
          go_wp2_with fail
          go_roundg (gk - 1)
          case rel =>
            refine ⟨j + 1, c', by omega, by go_num, by rw [S2.out], s3, Lib.hid ?_, ?_, ?_⟩
            · exact S4.out
            · rw [S1.out, hrow.out]
              exact rrow_in (HR.out.drewN nq) rfl
            · exact (hGr.drewN _).setCell (Nat.le_refl _) _
          case measure => omega
        · obtain rfl : j = l := by omega
          have hfz := hRr.frozen (i + j)
          have hcd := hRr.cell (p := i + j) (by omega)
          have HR := Lib.hid hRr
          have hij : (i : Int) + j < (k : Int) + j + 1 := by omega
          have hT : N % 65536 ^ i * M < 65536 ^ (i + j) := by
            rw [Nat.pow_add]; exact Nat.mul_lt_mul'' (Nat.mod_lt _ (pow_pos' (B := 65536) (by omega) i)) hMs.out
          have hU : N % 65536 ^ (i + 1) * M < 65536 ^ (i + j + 1) := by
            rw [show i + j + 1 = (i + 1) + j from by omega, Nat.pow_add 65536 (i + 1) j]; exact Nat.mul_lt_mul'' (Nat.mod_lt _ (pow_pos' (B := 65536) (by omega) (i + 1))) hMs.out
          have hUe : N % 65536 ^ i * M + dig 65536 N i * (M % 65536 ^ j) * 65536 ^ i = N % 65536 ^ (i + 1) * M := by
            rw [Nat.mod_eq_of_lt hMs.out]; exact mul_next N M i
          have hz : mix 65536 (N % 65536 ^ i * M) (N % 65536 ^ i * M + dig 65536 N i * (M % 65536 ^ j) * 65536 ^ i) (i + j) (i + j) = 0 := by
            unfold mix; rw [if_neg (by omega)]; exact dig_zero_of_lt (by omega) hT (Nat.le_refl _)
          rw [hz] at hcd
          have HT := Lib.hid hT
          have HU := Lib.hid hU
          have HUe := Lib.hid hUe
          clear hT hU hUe hRr hR hz
          go_wp2_with fail
          go_roundg (G - 1)
          case rel =>
            refine ⟨i + 1, by omega, by go_num, ?_, hGr.setCell (Nat.le_refl _) _⟩
            have h1 := hcar.out
            have h2 := HR.out
            rw [HUe.out] at h1 h2
            exact rrow_out h2 h1 HT.out HU.out hc
          case measure => omega
    · obtain rfl : i = k := by omega
      have hR' : Row wo w2.heap.size 175 .u64 (dig 65536 (N * M)) (i + l + 1) := by rw [Nat.mod_eq_of_lt hNs.out] at hR; exact hR
      have hlt2 : N * M < 65536 ^ (i + l + 1) := by
        refine Nat.lt_of_lt_of_le ?_ (Nat.pow_le_pow_right (by omega) (Nat.le_succ (i + l)))
        rw [Nat.pow_add]; exact Nat.mul_lt_mul'' hNs.out hMs.out
      have hnum := Lib.hid (hR'.num (B := 65536) (n := i + l + 1) (c := i + l + 1) (Nat.le_refl _) (Nat.le_refl _) (by omega) hlt2 (fun _ _ => rfl))
      have hG' := Lib.hid (g2.out.trans hG)
      clear hmk hR hR' hG hlt2
      go_wp2_with fail
      refine (rwords_any _ _ _ _ hnum.out (by omega)).mono ?_
      rintro e w4 ⟨v4, rfl, h4, g4⟩
      replace h4 := Lib.hid h4
      replace g4 := Lib.hid (hG'.out.trans g4)
      go_wp2_with fail
      go_ret
      exact ⟨_, rfl, h4.out, g4.out⟩
end Go.Proofs.YtngbcbncllfblaaGreat
