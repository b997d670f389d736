/- nat.Sub: what is left of a number. Condition: both read; fewer than 2^40 words. -/
import Derived.Test.YtpglnfccmhkocaaNat2
namespace Go.Proofs.Ytpglnfccmhkocaa
open Go.RowKit

theorem sub_step (N M k : Nat) (x y c : Nat) (hle : M ≤ N) (hx : x = dig 4294967296 N k) (hy : y = dig 4294967296 M k) (hc : c = borrow 4294967296 N M k) :
    (((x : Int) - y - c) % 4294967296 = (dig 4294967296 (N - M) k : Nat)) ∧ (bor x y c = (borrow 4294967296 N M (k + 1) : Nat)) := by
  have h1 := borrow_dig (B := 4294967296) (by omega) N M k hle
  have h2 := borrow_succ (B := 4294967296) (by omega) N M k
  have h3 := borrow_le (B := 4294967296) N M k
  have h4 := dig_lt (B := 4294967296) (by omega) N k
  have h5 := dig_lt (B := 4294967296) (by omega) M k
  rw [← hx, ← hy, ← hc] at h1 h2
  rw [← hc] at h3
  rw [← hx] at h4
  rw [← hy] at h5
  rw [← h1, h2]
  constructor
  · omega
  · unfold bor
    by_cases h : x < y + c
    · rw [if_pos h, if_pos (by omega)]; rfl
    · rw [if_neg h, if_neg (by omega)]; rfl

set_option maxRecDepth 100000 in
set_option maxHeartbeats 1000000 in
theorem sub_no (va vb : Value) (N M n m : Nat) (w : World) (ha : Num 4294967296 .u32 w va N n) (hb : Num 4294967296 .u32 w vb M m) (hlt : N < M) :
    Calls Try.prog 117 #[va, vb] w fun e w' => e = .returned (.tuple #[.slice none 0 0, .bool false]) ∧ Grew w w' := by
  go_enter Try.func117, Try.ntmps117
  go_wp2_with fail
  refine (cmp_any _ _ _ _ _ _ _ ha hb).mono ?_
  rintro e w1 ⟨rfl, hG⟩
  rw [cmpN_lt hlt]
  go_wp2_with fail
  go_ret2
  exact ⟨rfl, hG⟩

set_option maxRecDepth 100000 in
set_option maxHeartbeats 1000000 in
theorem sub_yes (va vb : Value) (N M n m : Nat) (w : World) (ha : Num 4294967296 .u32 w va N n) (hb : Num 4294967296 .u32 w vb M m) (hle : M ≤ N) (hsz : len 4294967296 N < 1099511627776) :
    Calls Try.prog 117 #[va, vb] w fun e w' => ∃ v, e = .returned (.tuple #[v, .bool true]) ∧ Num 4294967296 .u32 w' v (N - M) (len 4294967296 (N - M)) ∧ Grew w w' := by
  have hNs := lt_len (B := 4294967296) (by omega) N
  have hMs := lt_len (B := 4294967296) (by omega) M
  have hn := ha.len_le (by omega)
  have hm := hb.len_le (by omega)
  have hml := len_mono (B := 4294967296) (by omega) hle
  have hc0 : ¬ cmpN N M < 0 := by
    unfold cmpN
    rw [if_neg (by omega)]
    split <;> omega
  have hr := len_mono (B := 4294967296) (by omega) (Nat.sub_le N M)
  have hrl := lt_pow_of_len (B := 4294967296) (by omega) hr
  have Hle := Lib.hid hle
  clear hle
  generalize hk : len 4294967296 N = k at *
  generalize hl : len 4294967296 M = l at *
  have Hk := Lib.hid hk
  have Hl := Lib.hid hl
  clear hk hl
  generalize hcm : cmpN N M = cm at *
  have Hcm := Lib.hid hcm
  clear hcm
  have Hrl := Lib.hid hrl
  clear hrl
  have hmk := make_u32 0 k (by omega) (by omega)
  rw [mk0] at hmk
  obtain ⟨A, ca, rfl, a1, a2, a3, a4⟩ := id ha
  obtain ⟨C, cb, rfl, b1, b2, b3, b4⟩ := id hb
  have hcb : decide (cm < 0) = false := by simp; omega
  go_enter Try.func117, Try.ntmps117
  go_wp2_with fail
  refine (cmp_any _ _ _ _ _ _ _ ha hb).mono ?_
  rintro e w1 ⟨rfl, hG⟩
  rw [Hcm.out]
  go_wp2_with fail
  refine (size_any _ _ _ _ (ha.grew hG)).mono ?_
  rintro e w' ⟨rfl, rfl⟩
  rw [Hk.out]
  go_wp2_with fail
  refine (size_any _ _ _ _ (hb.grew hG)).mono ?_
  rintro e w' ⟨rfl, rfl⟩
  rw [Hl.out]
  clear ha hb
  go_wp2_with fail
  go_loopg [8, 9, 25] k (fun gk out cr i wr => ∃ j : Nat, gk + j = k ∧ i = .int .i64 j ∧ cr = .int .u32 (borrow 4294967296 N M j : Nat) ∧ wr.ownsRow w1.heap.size 80 1 out j (dvals 4294967296 .u32 (N - M) j) ∧ Grew w1 wr)
  case atStart => exact ⟨0, rfl, rfl, by rw [borrow_zero]; rfl, World.ownsRow_made _ _ _ (Nat.le_refl _) (by simp only [maxLen]; omega) (by simp [size_madeCells]), (Grew.refl _).alloc _⟩
  case round =>
    obtain ⟨j, hj, rfl, rfl, hown, hG1⟩ := hrel
    by_cases hlt : j < k
    · obtain ⟨ba, oa, rfl, hca⟩ := a4 (by omega)
      have hcx := hG1.cell (hG.cell (hca j (by omega)))
      have hx := dig_lt (B := 4294967296) (by omega) N j
      have hcl := borrow_le (B := 4294967296) N M j
      by_cases hjl : j < l
      · obtain ⟨bb, ob, rfl, hcbb⟩ := b4 (by omega)
        have hcy := hG1.cell (hG.cell (hcbb j (by omega)))
        have hy := dig_lt (B := 4294967296) (by omega) M j
        have hstep := Lib.hid (sub_step N M j _ _ _ Hle.out rfl rfl rfl)
        have hsucc := Lib.hid (dvals_succ 4294967296 .u32 (N - M) j)
        generalize dig 4294967296 N j = x at *
        generalize dig 4294967296 M j = y at *
        generalize borrow 4294967296 N M j = c at *
        go_wp2_with (first | fail | (go_at_call 134; refine (sub32_any _ _ _ _ (by omega) (by omega) (by omega) (by omega) (by omega) (by omega)).mono ?_; rintro e w' ⟨rfl, rfl⟩) | (at_builtin; refine wpList_app1 _ rfl (.tmp 45) (.tmp 47) 22 rfl w1.heap.size 80 (.int .u32 0) 1 4 Try.underlying22 info_u32 rfl (by omega) _ j _ rfl hown _ rfl (by simp [Value.oneCell']) rfl (by omega) (by omega) (by exact hG1.size) ?_; intro v1 w2 hown1 hG2))
        go_roundg (gk - 1)
        case rel => exact ⟨j + 1, by omega, by go_num, by rw [hstep.out.2], by rw [hsucc.out, ← hstep.out.1]; exact hown1, hG2 _ (Nat.le_refl _) hG1⟩
        case measure => omega
      · have hy0 : dig 4294967296 M j = 0 := dig_zero_of_lt (by omega) hMs (by omega)
        have hstep := Lib.hid (sub_step N M j _ 0 _ Hle.out rfl hy0.symm rfl)
        have hsucc := Lib.hid (dvals_succ 4294967296 .u32 (N - M) j)
        clear hy0
        generalize dig 4294967296 N j = x at *
        generalize borrow 4294967296 N M j = c at *
        go_wp2_with (first | fail | (go_at_call 134; refine (sub32_any _ _ _ _ (by omega) (by omega) (by omega) (by omega) (by omega) (by omega)).mono ?_; rintro e w' ⟨rfl, rfl⟩) | (at_builtin; refine wpList_app1 _ rfl (.tmp 45) (.tmp 47) 22 rfl w1.heap.size 80 (.int .u32 0) 1 4 Try.underlying22 info_u32 rfl (by omega) _ j _ rfl hown _ rfl (by simp [Value.oneCell']) rfl (by omega) (by omega) (by exact hG1.size) ?_; intro v1 w2 hown1 hG2))
        go_roundg (gk - 1)
        case rel => exact ⟨j + 1, by omega, by go_num, by rw [← hstep.out.2]; rfl, by rw [hsucc.out, ← hstep.out.1]; exact hown1, hG2 _ (Nat.le_refl _) hG1⟩
        case measure => omega
    · obtain rfl : j = k := by omega
      have hnum := Num.of_own hown Hrl.out
      obtain ⟨D, cd, rfl, d1, d2, d3, d4⟩ := id hnum
      have q1 : ((len 4294967296 (N - M) : Nat) : Int) ≤ (j : Int) := by omega
      have q2 : ((len 4294967296 (N - M) : Nat) : Int) ≤ (cd : Int) := by omega
      have hcut := hnum.cut (k := len 4294967296 (N - M)) hr (lt_len (by omega) _)
      clear hmk hown d3
      go_wp2_with fail
      refine (size_any _ _ _ _ hnum).mono ?_
      rintro e w' ⟨rfl, rfl⟩
      have Hcut := Lib.hid hcut
      clear hcut hnum
      generalize hs : len 4294967296 (N - M) = s at *
      have Hs := Lib.hid hs
      clear hs
      go_wp2_with fail
      go_ret2
      exact ⟨_, rfl, by rw [Hs.out]; exact Hcut.out, hG.trans hG1⟩
end Go.Proofs.Ytpglnfccmhkocaa
