/- nat.Div: how often a number is in another one, and what is left. Condition: both read; fewer than 2^39 words. -/
import Derived.Test.YtpglnfccmhkocaaDivP
import Derived.Deep.RegionHeld3
import Derived.Deep.RegionWith
namespace Go.Proofs.Ytpglnfccmhkocaa
open Go.RowKit

set_option maxRecDepth 100000 in
set_option maxHeartbeats 4000000 in
theorem div_zero (va vb : Value) (N n m : Nat) (w : World) (ha : Num 4294967296 .u32 w va N n) (hb : Num 4294967296 .u32 w vb 0 m) :
    Calls Try.prog 115 #[va, vb] w fun e w' => e = .returned (.tuple #[.slice none 0 0, .slice none 0 0, .bool false]) ∧ w = w' := by
  go_enter Try.func115, Try.ntmps115
  go_wp2_with fail
  refine (size_any _ _ _ _ ha).mono ?_
  rintro e w' ⟨rfl, rfl⟩
  go_wp2_with fail
  refine (size_any _ _ _ _ hb).mono ?_
  rintro e w' ⟨rfl, rfl⟩
  rw [len_zero]
  go_wp2_with fail
  go_ret3
  exact ⟨rfl, rfl⟩

set_option maxRecDepth 100000 in
set_option maxHeartbeats 4000000 in
theorem div_less (va vb : Value) (N M n m : Nat) (w : World) (ha : Num 4294967296 .u32 w va N n) (hb : Num 4294967296 .u32 w vb M m) (hlt : N < M) (hsz : len 4294967296 N < 1099511627776) :
    Calls Try.prog 115 #[va, vb] w fun e w' => ∃ q r, e = .returned (.tuple #[q, r, .bool true]) ∧ Num 4294967296 .u32 w' q (N / M) (len 4294967296 (N / M)) ∧ Num 4294967296 .u32 w' r (N % M) (len 4294967296 (N % M)) ∧ Grew w w' := by
  have hl0 : len 4294967296 M ≠ 0 := fun h => by have := (len_eq_zero (B := 4294967296) (by omega)).1 h; omega
  have hnil : Num 4294967296 .u32 w (.slice none 0 0) 0 (len 4294967296 0) := Num.nil _ _ _
  generalize hl : len 4294967296 M = l at *
  have Hl := Lib.hid hl
  clear hl
  have hl1 : ((l : Int) == 0) = false := by simp; omega
  go_enter Try.func115, Try.ntmps115
  go_wp2_with fail
  refine (size_any _ _ _ _ ha).mono ?_
  rintro e w' ⟨rfl, rfl⟩
  go_wp2_with fail
  refine (size_any _ _ _ _ hb).mono ?_
  rintro e w' ⟨rfl, rfl⟩
  rw [Hl.out]
  go_wp2_with fail
  refine (cmp_any _ _ _ _ _ _ _ ha hb).mono ?_
  rintro e w1 ⟨rfl, hG⟩
  rw [cmpN_lt hlt]
  go_wp2_with fail
  refine (trim_any _ _ _ _ (ha.grew hG) hsz).mono ?_
  rintro e w2 ⟨v, rfl, h1, h2⟩
  go_wp2_with fail
  go_ret3
  refine ⟨_, _, rfl, ?_, ?_, hG.trans h2⟩
  · rw [Nat.div_eq_of_lt hlt]; exact (hnil.grew hG).grew h2
  · rw [Nat.mod_eq_of_lt hlt]; exact h1

theorem cmp_ge {N M : Nat} (h : M ≤ N) : decide (cmpN N M < 0) = false := by
  unfold cmpN
  rw [if_neg (by omega)]
  split <;> simp

set_option maxRecDepth 100000 in
set_option maxHeartbeats 4000000 in
theorem div_one (va vb : Value) (N M n m : Nat) (w : World) (ha : Num 4294967296 .u32 w va N n) (hb : Num 4294967296 .u32 w vb M m) (hle : M ≤ N) (h1 : len 4294967296 M = 1) (hsz : len 4294967296 N < 1099511627776) :
    Calls Try.prog 115 #[va, vb] w fun e w' => ∃ q r, e = .returned (.tuple #[q, r, .bool true]) ∧ Num 4294967296 .u32 w' q (N / M) (len 4294967296 (N / M)) ∧ Num 4294967296 .u32 w' r (N % M) (len 4294967296 (N % M)) ∧ Grew w w' := by
  have hm := hb.len_le (by omega)
  have hM := lt_len (B := 4294967296) (by omega) M
  rw [h1] at hM hm
  have hM0 : 0 < M := by
    rcases Nat.eq_zero_or_pos M with h | h
    · subst h; simp [len_zero] at h1
    · exact h
  have hdM : dig 4294967296 M 0 = M := (eq_dig1 hM).symm
  rw [Nat.pow_one] at hM
  obtain ⟨C, cb, rfl, b1, b2, b3, b4⟩ := id hb
  obtain ⟨bb, ob, rfl, hcb⟩ := b4 (by omega)
  have hc0 : w.cell? ⟨bb, ob, none⟩ = _ := hcb 0 (by omega)
  rw [hdM] at hc0
  have hcge := cmp_ge hle
  have H1 := Lib.hid h1
  have Hle := Lib.hid hle
  have q0 : (0 : Int) < (m : Int) := by omega
  have hrl : N % M < 4294967296 := Nat.lt_trans (Nat.mod_lt _ hM0) hM
  clear h1 hle hdM b3 b4 hcb
  generalize hcm : cmpN N M = cm at *
  have Hcm := Lib.hid hcm
  clear hcm
  go_enter Try.func115, Try.ntmps115
  go_wp2_with fail
  refine (size_any _ _ _ _ ha).mono ?_
  rintro e w' ⟨rfl, rfl⟩
  go_wp2_with fail
  refine (size_any _ _ _ _ hb).mono ?_
  rintro e w' ⟨rfl, rfl⟩
  rw [H1.out]
  go_wp2_with fail
  refine (cmp_any _ _ _ _ _ _ _ ha hb).mono ?_
  rintro e w1 ⟨rfl, hG⟩
  rw [Hcm.out]
  have hc1 := hG.cell hc0
  go_wp2_with fail
  refine (small_any _ _ _ _ _ (ha.grew hG) hM0 hM hsz).mono ?_
  rintro e w2 ⟨v, rfl, hq, hG2⟩
  go_wp2_with fail
  refine (of_any _ (N % M) _ rfl (by omega)).mono ?_
  rintro e w3 ⟨r, rfl, hr, hG3⟩
  go_wp2_with fail
  go_ret3
  exact ⟨_, _, rfl, hq.grew hG3, hr, (hG.trans hG2).trans hG3⟩
end Go.Proofs.Ytpglnfccmhkocaa
