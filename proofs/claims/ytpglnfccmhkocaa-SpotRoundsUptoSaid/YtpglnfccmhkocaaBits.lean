/- math/bits: Add32, Sub32. Conditions: the operands are words. -/
import Derived.Test.YtpglnfccmhkocaaProg
import Derived.Test.YtpglnfccmhkocaaMem
namespace Go.Proofs.Ytpglnfccmhkocaa
open Go.RowKit

set_option maxHeartbeats 400000 in
theorem add32_any (x y c : Int) (w : World) (hx0 : 0 ≤ x) (hx : x < 4294967296) (hy0 : 0 ≤ y) (hy : y < 4294967296) (hc0 : 0 ≤ c) (hc : c ≤ 1) :
    Calls Try.prog 133 #[.int .u32 x, .int .u32 y, .int .u32 c] w fun e w' => e = .returned (.tuple #[.int .u32 ((x + y + c) % 4294967296), .int .u32 ((x + y + c) / 4294967296)]) ∧ w = w' := by
  go_enter Try.func133, Try.ntmps133
  go_wp2
  go_ret2
  exact ⟨rfl, rfl⟩

def bor (x y c : Int) : Int := if x < y + c then 1 else 0

theorem top31 (n : Nat) (h : n < 4294967296) : n / 2147483648 = (n.testBit 31).toNat := by
  rw [Nat.testBit_eq_decide_div_mod_eq]
  have : n / 2 ^ 31 % 2 = n / 2147483648 := by omega
  rw [this]
  rcases Nat.lt_or_ge n 2147483648 with hl | hl
  · have e : n / 2147483648 = 0 := by omega
    rw [e]; rfl
  · have e : n / 2147483648 = 1 := by omega
    rw [e]; rfl

theorem test31 (n : Nat) (h : n < 4294967296) : n.testBit 31 = decide (2147483648 ≤ n) := by
  rw [Nat.testBit_eq_decide_div_mod_eq]
  have : n / 2 ^ 31 % 2 = n / 2147483648 := by omega
  rw [this]
  rcases Nat.lt_or_ge n 2147483648 with hl | hl
  · have e : n / 2147483648 = 0 := by omega
    rw [e]; simp; omega
  · have e : n / 2147483648 = 1 := by omega
    rw [e]; simp; omega

theorem sub32_bits (x y c : Int) (hx0 : 0 ≤ x) (hx : x < 4294967296) (hy0 : 0 ≤ y) (hy : y < 4294967296) (hc0 : 0 ≤ c) (hc : c ≤ 1) :
    bits .or .u32 (bits .and .u32 (bits .xor .u32 IntKind.u32.max x) y) (bits .and .u32 (bits .xor .u32 IntKind.u32.max (bits .xor .u32 x y)) ((x - y - c) % 4294967296)) / 2147483648 = bor x y c := by
  have e0 : IntKind.u32.max = 4294967295 := rfl
  rw [e0]
  obtain ⟨x, rfl⟩ := Int.eq_ofNat_of_zero_le hx0
  obtain ⟨y, rfl⟩ := Int.eq_ofNat_of_zero_le hy0
  obtain ⟨d, hd⟩ := Int.eq_ofNat_of_zero_le (show 0 ≤ ((x : Int) - y - c) % 4294967296 by omega)
  have hd2 : d < 4294967296 := by omega
  rw [hd]
  have hxn : x < 2 ^ 32 := by omega
  have hyn : y < 2 ^ 32 := by omega
  have hdn : d < 2 ^ 32 := by omega
  have hm : 4294967295 < 2 ^ 32 := by omega
  have e1 : bits .xor .u32 (4294967295 : Int) x = ((4294967295 ^^^ x : Nat) : Int) := u32_xor_nat 4294967295 x (by omega) (by omega)
  have b1 : 4294967295 ^^^ x < 2 ^ 32 := Nat.xor_lt_two_pow hm hxn
  have e2 : bits .xor .u32 (x : Int) y = ((x ^^^ y : Nat) : Int) := u32_xor_nat x y (by omega) (by omega)
  have b2 : x ^^^ y < 2 ^ 32 := Nat.xor_lt_two_pow hxn hyn
  have e3 : bits .xor .u32 (4294967295 : Int) ((x ^^^ y : Nat) : Int) = ((4294967295 ^^^ (x ^^^ y) : Nat) : Int) := u32_xor_nat 4294967295 _ (by omega) (by omega)
  have b3 : 4294967295 ^^^ (x ^^^ y) < 2 ^ 32 := Nat.xor_lt_two_pow hm b2
  rw [e1, e2, e3, u32_and_nat _ _ (by omega) (by omega), u32_and_nat _ _ (by omega) (by omega)]
  have b4 : (4294967295 ^^^ x) &&& y < 2 ^ 32 := Nat.and_lt_two_pow _ hyn
  have b5 : (4294967295 ^^^ (x ^^^ y)) &&& d < 2 ^ 32 := Nat.and_lt_two_pow _ hdn
  rw [u32_or_nat _ _ (by omega) (by omega)]
  have b6 := Nat.or_lt_two_pow b4 b5
  have key := top31 _ (show ((4294967295 ^^^ x) &&& y ||| (4294967295 ^^^ (x ^^^ y)) &&& d) < 4294967296 by omega)
  have goal : (((((4294967295 ^^^ x) &&& y ||| (4294967295 ^^^ (x ^^^ y)) &&& d) / 2147483648 : Nat)) : Int) = bor x y c := by
    rw [key]
    simp only [Nat.testBit_or, Nat.testBit_and, Nat.testBit_xor]
    rw [test31 x (by omega), test31 y (by omega), test31 d hd2, show Nat.testBit 4294967295 31 = true from by decide]
    unfold bor
    by_cases h1 : 2147483648 ≤ x <;> by_cases h2 : 2147483648 ≤ y <;> by_cases h3 : 2147483648 ≤ d <;> simp [h1, h2, h3] <;> omega
  rw [← goal]
  omega

set_option maxHeartbeats 400000 in
theorem sub32_any (x y c : Int) (w : World) (hx0 : 0 ≤ x) (hx : x < 4294967296) (hy0 : 0 ≤ y) (hy : y < 4294967296) (hc0 : 0 ≤ c) (hc : c ≤ 1) :
    Calls Try.prog 134 #[.int .u32 x, .int .u32 y, .int .u32 c] w fun e w' => e = .returned (.tuple #[.int .u32 ((x - y - c) % 4294967296), .int .u32 (bor x y c)]) ∧ w = w' := by
  have hs : IntKind.u32.signed = false := rfl
  have hb := Lib.hid (sub32_bits x y c hx0 hx hy0 hy hc0 hc)
  go_enter Try.func134, Try.ntmps134
  go_wp2
  go_ret2
  exact ⟨ret_ints (by omega) hb.out, rfl⟩
end Go.Proofs.Ytpglnfccmhkocaa
