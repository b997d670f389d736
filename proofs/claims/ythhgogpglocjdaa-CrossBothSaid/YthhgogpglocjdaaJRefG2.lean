/- r01.Div, the short ways. Condition: what comes in reads; fewer than 2^37 words. r01.Div, the long way: bit by bit. Condition: what comes in reads; fewer than 2^37 words. r03.copied, r03.zero, r03.halved. Condition: what comes in reads; fewer than 2^40 words. r03.below, r03.less. Condition: what comes in reads, without noughts at the top; fewer than 2^40 words. -/
import Derived.Test.YthhgogpglocjdaaJWv
import Derived.Deep.DeepCutAuto
import Derived.RegionTactic
namespace Go.Proofs.Ythhgogpglocjdaa
open Go.RowKit

theorem u64_nat (y : Nat) (h : y < 18446744073709551616) : IntKind.u64.wrap (y : Int) = (y : Int) := IntWalk.u64_in _ ⟨by omega, by omega⟩

end Go.Proofs.Ythhgogpglocjdaa
namespace Go.Proofs.Ythhgogpglocjdaa
open Go.RowKit

theorem row_step {w : World} {g t L T U s v : Nat} {K : IntKind} (h : Row w g t K (mix 65536 T U s) L) (hv : v = dig 65536 U s) :
    Row (w.setCell ⟨g, s, none⟩ (.int K (v : Nat))) g t K (mix 65536 T U (s + 1)) L := by
  refine (h.set s v).congr fun p _ => ?_
  by_cases e : p = s
  · subst e; simp [mix, hv]
  · simp only [if_neg e, mix]
    by_cases hp : p < s
    · rw [if_pos hp, if_pos (by omega)]
    · rw [if_neg hp, if_neg (by omega)]
theorem row_start {w : World} {g t L T U : Nat} {K : IntKind} (h : Row w g t K (dig 65536 T) L) : Row w g t K (mix 65536 T U 0) L := h.congr fun p _ => by simp [mix]
theorem row_end {w : World} {g t L T U : Nat} {K : IntKind} (h : Row w g t K (mix 65536 T U L) L) : Row w g t K (dig 65536 U) L := h.congr fun p hp => by simp [mix, hp]

theorem bit_sum (d r : Nat) (h : d + 2 ^ r < 65536) : IntKind.u64.wrap ((d : Int) + IntKind.u64.wrap ((2 : Int) ^ r)) = ((d + 2 ^ r : Nat) : Int) := by
  have e : ((2 : Int) ^ r) = ((2 ^ r : Nat) : Int) := by simp
  rw [e]
  generalize 2 ^ r = y at *
  rw [u64_nat y (by omega), ← Int.natCast_add, u64_nat _ (by omega)]
theorem two_rows (w : World) (t : TypeId) (a b : Nat) : Row ((w.alloc (.cells (madeCells #[.int .u64 0] a) t)).alloc (.cells (madeCells #[.int .u64 0] b) t)).drew w.heap.size t .u64 (fun _ => 0) a ∧
    Row ((w.alloc (.cells (madeCells #[.int .u64 0] a) t)).alloc (.cells (madeCells #[.int .u64 0] b) t)).drew (w.heap.size + 1) t .u64 (fun _ => 0) b ∧ Grew w ((w.alloc (.cells (madeCells #[.int .u64 0] a) t)).alloc (.cells (madeCells #[.int .u64 0] b) t)).drew := by
  refine ⟨((Row.made w t .u64 a).alloc _).drew, ?_, (((Grew.refl w).alloc _).alloc _).drew⟩
  have h := (Row.made (w.alloc (.cells (madeCells #[.int .u64 0] a) t)) t .u64 b).drew
  simpa using h

end Go.Proofs.Ythhgogpglocjdaa
namespace Go.Proofs.Ythhgogpglocjdaa
open Go.RowKit

theorem mod_zero_succ {N k : Nat} (h : N % 4294967296 ^ k = 0) (hd : dig 4294967296 N k = 0) : N % 4294967296 ^ (k + 1) = 0 := by
  rw [mod_succ, h, hd]; simp

theorem dig_halve (N k : Nat) : dig 4294967296 (N / 2) k = dig 4294967296 N k / 2 + dig 4294967296 N (k + 1) % 2 * 2147483648 := by
  unfold dig
  rw [Nat.pow_succ, ← Nat.div_div_eq_div_mul, Nat.div_div_eq_div_mul N 2, Nat.mul_comm 2, ← Nat.div_div_eq_div_mul]
  generalize N / 4294967296 ^ k = x
  omega
theorem dig_halve_last (N k : Nat) (h : dig 4294967296 N (k + 1) = 0) : dig 4294967296 (N / 2) k = dig 4294967296 N k / 2 := by
  rw [dig_halve, h]; simp

end Go.Proofs.Ythhgogpglocjdaa
namespace Go.Proofs.Ythhgogpglocjdaa
open Go.RowKit

theorem less_step (N M k : Nat) (x y c : Nat) (hle : M ≤ N) (hx : x = dig 4294967296 N k) (hy : y = dig 4294967296 M k) (hc : c = borrow 4294967296 N M k) :
    ((4294967296 + (x : Int) - c - y) % 4294967296 = (dig 4294967296 (N - M) k : Nat)) ∧ (1 - (4294967296 + (x : Int) - c - y) / 4294967296 = (borrow 4294967296 N M (k + 1) : Nat)) := by
  have hx2 := dig_lt (B := 4294967296) (by omega) N k
  have hy2 := dig_lt (B := 4294967296) (by omega) M k
  have hc2 := borrow_le (B := 4294967296) N M k
  have h1 := borrow_dig (B := 4294967296) (by omega) N M k hle
  have h2 := borrow_succ (B := 4294967296) (by omega) N M k
  rw [← h1, h2]
  subst hx; subst hy; subst hc
  constructor
  · omega
  · split <;> omega

end Go.Proofs.Ythhgogpglocjdaa
