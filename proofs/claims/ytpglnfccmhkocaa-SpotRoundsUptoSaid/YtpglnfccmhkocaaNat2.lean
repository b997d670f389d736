/- nat.Uint, nat.Bits, nat.Sub. Condition: what comes in reads; fewer than 2^40 words. -/
import Derived.Test.YtpglnfccmhkocaaNat1
namespace Go.Proofs.Ytpglnfccmhkocaa
open Go.RowKit

theorem or_low (a b : Nat) (ha : a < 4294967296) (hb : b < 4294967296) : bits .or .u64 ((a : Int) * 4294967296) (b : Int) = (a : Int) * 4294967296 + b := by
  have h := u64_or_nat (a * 4294967296) b (by omega) (by omega)
  rw [show a * 4294967296 ||| b = a * 4294967296 + b from by
    have := Nat.two_pow_add_eq_or_of_lt (i := 32) (b := b) (by omega) a
    rw [Nat.mul_comm a 4294967296]
    exact this.symm] at h
  rw [show ((a * 4294967296 : Nat) : Int) = (a : Int) * 4294967296 from by omega] at h
  rw [h]; omega

theorem eq_dig1 {N : Nat} (h : N < 4294967296 ^ 1) : N = dig 4294967296 N 0 := by simp [dig]; omega
theorem eq_dig2 {N : Nat} (h : N < 4294967296 ^ 2) : N = dig 4294967296 N 1 * 4294967296 + dig 4294967296 N 0 := by
  simp only [Nat.reducePow] at h
  simp [dig]; omega

def uintV (N : Nat) : Nat := if len 4294967296 N ≤ 2 then N else 0
def uintOk (N : Nat) : Bool := decide (len 4294967296 N ≤ 2)
theorem uint_yes {N : Nat} (h : len 4294967296 N ≤ 2) : uintV N = N ∧ uintOk N = true := ⟨if_pos h, decide_eq_true h⟩
theorem uint_no {N : Nat} (h : ¬ len 4294967296 N ≤ 2) : uintV N = 0 ∧ uintOk N = false := ⟨if_neg h, decide_eq_false h⟩

set_option maxRecDepth 100000 in
set_option maxHeartbeats 1000000 in
theorem uint_any (va : Value) (N n : Nat) (w : World) (ha : Num 4294967296 .u32 w va N n) :
    Calls Try.prog 53 #[va] w fun e w' => e = .returned (.tuple #[.int .u64 (uintV N : Nat), .bool (uintOk N)]) ∧ w = w' := by
  have hn := ha.len_le (by omega)
  have hNs := lt_len (B := 4294967296) (by omega) N
  generalize hk : len 4294967296 N = k at *
  have Hk := Lib.hid hk
  clear hk
  obtain ⟨A, ca, rfl, a1, a2, a3, a4⟩ := id ha
  rcases k with _ | _ | _ | k
  · obtain rfl : N = 0 := by simpa using hNs
    go_enter Try.func53, Try.ntmps53
    go_wp2_with fail
    refine (size_any _ _ _ _ ha).mono ?_
    rintro e w' ⟨rfl, rfl⟩
    rw [Hk.out]
    go_wp2_with fail
    go_ret2
    exact ⟨rfl, rfl⟩
  · obtain ⟨b, off, rfl, hc⟩ := a4 (by omega)
    have hc0 : w.cell? ⟨b, off, none⟩ = _ := hc 0 (by omega)
    have q0 : (0 : Int) < (n : Int) := by omega
    have e1 := Lib.hid (eq_dig1 hNs)
    have hx := dig_lt (B := 4294967296) (by omega) N 0
    have hor := or_low 0 (dig 4294967296 N 0) (by omega) hx
    rw [show ((0 : Nat) : Int) * 4294967296 = 0 from rfl] at hor
    clear hc a4 hNs a3
    generalize dig 4294967296 N 0 = x at *
    go_enter Try.func53, Try.ntmps53
    go_wp2_with fail
    refine (size_any _ _ _ _ ha).mono ?_
    rintro e w' ⟨rfl, rfl⟩
    rw [Hk.out]
    go_wp2_with fail
    go_ret2
    have e2 := uint_yes (N := N) (by rw [Hk.out]; omega)
    exact ⟨ret_ib (by rw [e2.1, ← e1.out]) e2.2.symm, rfl⟩
  · obtain ⟨b, off, rfl, hc⟩ := a4 (by omega)
    have hc0 : w.cell? ⟨b, off, none⟩ = _ := hc 0 (by omega)
    have q0 : (0 : Int) < (n : Int) := by omega
    have hc1 := hc 1 (by omega)
    have q1 : (1 : Int) < (n : Int) := by omega
    have e1 := Lib.hid (eq_dig2 hNs)
    have hx := dig_lt (B := 4294967296) (by omega) N 0
    have hy := dig_lt (B := 4294967296) (by omega) N 1
    have hor := or_low _ _ hy hx
    clear hc a4 hNs a3
    generalize dig 4294967296 N 0 = x at *
    generalize dig 4294967296 N 1 = y at *
    go_enter Try.func53, Try.ntmps53
    go_wp2_with fail
    refine (size_any _ _ _ _ ha).mono ?_
    rintro e w' ⟨rfl, rfl⟩
    rw [Hk.out]
    go_wp2_with fail
    go_ret2
    have e2 := uint_yes (N := N) (by rw [Hk.out]; omega)
    exact ⟨ret_ib (by rw [e2.1, e1.out]; omega) e2.2.symm, rfl⟩
  · have hk2 : ((k + 1 + 1 + 1 : Nat) : Int) = (k : Int) + 3 := by omega
    go_enter Try.func53, Try.ntmps53
    go_wp2_with fail
    refine (size_any _ _ _ _ ha).mono ?_
    rintro e w' ⟨rfl, rfl⟩
    rw [Hk.out, hk2]
    go_wp2_with fail
    go_ret2
    have e2 := uint_no (N := N) (by rw [Hk.out]; omega)
    exact ⟨ret_ib (by rw [e2.1]; rfl) e2.2.symm, rfl⟩

theorem bitLenAux_le : ∀ f x : Nat, Lib.bitLenAux f x ≤ f
  | 0, x => by simp [Lib.bitLenAux]
  | f + 1, x => by
    unfold Lib.bitLenAux
    split
    · omega
    · have := bitLenAux_le f (x / 2); omega
theorem bitLen_le (x : Nat) : Lib.bitLen x ≤ 64 := bitLenAux_le 64 x
theorem bitLenAux_bd : ∀ f x : Nat, x < 2 ^ f → x < 2 ^ Lib.bitLenAux f x ∧ (x ≠ 0 → 0 < Lib.bitLenAux f x ∧ 2 ^ (Lib.bitLenAux f x - 1) ≤ x)
  | 0, x, h => by
    simp only [Nat.pow_zero] at h
    obtain rfl : x = 0 := by omega
    simp [Lib.bitLenAux]
  | f + 1, x, h => by
    rw [Nat.pow_succ] at h
    obtain ⟨h1, h2⟩ := bitLenAux_bd f (x / 2) (by omega)
    unfold Lib.bitLenAux
    split
    · rename_i h0; subst h0; simp
    · rename_i h0
      rw [Nat.add_comm 1, Nat.pow_succ]
      refine ⟨by omega, fun _ => ⟨by omega, ?_⟩⟩
      rw [Nat.add_sub_cancel]
      by_cases hx : x / 2 = 0
      · rw [hx]
        have : Lib.bitLenAux f 0 = 0 := by cases f <;> simp [Lib.bitLenAux]
        rw [this]; simp; omega
      · obtain ⟨h3, h4⟩ := h2 hx
        generalize Lib.bitLenAux f (x / 2) = b at *
        obtain ⟨c, rfl⟩ : ∃ c, b = c + 1 := ⟨b - 1, by omega⟩
        rw [Nat.add_sub_cancel] at h4
        rw [Nat.pow_succ]
        omega

/-- How many bits a number has. -/
def nbits (N : Nat) : Nat := if N = 0 then 0 else (len 4294967296 N - 1) * 32 + Lib.bitLen (dig 4294967296 N (len 4294967296 N - 1))

set_option maxRecDepth 100000 in
set_option maxHeartbeats 1000000 in
theorem bits_any (va : Value) (N n : Nat) (w : World) (ha : Num 4294967296 .u32 w va N n) (hs1 : len 4294967296 N < 1099511627776) :
    Calls Try.prog 49 #[va] w fun e w' => e = .returned (.int .i64 (nbits N : Nat)) ∧ w = w' := by
  have hn := ha.len_le (by omega)
  have hNs := lt_len (B := 4294967296) (by omega) N
  have HD : Hid (nbits N = if N = 0 then 0 else (len 4294967296 N - 1) * 32 + Lib.bitLen (dig 4294967296 N (len 4294967296 N - 1))) := Lib.hid rfl
  have htop := Lib.hid (fun k h => top_ne (B := 4294967296) (N := N) (k := k) (by omega) h)
  generalize nbits N = r at *
  generalize hk : len 4294967296 N = k at *
  have Hk := Lib.hid hk
  clear hk
  obtain ⟨A, ca, rfl, a1, a2, a3, a4⟩ := id ha
  rcases k with _ | k
  · obtain rfl : N = 0 := by simpa using hNs
    obtain rfl : r = 0 := HD.out
    go_enter Try.func49, Try.ntmps49
    go_wp2_with fail
    refine (size_any _ _ _ _ ha).mono ?_
    rintro e w' ⟨rfl, rfl⟩
    rw [Hk.out]
    go_wp2_with fail
    go_ret
    exact ⟨rfl, rfl⟩
  · obtain ⟨b, off, rfl, hc⟩ := a4 (by omega)
    have hc0 := hc k (by omega)
    have hx := dig_lt (B := 4294967296) (by omega) N k
    have ht := htop.out k rfl
    have q0 : (k : Int) < (n : Int) := by omega
    have HD' := Lib.hid HD.out
    rw [show k + 1 - 1 = k from by omega, if_neg (by rintro rfl; simp [dig] at ht)] at HD'
    clear hc a4 hNs a3 HD htop
    generalize dig 4294967296 N k = x at *
    have hb : Lib.bitLen x ≤ 64 := bitLen_le x
    generalize hbl : Lib.bitLen x = bl at *
    have Hbl := Lib.hid hbl
    clear hbl
    go_enter Try.func49, Try.ntmps49
    go_wp2_with fail
    refine (size_any _ _ _ _ ha).mono ?_
    rintro e w' ⟨rfl, rfl⟩
    rw [Hk.out, mk1]
    go_wp2_with fail
    refine (Try.bits_Len32 _ _ (by omega) (by omega)).mono ?_
    rintro e w' ⟨rfl, rfl⟩
    rw [Int.toNat_natCast, Hbl.out]
    go_wp2_with fail
    go_ret
    exact ⟨ret_int (by rw [HD'.out]; omega), rfl⟩

end Go.Proofs.Ytpglnfccmhkocaa
