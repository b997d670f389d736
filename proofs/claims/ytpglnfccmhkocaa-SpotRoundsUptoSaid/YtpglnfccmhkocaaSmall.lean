/- nat.small: a number by one word. Condition: it reads; the word isn't 0; fewer than 2^40 words. -/
import Derived.Test.YtpglnfccmhkocaaMul
import Derived.RegionTactic
import Derived.BigRegion
namespace Go.Proofs.Ytpglnfccmhkocaa
open Go.RowKit

theorem small_step (N b i r : Nat) (hb : 0 < b) (hr : r = N / 4294967296 ^ (i + 1) % b) :
    (r * 4294967296 + dig 4294967296 N i) / b = dig 4294967296 (N / b) i ∧ (r * 4294967296 + dig 4294967296 N i) % b = N / 4294967296 ^ i % b ∧ (r * 4294967296 + dig 4294967296 N i) / b < 4294967296 := by
  have h1 := div_succ (B := 4294967296) N i
  have h2 := dig_lt (B := 4294967296) (by omega) N i
  have h3 := Nat.div_add_mod (N / 4294967296 ^ (i + 1)) b
  have h4 := Nat.mod_lt (N / 4294967296 ^ (i + 1)) hb
  have h5 : dig 4294967296 (N / b) i = N / 4294967296 ^ i / b % 4294967296 := by
    unfold dig; rw [Nat.div_div_eq_div_mul, Nat.mul_comm, ← Nat.div_div_eq_div_mul]
  rw [h5]
  rw [← hr] at h3 h4
  generalize dig 4294967296 N i = d at *
  generalize N / 4294967296 ^ (i + 1) = H at *
  generalize N / 4294967296 ^ i = X at *
  clear hr h5
  have e : X = r * 4294967296 + d + b * (4294967296 * (H / b)) := by
    rw [h1]
    have : 4294967296 * H = 4294967296 * (b * (H / b)) + 4294967296 * r := by rw [← Nat.mul_add, h3]
    rw [this, show b * (4294967296 * (H / b)) = 4294967296 * (b * (H / b)) from by simp only [Nat.mul_left_comm]]
    omega
  have e2 : (r * 4294967296 + d) / b < 4294967296 := by
    rw [Nat.div_lt_iff_lt_mul hb]
    have : (r + 1) * 4294967296 ≤ b * 4294967296 := Nat.mul_le_mul_right _ h4
    omega
  refine ⟨?_, ?_, e2⟩
  · rw [e, Nat.add_mul_div_left _ _ hb, Nat.add_mul_mod_self_left, Nat.mod_eq_of_lt e2]
  · rw [e, Nat.add_mul_mod_self_left]

theorem small_cast (r x b : Nat) (h : (r * 4294967296 + x) / b < 4294967296) : ((r : Int) * 4294967296 + x) / b % 4294967296 = (((r * 4294967296 + x) / b : Nat) : Int) ∧ ((r : Int) * 4294967296 + x) % b = (((r * 4294967296 + x) % b : Nat) : Int) := by
  have e : (r : Int) * 4294967296 + x = ((r * 4294967296 + x : Nat) : Int) := by omega
  rw [e, ← Int.natCast_ediv, ← Int.natCast_emod]
  refine ⟨?_, rfl⟩
  generalize (r * 4294967296 + x) / b = q at h ⊢
  omega

set_option maxRecDepth 100000 in
set_option maxHeartbeats 4000000 in
theorem small_any (va : Value) (N n b : Nat) (w : World) (ha : Num 4294967296 .u32 w va N n) (hb0 : 0 < b) (hbB : b < 4294967296) (hsz : len 4294967296 N < 1099511627776) :
    Calls Try.prog 128 #[va, .int .u32 (b : Int)] w fun e w' => ∃ v, e = .returned (.tuple #[v, .int .u32 ((N % b : Nat) : Int)]) ∧ Num 4294967296 .u32 w' v (N / b) (len 4294967296 (N / b)) ∧ Grew w w' := by
  have hn := ha.len_le (by omega)
  have hNs := lt_len (B := 4294967296) (by omega) N
  have hml := len_mono (B := 4294967296) (by omega) (Nat.div_le_self N b)
  have hmp := lt_pow_of_len (B := 4294967296) (by omega) hml
  generalize hk : len 4294967296 N = k at *
  have Hk := Lib.hid hk
  clear hk
  have hmk := make_u32 k k (by omega) (by omega)
  obtain ⟨A, ca, rfl, a1, a2, a3, a4⟩ := id ha
  clear a3
  have HNs := Lib.hid hNs
  have Hmp := Lib.hid hmp
  clear hNs hmp
  have hbz : ((b : Int) == 0) = false := by simp; omega
  go_enter Try.func128, Try.ntmps128
  go_wp2_with fail
  refine (size_any _ _ _ _ ha).mono ?_
  rintro e w' ⟨rfl, rfl⟩
  rw [Hk.out]
  clear ha
  go_wp2_with fail
  go_loopg [7, 8] k (fun gk r i wr => ∃ rr : Nat, gk ≤ k ∧ i = .int .i64 ((gk : Int) - 1) ∧ r = .int .u64 rr ∧ rr < b ∧ Hid (rr = N / 4294967296 ^ gk % b) ∧ Row wr w.heap.size 80 .u32 (fun p => if p < gk then 0 else dig 4294967296 (N / b) p) k ∧ Grew w wr)
  case atStart =>
    refine ⟨0, Nat.le_refl _, rfl, rfl, hb0, Lib.hid ?_, (Row.made w _ _ _).congr fun p hp => ?_, (Grew.refl _).alloc _⟩
    · rw [Nat.div_eq_of_lt HNs.out, Nat.zero_mod]
    · simp [hp]
  case round =>
    obtain ⟨r, hgk, rfl, rfl, hr, hR, hRow, hG⟩ := hrel
    rcases gk with _ | j
    · have hR' : Row wr w.heap.size 80 .u32 (dig 4294967296 (N / b)) k := hRow.congr fun p _ => by simp
      have hnum := hR'.num (B := 4294967296) (n := k) (c := k) (Nat.le_refl _) (Nat.le_refl _) (by omega) Hmp.out (fun _ _ => rfl)
      have q1 : ((len 4294967296 (N / b) : Nat) : Int) ≤ (k : Int) := by omega
      have hcut := hnum.cut (k := len 4294967296 (N / b)) hml (lt_len (by omega) _)
      have hr32 : (r : Int) % 4294967296 = r := by omega
      have e1 := hR.out
      rw [Nat.pow_zero, Nat.div_one] at e1
      have E1 := Lib.hid e1
      clear hmk hRow hR' e1 hR
      go_wp2_with fail
      refine (size_any _ _ _ _ hnum).mono ?_
      rintro e w' ⟨rfl, rfl⟩
      have Hcut := Lib.hid hcut
      clear hcut hnum
      generalize hs : len 4294967296 (N / b) = s at *
      have Hs := Lib.hid hs
      clear hs
      go_wp2_with fail
      go_ret2
      exact ⟨_, by rw [← E1.out]; rfl, by rw [Hs.out]; exact Hcut.out, hG⟩
    · obtain ⟨ba, oa, rfl, hca⟩ := a4 (by omega)
      have hcx := hG.cell (hca j (by omega))
      have hfz := hRow.frozen j
      have hcd := hRow.cell (p := j) (by omega)
      have hx := dig_lt (B := 4294967296) (by omega) N j
      have hst := small_step N b j r hb0 hR.out
      have hor := or_low r (dig 4294967296 N j) (by omega) hx
      clear hca a4
      have HR := Lib.hid hRow
      clear hRow hR
      generalize dig 4294967296 N j = x at *
      have q1 : (j : Int) < (n : Int) := by omega
      have q3 : ((j + 1 : Nat) : Int) - 1 = (j : Int) := by omega
      rw [q3]
      obtain ⟨s1, s2, s3⟩ := hst
      have S1 := Lib.hid s1
      have S2 := Lib.hid s2
      clear s1 s2
      simp only [Nat.lt_succ_self, if_true] at hcd
      go_wp2_with fail
      go_region
      go_wp2
      go_roundg j
      case rel =>
        have hcst := small_cast r x b s3
        have hlt := Nat.mod_lt (r * 4294967296 + x) hb0
        refine ⟨(r * 4294967296 + x) % b, by omega, rfl, by rw [hcst.2], hlt, Lib.hid S2.out, ?_, ?_⟩
        · rw [hcst.1]
          refine ((HR.out.set j _).drew).congr fun p hp => ?_
          by_cases e : p = j
          · subst e; simp [S1.out]
          · simp only [if_neg e]
            by_cases hpj : p < j
            · rw [if_pos hpj, if_pos (by omega)]
            · rw [if_neg hpj, if_neg (by omega)]
        · exact (hG.setCell (Nat.le_refl _) _).drew
      case measure => omega
end Go.Proofs.Ytpglnfccmhkocaa
