/- nat.Mul: the product of two numbers. Condition: both read; fewer than 2^40 words together. -/
import Derived.Test.YtpglnfccmhkocaaSub
namespace Go.Proofs.Ytpglnfccmhkocaa
open Go.RowKit

theorem mul_in (T U x y c s : Nat) (hc : U / 4294967296 ^ s = T / 4294967296 ^ s + c) (hx : x < 4294967296) (hy : y < 4294967296) (hcB : c < 4294967296) :
    ((x : Int) * y + (dig 4294967296 T s : Nat) + c) % 4294967296 = (dig 4294967296 (U + x * y * 4294967296 ^ s) s : Nat) ∧
    (∃ c' : Nat, ((x : Int) * y + (dig 4294967296 T s : Nat) + c) / 4294967296 = c' ∧ c' < 4294967296 ∧ (U + x * y * 4294967296 ^ s) / 4294967296 ^ (s + 1) = T / 4294967296 ^ (s + 1) + c') ∧
    0 ≤ (x : Int) * y + (dig 4294967296 T s : Nat) + c ∧ (x : Int) * y + (dig 4294967296 T s : Nat) + c < 18446744073709551616 ∧ 0 ≤ (x : Int) * y ∧ (x : Int) * y < 18446744065119617026 := by
  obtain ⟨h1, h2, h3⟩ := mul_step (B := 4294967296) (by omega) T U x y c s hc hx hy hcB
  have hd := dig_lt (B := 4294967296) (by omega) T s
  have hm : x * y ≤ 4294967295 * 4294967295 := Nat.mul_le_mul (by omega) (by omega)
  have e : ((x * y : Nat) : Int) = (x : Int) * y := by simp
  rw [← h1]
  rw [h2]
  generalize dig 4294967296 T s = d at *
  generalize x * y = z at *
  rw [← e]
  refine ⟨by omega, ⟨(z + d + c) / 4294967296, by omega, h3, rfl⟩, by omega, by omega, by omega, by omega⟩

theorem mul_zero (va vb : Value) (N M n m : Nat) (w : World) (ha : Num 4294967296 .u32 w va N n) (hb : Num 4294967296 .u32 w vb M m) (h0 : N = 0 ∨ M = 0) (hsz : len 4294967296 N + len 4294967296 M < 1099511627776) :
    Calls Try.prog 73 #[va, vb] w fun e w' => ∃ v, e = .returned v ∧ Num 4294967296 .u32 w' v (N * M) (len 4294967296 (N * M)) ∧ Grew w w' := by
  have e0 : N * M = 0 := by rcases h0 with rfl | rfl <;> simp
  rw [e0, len_zero]
  have e1 : len 4294967296 N = 0 ∨ len 4294967296 M = 0 := by rcases h0 with rfl | rfl <;> simp [len_zero]
  clear h0 e0
  generalize hk : len 4294967296 N = k at *
  generalize hl : len 4294967296 M = l at *
  have Hk := Lib.hid hk
  have Hl := Lib.hid hl
  clear hk hl
  by_cases hk0 : k = 0
  · subst hk0
    go_enter Try.func73, Try.ntmps73
    go_wp2_with fail
    refine (size_any _ _ _ _ ha).mono ?_
    rintro e w' ⟨rfl, rfl⟩
    rw [Hk.out]
    go_wp2_with fail
    refine (size_any _ _ _ _ hb).mono ?_
    rintro e w' ⟨rfl, rfl⟩
    rw [Hl.out]
    go_wp2_with fail
    go_ret
    exact ⟨_, rfl, Num.nil _ _ _, Grew.refl _⟩
  · have hl0 : l = 0 := by omega
    subst hl0
    have hk1 : ((k : Int) == 0) = false := by simp; omega
    go_enter Try.func73, Try.ntmps73
    go_wp2_with fail
    refine (size_any _ _ _ _ ha).mono ?_
    rintro e w' ⟨rfl, rfl⟩
    rw [Hk.out]
    go_wp2_with fail
    refine (size_any _ _ _ _ hb).mono ?_
    rintro e w' ⟨rfl, rfl⟩
    rw [Hl.out]
    go_wp2_with fail
    go_ret
    exact ⟨_, rfl, Num.nil _ _ _, Grew.refl _⟩

theorem row_in {w : World} {g t L T U V s v : Nat} {K : IntKind} (h : Row w g t K (mix 4294967296 T U s) L) (hv : v = dig 4294967296 (U + V * 4294967296 ^ s) s) :
    Row (w.setCell ⟨g, s, none⟩ (.int K (v : Nat))) g t K (mix 4294967296 T (U + V * 4294967296 ^ s) (s + 1)) L := by
  refine (h.set s v).congr fun p _ => ?_
  by_cases e : p = s
  · subst e; simp [mix, hv]
  · simp only [if_neg e, mix]
    by_cases hp : p < s
    · rw [if_pos hp, if_pos (by omega), mul_low hp]
    · rw [if_neg hp, if_neg (by omega)]

theorem row_out {w : World} {g t L T U s c : Nat} {K : IntKind} (h : Row w g t K (mix 4294967296 T U s) L) (hc : U / 4294967296 ^ s = T / 4294967296 ^ s + c) (hT : T < 4294967296 ^ s) (hU : U < 4294967296 ^ (s + 1)) (hcB : c < 4294967296) :
    Row (w.setCell ⟨g, s, none⟩ (.int K (c : Nat))) g t K (dig 4294967296 U) L := by
  refine (h.set s c).congr fun p _ => ?_
  by_cases e : p = s
  · subst e; simp [← mul_end hc hT hcB]
  · simp only [if_neg e, mix]
    by_cases hp : p < s
    · rw [if_pos hp]
    · rw [if_neg hp, dig_zero_of_lt (by omega) hT (by omega), dig_zero_of_lt (by omega) hU (by omega)]

set_option maxRecDepth 100000 in
set_option maxHeartbeats 4000000 in
theorem mul_pos (va vb : Value) (N M n m : Nat) (w : World) (ha : Num 4294967296 .u32 w va N n) (hb : Num 4294967296 .u32 w vb M m) (hN : N ≠ 0) (hM : M ≠ 0) (hsz : len 4294967296 N + len 4294967296 M < 1099511627776) :
    Calls Try.prog 73 #[va, vb] w fun e w' => ∃ v, e = .returned v ∧ Num 4294967296 .u32 w' v (N * M) (len 4294967296 (N * M)) ∧ Grew w w' := by
  have hNs := lt_len (B := 4294967296) (by omega) N
  have hMs := lt_len (B := 4294967296) (by omega) M
  have hn := ha.len_le (by omega)
  have hm := hb.len_le (by omega)
  have hk0 : len 4294967296 N ≠ 0 := fun h => hN ((len_eq_zero (by omega)).1 h)
  have hl0 : len 4294967296 M ≠ 0 := fun h => hM ((len_eq_zero (by omega)).1 h)
  clear hN hM
  have hml := len_mul (B := 4294967296) (by omega) N M _ _ (Nat.le_refl _) (Nat.le_refl _)
  have hmp := lt_pow_of_len (B := 4294967296) (by omega) hml
  generalize hk : len 4294967296 N = k at *
  generalize hl : len 4294967296 M = l at *
  have Hk := Lib.hid hk
  have Hl := Lib.hid hl
  clear hk hl
  have hmk := make_u32 (k + l) (k + l) (by omega) (by omega)
  rw [show ((k + l : Nat) : Int) = (k : Int) + (l : Int) from by omega] at hmk
  obtain ⟨A, ca, rfl, a1, a2, a3, a4⟩ := id ha
  obtain ⟨C, cb, rfl, b1, b2, b3, b4⟩ := id hb
  obtain ⟨ba, oa, rfl, hca⟩ := a4 (by omega)
  obtain ⟨bb, ob, rfl, hcb⟩ := b4 (by omega)
  clear a3 a4 b3 b4
  have HNs := Lib.hid hNs
  have HMs := Lib.hid hMs
  have Hmp := Lib.hid hmp
  clear hNs hMs hmp
  have hk1 : ((k : Int) == 0) = false := by simp; omega
  have hl1 : ((l : Int) == 0) = false := by simp; omega
  have Hca := Lib.hid hca
  have Hcb := Lib.hid hcb
  clear hca hcb
  go_enter Try.func73, Try.ntmps73
  go_wp2_with fail
  refine (size_any _ _ _ _ ha).mono ?_
  rintro e w' ⟨rfl, rfl⟩
  rw [Hk.out]
  go_wp2_with fail
  refine (size_any _ _ _ _ hb).mono ?_
  rintro e w' ⟨rfl, rfl⟩
  rw [Hl.out]
  clear ha hb
  go_wp2_with fail
  go_loopg [27] k (fun gk i wr => ∃ j : Nat, gk + j = k ∧ i = .int .i64 j ∧ Row wr w.heap.size 80 .u32 (dig 4294967296 (N % 4294967296 ^ j * M)) (k + l) ∧ Grew w wr)
  case atStart => exact ⟨0, rfl, rfl, (Row.made w _ _ _).congr (fun p _ => by simp [Nat.mod_one, dig]), (Grew.refl _).alloc _⟩
  case round =>
    obtain ⟨i, hi, rfl, hR, hG⟩ := hrel
    obtain ⟨wo, rfl⟩ : ∃ wo : World, wo = wr := ⟨_, rfl⟩
    obtain ⟨G, rfl⟩ : ∃ G : Nat, G = gk := ⟨_, rfl⟩
    by_cases hlt : i < k
    · go_wp2_with fail
      go_loopg [9, 31] l (fun gk c kk wr => ∃ j cc : Nat, gk + j = l ∧ kk = .int .i64 j ∧ c = .int .u64 cc ∧ cc < 4294967296 ∧ Hid ((N % 4294967296 ^ i * M + dig 4294967296 N i * (M % 4294967296 ^ j) * 4294967296 ^ i) / 4294967296 ^ (i + j) = N % 4294967296 ^ i * M / 4294967296 ^ (i + j) + cc) ∧ Row wr w.heap.size 80 .u32 (mix 4294967296 (N % 4294967296 ^ i * M) (N % 4294967296 ^ i * M + dig 4294967296 N i * (M % 4294967296 ^ j) * 4294967296 ^ i) (i + j)) (k + l) ∧ Grew w wr)
      case atStart =>
        refine ⟨0, 0, rfl, rfl, rfl, by omega, Lib.hid (by simp [Nat.mod_one]), hR.congr (fun p _ => ?_), hG⟩
        simp [mix, Nat.mod_one]
      case round =>
        obtain ⟨j, c, hj, rfl, rfl, hc, hcar, hRr, hGr⟩ := hrel
        by_cases hjl : j < l
        · have hcx := hGr.cell (Hca.out i (by omega))
          have hcy := hGr.cell (Hcb.out j (by omega))
          have hcd := hRr.cell (p := i + j) (by omega)
          have hfz := hRr.frozen (i + j)
          have hx := dig_lt (B := 4294967296) (by omega) N i
          have hy := dig_lt (B := 4294967296) (by omega) M j
          have hmix : mix 4294967296 (N % 4294967296 ^ i * M) (N % 4294967296 ^ i * M + dig 4294967296 N i * (M % 4294967296 ^ j) * 4294967296 ^ i) (i + j) (i + j) = dig 4294967296 (N % 4294967296 ^ i * M) (i + j) := by unfold mix; rw [if_neg (by omega)]
          rw [hmix] at hcd
          have hrow := Lib.hid (mul_row (B := 4294967296) N M i j)
          have hstep := mul_in _ _ _ _ _ _ hcar.out hx hy hc
          have hdd := dig_lt (B := 4294967296) (by omega) (N % 4294967296 ^ i * M) (i + j)
          rw [← hrow.out] at hstep
          have HR := Lib.hid hRr
          clear hRr hmix hR hcar
          generalize hxx : dig 4294967296 N i = x at *
          generalize hyy : dig 4294967296 M j = y at *
          generalize hd : dig 4294967296 (N % 4294967296 ^ i * M) (i + j) = d at *
          have Hxx := Lib.hid hxx
          have Hyy := Lib.hid hyy
          have Hd := Lib.hid hd
          clear hxx hyy hd
          obtain ⟨s1, ⟨c', s2, s3, s4⟩, s5, s6, s7, s8⟩ := hstep
          have hand := and_low (x * y + d + c) (by omega)
          rw [show ((x * y + d + c : Nat) : Int) = (x : Int) * y + d + c from by simp] at hand
          have S1 := Lib.hid s1
          have S2 := Lib.hid s2
          have S4 := Lib.hid s4
          have hij : (i : Int) + j < (k : Int) + l := by omega
          have q1 : (i : Int) < (n : Int) := by omega
          have q2 : (j : Int) < (m : Int) := by omega
          clear s1 s2 s4
          go_wp2_with fail
          go_quiet (fail)
          go_wp2_with fail
          go_roundg (gk - 1)
          case rel =>
            refine ⟨j + 1, c', by omega, by go_num, by rw [S2.out], s3, Lib.hid ?_, ?_, ?_⟩
            · exact S4.out
            · rw [S1.out, hrow.out]
              exact row_in (HR.out.drewN nq) rfl
            · exact (hGr.drewN _).setCell (Nat.le_refl _) _
          case measure => omega
        · obtain rfl : j = l := by omega
          have hfz := hRr.frozen (i + j)
          have hcd := hRr.cell (p := i + j) (by omega)
          have HR := Lib.hid hRr
          have hij : (i : Int) + j < (k : Int) + j := by omega
          have hcm : (c : Int) % 4294967296 = c := by omega
          have hT : N % 4294967296 ^ i * M < 4294967296 ^ (i + j) := by
            rw [Nat.pow_add]; exact Nat.mul_lt_mul'' (Nat.mod_lt _ (pow_pos' (B := 4294967296) (by omega) i)) HMs.out
          have hU : N % 4294967296 ^ (i + 1) * M < 4294967296 ^ (i + j + 1) := by
            rw [show i + j + 1 = (i + 1) + j from by omega, Nat.pow_add 4294967296 (i + 1) j]; exact Nat.mul_lt_mul'' (Nat.mod_lt _ (pow_pos' (B := 4294967296) (by omega) (i + 1))) HMs.out
          have hUe : N % 4294967296 ^ i * M + dig 4294967296 N i * (M % 4294967296 ^ j) * 4294967296 ^ i = N % 4294967296 ^ (i + 1) * M := by
            rw [Nat.mod_eq_of_lt HMs.out]; exact mul_next N M i
          have HT := Lib.hid hT
          have HU := Lib.hid hU
          have HUe := Lib.hid hUe
          clear hT hU hUe hRr hR
          generalize mix 4294967296 (N % 4294967296 ^ i * M) (N % 4294967296 ^ i * M + dig 4294967296 N i * (M % 4294967296 ^ j) * 4294967296 ^ i) (i + j) (i + j) = d at hcd
          go_wp2_with fail
          go_roundg (G - 1)
          case rel =>
            refine ⟨i + 1, by omega, by go_num, ?_, hGr.setCell (Nat.le_refl _) _⟩
            have h1 := hcar.out
            have h2 := HR.out
            rw [HUe.out] at h1 h2
            exact row_out h2 h1 HT.out HU.out hc
          case measure => omega
    · obtain rfl : i = k := by omega
      have hR' : Row wo w.heap.size 80 .u32 (dig 4294967296 (N * M)) (i + l) := by rw [Nat.mod_eq_of_lt HNs.out] at hR; exact hR
      have hnum := hR'.num (B := 4294967296) (n := i + l) (c := i + l) (Nat.le_refl _) (Nat.le_refl _) (by omega) Hmp.out (fun _ _ => rfl)
      have q1 : ((len 4294967296 (N * M) : Nat) : Int) ≤ (i : Int) + l := by omega
      have hcut := hnum.cut (k := len 4294967296 (N * M)) hml (lt_len (by omega) _)
      clear hmk hR hR'
      go_wp2_with fail
      refine (size_any _ _ _ _ hnum).mono ?_
      rintro e w' ⟨rfl, rfl⟩
      have Hcut := Lib.hid hcut
      clear hcut hnum
      generalize hs : len 4294967296 (N * M) = s at *
      have Hs := Lib.hid hs
      clear hs
      go_wp2_with fail
      go_ret
      exact ⟨_, rfl, by rw [Hs.out]; exact Hcut.out, hG⟩

theorem mul_any (va vb : Value) (N M n m : Nat) (w : World) (ha : Num 4294967296 .u32 w va N n) (hb : Num 4294967296 .u32 w vb M m) (hsz : len 4294967296 N + len 4294967296 M < 1099511627776) :
    Calls Try.prog 73 #[va, vb] w fun e w' => ∃ v, e = .returned v ∧ Num 4294967296 .u32 w' v (N * M) (len 4294967296 (N * M)) ∧ Grew w w' := by
  by_cases h : N = 0 ∨ M = 0
  · exact mul_zero va vb N M n m w ha hb h hsz
  · exact mul_pos va vb N M n m w ha hb (fun e => h (.inl e)) (fun e => h (.inr e)) hsz
end Go.Proofs.Ytpglnfccmhkocaa
