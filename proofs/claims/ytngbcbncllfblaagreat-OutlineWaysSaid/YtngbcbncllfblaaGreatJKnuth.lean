/- nat.Mul: the product of two numbers. Condition: both read; fewer than 2^40 words together. nat.small: a number by one word. Condition: it reads; the word isn't 0; fewer than 2^40 words. nat.left, nat.Shift by fewer than 32 bits. Condition: it reads; fewer than 2^40 words. Plain arithmetic of a long division's step (no program in sight). -/
import Derived.Test.YtngbcbncllfblaaGreatJSub
import Derived.RegionTactic
import Derived.BigRegion
import Derived.Test.YtngbcbncllfblaaGreatJBits
namespace Go.Proofs.YtngbcbncllfblaaGreat
open Go.RowKit

theorem mul_in (T U x y c s : Nat) (hc : U / 4294967296 ^ s = T / 4294967296 ^ s + c) (hx : x < 4294967296) (hy : y < 4294967296) (hcB : c < 4294967296) :
    ((x : Int) * y + (dig 4294967296 T s : Nat) + c) % 4294967296 = (dig 4294967296 (U + x * y * 4294967296 ^ s) s : Nat) ∧
    (∃ c' : Nat, ((x : Int) * y + (dig 4294967296 T s : Nat) + c) / 4294967296 = c' ∧ c' < 4294967296 ∧ (U + x * y * 4294967296 ^ s) / 4294967296 ^ (s + 1) = T / 4294967296 ^ (s + 1) + c') ∧
    0 ≤ (x : Int) * y + (dig 4294967296 T s : Nat) + c ∧ (x : Int) * y + (dig 4294967296 T s : Nat) + c < 18446744073709551616 ∧ 0 ≤ (x : Int) * y ∧ (x : Int) * y < 18446744065119617026 := by
  obtain ⟨h1, h2, h3⟩ := mul_step (B := 4294967296) (by omega) T U x y c s hc hx hy hcB
  have hd := dig_lt (B := 4294967296) (by omega) T s
  have hm : x * y ≤ 4294967295 * 4294967295 := Nat.mul_le_mul (by omega) (by omega)
  have e : ((x * y : Nat) : Int) = (x : Int) * y := by simp
  rw [← h1]
  rw [h2]
  generalize dig 4294967296 T s = d at *
  generalize x * y = z at *
  rw [← e]
  refine ⟨by omega, ⟨(z + d + c) / 4294967296, by omega, h3, rfl⟩, by omega, by omega, by omega, by omega⟩

theorem mul_zero (va vb : Value) (N M n m : Nat) (w : World) (ha : Num 4294967296 .u32 w va N n) (hb : Num 4294967296 .u32 w vb M m) (h0 : N = 0 ∨ M = 0) (hsz : len 4294967296 N + len 4294967296 M < 1099511627776) :
    Calls Tryz.prog 208 #[va, vb] w fun e w' => ∃ v, e = .returned v ∧ Num 4294967296 .u32 w' v (N * M) (len 4294967296 (N * M)) ∧ Grew w w' := by
  have e0 : N * M = 0 := by rcases h0 with rfl | rfl <;> simp
  rw [e0, len_zero]
  have e1 : len 4294967296 N = 0 ∨ len 4294967296 M = 0 := by rcases h0 with rfl | rfl <;> simp [len_zero]
  clear h0 e0
  generalize hk : len 4294967296 N = k at *
  generalize hl : len 4294967296 M = l at *
  have Hk := Lib.hid hk
  have Hl := Lib.hid hl
  clear hk hl
  by_cases hk0 : k = 0
  · subst hk0
    go_enter Tryz.func208, Tryz.ntmps208
    go_wp2_with fail
    refine (size_any _ _ _ _ ha).mono ?_
    rintro e w' ⟨rfl, rfl⟩
    rw [Hk.out]
    go_wp2_with fail
    refine (size_any _ _ _ _ hb).mono ?_
    rintro e w' ⟨rfl, rfl⟩
    rw [Hl.out]
    go_wp2_with fail
    go_ret
    exact ⟨_, rfl, Num.nil _ _ _, Grew.refl _⟩
  · have hl0 : l = 0 := by omega
    subst hl0
    have hk1 : ((k : Int) == 0) = false := by simp; omega
    go_enter Tryz.func208, Tryz.ntmps208
    go_wp2_with fail
    refine (size_any _ _ _ _ ha).mono ?_
    rintro e w' ⟨rfl, rfl⟩
    rw [Hk.out]
    go_wp2_with fail
    refine (size_any _ _ _ _ hb).mono ?_
    rintro e w' ⟨rfl, rfl⟩
    rw [Hl.out]
    go_wp2_with fail
    go_ret
    exact ⟨_, rfl, Num.nil _ _ _, Grew.refl _⟩

theorem row_in {w : World} {g t L T U V s v : Nat} {K : IntKind} (h : Row w g t K (mix 4294967296 T U s) L) (hv : v = dig 4294967296 (U + V * 4294967296 ^ s) s) :
    Row (w.setCell ⟨g, s, none⟩ (.int K (v : Nat))) g t K (mix 4294967296 T (U + V * 4294967296 ^ s) (s + 1)) L := by
  refine (h.set s v).congr fun p _ => ?_
  by_cases e : p = s
  · subst e; simp [mix, hv]
  · simp only [if_neg e, mix]
    by_cases hp : p < s
    · rw [if_pos hp, if_pos (by omega), mul_low hp]
    · rw [if_neg hp, if_neg (by omega)]

theorem row_out {w : World} {g t L T U s c : Nat} {K : IntKind} (h : Row w g t K (mix 4294967296 T U s) L) (hc : U / 4294967296 ^ s = T / 4294967296 ^ s + c) (hT : T < 4294967296 ^ s) (hU : U < 4294967296 ^ (s + 1)) (hcB : c < 4294967296) :
    Row (w.setCell ⟨g, s, none⟩ (.int K (c : Nat))) g t K (dig 4294967296 U) L := by
  refine (h.set s c).congr fun p _ => ?_
  by_cases e : p = s
  · subst e; simp [← mul_end hc hT hcB]
  · simp only [if_neg e, mix]
    by_cases hp : p < s
    · rw [if_pos hp]
    · rw [if_neg hp, dig_zero_of_lt (by omega) hT (by omega), dig_zero_of_lt (by omega) hU (by omega)]

set_option maxRecDepth 100000 in
set_option maxHeartbeats 4000000 in
theorem mul_pos (va vb : Value) (N M n m : Nat) (w : World) (ha : Num 4294967296 .u32 w va N n) (hb : Num 4294967296 .u32 w vb M m) (hN : N ≠ 0) (hM : M ≠ 0) (hsz : len 4294967296 N + len 4294967296 M < 1099511627776) :
    Calls Tryz.prog 208 #[va, vb] w fun e w' => ∃ v, e = .returned v ∧ Num 4294967296 .u32 w' v (N * M) (len 4294967296 (N * M)) ∧ Grew w w' := by
  have hNs := lt_len (B := 4294967296) (by omega) N
  have hMs := lt_len (B := 4294967296) (by omega) M
  have hn := ha.len_le (by omega)
  have hm := hb.len_le (by omega)
  have hk0 : len 4294967296 N ≠ 0 := fun h => hN ((len_eq_zero (by omega)).1 h)
  have hl0 : len 4294967296 M ≠ 0 := fun h => hM ((len_eq_zero (by omega)).1 h)
  clear hN hM
  have hml := len_mul (B := 4294967296) (by omega) N M _ _ (Nat.le_refl _) (Nat.le_refl _)
  have hmp := lt_pow_of_len (B := 4294967296) (by omega) hml
  generalize hk : len 4294967296 N = k at *
  generalize hl : len 4294967296 M = l at *
  have Hk := Lib.hid hk
  have Hl := Lib.hid hl
  clear hk hl
  have hmk := make_u32 (k + l) (k + l) (by omega) (by omega)
  rw [show ((k + l : Nat) : Int) = (k : Int) + (l : Int) from by omega] at hmk
  obtain ⟨A, ca, rfl, a1, a2, a3, a4⟩ := id ha
  obtain ⟨C, cb, rfl, b1, b2, b3, b4⟩ := id hb
  obtain ⟨ba, oa, rfl, hca⟩ := a4 (by omega)
  obtain ⟨bb, ob, rfl, hcb⟩ := b4 (by omega)
  clear a3 a4 b3 b4
  have HNs := Lib.hid hNs
  have HMs := Lib.hid hMs
  have Hmp := Lib.hid hmp
  clear hNs hMs hmp
  have hk1 : ((k : Int) == 0) = false := by simp; omega
  have hl1 : ((l : Int) == 0) = false := by simp; omega
  have Hca := Lib.hid hca
  have Hcb := Lib.hid hcb
  clear hca hcb
  go_enter Tryz.func208, Tryz.ntmps208
  go_wp2_with fail
  refine (size_any _ _ _ _ ha).mono ?_
  rintro e w' ⟨rfl, rfl⟩
  rw [Hk.out]
  go_wp2_with fail
  refine (size_any _ _ _ _ hb).mono ?_
  rintro e w' ⟨rfl, rfl⟩
  rw [Hl.out]
  clear ha hb
  go_wp2_with fail
  go_loopg [27] k (fun gk i wr => ∃ j : Nat, gk + j = k ∧ i = .int .i64 j ∧ Row wr w.heap.size 163 .u32 (dig 4294967296 (N % 4294967296 ^ j * M)) (k + l) ∧ Grew w wr)
  case atStart => exact ⟨0, rfl, rfl, (Row.made w _ _ _).congr (fun p _ => by simp [Nat.mod_one, dig]), (Grew.refl _).alloc _⟩
  case round =>
    obtain ⟨i, hi, rfl, hR, hG⟩ := hrel
    obtain ⟨wo, rfl⟩ : ∃ wo : World, wo = wr := ⟨_, rfl⟩
    obtain ⟨G, rfl⟩ : ∃ G : Nat, G = gk := ⟨_, rfl⟩
    by_cases hlt : i < k
    · go_wp2_with fail
      go_loopg [9, 31] l (fun gk c kk wr => ∃ j cc : Nat, gk + j = l ∧ kk = .int .i64 j ∧ c = .int .u64 cc ∧ cc < 4294967296 ∧ Hid ((N % 4294967296 ^ i * M + dig 4294967296 N i * (M % 4294967296 ^ j) * 4294967296 ^ i) / 4294967296 ^ (i + j) = N % 4294967296 ^ i * M / 4294967296 ^ (i + j) + cc) ∧ Row wr w.heap.size 163 .u32 (mix 4294967296 (N % 4294967296 ^ i * M) (N % 4294967296 ^ i * M + dig 4294967296 N i * (M % 4294967296 ^ j) * 4294967296 ^ i) (i + j)) (k + l) ∧ Grew w wr)
      case atStart =>
        refine ⟨0, 0, rfl, rfl, rfl, by omega, Lib.hid (by simp [Nat.mod_one]), hR.congr (fun p _ => ?_), hG⟩
        simp [mix, Nat.mod_one]
      case round =>
        obtain ⟨j, c, hj, rfl, rfl, hc, hcar, hRr, hGr⟩ := hrel
        by_cases hjl : j < l
        · have hcx := hGr.cell (Hca.out i (by omega))
          have hcy := hGr.cell (Hcb.out j (by omega))
          have hcd := hRr.cell (p := i + j) (by omega)
          have hfz := hRr.frozen (i + j)
          have hx := dig_lt (B := 4294967296) (by omega) N i
          have hy := dig_lt (B := 4294967296) (by omega) M j
          have hmix : mix 4294967296 (N % 4294967296 ^ i * M) (N % 4294967296 ^ i * M + dig 4294967296 N i * (M % 4294967296 ^ j) * 4294967296 ^ i) (i + j) (i + j) = dig 4294967296 (N % 4294967296 ^ i * M) (i + j) := by unfold mix; rw [if_neg (by omega)]
          rw [hmix] at hcd
          have hrow := Lib.hid (mul_row (B := 4294967296) N M i j)
          have hstep := mul_in _ _ _ _ _ _ hcar.out hx hy hc
          have hdd := dig_lt (B := 4294967296) (by omega) (N % 4294967296 ^ i * M) (i + j)
          rw [← hrow.out] at hstep
          have HR := Lib.hid hRr
          clear hRr hmix hR hcar
          generalize hxx : dig 4294967296 N i = x at *
          generalize hyy : dig 4294967296 M j = y at *
          generalize hd : dig 4294967296 (N % 4294967296 ^ i * M) (i + j) = d at *
          have Hxx := Lib.hid hxx
          have Hyy := Lib.hid hyy
          have Hd := Lib.hid hd
          clear hxx hyy hd
          obtain ⟨s1, ⟨c', s2, s3, s4⟩, s5, s6, s7, s8⟩ := hstep
          have hand := and_low (x * y + d + c) (by omega)
          rw [show ((x * y + d + c : Nat) : Int) = (x : Int) * y + d + c from by simp] at hand
          have S1 := Lib.hid s1
          have S2 := Lib.hid s2
          have S4 := Lib.hid s4
          have hij : (i : Int) + j < (k : Int) + l := by omega
          have q1 : (i : Int) < (n : Int) := by omega
          have q2 : (j : Int) < (m : Int) := by omega
          clear s1 s2 s4
          go_wp2_with fail
          go_quiet (fail)
          go_wp2_with fail
          go_roundg (gk - 1)
          case rel =>
            refine ⟨j + 1, c', by omega, by go_num, by rw [S2.out], s3, Lib.hid ?_, ?_, ?_⟩
            · exact S4.out
            · rw [S1.out, hrow.out]
              exact row_in (HR.out.drewN nq) rfl
            · exact (hGr.drewN _).setCell (Nat.le_refl _) _
          case measure => omega
        · obtain rfl : j = l := by omega
          have hfz := hRr.frozen (i + j)
          have hcd := hRr.cell (p := i + j) (by omega)
          have HR := Lib.hid hRr
          have hij : (i : Int) + j < (k : Int) + j := by omega
          have hcm : (c : Int) % 4294967296 = c := by omega
          have hT : N % 4294967296 ^ i * M < 4294967296 ^ (i + j) := by
            rw [Nat.pow_add]; exact Nat.mul_lt_mul'' (Nat.mod_lt _ (pow_pos' (B := 4294967296) (by omega) i)) HMs.out
          have hU : N % 4294967296 ^ (i + 1) * M < 4294967296 ^ (i + j + 1) := by
            rw [show i + j + 1 = (i + 1) + j from by omega, Nat.pow_add 4294967296 (i + 1) j]; exact Nat.mul_lt_mul'' (Nat.mod_lt _ (pow_pos' (B := 4294967296) (by omega) (i + 1))) HMs.out
          have hUe : N % 4294967296 ^ i * M + dig 4294967296 N i * (M % 4294967296 ^ j) * 4294967296 ^ i = N % 4294967296 ^ (i + 1) * M := by
            rw [Nat.mod_eq_of_lt HMs.out]; exact mul_next N M i
          have HT := Lib.hid hT
          have HU := Lib.hid hU
          have HUe := Lib.hid hUe
          clear hT hU hUe hRr hR
          generalize mix 4294967296 (N % 4294967296 ^ i * M) (N % 4294967296 ^ i * M + dig 4294967296 N i * (M % 4294967296 ^ j) * 4294967296 ^ i) (i + j) (i + j) = d at hcd
          go_wp2_with fail
          go_roundg (G - 1)
          case rel =>
            refine ⟨i + 1, by omega, by go_num, ?_, hGr.setCell (Nat.le_refl _) _⟩
            have h1 := hcar.out
            have h2 := HR.out
            rw [HUe.out] at h1 h2
            exact row_out h2 h1 HT.out HU.out hc
          case measure => omega
    · obtain rfl : i = k := by omega
      have hR' : Row wo w.heap.size 163 .u32 (dig 4294967296 (N * M)) (i + l) := by rw [Nat.mod_eq_of_lt HNs.out] at hR; exact hR
      have hnum := hR'.num (B := 4294967296) (n := i + l) (c := i + l) (Nat.le_refl _) (Nat.le_refl _) (by omega) Hmp.out (fun _ _ => rfl)
      have q1 : ((len 4294967296 (N * M) : Nat) : Int) ≤ (i : Int) + l := by omega
      have hcut := hnum.cut (k := len 4294967296 (N * M)) hml (lt_len (by omega) _)
      clear hmk hR hR'
      go_wp2_with fail
      refine (size_any _ _ _ _ hnum).mono ?_
      rintro e w' ⟨rfl, rfl⟩
      have Hcut := Lib.hid hcut
      clear hcut hnum
      generalize hs : len 4294967296 (N * M) = s at *
      have Hs := Lib.hid hs
      clear hs
      go_wp2_with fail
      go_ret
      exact ⟨_, rfl, by rw [Hs.out]; exact Hcut.out, hG⟩

theorem mul_any (va vb : Value) (N M n m : Nat) (w : World) (ha : Num 4294967296 .u32 w va N n) (hb : Num 4294967296 .u32 w vb M m) (hsz : len 4294967296 N + len 4294967296 M < 1099511627776) :
    Calls Tryz.prog 208 #[va, vb] w fun e w' => ∃ v, e = .returned v ∧ Num 4294967296 .u32 w' v (N * M) (len 4294967296 (N * M)) ∧ Grew w w' := by
  by_cases h : N = 0 ∨ M = 0
  · exact mul_zero va vb N M n m w ha hb h hsz
  · exact mul_pos va vb N M n m w ha hb (fun e => h (.inl e)) (fun e => h (.inr e)) hsz
end Go.Proofs.YtngbcbncllfblaaGreat
namespace Go.Proofs.YtngbcbncllfblaaGreat
open Go.RowKit

theorem small_step (N b i r : Nat) (hb : 0 < b) (hr : r = N / 4294967296 ^ (i + 1) % b) :
    (r * 4294967296 + dig 4294967296 N i) / b = dig 4294967296 (N / b) i ∧ (r * 4294967296 + dig 4294967296 N i) % b = N / 4294967296 ^ i % b ∧ (r * 4294967296 + dig 4294967296 N i) / b < 4294967296 := by
  have h1 := div_succ (B := 4294967296) N i
  have h2 := dig_lt (B := 4294967296) (by omega) N i
  have h3 := Nat.div_add_mod (N / 4294967296 ^ (i + 1)) b
  have h4 := Nat.mod_lt (N / 4294967296 ^ (i + 1)) hb
  have h5 : dig 4294967296 (N / b) i = N / 4294967296 ^ i / b % 4294967296 := by
    unfold dig; rw [Nat.div_div_eq_div_mul, Nat.mul_comm, ← Nat.div_div_eq_div_mul]
  rw [h5]
  rw [← hr] at h3 h4
  generalize dig 4294967296 N i = d at *
  generalize N / 4294967296 ^ (i + 1) = H at *
  generalize N / 4294967296 ^ i = X at *
  clear hr h5
  have e : X = r * 4294967296 + d + b * (4294967296 * (H / b)) := by
    rw [h1]
    have : 4294967296 * H = 4294967296 * (b * (H / b)) + 4294967296 * r := by rw [← Nat.mul_add, h3]
    rw [this, show b * (4294967296 * (H / b)) = 4294967296 * (b * (H / b)) from by simp only [Nat.mul_left_comm]]
    omega
  have e2 : (r * 4294967296 + d) / b < 4294967296 := by
    rw [Nat.div_lt_iff_lt_mul hb]
    have : (r + 1) * 4294967296 ≤ b * 4294967296 := Nat.mul_le_mul_right _ h4
    omega
  refine ⟨?_, ?_, e2⟩
  · rw [e, Nat.add_mul_div_left _ _ hb, Nat.add_mul_mod_self_left, Nat.mod_eq_of_lt e2]
  · rw [e, Nat.add_mul_mod_self_left]

theorem small_cast (r x b : Nat) (h : (r * 4294967296 + x) / b < 4294967296) : ((r : Int) * 4294967296 + x) / b % 4294967296 = (((r * 4294967296 + x) / b : Nat) : Int) ∧ ((r : Int) * 4294967296 + x) % b = (((r * 4294967296 + x) % b : Nat) : Int) := by
  have e : (r : Int) * 4294967296 + x = ((r * 4294967296 + x : Nat) : Int) := by omega
  rw [e, ← Int.natCast_ediv, ← Int.natCast_emod]
  refine ⟨?_, rfl⟩
  generalize (r * 4294967296 + x) / b = q at h ⊢
  omega

set_option maxRecDepth 100000 in
set_option maxHeartbeats 4000000 in
theorem small_any (va : Value) (N n b : Nat) (w : World) (ha : Num 4294967296 .u32 w va N n) (hb0 : 0 < b) (hbB : b < 4294967296) (hsz : len 4294967296 N < 1099511627776) :
    Calls Tryz.prog 232 #[va, .int .u32 (b : Int)] w fun e w' => ∃ v, e = .returned (.tuple #[v, .int .u32 ((N % b : Nat) : Int)]) ∧ Num 4294967296 .u32 w' v (N / b) (len 4294967296 (N / b)) ∧ Grew w w' := by
  have hn := ha.len_le (by omega)
  have hNs := lt_len (B := 4294967296) (by omega) N
  have hml := len_mono (B := 4294967296) (by omega) (Nat.div_le_self N b)
  have hmp := lt_pow_of_len (B := 4294967296) (by omega) hml
  generalize hk : len 4294967296 N = k at *
  have Hk := Lib.hid hk
  clear hk
  have hmk := make_u32 k k (by omega) (by omega)
  obtain ⟨A, ca, rfl, a1, a2, a3, a4⟩ := id ha
  clear a3
  have HNs := Lib.hid hNs
  have Hmp := Lib.hid hmp
  clear hNs hmp
  have hbz : ((b : Int) == 0) = false := by simp; omega
  go_enter Tryz.func232, Tryz.ntmps232
  go_wp2_with fail
  refine (size_any _ _ _ _ ha).mono ?_
  rintro e w' ⟨rfl, rfl⟩
  rw [Hk.out]
  clear ha
  go_wp2_with fail
  go_loopg [7, 8] k (fun gk r i wr => ∃ rr : Nat, gk ≤ k ∧ i = .int .i64 ((gk : Int) - 1) ∧ r = .int .u64 rr ∧ rr < b ∧ Hid (rr = N / 4294967296 ^ gk % b) ∧ Row wr w.heap.size 163 .u32 (fun p => if p < gk then 0 else dig 4294967296 (N / b) p) k ∧ Grew w wr)
  case atStart =>
    refine ⟨0, Nat.le_refl _, rfl, rfl, hb0, Lib.hid ?_, (Row.made w _ _ _).congr fun p hp => ?_, (Grew.refl _).alloc _⟩
    · rw [Nat.div_eq_of_lt HNs.out, Nat.zero_mod]
    · simp [hp]
  case round =>
    obtain ⟨r, hgk, rfl, rfl, hr, hR, hRow, hG⟩ := hrel
    rcases gk with _ | j
    · have hR' : Row wr w.heap.size 163 .u32 (dig 4294967296 (N / b)) k := hRow.congr fun p _ => by simp
      have hnum := hR'.num (B := 4294967296) (n := k) (c := k) (Nat.le_refl _) (Nat.le_refl _) (by omega) Hmp.out (fun _ _ => rfl)
      have q1 : ((len 4294967296 (N / b) : Nat) : Int) ≤ (k : Int) := by omega
      have hcut := hnum.cut (k := len 4294967296 (N / b)) hml (lt_len (by omega) _)
      have hr32 : (r : Int) % 4294967296 = r := by omega
      have e1 := hR.out
      rw [Nat.pow_zero, Nat.div_one] at e1
      have E1 := Lib.hid e1
      clear hmk hRow hR' e1 hR
      go_wp2_with fail
      refine (size_any _ _ _ _ hnum).mono ?_
      rintro e w' ⟨rfl, rfl⟩
      have Hcut := Lib.hid hcut
      clear hcut hnum
      generalize hs : len 4294967296 (N / b) = s at *
      have Hs := Lib.hid hs
      clear hs
      go_wp2_with fail
      go_ret2
      exact ⟨_, by rw [← E1.out]; rfl, by rw [Hs.out]; exact Hcut.out, hG⟩
    · obtain ⟨ba, oa, rfl, hca⟩ := a4 (by omega)
      have hcx := hG.cell (hca j (by omega))
      have hfz := hRow.frozen j
      have hcd := hRow.cell (p := j) (by omega)
      have hx := dig_lt (B := 4294967296) (by omega) N j
      have hst := small_step N b j r hb0 hR.out
      have hor := or_low r (dig 4294967296 N j) (by omega) hx
      clear hca a4
      have HR := Lib.hid hRow
      clear hRow hR
      generalize dig 4294967296 N j = x at *
      have q1 : (j : Int) < (n : Int) := by omega
      have q3 : ((j + 1 : Nat) : Int) - 1 = (j : Int) := by omega
      rw [q3]
      obtain ⟨s1, s2, s3⟩ := hst
      have S1 := Lib.hid s1
      have S2 := Lib.hid s2
      clear s1 s2
      simp only [Nat.lt_succ_self, if_true] at hcd
      go_wp2_with fail
      go_region
      go_wp2
      go_roundg j
      case rel =>
        have hcst := small_cast r x b s3
        have hlt := Nat.mod_lt (r * 4294967296 + x) hb0
        refine ⟨(r * 4294967296 + x) % b, by omega, rfl, by rw [hcst.2], hlt, Lib.hid S2.out, ?_, ?_⟩
        · rw [hcst.1]
          refine ((HR.out.set j _).drew).congr fun p hp => ?_
          by_cases e : p = j
          · subst e; simp [S1.out]
          · simp only [if_neg e]
            by_cases hpj : p < j
            · rw [if_pos hpj, if_pos (by omega)]
            · rw [if_neg hpj, if_neg (by omega)]
        · exact (hG.setCell (Nat.le_refl _) _).drew
      case measure => omega
end Go.Proofs.YtngbcbncllfblaaGreat
namespace Go.Proofs.YtngbcbncllfblaaGreat
open Go.RowKit

/-- What is carried out of the first j digits of a number that is shifted to the left. -/
def lc (N s j : Nat) : Nat := N % 4294967296 ^ j * 2 ^ s / 4294967296 ^ j
theorem lc_zero (N s : Nat) : lc N s 0 = 0 := by simp [lc, Nat.mod_one]
theorem lc_lt (N s j : Nat) : lc N s j < 2 ^ s := by
  unfold lc
  have h := pow_pos' (B := 4294967296) (by omega) j
  rw [Nat.div_lt_iff_lt_mul h, Nat.mul_comm]
  exact Nat.mul_lt_mul_of_pos_left (Nat.mod_lt _ h) (Nat.two_pow_pos s)
theorem lc_dig (N s j : Nat) : (dig 4294967296 N j * 2 ^ s + lc N s j) % 4294967296 = dig 4294967296 (N * 2 ^ s) j := by
  have h := pow_pos' (B := 4294967296) (by omega) j
  have e : N * 2 ^ s / 4294967296 ^ j = N / 4294967296 ^ j * 2 ^ s + lc N s j := by
    unfold lc
    have h1 := Nat.div_add_mod N (4294967296 ^ j)
    conv => lhs; rw [← h1]
    rw [Nat.add_mul, Nat.mul_assoc, Nat.mul_add_div h]
  conv => rhs; unfold dig
  rw [e, div_succ (B := 4294967296) N j |> (fun h => h), Nat.add_mul, Nat.mul_assoc, Nat.add_assoc, Nat.mul_add_mod]
theorem lc_succ (N s j : Nat) : lc N s (j + 1) = (dig 4294967296 N j * 2 ^ s + lc N s j) / 4294967296 := by
  have h := pow_pos' (B := 4294967296) (by omega) j
  unfold lc
  rw [mod_succ, Nat.pow_succ, ← Nat.div_div_eq_div_mul, Nat.add_mul, Nat.mul_assoc, Nat.add_mul_div_left _ _ h, Nat.add_comm]

theorem left_step (N s j x c : Nat) (hs : s < 32) (hx : x = dig 4294967296 N j) (hc : c = lc N s j) :
    ∃ v : Nat, bits .or .u64 (IntKind.u64.wrap ((x : Int) * 2 ^ s)) (c : Int) = (v : Int) ∧ v < 18446744073709551616 ∧ v % 4294967296 = dig 4294967296 (N * 2 ^ s) j ∧ v / 4294967296 = lc N s (j + 1) := by
  have hxl := dig_lt (B := 4294967296) (by omega) N j
  have hcl := lc_lt N s j
  rw [← hx] at hxl
  rw [← hc] at hcl
  have hp : 2 ^ s ≤ 2 ^ 31 := Nat.pow_le_pow_right (by omega) (by omega)
  have hm : x * 2 ^ s ≤ 4294967295 * 2 ^ 31 := Nat.mul_le_mul (by omega) hp
  have hcast : (x : Int) * 2 ^ s = ((x * 2 ^ s : Nat) : Int) := by simp
  refine ⟨x * 2 ^ s + c, ?_, ?_, ?_, ?_⟩
  · have hw : IntKind.u64.wrap ((x * 2 ^ s : Nat) : Int) = ((x * 2 ^ s : Nat) : Int) := IntWalk.u64_in _ (by generalize x * 2 ^ s = z at *; omega)
    rw [hcast, hw, u64_or_nat _ _ (by omega) (by omega)]
    congr 1
    have := Nat.two_pow_add_eq_or_of_lt (i := s) (b := c) hcl x
    rw [Nat.mul_comm x]
    exact this.symm
  · omega
  · rw [hx, hc]; exact lc_dig N s j
  · rw [hx, hc, lc_succ]

set_option maxRecDepth 100000 in
set_option maxHeartbeats 4000000 in
theorem left_any (va : Value) (N k s : Nat) (w : World) (ha : Num 4294967296 .u32 w va N k) (hk : k = len 4294967296 N) (hs : s < 32) (hsz : k < 1099511627776) :
    Calls Tryz.prog 299 #[va, .int .i64 0, .int .i64 (s : Int)] w fun e w' => ∃ v, e = .returned v ∧ Num 4294967296 .u32 w' v (N * 2 ^ s) (len 4294967296 (N * 2 ^ s)) ∧ Grew w w' := by
  have hmk := make_u32 0 (k + 1) (by omega) (by omega)
  rw [mk1, mk0] at hmk
  have hlast := lc_dig N s k
  have hll := lc_lt N s k
  have hp : 2 ^ s ≤ 2 ^ 31 := Nat.pow_le_pow_right (by omega) (by omega)
  obtain ⟨A, ca, rfl, a1, a2, a3, a4⟩ := id ha
  rw [dig_zero_of_lt (by omega) a3 (Nat.le_refl _), Nat.zero_mul, Nat.zero_add, Nat.mod_eq_of_lt (by omega)] at hlast
  have hlen : N * 2 ^ s < 4294967296 ^ (k + 1) := by
    rw [Nat.pow_succ]; exact Nat.mul_lt_mul'' a3 (by omega)
  have Hk := Lib.hid hk
  have Hlast := Lib.hid hlast
  have Hlen := Lib.hid hlen
  have Hll : Hid (lc N s k < 2147483648) := Lib.hid (by omega)
  clear hk hlast hlen a3 hll hp
  go_enter Tryz.func299, Tryz.ntmps299
  go_wp2_with fail
  go_loopg [7, 8, 21] k (fun gk out cr i wr => ∃ j : Nat, gk + j = k ∧ i = .int .i64 j ∧ cr = .int .u64 (lc N s j : Nat) ∧ wr.ownsRow w.heap.size 163 1 out j (dvals 4294967296 .u32 (N * 2 ^ s) j) ∧ Grew w wr)
  case atStart => exact ⟨0, rfl, rfl, by rw [lc_zero]; rfl, World.ownsRow_made _ _ _ (Nat.le_refl _) (by simp only [maxLen]; omega) (by simp [size_madeCells]), (Grew.refl _).alloc _⟩
  case round =>
    obtain ⟨j, hj, rfl, rfl, hown, hG⟩ := hrel
    by_cases hlt : j < k
    · obtain ⟨ba, oa, rfl, hca⟩ := a4 (by omega)
      have hcx := hG.cell (hca j (by omega))
      have hx := dig_lt (B := 4294967296) (by omega) N j
      obtain ⟨v, hv1, hv2, hv3, hv4⟩ := left_step N s j _ _ hs rfl rfl
      have hsucc := Lib.hid (dvals_succ 4294967296 .u32 (N * 2 ^ s) j)
      have Hv3 := Lib.hid hv3
      have Hv4 := Lib.hid hv4
      have hand := and_low v hv2
      clear hv3 hv4
      generalize dig 4294967296 N j = x at *
      generalize lc N s j = c at *
      go_wp2_with (first | fail | (at_builtin; refine wpList_app1 _ rfl (.tmp 31) (.tmp 35) 46 rfl w.heap.size 163 (.int .u32 0) 1 4 Tryz.underlying46 info_u32 rfl (by omega) _ j _ rfl hown _ rfl (by simp [Value.oneCell']) rfl (by omega) (by omega) (by exact hG.size) ?_; intro v1 w1 hown1 hG1))
      go_roundg (gk - 1)
      case rel => exact ⟨j + 1, by omega, by go_num, by rw [← Hv4.out]; simp, by rw [hsucc.out, ← Hv3.out]; exact hown1, hG1 _ (Nat.le_refl _) hG⟩
      case measure => omega
    · obtain rfl : j = k := by omega
      have hsucc := Lib.hid (dvals_succ 4294967296 .u32 (N * 2 ^ s) j)
      have Hl2 := Hlast.out
      have Hl3 := Hll.out
      rw [Hlast.out] at Hl3
      rw [Hl2]
      clear Hl2
      generalize hd : dig 4294967296 (N * 2 ^ s) j = d at *
      have Hd := Lib.hid hd
      clear hd
      have hdm : (d : Int) % 4294967296 = d := by omega
      have hlenle := len_le (B := 4294967296) (by omega) Hlen.out
      go_wp2_with (first | fail | (at_builtin; refine wpList_app1 _ rfl (.tmp 40) (.tmp 43) 46 rfl w.heap.size 163 (.int .u32 0) 1 4 Tryz.underlying46 info_u32 rfl (by omega) _ j _ rfl hown _ rfl (by simp [Value.oneCell']) rfl (by omega) (by omega) (by exact hG.size) ?_; intro v1 w1 hown1 hG1))
      have hnum : Num 4294967296 .u32 w1 v1 (N * 2 ^ s) (j + 1) := Num.of_own (base := w.heap.size) (e := 163) (by rw [hsucc.out]; exact hown1) Hlen.out
      obtain ⟨D, cd, rfl, d1, d2, d3, d4⟩ := id hnum
      have q1 : ((len 4294967296 (N * 2 ^ s) : Nat) : Int) ≤ (cd : Int) := by omega
      have hcut := hnum.cut (k := len 4294967296 (N * 2 ^ s)) hlenle (lt_len (by omega) _)
      clear hown1 d3 hmk
      go_wp2_with fail
      refine (size_any _ _ _ _ hnum).mono ?_
      rintro e w' ⟨rfl, rfl⟩
      have Hcut := Lib.hid hcut
      clear hcut hnum
      generalize hs' : len 4294967296 (N * 2 ^ s) = z at *
      have Hs := Lib.hid hs'
      clear hs'
      go_wp2_with fail
      go_ret
      exact ⟨_, rfl, by rw [Hs.out]; exact Hcut.out, hG1 _ (Nat.le_refl _) hG⟩

set_option maxRecDepth 100000 in
set_option maxHeartbeats 4000000 in
theorem shift_up (va : Value) (N n s : Nat) (w : World) (ha : Num 4294967296 .u32 w va N n) (hs : s < 32) (hsz : len 4294967296 N < 1099511627776) :
    Calls Tryz.prog 261 #[va, .int .i64 (s : Int)] w fun e w' => ∃ v, e = .returned v ∧ Num 4294967296 .u32 w' v (N * 2 ^ s) (len 4294967296 (N * 2 ^ s)) ∧ Grew w w' := by
  obtain ⟨A, ca, rfl, a1, a2, a3, a4⟩ := id ha
  have hn := ha.len_le (by omega)
  have hcut := ha.cut (k := len 4294967296 N) hn (lt_len (by omega) _)
  by_cases hk0 : len 4294967296 N = 0
  · obtain rfl : N = 0 := (len_eq_zero (by omega)).1 hk0
    clear hcut
    have hnil : Num 4294967296 .u32 w (.slice none 0 0) 0 (len 4294967296 0) := Num.nil _ _ _
    go_enter Tryz.func261, Tryz.ntmps261
    go_wp2_with fail
    refine (size_any _ _ _ _ ha).mono ?_
    rintro e w' ⟨rfl, rfl⟩
    rw [len_zero]
    go_wp2_with fail
    go_ret
    exact ⟨_, rfl, by simpa using hnil, Grew.refl _⟩
  · have Hcut := Lib.hid hcut
    have hkp : 0 < len 4294967296 N := by omega
    generalize hk : len 4294967296 N = k at *
    have Hk := Lib.hid hk
    clear hk hcut hk0
    have q1 : (k : Int) ≤ (ca : Int) := by omega
    have q2 : ((k : Int) == 0) = false := by simp <;> omega
    have q3 : (s : Int) ≤ 31 := by omega
    have q4 : (s : Int) / 32 = 0 := by omega
    have q5 : (s : Int) % 32 = s := by omega
    have q6 : decide (4096 < (s : Int)) = false := by simp <;> omega
    have q7 : decide ((s : Int) < -4096) = false := by simp <;> omega
    go_enter Tryz.func261, Tryz.ntmps261
    go_wp2_with fail
    refine (size_any _ _ _ _ ha).mono ?_
    rintro e w' ⟨rfl, rfl⟩
    rw [Hk.out]
    go_wp2_with fail
    refine (left_any _ _ _ _ _ Hcut.out Hk.out.symm hs hsz).mono ?_
    rintro e w' ⟨v, rfl, h1, h2⟩
    go_wp2_with fail
    go_ret
    exact ⟨v, rfl, h1, h2⟩

theorem shr_step (N s i x y : Nat) (hs : s < 32) (hx : x = dig 4294967296 N i) (hy : y = dig 4294967296 N (i + 1)) :
    (x + 4294967296 * y) / 2 ^ s % 4294967296 = dig 4294967296 (N / 2 ^ s) i := by
  have h1 := div_succ (B := 4294967296) N i
  have h2 := div_succ (B := 4294967296) N (i + 1)
  rw [← hx] at h1
  rw [← hy] at h2
  have hps := Nat.two_pow_pos s
  have e1 : N / 2 ^ s / 4294967296 ^ i = N / 4294967296 ^ i / 2 ^ s := by
    rw [Nat.div_div_eq_div_mul, Nat.mul_comm, ← Nat.div_div_eq_div_mul]
  unfold dig
  rw [e1, h1, h2]
  generalize N / 4294967296 ^ (i + 1 + 1) = Q
  obtain ⟨d, hd⟩ : ∃ d, 4294967296 = 2 ^ s * d := ⟨2 ^ (32 - s), by rw [← Nat.pow_add, show s + (32 - s) = 32 from by omega]⟩
  have e2 : 4294967296 * (4294967296 * Q + y) + x = (x + 4294967296 * y) + 2 ^ s * (4294967296 * (d * Q)) := by
    have : 2 ^ s * (4294967296 * (d * Q)) = 4294967296 * (2 ^ s * d * Q) := by simp only [Nat.mul_comm, Nat.mul_left_comm, Nat.mul_assoc]
    rw [this, ← hd]
    omega
  rw [e2, Nat.add_mul_div_left _ _ hps, Nat.add_mul_mod_self_left]

theorem shr_and (v s : Nat) (h : v < 18446744073709551616) : bits .and .u64 ((v : Int) / 2 ^ s) 4294967295 = ((v / 2 ^ s % 4294967296 : Nat) : Int) := by
  have e : (v : Int) / 2 ^ s = ((v / 2 ^ s : Nat) : Int) := by simp
  have h2 : v / 2 ^ s ≤ v := Nat.div_le_self _ _
  rw [e, and_low _ (by omega)]
  omega

theorem or_high (x y : Nat) (hx : x < 4294967296) (hy : y < 4294967296) : bits .or .u64 (x : Int) ((y : Int) * 4294967296) = ((x + 4294967296 * y : Nat) : Int) := by
  have h := u64_or_nat x (y * 4294967296) (by omega) (by omega)
  rw [Nat.or_comm, show y * 4294967296 ||| x = y * 4294967296 + x from by
    have := Nat.two_pow_add_eq_or_of_lt (i := 32) (b := x) (by omega) y
    rw [Nat.mul_comm y 4294967296]
    exact this.symm] at h
  rw [show ((y * 4294967296 : Nat) : Int) = (y : Int) * 4294967296 from by omega] at h
  rw [h]; omega

set_option maxRecDepth 100000 in
set_option maxHeartbeats 4000000 in
theorem shift_down (va : Value) (N n s : Nat) (w : World) (ha : Num 4294967296 .u32 w va N n) (hs : s < 32) (hs0 : 0 < s) (hsz : len 4294967296 N < 1099511627776) :
    Calls Tryz.prog 261 #[va, .int .i64 (-(s : Int))] w fun e w' => ∃ v, e = .returned v ∧ Num 4294967296 .u32 w' v (N / 2 ^ s) (len 4294967296 (N / 2 ^ s)) ∧ Grew w w' := by
  obtain ⟨A, ca, rfl, a1, a2, a3, a4⟩ := id ha
  have hn := ha.len_le (by omega)
  have hdl := len_mono (B := 4294967296) (by omega) (Nat.div_le_self N (2 ^ s))
  by_cases hk0 : len 4294967296 N = 0
  · obtain rfl : N = 0 := (len_eq_zero (by omega)).1 hk0
    have q1 : (0 : Int) ≤ (ca : Int) := by omega
    have hnil : Num 4294967296 .u32 w (.slice none 0 0) 0 (len 4294967296 0) := Num.nil _ _ _
    go_enter Tryz.func261, Tryz.ntmps261
    go_wp2_with fail
    refine (size_any _ _ _ _ ha).mono ?_
    rintro e w' ⟨rfl, rfl⟩
    rw [len_zero]
    go_wp2_with fail
    go_ret
    exact ⟨_, rfl, by simpa using hnil, Grew.refl _⟩
  · have hkp : 0 < len 4294967296 N := by omega
    have hNlt := Lib.hid (lt_len (B := 4294967296) (by omega) N)
    generalize hk : len 4294967296 N = k at *
    have Hk := Lib.hid hk
    clear hk hk0 a3
    have hmk := make_u32 0 k (by omega) (by omega)
    rw [mk0] at hmk
    have q1 : (k : Int) ≤ (ca : Int) := by omega
    have q2 : ((k : Int) == 0) = false := by simp <;> omega
    have q3 : (s : Int) ≤ 31 := by omega
    have q4 : (s : Int) / 32 = 0 := by omega
    have q5 : (s : Int) % 32 = s := by omega
    have q6 : decide (4096 < -(s : Int)) = false := by simp <;> omega
    have q7 : decide (-(s : Int) < -4096) = false := by simp <;> omega
    have q8 : decide (0 ≤ -(s : Int)) = false := by simp <;> omega
    have q9 : decide ((k : Int) ≤ 0) = false := by simp <;> omega
    go_enter Tryz.func261, Tryz.ntmps261
    go_wp2_with fail
    refine (size_any _ _ _ _ ha).mono ?_
    rintro e w' ⟨rfl, rfl⟩
    rw [Hk.out]
    go_wp2_with fail
    rw [show decide ((4096 : Int) < (s : Int)) = false from by simp <;> omega, show decide (s = 0) = false from by simp <;> omega, show decide (k = 0) = false from by simp <;> omega, q5]
    clear q6 q7 q8 q9 q4 q5
    go_loopg [7, 8] k (fun gk out i wr => ∃ j : Nat, gk + j = k ∧ i = .int .i64 j ∧ wr.ownsRow w.heap.size 163 1 out j (dvals 4294967296 .u32 (N / 2 ^ s) j) ∧ Grew w wr)
    case atStart => exact ⟨0, rfl, rfl, World.ownsRow_made _ _ _ (Nat.le_refl _) (by simp only [maxLen]; omega) (by simp [size_madeCells]), (Grew.refl _).alloc _⟩
    case round =>
      obtain ⟨j, hj, rfl, hown, hG⟩ := hrel
      by_cases hlt : j < k
      · obtain ⟨ba, oa, rfl, hca⟩ := a4 (by omega)
        have hcx := hG.cell (hca j (by omega))
        have hx := dig_lt (B := 4294967296) (by omega) N j
        have hsucc := Lib.hid (dvals_succ 4294967296 .u32 (N / 2 ^ s) j)
        by_cases hj1 : j + 1 < k
        · have hcy : wr.cell? ⟨ba, oa + (j + 1), none⟩ = _ := hG.cell (hca (j + 1) (by omega))
          have hy := dig_lt (B := 4294967296) (by omega) N (j + 1)
          have hst := Lib.hid (shr_step N s j _ _ hs rfl rfl)
          have hor := or_high _ _ hx hy
          have hand := shr_and (dig 4294967296 N j + 4294967296 * dig 4294967296 N (j + 1)) s (by omega)
          rw [hst.out] at hand
          have hd := dig_lt (B := 4294967296) (by omega) (N / 2 ^ s) j
          clear hst
          generalize dig 4294967296 N j = x at *
          generalize dig 4294967296 N (j + 1) = y at *
          generalize x + 4294967296 * y = v at *
          generalize dig 4294967296 (N / 2 ^ s) j = d at *
          have hdm : (d : Int) % 4294967296 = d := by omega
          go_wp2_with (first | fail | (at_builtin; refine wpList_app1 _ rfl (.tmp 79) (.tmp 85) 46 rfl w.heap.size 163 (.int .u32 0) 1 4 Tryz.underlying46 info_u32 rfl (by omega) _ j _ rfl hown _ rfl (by simp [Value.oneCell']) rfl (by omega) (by omega) (by exact hG.size) ?_; intro v1 w1 hown1 hG1))
          go_roundg (gk - 1)
          case rel => exact ⟨j + 1, by omega, by go_num, by rw [hsucc.out]; exact hown1, hG1 _ (Nat.le_refl _) hG⟩
          case measure => omega
        · have hy0 : dig 4294967296 N (j + 1) = 0 := dig_zero_of_lt (by omega) hNlt.out (by omega)
          have hst := Lib.hid (shr_step N s j _ 0 hs rfl hy0.symm)
          have hand := shr_and (dig 4294967296 N j) s (by omega)
          have h2 := hst.out
          rw [Nat.mul_zero, Nat.add_zero] at h2
          rw [h2] at hand
          have hd := dig_lt (B := 4294967296) (by omega) (N / 2 ^ s) j
          clear hst h2 hy0
          generalize dig 4294967296 N j = x at *
          generalize dig 4294967296 (N / 2 ^ s) j = d at *
          have hdm : (d : Int) % 4294967296 = d := by omega
          go_wp2_with (first | fail | (at_builtin; refine wpList_app1 _ rfl (.tmp 79) (.tmp 85) 46 rfl w.heap.size 163 (.int .u32 0) 1 4 Tryz.underlying46 info_u32 rfl (by omega) _ j _ rfl hown _ rfl (by simp [Value.oneCell']) rfl (by omega) (by omega) (by exact hG.size) ?_; intro v1 w1 hown1 hG1))
          go_roundg (gk - 1)
          case rel => exact ⟨j + 1, by omega, by go_num, by rw [hsucc.out]; exact hown1, hG1 _ (Nat.le_refl _) hG⟩
          case measure => omega
      · obtain rfl : j = k := by omega
        have hlt2 := lt_pow_of_len (B := 4294967296) (by omega) hdl
        have hnum := Num.of_own hown hlt2
        obtain ⟨D, cd, rfl, d1, d2, d3, d4⟩ := id hnum
        have z1 : ((len 4294967296 (N / 2 ^ s) : Nat) : Int) ≤ (cd : Int) := by omega
        have hcut := hnum.cut (k := len 4294967296 (N / 2 ^ s)) hdl (lt_len (by omega) _)
        clear hmk hown d3 hlt2
        go_wp2_with fail
        refine (size_any _ _ _ _ hnum).mono ?_
        rintro e w' ⟨rfl, rfl⟩
        have Hcut := Lib.hid hcut
        clear hcut hnum
        generalize hz : len 4294967296 (N / 2 ^ s) = z at *
        have Hz := Lib.hid hz
        clear hz
        go_wp2_with fail
        go_ret
        exact ⟨_, rfl, by rw [Hz.out]; exact Hcut.out, hG⟩
end Go.Proofs.YtngbcbncllfblaaGreat
namespace Go.Proofs.YtngbcbncllfblaaGreat

/-- What the guess may be: not too small, and at most one too great. -/
theorem guess_ok {B U V Q q D u3 v2 Ul Vl : Nat} (hU : U = u3 * D + Ul) (hV : V = v2 * D + Vl) (hVl : Vl < D)
    (hQ : Q = U / V) (hv : B ≤ v2) (hQB : Q < B) (hge : Q ≤ q) (hle : q * v2 ≤ u3) : Q ≤ q ∧ q ≤ Q + 1 := by
  refine ⟨hge, ?_⟩
  rcases Nat.lt_or_ge (Q + 1) q with h | h
  · exfalso
    have hVp : 0 < V := by
      have : 0 < v2 * D := Nat.mul_pos (by omega) (by omega)
      omega
    have h1 : U < (Q + 1) * V := by
      rw [hQ, Nat.mul_comm, Nat.mul_add, Nat.mul_one]
      have := Nat.div_add_mod U V
      have := Nat.mod_lt U hVp
      omega
    have h2 : (Q + 2) * v2 ≤ u3 := Nat.le_trans (Nat.mul_le_mul_right _ h) hle
    have h3 : (Q + 2) * v2 * D ≤ U := by
      have := Nat.mul_le_mul_right D h2
      omega
    have h4 : (Q + 1) * V ≤ (Q + 1) * ((v2 + 1) * D) := Nat.mul_le_mul_left _ (by rw [Nat.add_mul, Nat.one_mul]; omega)
    have h5 : (Q + 2) * v2 * D < (Q + 1) * (v2 + 1) * D := by rw [Nat.mul_assoc (Q + 1)]; omega
    have h6 : (Q + 2) * v2 < (Q + 1) * (v2 + 1) := Nat.lt_of_mul_lt_mul_right h5
    have e1 : (Q + 2) * v2 = Q * v2 + 2 * v2 := by rw [Nat.add_mul]
    have e2 : (Q + 1) * (v2 + 1) = Q * v2 + v2 + Q + 1 := by rw [Nat.add_mul, Nat.mul_add]; omega
    omega
  · exact h

/-- A guess that was refused is above. -/
theorem guess_hi {U V Q q D u3 v2 Ul Vl : Nat} (hU : U = u3 * D + Ul) (hUl : Ul < D) (hV : V = v2 * D + Vl) (hQ : Q = U / V) (hv : 0 < v2) (hD : 0 < D) (h : u3 < q * v2) : Q < q := by
  have hVp : 0 < V := by
    have : 0 < v2 * D := Nat.mul_pos hv hD
    omega
  rw [hQ, Nat.div_lt_iff_lt_mul hVp]
  have h1 : (u3 + 1) * D ≤ q * v2 * D := Nat.mul_le_mul_right _ h
  have h2 : q * (v2 * D) ≤ q * V := Nat.mul_le_mul_left _ (by omega)
  rw [Nat.add_mul, Nat.one_mul] at h1
  rw [← Nat.mul_assoc] at h2
  omega

theorem dig_top {N n : Nat} (h : N < 4294967296 ^ (n + 1)) : N / 4294967296 ^ n = dig 4294967296 N n := by
  unfold dig
  rw [Nat.mod_eq_of_lt]
  rw [Nat.div_lt_iff_lt_mul (pow_pos' (by omega) n), Nat.mul_comm, ← Nat.pow_succ]
  exact h

/-- The numbers of a guess: U of n + 3 words, V of n + 2. -/
theorem guess_nums (U V n : Nat) (hV : V < 4294967296 ^ (n + 2)) (hU : U < V * 4294967296) :
    U / 4294967296 ^ n = (dig 4294967296 U (n + 2) * 4294967296 + dig 4294967296 U (n + 1)) * 4294967296 + dig 4294967296 U n ∧
    V / 4294967296 ^ n = dig 4294967296 V (n + 1) * 4294967296 + dig 4294967296 V n ∧
    dig 4294967296 U (n + 2) * 4294967296 + dig 4294967296 U (n + 1) < (dig 4294967296 V (n + 1) + 1) * 4294967296 := by
  have hU3 : U < 4294967296 ^ (n + 3) := by
    rw [Nat.pow_succ]
    exact Nat.lt_of_lt_of_le hU (Nat.mul_le_mul_right _ (Nat.le_of_lt hV))
  have a1 := div_succ (B := 4294967296) U n
  have a2 := div_succ (B := 4294967296) U (n + 1)
  have a3 : U / 4294967296 ^ (n + 1 + 1) = dig 4294967296 U (n + 2) := dig_top hU3
  have b1 := div_succ (B := 4294967296) V n
  have b2 := dig_top hV
  refine ⟨by omega, by omega, ?_⟩
  -- U / B^(n+1) < (V / B^(n+1) + 1) * B
  have hp := pow_pos' (B := 4294967296) (by omega) (n + 1)
  have c1 : U / 4294967296 ^ (n + 1) < (dig 4294967296 V (n + 1) + 1) * 4294967296 := by
    rw [Nat.div_lt_iff_lt_mul hp, ← b2]
    have d1 := Nat.div_add_mod V (4294967296 ^ (n + 1))
    have d2 := Nat.mod_lt V hp
    have d3 : V < (V / 4294967296 ^ (n + 1) + 1) * 4294967296 ^ (n + 1) := by rw [Nat.add_mul, Nat.one_mul, Nat.mul_comm]; omega
    have d4 := Nat.mul_lt_mul_of_pos_right d3 (show 0 < 4294967296 by omega)
    rw [show (V / 4294967296 ^ (n + 1) + 1) * 4294967296 * 4294967296 ^ (n + 1) = (V / 4294967296 ^ (n + 1) + 1) * 4294967296 ^ (n + 1) * 4294967296 from by simp only [Nat.mul_comm, Nat.mul_left_comm]]
    exact Nat.lt_trans hU d4
  omega

/-- The first guess isn't too small. -/
theorem guess_first {U V n : Nat} (hV : V < 4294967296 ^ (n + 2)) (hU : U < V * 4294967296) (ht : 0 < dig 4294967296 V (n + 1)) :
    U / V ≤ (dig 4294967296 U (n + 2) * 4294967296 + dig 4294967296 U (n + 1)) / dig 4294967296 V (n + 1) := by
  have hU3 : U < 4294967296 ^ (n + 3) := by
    rw [Nat.pow_succ]
    exact Nat.lt_of_lt_of_le hU (Nat.mul_le_mul_right _ (Nat.le_of_lt hV))
  have a2 := div_succ (B := 4294967296) U (n + 1)
  have a3 : U / 4294967296 ^ (n + 1 + 1) = dig 4294967296 U (n + 2) := dig_top hU3
  have b2 := dig_top hV
  have hp := pow_pos' (B := 4294967296) (by omega) (n + 1)
  rw [show dig 4294967296 U (n + 2) * 4294967296 + dig 4294967296 U (n + 1) = U / 4294967296 ^ (n + 1) from by rw [a2, a3]; omega, ← b2, Nat.div_div_eq_div_mul]
  rw [b2.symm] at ht
  apply Nat.div_le_div_left
  · rw [Nat.mul_comm]; exact Nat.div_mul_le_self _ _
  · exact Nat.mul_pos hp ht

theorem div_lt_base {U V : Nat} (hU : U < V * 4294967296) : U / V < 4294967296 := by
  rcases Nat.eq_zero_or_pos V with h | h
  · subst h; omega
  · rw [Nat.div_lt_iff_lt_mul h, Nat.mul_comm]; exact hU


theorem guess_prodB {B q left v u top next : Nat} (hq : left + q * top = v) : (q * next ≤ left * B + u ↔ q * (top * B + next) ≤ v * B + u) := by
  have e1 : q * (top * B + next) = q * top * B + q * next := by rw [Nat.mul_add, Nat.mul_assoc]
  rw [e1, ← hq, Nat.add_mul]
  generalize q * top * B = z
  generalize left * B = y
  omega
theorem guess_prod {q left v u top next : Nat} (hq : left + q * top = v) : (q * next ≤ left * 4294967296 + u ↔ q * (top * 4294967296 + next) ≤ v * 4294967296 + u) := guess_prodB hq

section
variable {U V n q left : Nat} (hV : V < 4294967296 ^ (n + 2)) (hU : U < V * 4294967296) (ht : 2147483648 ≤ dig 4294967296 V (n + 1))
  (hq : left + q * dig 4294967296 V (n + 1) = dig 4294967296 U (n + 2) * 4294967296 + dig 4294967296 U (n + 1))
include hV hU ht hq

theorem guess_refuse (h : left * 4294967296 + dig 4294967296 U n < q * dig 4294967296 V n) : U / V < q := by
  obtain ⟨n1, n2, n3⟩ := guess_nums U V n hV hU
  have hp := pow_pos' (B := 4294967296) (by omega) n
  refine guess_hi (D := 4294967296 ^ n) (u3 := U / 4294967296 ^ n) (v2 := V / 4294967296 ^ n) (Ul := U % 4294967296 ^ n) (Vl := V % 4294967296 ^ n) ?_ (Nat.mod_lt _ hp) ?_ rfl ?_ hp ?_
  · rw [Nat.mul_comm]; exact (Nat.div_add_mod _ _).symm
  · rw [Nat.mul_comm]; exact (Nat.div_add_mod _ _).symm
  · omega
  · rw [n1, n2]
    exact Nat.not_le.1 fun hc => Nat.not_le.2 h ((guess_prod hq).2 hc)

theorem guess_exit (h : q * dig 4294967296 V n ≤ left * 4294967296 + dig 4294967296 U n) (hge : U / V ≤ q) : q ≤ U / V + 1 := by
  obtain ⟨n1, n2, n3⟩ := guess_nums U V n hV hU
  have hp := pow_pos' (B := 4294967296) (by omega) n
  refine (guess_ok (B := 4294967296) (D := 4294967296 ^ n) (u3 := U / 4294967296 ^ n) (v2 := V / 4294967296 ^ n) (Ul := U % 4294967296 ^ n) (Vl := V % 4294967296 ^ n) ?_ ?_ (Nat.mod_lt _ hp) rfl ?_ (div_lt_base hU) hge ?_).2
  · rw [Nat.mul_comm]; exact (Nat.div_add_mod _ _).symm
  · rw [Nat.mul_comm]; exact (Nat.div_add_mod _ _).symm
  · omega
  · rw [n1, n2]
    exact (guess_prod hq).1 h

omit ht in
theorem guess_brk (hl : 4294967296 ≤ left) : q < 4294967296 ∧ q * dig 4294967296 V n ≤ left * 4294967296 + dig 4294967296 U n := by
  obtain ⟨n1, n2, n3⟩ := guess_nums U V n hV hU
  have hn := dig_lt (B := 4294967296) (by omega) V n
  have hqB : q < 4294967296 := by
    rcases Nat.lt_or_ge q 4294967296 with h | h
    · exact h
    · have := Nat.mul_le_mul_right (dig 4294967296 V (n + 1)) h
      omega
  refine ⟨hqB, ?_⟩
  have h1 : q * dig 4294967296 V n ≤ 4294967296 * 4294967296 := Nat.mul_le_mul (by omega) (by omega)
  have h2 : 4294967296 * 4294967296 ≤ left * 4294967296 := Nat.mul_le_mul_right _ hl
  omega

end

theorem guess_startB {v t B : Nat} (hB : 2 < B) (ht : B ≤ 2 * t) (n3 : v < (t + 1) * B) : v / t ≤ B + 1 := by
  have e : (B + 2) * t = t * B + 2 * t := by rw [Nat.add_mul, Nat.mul_comm]
  have e2 : (t + 1) * B = t * B + B := by rw [Nat.add_mul, Nat.one_mul]
  have : v / t < B + 2 := by
    rw [Nat.div_lt_iff_lt_mul (by omega), e]
    omega
  omega

theorem guess_start {U V n : Nat} (hV : V < 4294967296 ^ (n + 2)) (hU : U < V * 4294967296) (ht : 2147483648 ≤ dig 4294967296 V (n + 1)) :
    (dig 4294967296 U (n + 2) * 4294967296 + dig 4294967296 U (n + 1)) / dig 4294967296 V (n + 1) ≤ 4294967297 :=
  guess_startB (by omega) (by omega) (guess_nums U V n hV hU).2.2

/-- TAKE: what is carried out of the first j digits of a number times a digit. -/
def mc (B V q j : Nat) : Nat := q * (V % B ^ j) / B ^ j
section
variable {B : Nat}
theorem mc_zero (V q : Nat) : mc B V q 0 = 0 := by simp [mc, Nat.mod_one]
theorem mc_lt (hB : 0 < B) {V q : Nat} (hq : q < B) (j : Nat) : mc B V q j < B := by
  unfold mc
  have h := pow_pos' hB j
  rw [Nat.div_lt_iff_lt_mul h]
  exact Nat.mul_lt_mul'' hq (Nat.mod_lt _ h)
theorem mc_dig (hB : 0 < B) (V q j : Nat) : (dig B V j * q + mc B V q j) % B = dig B (q * V) j := by
  have h := pow_pos' hB j
  have e : q * V / B ^ j = q * (V / B ^ j) + mc B V q j := by
    unfold mc
    conv => lhs; rw [← Nat.div_add_mod V (B ^ j)]
    rw [Nat.mul_add, Nat.mul_left_comm, Nat.mul_add_div h]
  conv => rhs; unfold dig
  rw [e, div_succ (B := B) V j, Nat.mul_add, Nat.mul_left_comm, Nat.add_assoc, Nat.mul_add_mod, Nat.mul_comm q]
theorem mc_succ (hB : 0 < B) (V q j : Nat) : mc B V q (j + 1) = (dig B V j * q + mc B V q j) / B := by
  have h := pow_pos' hB j
  unfold mc
  rw [mod_succ, Nat.pow_succ, ← Nat.div_div_eq_div_mul, Nat.mul_add, Nat.mul_left_comm, Nat.add_mul_div_left _ _ h, Nat.add_comm, Nat.mul_comm q]

theorem dig_add_pow (U : Nat) {j n : Nat} (h : j ≤ n) : dig B (U + B ^ (n + 1)) j = dig B U j := by
  have := mul_low (B := B) (U := U) (V := 1) (p := j) (s := n + 1) (by omega)
  rwa [Nat.one_mul] at this
theorem mod_add_pow (U : Nat) {j n : Nat} (h : j ≤ n + 1) : (U + B ^ (n + 1)) % B ^ j = U % B ^ j := by
  obtain ⟨d, hd⟩ : ∃ d, n + 1 = j + d := ⟨n + 1 - j, by omega⟩
  rw [hd, Nat.pow_add, Nat.add_mul_mod_self_left]
end

/-- One step of the subtraction of W from U, taken with one more at the top. -/
theorem take_step (U W n j x y c : Nat) (hj : j ≤ n) (hW : W < 4294967296 ^ (n + 1)) (hx : x = dig 4294967296 U j) (hy : y = dig 4294967296 W j) (hc : c = borrow 4294967296 U W j) :
    (((x : Int) - y - c) % 4294967296 = (dig 4294967296 (U + 4294967296 ^ (n + 1) - W) j : Nat)) ∧ ((if x < y + c then 1 else 0) = (borrow 4294967296 U W (j + 1))) := by
  have h1 := borrow_dig (B := 4294967296) (by omega) (U + 4294967296 ^ (n + 1)) W j (by omega)
  have h2 := borrow_succ (B := 4294967296) (by omega) U W j
  have h3 := borrow_le (B := 4294967296) U W j
  have h4 := dig_lt (B := 4294967296) (by omega) U j
  have h5 := dig_lt (B := 4294967296) (by omega) W j
  have hb : borrow 4294967296 (U + 4294967296 ^ (n + 1)) W j = borrow 4294967296 U W j := by
    unfold borrow; rw [mod_add_pow U (by omega)]
  rw [dig_add_pow U hj, hb] at h1
  rw [← hx, ← hy, ← hc] at h1 h2
  rw [← hc] at h3
  rw [← hx] at h4
  rw [← hy] at h5
  rw [← h1, h2]
  exact ⟨by omega, rfl⟩

theorem take_end {U W n : Nat} (hU : U < 4294967296 ^ (n + 1)) (hW : W < 4294967296 ^ (n + 1)) : (borrow 4294967296 U W (n + 1) = 0) ↔ W ≤ U := by
  unfold borrow
  rw [Nat.mod_eq_of_lt hU, Nat.mod_eq_of_lt hW]
  split <;> omega

end Go.Proofs.YtngbcbncllfblaaGreat
