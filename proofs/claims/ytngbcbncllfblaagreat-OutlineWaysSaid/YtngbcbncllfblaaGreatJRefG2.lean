/- r01.Div, the short ways. Condition: what comes in reads; fewer than 2^37 words. r01.Div, the long way: bit by bit. Condition: what comes in reads; fewer than 2^37 words. r03.copied, r03.zero, r03.halved. Condition: what comes in reads; fewer than 2^40 words. r03.below, r03.less. Condition: what comes in reads, without noughts at the top; fewer than 2^40 words. -/
import Derived.Test.YtngbcbncllfblaaGreatJWv
import Derived.Deep.DeepCutAuto
import Derived.RegionTactic
namespace Go.Proofs.YtngbcbncllfblaaGreat
open Go.RowKit

theorem u64_nat (y : Nat) (h : y < 18446744073709551616) : IntKind.u64.wrap (y : Int) = (y : Int) := IntWalk.u64_in _ ⟨by omega, by omega⟩

set_option maxRecDepth 100000 in
set_option maxHeartbeats 4000000 in
theorem rDiv_short (va vb : Value) (N M n m : Nat) (w : World) (ha : Num 4294967296 .u32 w va N n) (hb : Num 4294967296 .u32 w vb M m) (hsz : n < 137438953472 ∧ m < 137438953472) (hM : M ≠ 0)
    (hs : len 65536 N ≤ 4 ∧ len 65536 M ≤ 4) :
    Calls Tryz.prog 252 #[va, vb] w fun e w' => ∃ q r, e = .returned (.tuple #[q, r, .bool true]) ∧ Num 4294967296 .u32 w' q (N / M) (len 4294967296 (N / M)) ∧ Num 4294967296 .u32 w' r (N % M) (len 4294967296 (N % M)) ∧ Grew w w' := by
  have hl0 : len 65536 M ≠ 0 := fun e => hM ((len_eq_zero (by omega)).1 e)
  have e64 : (65536 : Nat) ^ 4 = 18446744073709551616 := rfl
  have hN : N < 18446744073709551616 := by rw [← e64]; exact lt_pow_of_len (by omega) hs.1
  have hM2 : M < 18446744073709551616 := by rw [← e64]; exact lt_pow_of_len (by omega) hs.2
  have hq : N / M < 18446744073709551616 := Nat.lt_of_le_of_lt (Nat.div_le_self _ _) hN
  have hr : N % M < 18446744073709551616 := Nat.lt_of_le_of_lt (Nat.mod_le _ _) hN
  have eq1 := Lib.hid (show ((N : Int) / (M : Int)) = ((N / M : Nat) : Int) by simp)
  have er1 := Lib.hid (show ((N : Int) % (M : Int)) = ((N % M : Nat) : Int) by simp)
  have wq := Lib.hid (show IntKind.u64.wrap ((N : Int) / (M : Int)) = ((N / M : Nat) : Int) by rw [eq1.out]; exact u64_nat _ hq)
  have wr1 := Lib.hid (show IntKind.u64.wrap ((N : Int) % (M : Int)) = ((N % M : Nat) : Int) by rw [er1.out]; exact u64_nat _ hr)
  have wr2 := Lib.hid (show (N : Int).tmod (M : Int) = ((N % M : Nat) : Int) by rw [Int.tmod_eq_emod_of_nonneg (by omega)]; exact er1.out)
  obtain ⟨hs1, hs2⟩ := hs
  clear e64
  go_enter Tryz.func252, Tryz.ntmps252
  go_wp2_with fail
  refine (rhalf_any _ _ _ _ ha (by omega)).mono ?_
  rintro e w1 ⟨v1, rfl, h1, g1⟩
  replace hb := hb.grew g1
  go_wp2_with fail
  refine (rhalf_any _ _ _ _ hb (by omega)).mono ?_
  rintro e w2 ⟨v2, rfl, h2, g2⟩
  replace h1 := h1.grew g2
  obtain ⟨A, ca, rfl, -⟩ := id h1
  obtain ⟨C, cb, rfl, -⟩ := id h2
  have g := Lib.hid (g1.trans g2)
  generalize len 65536 N = L at *
  generalize len 65536 M = K at *
  have hk1 : ((K : Int) == 0) = false := by simp; omega
  have hmb : ((M : Int) == 0) = false := by simp; omega
  have A1 := Lib.hid (r1small_any (.slice A L ca) N L w2 h1 hs1)
  have A2 := Lib.hid (r1small_any (.slice C K cb) M K w2 h2 hs2)
  replace hq := Lib.hid hq
  replace hr := Lib.hid hr
  have b1 : (N : Int) ≤ 18446744073709551615 := by omega
  have b2 : (M : Int) ≤ 18446744073709551615 := by omega
  have b3 : (0 : Int) < (M : Int) := by omega
  clear g1 g2 h1 h2 ha hb hN hM2
  go_upto_region 6 with (first | fail | (go_at_call_of 294 (Value.slice A L ca); refine A1.out.mono ?_; rintro e w' ⟨rfl, rfl⟩) | (go_at_call 294; refine A2.out.mono ?_; rintro e w' ⟨rfl, rfl⟩))
  go_region_held3 (fun _ => True) (first | trivial)
    (first | (go_at_call 192; (with_reducible refine (r1of_any _ (N / M) _ wq.out hq.out).mono ?_); rintro e w3 ⟨v3, rfl, h3, g3⟩; obtain ⟨D, cd, rfl, h3⟩ := h3.slice) | (go_at_call 192; (with_reducible refine (r1of_any _ (N % M) _ wr1.out hr.out).mono ?_); rintro e w4 ⟨v4, rfl, h4, g4⟩; obtain ⟨E, ce, rfl, h4⟩ := h4.slice) | (go_at_call 192; (with_reducible refine (r1of_any _ (N % M) _ wr2.out hr.out).mono ?_); rintro e w4 ⟨v4, rfl, h4, g4⟩; obtain ⟨E, ce, rfl, h4⟩ := h4.slice))
  have g5 := Lib.hid (((g.out.drew).trans g3).trans g4)
  replace h3 := Lib.hid (h3.out.grew g4)
  clear g3 g4 g
  go_wp2_with fail
  go_ret3
  exact ⟨_, _, rfl, h3.out, h4.out, g5.out⟩
end Go.Proofs.YtngbcbncllfblaaGreat
namespace Go.Proofs.YtngbcbncllfblaaGreat
open Go.RowKit

theorem row_step {w : World} {g t L T U s v : Nat} {K : IntKind} (h : Row w g t K (mix 65536 T U s) L) (hv : v = dig 65536 U s) :
    Row (w.setCell ⟨g, s, none⟩ (.int K (v : Nat))) g t K (mix 65536 T U (s + 1)) L := by
  refine (h.set s v).congr fun p _ => ?_
  by_cases e : p = s
  · subst e; simp [mix, hv]
  · simp only [if_neg e, mix]
    by_cases hp : p < s
    · rw [if_pos hp, if_pos (by omega)]
    · rw [if_neg hp, if_neg (by omega)]
theorem row_start {w : World} {g t L T U : Nat} {K : IntKind} (h : Row w g t K (dig 65536 T) L) : Row w g t K (mix 65536 T U 0) L := h.congr fun p _ => by simp [mix]
theorem row_end {w : World} {g t L T U : Nat} {K : IntKind} (h : Row w g t K (mix 65536 T U L) L) : Row w g t K (dig 65536 U) L := h.congr fun p hp => by simp [mix, hp]

theorem bit_sum (d r : Nat) (h : d + 2 ^ r < 65536) : IntKind.u64.wrap ((d : Int) + IntKind.u64.wrap ((2 : Int) ^ r)) = ((d + 2 ^ r : Nat) : Int) := by
  have e : ((2 : Int) ^ r) = ((2 ^ r : Nat) : Int) := by simp
  rw [e]
  generalize 2 ^ r = y at *
  rw [u64_nat y (by omega), ← Int.natCast_add, u64_nat _ (by omega)]
theorem two_rows (w : World) (t : TypeId) (a b : Nat) : Row ((w.alloc (.cells (madeCells #[.int .u64 0] a) t)).alloc (.cells (madeCells #[.int .u64 0] b) t)).drew w.heap.size t .u64 (fun _ => 0) a ∧
    Row ((w.alloc (.cells (madeCells #[.int .u64 0] a) t)).alloc (.cells (madeCells #[.int .u64 0] b) t)).drew (w.heap.size + 1) t .u64 (fun _ => 0) b ∧ Grew w ((w.alloc (.cells (madeCells #[.int .u64 0] a) t)).alloc (.cells (madeCells #[.int .u64 0] b) t)).drew := by
  refine ⟨((Row.made w t .u64 a).alloc _).drew, ?_, (((Grew.refl w).alloc _).alloc _).drew⟩
  have h := (Row.made (w.alloc (.cells (madeCells #[.int .u64 0] a) t)) t .u64 b).drew
  simpa using h

set_option maxRecDepth 100000 in
set_option maxHeartbeats 16000000 in
theorem rDiv_long (va vb : Value) (N M n m : Nat) (w : World) (ha : Num 4294967296 .u32 w va N n) (hb : Num 4294967296 .u32 w vb M m) (hsz : n < 137438953472 ∧ m < 137438953472) (hM : M ≠ 0)
    (hs : 4 < len 65536 N ∨ (len 65536 N ≤ 4 ∧ 4 < len 65536 M)) :
    Calls Tryz.prog 252 #[va, vb] w fun e w' => ∃ q r, e = .returned (.tuple #[q, r, .bool true]) ∧ Num 4294967296 .u32 w' q (N / M) (len 4294967296 (N / M)) ∧ Num 4294967296 .u32 w' r (N % M) (len 4294967296 (N % M)) ∧ Grew w w' := by
  have hl0 : len 65536 M ≠ 0 := fun e => hM ((len_eq_zero (by omega)).1 e)
  have l1 : len 65536 N < 274877906945 := by
    have h1 := ha.len_le (by omega); have := len_half N; omega
  have l2 : len 65536 M < 274877906945 := by
    have h1 := hb.len_le (by omega); have := len_half M; omega
  have hNs := Lib.hid (lt_len (B := 65536) (by omega) N)
  have hMs := Lib.hid (lt_len (B := 65536) (by omega) M)
  have hM0 := Lib.hid (Nat.pos_of_ne_zero hM)
  go_enter Tryz.func252, Tryz.ntmps252
  go_wp2_with fail
  refine (rhalf_any _ _ _ _ ha (by omega)).mono ?_
  rintro e w1 ⟨v1, rfl, h1, g1⟩
  replace hb := hb.grew g1
  go_wp2_with fail
  refine (rhalf_any _ _ _ _ hb (by omega)).mono ?_
  rintro e w2 ⟨v2, rfl, h2, g2⟩
  replace h1 := h1.grew g2
  obtain ⟨A, ca, rfl, -⟩ := id h1
  obtain ⟨C, cb, rfl, -⟩ := id h2
  have g0 := Lib.hid (g1.trans g2)
  replace h1 := Lib.hid h1
  replace h2 := Lib.hid h2
  generalize len 65536 N = L at *
  generalize len 65536 M = K at *
  have hk1 : ((K : Int) == 0) = false := by simp; omega
  have hmk1 := make_u64 L L (by omega) (by omega)
  have hmk2 := make_u64 (K + 1) (K + 1) (by omega) (by omega)
  rw [show ((K + 1 : Nat) : Int) = (K : Int) + 1 from by omega] at hmk2
  clear g1 g2 ha hb hM
  rcases hs with hs | ⟨hs, hs'⟩
  all_goals
    go_upto_region 7 with fail
    go_cut [11, 12] (fun s11 s12 wx => ∃ g h : Nat, s11 = .slice (some ⟨g, 0, none⟩) L L ∧ s12 = .slice (some ⟨h, 0, none⟩) (K + 1) (K + 1) ∧ Row wx g 175 .u64 (fun _ => 0) L ∧ Row wx h 175 .u64 (fun _ => 0) (K + 1) ∧ g ≠ h ∧ w2.heap.size ≤ g ∧ w2.heap.size ≤ h ∧ Grew w2 wx)
    · go_region
      all_goals
        go_wp2_with fail
        go_meet
        first
          | exact ⟨_, _, rfl, rfl, (two_rows _ _ _ _).1, (two_rows _ _ _ _).2.1, by omega, by omega, by omega, (two_rows _ _ _ _).2.2⟩
          | exact ⟨_, _, rfl, rfl, (two_rows _ _ _ _).2.1, (two_rows _ _ _ _).1, by omega, by omega, by omega, (two_rows _ _ _ _).2.2⟩
    · obtain ⟨g, h, rfl, rfl, hRg, hRh, hgh, hgw, hhw, hGc⟩ := hcut
      have hg' := Lib.hid hRg
      have hh' := Lib.hid hRh
      have hG' := Lib.hid hGc
      have hz0 := Lib.hid (show N / 2 ^ (16 * L) = 0 from Nat.div_eq_of_lt (by have := hNs.out; rw [Nat.pow_mul]; exact this))
      clear hmk1 hmk2 hRg hRh hGc
      go_wp2_with fail
      rw [show (16 * (L : Int) - 1) = ((16 * L : Nat) : Int) - 1 from by omega]
      go_loopg [13] (16 * L) (fun gk i wr => ∃ k : Nat, gk = k ∧ k ≤ 16 * L ∧ i = .int .i64 ((k : Int) - 1) ∧ Row wr g 175 .u64 (dig 65536 (N / 2 ^ k / M * 2 ^ k)) L ∧ Row wr h 175 .u64 (dig 65536 (N / 2 ^ k % M)) (K + 1) ∧ Grew w2 wr)
      case atStart =>
        refine ⟨16 * L, rfl, Nat.le_refl _, rfl, hg'.out.congr fun p _ => ?_, hh'.out.congr fun p _ => ?_, hG'.out⟩
        · rw [hz0.out]; simp [dig]
        · rw [hz0.out]; simp [dig]
      case round =>
        obtain ⟨k, hgk, hk, rfl, hRq, hRr, hG⟩ := hrel
        obtain ⟨wo, rfl⟩ : ∃ wo : World, wo = wr := ⟨_, rfl⟩
        obtain ⟨gg, rfl⟩ : ∃ gg : Nat, gg = gk := ⟨_, rfl⟩
        have hgl : k ≤ gg := by omega
        clear hgk hg' hh' hG' hz0
        rcases k with _ | j
        · rw [Nat.pow_zero, Nat.div_one, Nat.mul_one] at hRq
          rw [Nat.pow_zero, Nat.div_one] at hRr
          have hn1 := Lib.hid (hRq.num (B := 65536) (n := L) (c := L) (Nat.le_refl _) (Nat.le_refl _) (by omega) (Nat.lt_of_le_of_lt (Nat.div_le_self _ _) hNs.out) (fun _ _ => rfl))
          have hn2 := Lib.hid (hRr.num (B := 65536) (n := K + 1) (c := K + 1) (Nat.le_refl _) (Nat.le_refl _) (by omega) (Nat.lt_of_lt_of_le (Nat.mod_lt _ hM0.out) (Nat.le_trans (Nat.le_of_lt hMs.out) (Nat.pow_le_pow_right (by omega) (by omega)))) (fun _ _ => rfl))
          replace hG := Lib.hid (g0.out.trans hG)
          clear hRq hRr
          rw [show ((0 : Nat) : Int) - 1 = -1 from rfl]
          go_wp2_with fail
          refine (rwords_any _ _ _ _ hn1.out (by omega)).mono ?_
          rintro e w4 ⟨v4, rfl, h4, g4⟩
          replace hn2 := Lib.hid (hn2.out.grew g4)
          go_wp2_with fail
          refine (rwords_any _ _ _ _ hn2.out (by omega)).mono ?_
          rintro e w5 ⟨v5, rfl, h5, g5⟩
          replace h4 := Lib.hid (h4.grew g5)
          replace h5 := Lib.hid h5
          replace hG := Lib.hid ((hG.out.trans g4).trans g5)
          clear g4 g5
          go_wp2_with fail
          go_ret3
          exact ⟨_, _, rfl, h4.out, h5.out, hG.out⟩
        · have A1 := Lib.hid (rbit_any (.slice A L ca) N L j wo (h1.out.grew hG) (by omega))
          have hb2 : N / 2 ^ j % 2 ≤ 1 := by have := Nat.mod_lt (N / 2 ^ j) (show 0 < 2 by omega); omega
          have hRM : N / 2 ^ (j + 1) % M < M := Nat.mod_lt _ hM0.out
          have hlo := Lib.hid (div_bit_lo N M j)
          have hhi := Lib.hid (div_bit_hi N M j hM0.out)
          rw [show ((j + 1 : Nat) : Int) - 1 = (j : Int) from by omega]
          have hR0 := Lib.hid (row_start (U := 2 * (N / 2 ^ (j + 1) % M) + N / 2 ^ j % 2) hRr)
          replace hRq := Lib.hid hRq
          replace hG := Lib.hid hG
          clear hRr
          generalize N / 2 ^ j % 2 = b at *
          generalize N / 2 ^ (j + 1) % M = R at *
          generalize hqq : N / 2 ^ (j + 1) / M = q at *
          replace hqq := Lib.hid hqq
          go_wp2_with (first | fail | (go_at_call 250; refine A1.out.mono ?_; rintro e w' ⟨rfl, rfl⟩))
          go_loopg [14, 15] (K + 1) (fun gt c kk wr => ∃ s : Nat, gt + s = K + 1 ∧ kk = .int .i64 (s : Int) ∧ c = .int .u64 (dcar R b s : Nat) ∧ Row wr h 175 .u64 (mix 65536 R (2 * R + b) s) (K + 1) ∧ Row wr g 175 .u64 (dig 65536 (q * 2 ^ (j + 1))) L ∧ Grew w2 wr)
          case atStart => exact ⟨0, rfl, rfl, by rw [dcar_zero], hR0.out, hRq.out, hG.out⟩
          case round =>
            obtain ⟨s, hs9, rfl, rfl, hRh, hRg, hG5⟩ := hrel
            clear hR0 hRq hG
            by_cases hsl : s < K + 1
            · have hcd := hRh.cell (p := s) hsl
              have hfz := hRh.frozen s
              have hmx : mix 65536 R (2 * R + b) s s = dig 65536 R s := by unfold mix; rw [if_neg (by omega)]
              rw [hmx] at hcd
              obtain ⟨d1, d2, d3⟩ := dbl_step R b s hb2
              have hxl := dig_lt (B := 65536) (by omega) R s
              have hcl := dcar_le R b s hb2
              have hsk : (s : Int) < (K : Int) + 1 := by omega
              replace d1 := Lib.hid d1
              replace d2 := Lib.hid d2
              replace hRh := Lib.hid hRh
              replace hRg := Lib.hid hRg
              replace hG5 := Lib.hid hG5
              clear hmx
              generalize dig 65536 R s = x at *
              generalize dcar R b s = c at *
              go_wp2_with fail
              go_roundg (gk - 1)
              case rel =>
                refine ⟨s + 1, by omega, by go_num, by rw [d2.out], ?_, hRg.out.far (fun e => hgh e) _, hG5.out.setCell hhw _⟩
                rw [d1.out]
                exact row_step hRh.out rfl
              case measure => omega
            · obtain rfl : s = K + 1 := by omega
              have hUlt : 2 * R + b < 65536 ^ (K + 1) := by have := hMs.out; rw [Nat.pow_succ]; omega
              have hRU := row_end hRh
              have hnU := hRU.num (B := 65536) (n := K + 1) (c := K + 1) (Nat.le_refl _) (Nat.le_refl _) (by omega) hUlt (fun _ _ => rfl)
              have A2 := rcmp_any (.slice (some ⟨h, 0, none⟩) (K + 1) (K + 1)) (.slice C K cb) (2 * R + b) M (K + 1) K wr hnU (h2.out.grew hG5) (by omega)
              replace hRU := Lib.hid hRU
              replace hRg := Lib.hid hRg
              replace hG5 := Lib.hid hG5
              clear hnU hRh hUlt hs9
              generalize hU : 2 * R + b = U at *
              have hU2 : U < 2 * M := by omega
              replace hU := Lib.hid hU
              rcases Nat.lt_or_ge U M with hUM | hUM
              · rw [cmpN_lt hUM] at A2
                replace A2 := Lib.hid A2
                have e1 := Lib.hid (hlo.out hUM)
                go_wp2_with (first | fail | (go_at_call 295; refine A2.out.mono ?_; rintro e w' ⟨rfl, rfl⟩))
                go_roundg j
                case rel => exact ⟨j, rfl, by omega, rfl, by rw [e1.out.2]; exact hRg.out, by rw [e1.out.1]; exact hRU.out, hG5.out⟩
                case measure => omega
              · have hc0 : ¬ cmpN U M < 0 := by
                  unfold cmpN
                  rw [if_neg (by omega)]
                  split <;> omega
                generalize cmpN U M = cm at *
                have hcb : decide (cm < 0) = false := by simp; omega
                replace A2 := Lib.hid A2
                have e1 := Lib.hid (hhi.out hUM)
                replace hUM := Lib.hid hUM
                have hR2 := Lib.hid (row_start (U := U - M) hRU.out)
                clear hRU hc0
                go_wp2_with (first | fail | (go_at_call 295; refine A2.out.mono ?_; rintro e w' ⟨rfl, rfl⟩))
                obtain ⟨wp, rfl⟩ : ∃ wp : World, wp = wr := ⟨_, rfl⟩
                go_loopg [14, 17] (K + 1) (fun gt c kk wr => ∃ s : Nat, gt + s = K + 1 ∧ kk = .int .i64 (s : Int) ∧ c = .int .u64 (borrow 65536 U M s : Nat) ∧ Row wr h 175 .u64 (mix 65536 U (U - M) s) (K + 1) ∧ Row wr g 175 .u64 (dig 65536 (q * 2 ^ (j + 1))) L ∧ Grew w2 wr)
                case atStart => exact ⟨0, rfl, rfl, by rw [borrow_zero]; rfl, hR2.out, hRg.out, hG5.out⟩
                case round =>
                  obtain ⟨s, hs9, rfl, rfl, hRh, hRg7, hG7⟩ := hrel
                  clear hRg hG5 A2 hR2
                  by_cases hsl : s < K + 1
                  · have hcd := hRh.cell (p := s) hsl
                    have hfz := hRh.frozen s
                    have hmx : mix 65536 U (U - M) s s = dig 65536 U s := by unfold mix; rw [if_neg (by omega)]
                    rw [hmx] at hcd
                    have hstep := rsub_step U M s _ _ _ hUM.out rfl rfl rfl
                    have hxl := dig_lt (B := 65536) (by omega) U s
                    have hyl := dig_lt (B := 65536) (by omega) M s
                    have hcl := borrow_le (B := 65536) U M s
                    have A3 := Lib.hid (rat_any (.slice C K cb) M K s wr.drew (h2.out.grew hG7.drew) (by omega))
                    have hsk : (s : Int) < (K : Int) + 1 := by omega
                    replace hstep := Lib.hid hstep
                    replace hRh := Lib.hid hRh
                    replace hRg7 := Lib.hid hRg7
                    replace hG7 := Lib.hid hG7
                    clear hmx
                    generalize dig 65536 U s = x at *
                    generalize dig 65536 M s = y at *
                    generalize borrow 65536 U M s = c at *
                    have b1 : (0 : Int) ≤ 65536 + (x : Int) - y - c := by omega
                    have b2 : 65536 + (x : Int) - y - c < 131072 := by omega
                    have b3 : (0 : Int) ≤ 65536 + (x : Int) - y := by omega
                    have b4 : (65536 + (x : Int) - y - c) / 65536 ≤ 1 := by omega
                    have b5 : 0 ≤ (65536 + (x : Int) - y - c) / 65536 := by omega
                    have w1' : IntKind.u64.wrap (65536 + (x : Int)) = 65536 + (x : Int) := IntWalk.u64_in _ ⟨by omega, by omega⟩
                    have w2' : IntKind.u64.wrap (65536 + (x : Int) - y) = 65536 + (x : Int) - y := IntWalk.u64_in _ ⟨by omega, by omega⟩
                    have w3' : IntKind.u64.wrap (65536 + (x : Int) - y - c) = 65536 + (x : Int) - y - c := IntWalk.u64_in _ ⟨by omega, by omega⟩
                    go_wp2_with fail
                    go_region_held3 (fun w' => w'.cell? ⟨h, s, none⟩ = some (.int .u64 (x : Int))) (first | exact hcd)
                      (first | (go_at_call 249; refine A3.out.mono ?_; rintro e w' ⟨rfl, rfl⟩))
                    clear w1' w2' w3'
                    go_wp2_with fail
                    go_roundg (gk - 1)
                    case rel =>
                      refine ⟨s + 1, by omega, by go_num, by rw [hstep.out.2], ?_, hRg7.out.drew.far (fun e => hgh e) _, (hG7.out.drew).setCell hhw _⟩
                      rw [hstep.out.1]
                      exact row_step hRh.out.drew rfl
                    case measure => omega
                  · obtain rfl : s = K + 1 := by omega
                    have hRU := Lib.hid (row_end hRh)
                    have hjl : j / 16 < L := by omega
                    have hcd := hRg7.cell (p := j / 16) hjl
                    have hfz := hRg7.frozen (j / 16)
                    have hbl := set_bit_lt q j
                    have hsb := Lib.hid (set_bit q j)
                    have hji : (j : Int) / 16 < (L : Int) := by omega
                    have hjn : ((j : Int) / 16).toNat = j / 16 := by omega
                    replace hRg7 := Lib.hid hRg7
                    replace hG7 := Lib.hid hG7
                    clear hRh hs9 hsl
                    generalize hdq : dig 65536 (q * 2 ^ (j + 1)) (j / 16) = d at *
                    replace hdq := Lib.hid hdq
                    have hbs := Lib.hid (bit_sum d (j % 16) hbl)
                    clear hbl
                    go_wp2_with fail
                    go_roundg j
                    case rel =>
                      refine ⟨j, rfl, by omega, rfl, ?_, by rw [e1.out.1]; exact hRU.out.far (fun e => hgh e.symm) _, hG7.out.setCell hgw _⟩
                      rw [e1.out.2, hbs.out]
                      refine (hRg7.out.set (j / 16) (d + 2 ^ (j % 16))).congr fun p _ => ?_
                      rw [hsb.out p]
                      by_cases hp : p = j / 16
                      · rw [if_pos hp, if_pos hp, hp, hdq.out]
                      · rw [if_neg hp, if_neg hp]
                    case measure => omega

theorem rDiv_any (va vb : Value) (N M n m : Nat) (w : World) (ha : Num 4294967296 .u32 w va N n) (hb : Num 4294967296 .u32 w vb M m) (hsz : n < 137438953472 ∧ m < 137438953472) (hM : M ≠ 0) :
    Calls Tryz.prog 252 #[va, vb] w fun e w' => ∃ q r, e = .returned (.tuple #[q, r, .bool true]) ∧ Num 4294967296 .u32 w' q (N / M) (len 4294967296 (N / M)) ∧ Num 4294967296 .u32 w' r (N % M) (len 4294967296 (N % M)) ∧ Grew w w' := by
  by_cases h : len 65536 N ≤ 4 ∧ len 65536 M ≤ 4
  · exact rDiv_short va vb N M n m w ha hb hsz hM h
  · exact rDiv_long va vb N M n m w ha hb hsz hM (by omega)
end Go.Proofs.YtngbcbncllfblaaGreat
namespace Go.Proofs.YtngbcbncllfblaaGreat
open Go.RowKit

set_option maxRecDepth 100000 in
set_option maxHeartbeats 4000000 in
theorem rcopied_any (va : Value) (N n : Nat) (w : World) (ha : Num 4294967296 .u32 w va N n) (hsz : n < 1099511627776) :
    Calls Tryz.prog 288 #[va] w fun e w' => ∃ v, e = .returned v ∧ Num 4294967296 .u64 w' v N n ∧ Grew w w' := by
  obtain ⟨A, ca, rfl, a1, a2, a3, a4⟩ := ha
  have hN := Lib.hid a3
  clear a3
  go_enter Tryz.func288, Tryz.ntmps288
  go_wp2_with fail
  go_loopg [3, 4] n (fun gk out i wr => ∃ j : Nat, gk + j = n ∧ i = .int .i64 (j : Int) ∧ wr.ownsRow w.heap.size 175 1 out j (dvals 4294967296 .u64 N j) ∧ Grew w wr)
  case atStart => exact ⟨0, rfl, rfl, World.ownsRow_nil _ _ _ _, Grew.refl _⟩
  case round =>
    obtain ⟨j, hj, rfl, hown, hG⟩ := hrel
    by_cases hlt : j < n
    · obtain ⟨ba, oa, rfl, hca⟩ := a4 (by omega)
      have hcx := hG.cell (hca j hlt)
      have hx := dig_lt (B := 4294967296) (by omega) N j
      have hsucc := Lib.hid (dvals_succ 4294967296 .u64 N j)
      have hsz1 := hG.size
      have q1 := Lib.hid hG
      have q2 := Lib.hid hown
      clear hG hown hca
      generalize dig 4294967296 N j = x at *
      go_wp2_with (first | fail | (at_builtin; refine wpList_app1 _ rfl (.tmp 11) (.tmp 17) 243 rfl w.heap.size 175 (.int .u64 0) 1 8 Tryz.underlying243 info_u64 rfl (by omega) _ j _ rfl q2.out _ rfl (by simp [Value.oneCell']) rfl (by omega) (by omega) hsz1 ?_; intro v1 w2 hown1 hG2))
      go_roundg (gk - 1)
      case rel => exact ⟨j + 1, by omega, by go_num, by rw [hsucc.out]; exact hown1, hG2 _ (Nat.le_refl _) q1.out⟩
      case measure => omega
    · obtain rfl : j = n := by omega
      have hnum := Lib.hid (Num.of_own hown hN.out)
      replace hG := Lib.hid hG
      obtain ⟨D, cd, rfl, -⟩ := id hnum.out
      clear hown
      go_wp2_with fail
      go_ret
      exact ⟨_, rfl, hnum.out, hG.out⟩

theorem mod_zero_succ {N k : Nat} (h : N % 4294967296 ^ k = 0) (hd : dig 4294967296 N k = 0) : N % 4294967296 ^ (k + 1) = 0 := by
  rw [mod_succ, h, hd]; simp

set_option maxRecDepth 100000 in
set_option maxHeartbeats 4000000 in
theorem rzero_any (va : Value) (N n : Nat) (w : World) (ha : Num 4294967296 .u64 w va N n) (hsz : n < 1099511627776) :
    Calls Tryz.prog 289 #[va] w fun e w' => e = .returned (.bool (decide (N = 0))) ∧ w = w' := by
  obtain ⟨A, ca, rfl, a1, a2, a3, a4⟩ := ha
  have hN := Lib.hid a3
  clear a3
  go_enter Tryz.func289, Tryz.ntmps289
  go_wp2_with fail
  go_loopg [3] n (fun gk i wr => ∃ j : Nat, gk + j = n ∧ i = .int .i64 (j : Int) ∧ Hid (N % 4294967296 ^ j = 0) ∧ w = wr)
  case atStart => exact ⟨0, rfl, rfl, Lib.hid (by simp [Nat.mod_one]), rfl⟩
  case round =>
    obtain ⟨j, hj, rfl, hz, rfl⟩ := hrel
    by_cases hlt : j < n
    · obtain ⟨ba, oa, rfl, hca⟩ := a4 (by omega)
      have hcx := hca j hlt
      have e1 := Lib.hid (fun h => mod_zero_succ (N := N) (k := j) hz.out h)
      have e2 : dig 4294967296 N j ≠ 0 → decide (N = 0) = false := fun h => decide_eq_false fun e => h (by rw [e]; simp [dig])
      replace e2 := Lib.hid e2
      clear hca a4
      generalize dig 4294967296 N j = x at *
      rcases Nat.eq_zero_or_pos x with rfl | hp
      · have r := Lib.hid (e1.out rfl)
        go_wp2_with fail
        go_roundg (gk - 1)
        case rel => exact ⟨j + 1, by omega, by go_num, r, rfl⟩
        case measure => omega
      · have r := Lib.hid (e2.out (by omega))
        have hx1 : ((x : Int) == 0) = false := by simp; omega
        have hx2 : ((x : Int) != 0) = true := by simp; omega
        go_wp2_with fail
        go_ret
        exact ⟨by rw [r.out]; rfl, rfl⟩
    · obtain rfl : j = n := by omega
      have r : decide (N = 0) = true := decide_eq_true (by have h := hz.out; rw [Nat.mod_eq_of_lt hN.out] at h; exact h)
      replace r := Lib.hid r
      go_wp2_with fail
      go_ret
      exact ⟨by rw [r.out]; rfl, rfl⟩

theorem dig_halve (N k : Nat) : dig 4294967296 (N / 2) k = dig 4294967296 N k / 2 + dig 4294967296 N (k + 1) % 2 * 2147483648 := by
  unfold dig
  rw [Nat.pow_succ, ← Nat.div_div_eq_div_mul, Nat.div_div_eq_div_mul N 2, Nat.mul_comm 2, ← Nat.div_div_eq_div_mul]
  generalize N / 4294967296 ^ k = x
  omega
theorem dig_halve_last (N k : Nat) (h : dig 4294967296 N (k + 1) = 0) : dig 4294967296 (N / 2) k = dig 4294967296 N k / 2 := by
  rw [dig_halve, h]; simp

set_option maxRecDepth 100000 in
set_option maxHeartbeats 8000000 in
theorem rhalved_any (va : Value) (N n : Nat) (w : World) (ha : Num 4294967296 .u64 w va N n) (hsz : n < 1099511627776) :
    Calls Tryz.prog 290 #[va] w fun e w' => ∃ v, e = .returned v ∧ Num 4294967296 .u64 w' v (N / 2) (len 4294967296 (N / 2)) ∧ Grew w w' := by
  obtain ⟨A, ca, rfl, a1, a2, a3, a4⟩ := ha
  have hN := Lib.hid a3
  have hN2 := Lib.hid (Nat.lt_of_le_of_lt (Nat.div_le_self N 2) a3)
  clear a3
  go_enter Tryz.func290, Tryz.ntmps290
  go_wp2_with fail
  go_loopg [3, 4] n (fun gk out i wr => ∃ j : Nat, gk + j = n ∧ i = .int .i64 (j : Int) ∧ wr.ownsRow w.heap.size 175 1 out j (dvals 4294967296 .u64 (N / 2) j) ∧ Grew w wr)
  case atStart => exact ⟨0, rfl, rfl, World.ownsRow_nil _ _ _ _, Grew.refl _⟩
  case round =>
    obtain ⟨j, hj, rfl, hown, hG⟩ := hrel
    by_cases hlt : j < n
    · obtain ⟨ba, oa, rfl, hca⟩ := a4 (by omega)
      have hcx := hG.cell (hca j hlt)
      have hx := dig_lt (B := 4294967296) (by omega) N j
      have hy := dig_lt (B := 4294967296) (by omega) N (j + 1)
      have hsucc := Lib.hid (dvals_succ 4294967296 .u64 (N / 2) j)
      have hd1 := Lib.hid (dig_halve N j)
      have hsz1 := hG.size
      have q1 := Lib.hid hG
      have q2 := Lib.hid hown
      by_cases hl2 : j + 1 < n
      · have hcy := hG.cell (hca (j + 1) hl2)
        clear hG hown hca
        generalize dig 4294967296 N j = x at *
        generalize dig 4294967296 N (j + 1) = y at *
        have hl3 : (j : Int) + 1 < (n : Int) := by omega
        go_wp2_with (first | fail | (at_builtin; refine wpList_app1 _ rfl (.tmp 31) (.tmp 33) 243 rfl w.heap.size 175 (.int .u64 0) 1 8 Tryz.underlying243 info_u64 rfl (by omega) _ j _ rfl q2.out _ rfl (by simp [Value.oneCell']) rfl (by omega) (by omega) hsz1 ?_; intro v1 w2 hown1 hG2))
        go_roundg (gk - 1)
        case rel => exact ⟨j + 1, by omega, by go_num, by rw [hsucc.out, hd1.out]; exact hown1, hG2 _ (Nat.le_refl _) q1.out⟩
        case measure => omega
      · have hz : dig 4294967296 N (j + 1) = 0 := dig_zero_of_lt (by omega) hN.out (by omega)
        have hd2 := Lib.hid (dig_halve_last N j hz)
        obtain rfl : n = j + 1 := by omega
        clear hd1 hz hG hown hca hy hl2
        generalize dig 4294967296 N j = x at *
        go_wp2_with (first | fail | (at_builtin; refine wpList_app1 _ rfl (.tmp 31) (.tmp 33) 243 rfl w.heap.size 175 (.int .u64 0) 1 8 Tryz.underlying243 info_u64 rfl (by omega) _ j _ rfl q2.out _ rfl (by simp [Value.oneCell']) rfl (by omega) (by omega) hsz1 ?_; intro v1 w2 hown1 hG2))
        go_roundg (gk - 1)
        case rel => exact ⟨j + 1, by omega, by go_num, by rw [hsucc.out, hd2.out]; exact hown1, hG2 _ (Nat.le_refl _) q1.out⟩
        case measure => omega
    · obtain rfl : j = n := by omega
      have hnum := Lib.hid (Num.of_own hown hN2.out)
      replace hG := Lib.hid hG
      have HS := Lib.hid (lenN_eq (B := 4294967296) (by omega) hN2.out)
      obtain ⟨wo, rfl⟩ : ∃ wo : World, wo = wr := ⟨_, rfl⟩
      obtain ⟨D, cd, rfl, d1, d2, -, d4⟩ := id hnum.out
      clear hown hN hN2 a4
      generalize hH : N / 2 = H at *
      replace hH := Lib.hid hH
      go_wp2_with fail
      go_loopg [3] j (fun gq v wr => ∃ k : Nat, gq = k ∧ k ≤ j ∧ v = .slice D k cd ∧ Hid (lenN 4294967296 H k = len 4294967296 H) ∧ wo = wr)
      case atStart => exact ⟨j, rfl, Nat.le_refl _, rfl, HS, rfl⟩
      case round =>
        obtain ⟨k, hgk, hk, rfl, hs, rfl⟩ := hrel
        have hgl : k ≤ gk := by omega
        clear hgk HS
        have fin : len 4294967296 H = k → Num 4294967296 .u64 wo (.slice D k cd) H (len 4294967296 H) := fun e => by
          rw [e]; exact hnum.out.cut hk (by rw [← e]; exact lt_len (by omega) H)
        replace fin := Lib.hid fin
        rcases k with _ | i
        · have e0 := Lib.hid (fin.out hs.out.symm)
          go_wp2_with fail
          go_ret
          exact ⟨_, rfl, by rw [hH.out]; exact e0.out, hG.out⟩
        · obtain ⟨b, off, rfl, hc⟩ := d4 (by omega)
          have hcell := hc i (by omega)
          clear hc
          by_cases hz : dig 4294967296 H i = 0
          · rw [hz] at hcell
            have r := Lib.hid (show lenN 4294967296 H i = len 4294967296 H by rw [← hs.out]; simp only [lenN, hz, if_true])
            clear hz fin hs
            go_wp2_with fail
            go_roundg i
            case rel => exact ⟨i, rfl, by omega, by go_num, r, rfl⟩
            case measure => omega
          · have hp : 0 < dig 4294967296 H i := by omega
            have hs' := Lib.hid (show lenN 4294967296 H (i + 1) = i + 1 by simp only [lenN, if_neg hz])
            have e0 := Lib.hid (fin.out (hs.out.symm.trans hs'.out))
            generalize hx : dig 4294967296 H i = x at *
            have hpb : ((x : Int) == 0) = false := by simp; omega
            clear hx hz fin hs
            go_wp2_with fail
            go_ret
            exact ⟨_, rfl, by rw [hH.out]; exact e0.out, hG.out⟩
end Go.Proofs.YtngbcbncllfblaaGreat
namespace Go.Proofs.YtngbcbncllfblaaGreat
open Go.RowKit

set_option maxRecDepth 100000 in
set_option maxHeartbeats 8000000 in
theorem rbelow_any (va vb : Value) (N M : Nat) (w : World) (ha : Num 4294967296 .u64 w va N (len 4294967296 N)) (hb : Num 4294967296 .u64 w vb M (len 4294967296 M)) (hsz : len 4294967296 N < 1099511627776 ∧ len 4294967296 M < 1099511627776) :
    Calls Tryz.prog 291 #[va, vb] w fun e w' => e = .returned (.bool (decide (N < M))) ∧ Grew w w' := by
  obtain ⟨A, ca, rfl, a1, a2, a3, a4⟩ := ha
  obtain ⟨C, cb, rfl, b1, b2, b3, b4⟩ := hb
  have hl1 := Lib.hid (fun h => lt_of_len (B := 4294967296) (N := N) (M := M) (by omega) h)
  have hl2 := Lib.hid (fun h => lt_of_len (B := 4294967296) (N := M) (M := N) (by omega) h)
  have hA := Lib.hid a3
  have hB := Lib.hid b3
  clear a3 b3
  generalize len 4294967296 N = L at *
  generalize len 4294967296 M = K at *
  rcases Nat.lt_trichotomy L K with h | h | h
  · have r := Lib.hid (decide_eq_true (hl1.out h))
    have q1 : ((L : Int) == (K : Int)) = false := by simp; omega
    have q2 : ((L : Int) != (K : Int)) = true := by simp; omega
    go_enter Tryz.func291, Tryz.ntmps291
    go_wp2_with fail
    go_ret
    exact ⟨by rw [r.out]; rfl, Grew.refl _⟩
  · subst h
    have h0 := Lib.hid (show N / 4294967296 ^ L = M / 4294967296 ^ L by rw [Nat.div_eq_of_lt hA.out, Nat.div_eq_of_lt hB.out])
    go_enter Tryz.func291, Tryz.ntmps291
    go_wp2_with fail
    go_loopg [5] L (fun gk i wr => ∃ k : Nat, gk = k ∧ k ≤ L ∧ i = .int .i64 ((k : Int) - 1) ∧ Hid (N / 4294967296 ^ k = M / 4294967296 ^ k) ∧ Grew w wr)
    case atStart => exact ⟨L, rfl, Nat.le_refl _, rfl, h0, Grew.refl _⟩
    case round =>
      obtain ⟨k, hgk, hk, rfl, he, hG⟩ := hrel
      have hgl : k ≤ gk := by omega
      clear hgk
      rcases k with _ | j
      · have e0 : decide (N < M) = false := decide_eq_false (by have := he.out; simp at this; omega)
        replace e0 := Lib.hid e0
        replace hG := Lib.hid hG
        rw [show ((0 : Nat) : Int) - 1 = -1 from rfl]
        go_wp2_with fail
        go_ret
        exact ⟨by rw [e0.out]; rfl, hG.out⟩
      · obtain ⟨ba, oa, rfl, hca⟩ := a4 (by omega)
        obtain ⟨bb, ob, rfl, hcb⟩ := b4 (by omega)
        have hcx := hG.cell (hca j (by omega))
        have hcy := hG.cell (hcb j (by omega))
        have e1 := Lib.hid (fun h => decide_eq_true (lt_of_dig (B := 4294967296) (N := N) (M := M) (k := j) he.out h))
        have e2 := Lib.hid (fun h => decide_eq_false (Nat.lt_asymm (lt_of_dig (B := 4294967296) (N := M) (M := N) (k := j) he.out.symm h)))
        have e3 := Lib.hid (fun h => div_eq_of_dig (B := 4294967296) (N := N) (M := M) (k := j) he.out h)
        have hjL : (j : Int) < (L : Int) := by omega
        replace hG := Lib.hid hG
        rw [show ((j + 1 : Nat) : Int) - 1 = (j : Int) from by omega]
        clear he hca hcb h0 a4 b4
        generalize dig 4294967296 N j = x at *
        generalize dig 4294967296 M j = y at *
        rcases Nat.lt_trichotomy x y with h | h | h
        · have r := Lib.hid (e1.out h)
          have q1 : ((x : Int) == (y : Int)) = false := by simp; omega
          have q2 : ((x : Int) != (y : Int)) = true := by simp; omega
          go_wp2_with fail
          go_quiet (fail)
          go_wp2_with fail
          go_quiet (fail)
          go_wp2_with fail
          go_ret
          exact ⟨by rw [r.out]; rfl, (hG.out.drewN _).drewN _⟩
        · subst h
          have r := Lib.hid (e3.out rfl)
          go_wp2_with fail
          go_quiet (fail)
          go_wp2_with fail
          go_roundg j
          case rel => exact ⟨j, rfl, by omega, rfl, r, hG.out.drewN _⟩
          case measure => omega
        · have r := Lib.hid (e2.out h)
          have q1 : ((x : Int) == (y : Int)) = false := by simp; omega
          have q2 : ((x : Int) != (y : Int)) = true := by simp; omega
          have q3 : decide (x < y) = false := by simp; omega
          go_wp2_with fail
          go_quiet (fail)
          go_wp2_with fail
          go_quiet (fail)
          go_wp2_with fail
          go_ret
          exact ⟨by rw [r.out]; rfl, (hG.out.drewN _).drewN _⟩
  · have r := Lib.hid (decide_eq_false (Nat.lt_asymm (hl2.out h)))
    have q1 : ((L : Int) == (K : Int)) = false := by simp; omega
    have q2 : ((L : Int) != (K : Int)) = true := by simp; omega
    have q3 : decide (L < K) = false := by simp; omega
    go_enter Tryz.func291, Tryz.ntmps291
    go_wp2_with fail
    go_ret
    exact ⟨by rw [r.out]; rfl, Grew.refl _⟩

theorem less_step (N M k : Nat) (x y c : Nat) (hle : M ≤ N) (hx : x = dig 4294967296 N k) (hy : y = dig 4294967296 M k) (hc : c = borrow 4294967296 N M k) :
    ((4294967296 + (x : Int) - c - y) % 4294967296 = (dig 4294967296 (N - M) k : Nat)) ∧ (1 - (4294967296 + (x : Int) - c - y) / 4294967296 = (borrow 4294967296 N M (k + 1) : Nat)) := by
  have hx2 := dig_lt (B := 4294967296) (by omega) N k
  have hy2 := dig_lt (B := 4294967296) (by omega) M k
  have hc2 := borrow_le (B := 4294967296) N M k
  have h1 := borrow_dig (B := 4294967296) (by omega) N M k hle
  have h2 := borrow_succ (B := 4294967296) (by omega) N M k
  rw [← h1, h2]
  subst hx; subst hy; subst hc
  constructor
  · omega
  · split <;> omega

set_option maxRecDepth 100000 in
set_option maxHeartbeats 8000000 in
theorem rless_any (va vb : Value) (N M L K : Nat) (w : World) (ha : Num 4294967296 .u64 w va N L) (hb : Num 4294967296 .u64 w vb M K) (hle : M ≤ N) (hsz : L < 1099511627776 ∧ K < 1099511627776) :
    Calls Tryz.prog 292 #[va, vb] w fun e w' => ∃ v, e = .returned v ∧ Num 4294967296 .u64 w' v (N - M) (len 4294967296 (N - M)) ∧ Grew w w' := by
  obtain ⟨A, ca, rfl, a1, a2, a3, a4⟩ := ha
  obtain ⟨C, cb, rfl, b1, b2, b3, b4⟩ := hb
  have hN2 := Lib.hid (show N - M < 4294967296 ^ L by omega)
  have hMb := Lib.hid b3
  replace hle := Lib.hid hle
  clear a3 b3
  go_enter Tryz.func292, Tryz.ntmps292
  go_wp2_with fail
  go_loopg [5, 6, 7] L (fun gk out cr i wr => ∃ j : Nat, gk + j = L ∧ i = .int .i64 (j : Int) ∧ cr = .int .u64 (borrow 4294967296 N M j : Nat) ∧ wr.ownsRow w.heap.size 175 1 out j (dvals 4294967296 .u64 (N - M) j) ∧ Grew w wr)
  case atStart => exact ⟨0, rfl, rfl, by rw [borrow_zero]; rfl, World.ownsRow_nil _ _ _ _, Grew.refl _⟩
  case round =>
    obtain ⟨j, hj, rfl, rfl, hown, hG⟩ := hrel
    by_cases hlt : j < L
    · obtain ⟨ba, oa, rfl, hca⟩ := a4 (by omega)
      have hcx := hG.cell (hca j hlt)
      have hx := dig_lt (B := 4294967296) (by omega) N j
      have hc := borrow_le (B := 4294967296) N M j
      have hsucc := Lib.hid (dvals_succ 4294967296 .u64 (N - M) j)
      have hsz1 := hG.size
      have q1 := Lib.hid hG
      have q2 := Lib.hid hown
      by_cases hl2 : j < K
      · obtain ⟨bb, ob, rfl, hcb⟩ := b4 (by omega)
        have hcy := hG.cell (hcb j hl2)
        have hy := dig_lt (B := 4294967296) (by omega) M j
        have hstep := Lib.hid (less_step N M j _ _ _ hle.out rfl rfl rfl)
        clear hG hown hca hcb
        generalize dig 4294967296 N j = x at *
        generalize dig 4294967296 M j = y at *
        generalize borrow 4294967296 N M j = c at *
        have z1 : (0 : Int) ≤ 4294967296 + (x : Int) - c := by omega
        have z2 : (0 : Int) ≤ 4294967296 + (x : Int) - c - y := by omega
        have z3 : 4294967296 + (x : Int) - c - y < 8589934592 := by omega
        have z4 : (4294967296 + (x : Int) - c - y) / 4294967296 ≤ 1 := by omega
        have z5 : 0 ≤ (4294967296 + (x : Int) - c - y) / 4294967296 := by omega
        go_wp2_with (first | fail | (at_builtin; refine wpList_app1 _ rfl (.tmp 32) (.tmp 35) 243 rfl w.heap.size 175 (.int .u64 0) 1 8 Tryz.underlying243 info_u64 rfl (by omega) _ j _ rfl q2.out _ rfl (by simp [Value.oneCell']) rfl (by omega) (by omega) hsz1 ?_; intro v1 w2 hown1 hG2))
        go_roundg (gk - 1)
        case rel => exact ⟨j + 1, by omega, by go_num, by rw [hstep.out.2], by rw [hsucc.out, ← hstep.out.1]; exact hown1, hG2 _ (Nat.le_refl _) q1.out⟩
        case measure => omega
      · have hz : dig 4294967296 M j = 0 := dig_zero_of_lt (by omega) hMb.out (by omega)
        have hstep := Lib.hid (less_step N M j _ 0 _ hle.out rfl hz.symm rfl)
        clear hG hown hca hz
        generalize dig 4294967296 N j = x at *
        generalize borrow 4294967296 N M j = c at *
        have z1 : (0 : Int) ≤ 4294967296 + (x : Int) - c := by omega
        have z3 : 4294967296 + (x : Int) - c < 8589934592 := by omega
        have z4 : (4294967296 + (x : Int) - c) / 4294967296 ≤ 1 := by omega
        have z5 : 0 ≤ (4294967296 + (x : Int) - c) / 4294967296 := by omega
        have z6 : 4294967296 + (x : Int) - c - ((0 : Nat) : Int) = 4294967296 + (x : Int) - c := by omega
        replace z6 := Lib.hid z6
        go_wp2_with (first | fail | (at_builtin; refine wpList_app1 _ rfl (.tmp 32) (.tmp 35) 243 rfl w.heap.size 175 (.int .u64 0) 1 8 Tryz.underlying243 info_u64 rfl (by omega) _ j _ rfl q2.out _ rfl (by simp [Value.oneCell']) rfl (by omega) (by omega) hsz1 ?_; intro v1 w2 hown1 hG2))
        go_roundg (gk - 1)
        case rel => exact ⟨j + 1, by omega, by go_num, by rw [← hstep.out.2, z6.out], by rw [hsucc.out, ← hstep.out.1, z6.out]; exact hown1, hG2 _ (Nat.le_refl _) q1.out⟩
        case measure => omega
    · obtain rfl : j = L := by omega
      have hnum := Lib.hid (Num.of_own hown hN2.out)
      replace hG := Lib.hid hG
      have HS := Lib.hid (lenN_eq (B := 4294967296) (by omega) hN2.out)
      obtain ⟨wo, rfl⟩ : ∃ wo : World, wo = wr := ⟨_, rfl⟩
      obtain ⟨D, cd, rfl, d1, d2, -, d4⟩ := id hnum.out
      clear hown hN2 a4 b4
      generalize hH : N - M = H at *
      replace hH := Lib.hid hH
      go_wp2_with fail
      go_loopg [5] j (fun gq v wr => ∃ k : Nat, gq = k ∧ k ≤ j ∧ v = .slice D k cd ∧ Hid (lenN 4294967296 H k = len 4294967296 H) ∧ wo = wr)
      case atStart => exact ⟨j, rfl, Nat.le_refl _, rfl, HS, rfl⟩
      case round =>
        obtain ⟨k, hgk, hk, rfl, hs, rfl⟩ := hrel
        have hgl : k ≤ gk := by omega
        clear hgk HS
        have fin : len 4294967296 H = k → Num 4294967296 .u64 wo (.slice D k cd) H (len 4294967296 H) := fun e => by
          rw [e]; exact hnum.out.cut hk (by rw [← e]; exact lt_len (by omega) H)
        replace fin := Lib.hid fin
        rcases k with _ | i
        · have e0 := Lib.hid (fin.out hs.out.symm)
          go_wp2_with fail
          go_ret
          exact ⟨_, rfl, by rw [hH.out]; exact e0.out, hG.out⟩
        · obtain ⟨b, off, rfl, hc⟩ := d4 (by omega)
          have hcell := hc i (by omega)
          clear hc
          by_cases hz : dig 4294967296 H i = 0
          · rw [hz] at hcell
            have r := Lib.hid (show lenN 4294967296 H i = len 4294967296 H by rw [← hs.out]; simp only [lenN, hz, if_true])
            clear hz fin hs
            go_wp2_with fail
            go_roundg i
            case rel => exact ⟨i, rfl, by omega, by go_num, r, rfl⟩
            case measure => omega
          · have hp : 0 < dig 4294967296 H i := by omega
            have hs' := Lib.hid (show lenN 4294967296 H (i + 1) = i + 1 by simp only [lenN, if_neg hz])
            have e0 := Lib.hid (fin.out (hs.out.symm.trans hs'.out))
            generalize hx : dig 4294967296 H i = x at *
            have hpb : ((x : Int) == 0) = false := by simp; omega
            clear hx hz fin hs
            go_wp2_with fail
            go_ret
            exact ⟨_, rfl, by rw [hH.out]; exact e0.out, hG.out⟩
end Go.Proofs.YtngbcbncllfblaaGreat
