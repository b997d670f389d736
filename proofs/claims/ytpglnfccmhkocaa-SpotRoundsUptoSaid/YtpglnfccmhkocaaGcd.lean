/- root.small, root.Gcd, root.Reduce: the greatest common factor. Condition: both read; fewer than 2^39 words. -/
import Derived.Test.YtpglnfccmhkocaaDivL
namespace Go.Proofs.Ytpglnfccmhkocaa
open Go.RowKit

set_option maxRecDepth 100000 in
set_option maxHeartbeats 1000000 in
theorem rsmall_any (a b : Nat) (w : World) (ha : a < 18446744073709551616) (hb : b < 18446744073709551616) :
    Calls Try.prog 141 #[.int .u64 (a : Int), .int .u64 (b : Int)] w fun e w' => e = .returned (.int .u64 (Nat.gcd a b : Nat)) ∧ Grew w w' := by
  obtain ⟨G, hG⟩ : ∃ G, G = Nat.gcd a b := ⟨_, rfl⟩
  have HG := Lib.hid hG
  rw [← hG]
  clear hG
  go_enter Try.func141, Try.ntmps141
  go_wp2_with fail
  go_loopg [0, 1] b (fun gk x y wr => ∃ p : Nat, x = .int .u64 (p : Nat) ∧ y = .int .u64 (gk : Nat) ∧ p < 18446744073709551616 ∧ gk < 18446744073709551616 ∧ Hid (G = Nat.gcd p gk) ∧ Grew w wr)
  case atStart => exact ⟨a, rfl, rfl, ha, hb, HG, Grew.refl _⟩
  case round =>
    obtain ⟨p, rfl, rfl, hp, hq, hg, hGr⟩ := hrel
    by_cases h0 : gk = 0
    · subst h0
      go_wp2_with fail
      go_ret
      exact ⟨ret_int (by rw [hg.out, Nat.gcd_zero_right]), hGr⟩
    · have hz : ((gk : Int) == 0) = false := by simp <;> omega
      have hp0 : 0 < gk := by omega
      have hml := Nat.mod_lt p hp0
      go_wp2_with fail
      go_quiet (fail)
      go_wp2_with fail
      go_roundg (p % gk)
      case rel => exact ⟨gk, rfl, by rw [emod_cast], hq, by omega, Lib.hid (by rw [hg.out, Nat.gcd_comm gk, ← Nat.gcd_rec, Nat.gcd_comm]), hGr.drewN _⟩
      case measure => exact hml

theorem gcd_lt {a b k : Nat} (ha : a < k) (hb : b < k) : Nat.gcd a b < k := by
  rcases Nat.eq_zero_or_pos a with h | h
  · subst h; rw [Nat.gcd_zero_left]; exact hb
  · exact Nat.lt_of_le_of_lt (Nat.le_of_dvd h (Nat.gcd_dvd_left a b)) ha

theorem len_le_of_le {N M k : Nat} (h : N ≤ M) (hk : len 4294967296 M < k) : len 4294967296 N < k := Nat.lt_of_le_of_lt (len_mono (by omega) h) hk

set_option maxRecDepth 100000 in
set_option maxHeartbeats 1000000 in
theorem gcd_any (va vb : Value) (N M n m : Nat) (w : World) (ha : Num 4294967296 .u32 w va N n) (hb : Num 4294967296 .u32 w vb M m) (hN : len 4294967296 N < 549755813888) (hM : len 4294967296 M < 549755813888) :
    Calls Try.prog 126 #[va, vb] w fun e w' => ∃ v, e = .returned v ∧ Num 4294967296 .u32 w' v (Nat.gcd N M) (len 4294967296 (Nat.gcd N M)) ∧ Grew w w' := by
  obtain ⟨G, hG⟩ : ∃ G, G = Nat.gcd N M := ⟨_, rfl⟩
  have HG := Lib.hid hG
  rw [← hG]
  clear hG
  go_enter Try.func126, Try.ntmps126
  go_wp2_with fail
  refine (trim_any _ _ _ _ ha (by omega)).mono ?_
  rintro e w1 ⟨x0, rfl, hx0, hG1⟩
  go_wp2_with fail
  refine (trim_any _ _ _ _ (hb.grew hG1) (by omega)).mono ?_
  rintro e w2 ⟨y0, rfl, hy0, hG2⟩
  go_wp2_with fail
  go_loopg [0, 1] M (fun gk x y wr => ∃ p : Nat, Num 4294967296 .u32 wr x p (len 4294967296 p) ∧ Num 4294967296 .u32 wr y gk (len 4294967296 gk) ∧ len 4294967296 p < 549755813888 ∧ len 4294967296 gk < 549755813888 ∧ Hid (G = Nat.gcd p gk) ∧ Grew w wr)
  case atStart => exact ⟨N, hx0.grew hG2, hy0, hN, hM, HG, hG1.trans hG2⟩
  case round =>
    obtain ⟨p, hx, hy, hpl, hql, hg, hGr⟩ := hrel
    go_wp2_with fail
    refine (uint_any _ _ _ _ hx).mono ?_
    rintro e w' ⟨rfl, rfl⟩
    go_wp2_with fail
    refine (uint_any _ _ _ _ hy).mono ?_
    rintro e w' ⟨rfl, rfl⟩
    by_cases hboth : len 4294967296 p ≤ 2 ∧ len 4294967296 gk ≤ 2
    · as_aux_lemma =>
      rw [(uint_yes hboth.1).1, (uint_yes hboth.1).2, (uint_yes hboth.2).1, (uint_yes hboth.2).2]
      have hp64 := lt_pow_of_len (B := 4294967296) (by omega) hboth.1
      have hq64 := lt_pow_of_len (B := 4294967296) (by omega) hboth.2
      simp only [Nat.reducePow] at hp64 hq64
      go_wp2_with fail
      refine (rsmall_any p gk _ (by omega) (by omega)).mono ?_
      rintro e w3 ⟨rfl, hG3⟩
      go_wp2_with fail
      refine (of_any _ (Nat.gcd p gk) _ rfl ?_).mono ?_
      · exact gcd_lt hp64 hq64
      rintro e w4 ⟨v, rfl, hv, hG4⟩
      go_wp2_with fail
      go_ret
      exact ⟨v, rfl, by rw [hg.out]; exact hv, (hGr.trans hG3).trans hG4⟩
    · have hok : (uintOk p && uintOk gk) = false := by
        by_cases h1 : len 4294967296 p ≤ 2
        · rw [(uint_yes h1).2, (uint_no (N := gk) (by omega)).2]; rfl
        · rw [(uint_no h1).2]; rfl
      obtain ⟨Y, cy, rfl, y1, y2, y3, y4⟩ := id hy
      have HY := Lib.hid hy
      have HX := Lib.hid hx
      clear hx hy y3 y4 hboth
      generalize uintV p = pv at *
      generalize uintV gk = qv at *
      generalize uintOk p = po at *
      generalize uintOk gk = qo at *
      by_cases h0 : gk = 0
      · subst h0
        rcases po with _ | _ <;> rcases qo with _ | _ <;> first | (exact absurd hok (by decide)) | skip
        all_goals
          clear hok
          rw [len_zero]
          go_wp2_with fail
          go_ret
          exact ⟨_, rfl, by rw [hg.out, Nat.gcd_zero_right]; exact HX.out, hGr⟩
      · have hl0 : len 4294967296 gk ≠ 0 := fun e => h0 ((len_eq_zero (by omega)).1 e)
        have hlz : ((len 4294967296 gk : Nat) : Int) = 0 ↔ False := by simp; exact hl0
        have hp0 : 0 < gk := by omega
        have hml := Nat.mod_lt p hp0
        generalize hlg : len 4294967296 gk = lg at *
        have Hlg := Lib.hid hlg
        have hlb : ((lg : Int) == 0) = false := by simp; omega
        clear hlg hlz
        rcases po with _ | _ <;> rcases qo with _ | _ <;> first | (exact absurd hok (by decide)) | skip
        all_goals
          clear hok
          go_wp2_with fail
          refine (div_any _ _ _ _ _ _ _ HX.out HY.out h0 hpl).mono ?_
          rintro e w3 ⟨q, r, rfl, h1, h2, hG3⟩
          go_wp2_with fail
          go_roundg (p % gk)
          case rel => exact ⟨gk, by rw [Hlg.out]; exact HY.out.grew hG3, h2, by rw [Hlg.out]; exact hql, len_le_of_le (Nat.mod_le _ _) hpl, Lib.hid (by rw [hg.out, Nat.gcd_comm gk, ← Nat.gcd_rec, Nat.gcd_comm]), hGr.trans hG3⟩
          case measure => exact hml

theorem num_one (w : World) (t : TypeId) : Num 4294967296 .u32 (w.alloc (.cells #[.int .u32 1] t)) (.slice (some ⟨w.heap.size, 0, none⟩) 1 1) 1 1 := by
  refine Num.of_blk (heap_alloc_new w _) (Nat.le_refl _) (by omega) (by simp) fun i hi => ?_
  obtain rfl : i = 0 := by omega
  simp [dig]
theorem len_one : len 4294967296 1 = 1 := by
  have h1 := len_le (B := 4294967296) (N := 1) (k := 1) (by omega) (by simp)
  have h2 : len 4294967296 1 ≠ 0 := fun h => by have := (len_eq_zero (B := 4294967296) (by omega)).1 h; omega
  omega

set_option maxRecDepth 100000 in
set_option maxHeartbeats 1000000 in
theorem one_any (w : World) : Calls Try.prog 127 #[] w fun e w' => ∃ v, e = .returned v ∧ Num 4294967296 .u32 w' v 1 1 ∧ Grew w w' := by
  have h := num_one w 80
  have H := Lib.hid h
  clear h
  go_enter Try.func127, Try.ntmps127
  go_wp2
  go_ret
  exact ⟨_, rfl, H.out, (Grew.refl w).alloc _⟩

set_option maxRecDepth 100000 in
set_option maxHeartbeats 2000000 in
theorem reduce_any (va vb : Value) (N M n m : Nat) (w : World) (ha : Num 4294967296 .u32 w va N n) (hb : Num 4294967296 .u32 w vb M m) (hN : len 4294967296 N < 549755813888) (hM : len 4294967296 M < 549755813888) :
    Calls Try.prog 108 #[va, vb] w fun e w' => ∃ x y, e = .returned (.tuple #[x, y]) ∧ Num 4294967296 .u32 w' x (N / Nat.gcd N M) (len 4294967296 (N / Nat.gcd N M)) ∧ Num 4294967296 .u32 w' y (M / Nat.gcd N M) (len 4294967296 (M / Nat.gcd N M)) ∧ Grew w w' := by
  go_enter Try.func108, Try.ntmps108
  go_wp2_with fail
  refine (gcd_any _ _ _ _ _ _ _ ha hb hN hM).mono ?_
  rintro e w1 ⟨vg, rfl, hg, hG1⟩
  obtain ⟨Y, cy, rfl, y1, y2, y3, y4⟩ := id hg
  by_cases h0 : Nat.gcd N M = 0
  · as_aux_lemma =>
    have hN0 : N = 0 := (Nat.gcd_eq_zero_iff.1 h0).1
    have hM0 : M = 0 := (Nat.gcd_eq_zero_iff.1 h0).2
    subst hN0; subst hM0
    have hl0 : len 4294967296 (Nat.gcd 0 0) = 0 := rfl
    rw [hl0]
    clear hl0 h0
    go_wp2_with fail
    refine (trim_any _ _ _ _ (ha.grew hG1) (by omega)).mono ?_
    rintro e w2 ⟨x, rfl, hx, hG2⟩
    go_wp2_with fail
    refine (trim_any _ _ _ _ ((hb.grew hG1).grew hG2) (by omega)).mono ?_
    rintro e w3 ⟨y, rfl, hy, hG3⟩
    go_wp2_with fail
    go_ret2
    exact ⟨_, _, rfl, hx.grew hG3, hy, (hG1.trans hG2).trans hG3⟩
  · have hl0 : len 4294967296 (Nat.gcd N M) ≠ 0 := fun e => h0 ((len_eq_zero (by omega)).1 e)
    have Hg := Lib.hid hg
    clear hg y3 y4
    generalize hgg : Nat.gcd N M = g at *
    have Hgg := Lib.hid hgg
    clear hgg
    generalize hlg : len 4294967296 g = lg at *
    have Hlg := Lib.hid hlg
    clear hlg
    have hlb : ((lg : Int) == 0) = false := by simp; omega
    go_wp2_with fail
    refine (one_any _).mono ?_
    rintro e w2 ⟨vo, rfl, ho, hG2⟩
    go_wp2_with fail
    refine (cmp_any _ _ _ _ _ _ _ (Hg.out.grew hG2) ho).mono ?_
    rintro e w3 ⟨rfl, hG3⟩
    have hG123 := (hG1.trans hG2).trans hG3
    by_cases h1 : g = 1
    · as_aux_lemma =>
      subst h1
      rw [cmpN_self]
      go_wp2_with fail
      refine (trim_any _ _ _ _ (ha.grew hG123) (by omega)).mono ?_
      rintro e w4 ⟨x, rfl, hx, hG4⟩
      go_wp2_with fail
      refine (trim_any _ _ _ _ ((hb.grew hG123).grew hG4) (by omega)).mono ?_
      rintro e w5 ⟨y, rfl, hy, hG5⟩
      go_wp2_with fail
      go_ret2
      rw [Hgg.out, Nat.div_one, Nat.div_one]
      exact ⟨_, _, rfl, hx.grew hG5, hy, (hG123.trans hG4).trans hG5⟩
    · as_aux_lemma =>
      have hc : cmpN g 1 ≠ 0 := by
        unfold cmpN
        split
        · omega
        · split <;> omega
      generalize cmpN g 1 = cm at *
      have hcb : (cm == 0) = false := by simpa using hc
      have Hg' : Num 4294967296 .u32 w1 (.slice Y lg cy) g lg := Hg.out
      go_wp2_with fail
      refine (div_any _ _ _ _ _ _ _ (ha.grew hG123) (Hg'.grew (hG2.trans hG3)) h0 hN).mono ?_
      rintro e w4 ⟨q, r, rfl, hq, hr, hG4⟩
      go_wp2_with fail
      refine (div_any _ _ _ _ _ _ _ ((hb.grew hG123).grew hG4) ((Hg'.grew (hG2.trans hG3)).grew hG4) h0 hM).mono ?_
      rintro e w5 ⟨q2, r2, rfl, hq2, hr2, hG5⟩
      go_wp2_with fail
      go_ret2
      exact ⟨_, _, rfl, by rw [Hgg.out]; exact hq.grew hG5, by rw [Hgg.out]; exact hq2, (hG123.trans hG4).trans hG5⟩
end Go.Proofs.Ytpglnfccmhkocaa
