/- Plain: the greatest common factor by halving and subtracting; the parity of a number's first word. Conditions: none. r03.Gcd. Condition: what comes in reads; fewer than 2^32 words. r03.Reduce. Condition: what comes in reads; the second number isn't 0; fewer than 2^32 words. Words for walks over structs of two cells; whole numbers and fractions whose raw lengths are bounded. Conditions: none. -/
import Derived.Test.YtngbcbncllfblaaGreatJRefG2
import Derived.Test.YtngbcbncllfblaaGreatJWv
namespace Go.Proofs.YtngbcbncllfblaaGreat
open Go.RowKit

theorem gcd_both {x y : Nat} (hx : x % 2 = 0) (hy : y % 2 = 0) : Nat.gcd x y = 2 * Nat.gcd (x / 2) (y / 2) := by
  rw [← Nat.gcd_mul_left]
  congr 1 <;> omega
theorem gcd_half_l {x y : Nat} (hx : x % 2 = 0) (hy : y % 2 = 1) : Nat.gcd (x / 2) y = Nat.gcd x y := by
  have e : x = 2 * (x / 2) := by omega
  have hc : Nat.Coprime 2 y := by
    unfold Nat.Coprime
    rw [Nat.gcd_rec, hy]
    rfl
  have h := Nat.Coprime.gcd_mul_left_cancel (x / 2) hc
  rw [← e] at h
  exact h.symm
theorem gcd_half_r {x y : Nat} (hx : x % 2 = 1) (hy : y % 2 = 0) : Nat.gcd x (y / 2) = Nat.gcd x y := by
  rw [Nat.gcd_comm, gcd_half_l hy hx, Nat.gcd_comm]
theorem gcd_less_l {x y : Nat} (h : y ≤ x) : Nat.gcd (x - y) y = Nat.gcd x y := by
  have e : x = (x - y) + y := by omega
  generalize x - y = d at *
  subst e
  rw [Nat.gcd_add_self_left]
theorem gcd_less_r {x y : Nat} (h : x ≤ y) : Nat.gcd x (y - x) = Nat.gcd x y := by
  rw [Nat.gcd_comm, gcd_less_l h, Nat.gcd_comm]
theorem odd_of_gcd {x y : Nat} (h : Nat.gcd x y % 2 = 1) (hx : x % 2 = 0) : y % 2 = 1 := by
  rcases Nat.mod_two_eq_zero_or_one y with hy | hy
  · rw [gcd_both hx hy] at h; omega
  · exact hy
theorem gcd_odd_l {x y : Nat} (h : x % 2 = 1) : Nat.gcd x y % 2 = 1 := by
  rcases Nat.mod_two_eq_zero_or_one (Nat.gcd x y) with h0 | h0
  · have h1 : 2 ∣ Nat.gcd x y := Nat.dvd_of_mod_eq_zero h0
    have h2 := Nat.dvd_trans h1 (Nat.gcd_dvd_left x y)
    have := Nat.mod_eq_zero_of_dvd h2
    omega
  · exact h0

/-- The first word of a number that isn't 0. -/
theorem first_word {w : World} {v : Value} {x : Nat} (h : Num 4294967296 .u64 w v x (len 4294967296 x)) (h0 : x ≠ 0) :
    ∃ b off n c z, v = .slice (some ⟨b, off, none⟩) n c ∧ 0 < n ∧ w.cell? ⟨b, off, none⟩ = some (.int .u64 ((z : Nat) : Int)) ∧ z < 4294967296 ∧ z % 2 = x % 2 := by
  obtain ⟨A, c, rfl, h1, h2, h3, h4⟩ := h
  have hl : len 4294967296 x ≠ 0 := fun e => h0 ((len_eq_zero (by omega)).1 e)
  obtain ⟨b, off, rfl, hc⟩ := h4 (by omega)
  refine ⟨b, off, _, c, dig 4294967296 x 0, rfl, by omega, hc 0 (by omega), dig_lt (by omega) _ _, ?_⟩
  simp [dig]
theorem even_val {z : Nat} (h : z % 2 = 0) : ((z : Int) % 2 == 0) = true := by simp; omega
theorem odd_val {z : Nat} (h : z % 2 = 1) : ((z : Int) % 2 == 0) = false := by simp; omega
theorem even_valt {z : Nat} (h : z % 2 = 0) : ((z : Int).tmod 2 == 0) = true := by rw [Int.tmod_eq_emod_of_nonneg (by omega)]; exact even_val h
theorem odd_valt {z : Nat} (h : z % 2 = 1) : ((z : Int).tmod 2 == 0) = false := by rw [Int.tmod_eq_emod_of_nonneg (by omega)]; exact odd_val h
end Go.Proofs.YtngbcbncllfblaaGreat
namespace Go.Proofs.YtngbcbncllfblaaGreat
open Go.RowKit

theorem t_bd {t x N L : Nat} (h : 2 ^ t * x ≤ N) (h0 : x ≠ 0) (hN : N < 4294967296 ^ L) : t < 32 * L := by
  have h1 : 2 ^ t ≤ 2 ^ t * x := Nat.le_mul_of_pos_right _ (Nat.pos_of_ne_zero h0)
  have h2 : 2 ^ t < 2 ^ (32 * L) := by
    rw [Nat.pow_mul]; exact Nat.lt_of_le_of_lt (Nat.le_trans h1 h) hN
  exact (Nat.pow_lt_pow_iff_right (by omega)).1 h2

set_option maxRecDepth 100000 in
set_option maxHeartbeats 16000000 in
theorem rGcd_any (va vb : Value) (N M n m : Nat) (w : World) (ha : Num 4294967296 .u32 w va N n) (hb : Num 4294967296 .u32 w vb M m) (hsz : n < 4294967296 ∧ m < 4294967296) :
    Calls Tryz.prog 251 #[va, vb] w fun e w' => ∃ v, e = .returned v ∧ Num 4294967296 .u32 w' v (Nat.gcd N M) (len 4294967296 (Nat.gcd N M)) ∧ Grew w w' := by
  have l1 : len 65536 N < 8589934593 := by
    have h1 := ha.len_le (by omega); have := len_half N; omega
  have l2 : len 65536 M < 8589934593 := by
    have h1 := hb.len_le (by omega); have := len_half M; omega
  have k1 : len 4294967296 N < 4294967296 := by have h1 := ha.len_le (by omega); omega
  have k2 : len 4294967296 M < 4294967296 := by have h1 := hb.len_le (by omega); omega
  have hNl := Lib.hid (lt_len (B := 4294967296) (by omega) N)
  have Ha := Lib.hid ha
  have Hb := Lib.hid hb
  go_enter Tryz.func251, Tryz.ntmps251
  go_wp2_with fail
  refine (rhalf_any _ _ _ _ ha (by omega)).mono ?_
  rintro e w1 ⟨v1, rfl, h1, g1⟩
  go_wp2_with fail
  refine (rwords_any _ _ _ _ h1 (by omega)).mono ?_
  rintro e w2 ⟨v2, rfl, h2, g2⟩
  go_wp2_with fail
  refine (rcopied_any _ _ _ _ h2 (by omega)).mono ?_
  rintro e w3 ⟨v3, rfl, h3, g3⟩
  have q3 := (g1.trans g2).trans g3
  replace hb := hb.grew q3
  clear h1 h2 g1 g2 g3 ha
  go_wp2_with fail
  refine (rhalf_any _ _ _ _ hb (by omega)).mono ?_
  rintro e w4 ⟨v4, rfl, h4, g4⟩
  go_wp2_with fail
  refine (rwords_any _ _ _ _ h4 (by omega)).mono ?_
  rintro e w5 ⟨v5, rfl, h5, g5⟩
  go_wp2_with fail
  refine (rcopied_any _ _ _ _ h5 (by omega)).mono ?_
  rintro e w6 ⟨v6, rfl, h6, g6⟩
  have q6 := Lib.hid (((q3.trans g4).trans g5).trans g6)
  have H3 := Lib.hid (h3.grew ((g4.trans g5).trans g6))
  have H6 := Lib.hid h6
  clear q3 h3 h4 h5 h6 g4 g5 g6 hb l1 l2
  go_wp2_with fail
  refine (rzero_any _ _ _ _ H3.out (by omega)).mono ?_
  rintro e w' ⟨rfl, rfl⟩
  by_cases hN0 : N = 0
  · as_aux_lemma =>
    rw [decide_eq_true hN0]
    have e1 : N + M = Nat.gcd N M := by rw [hN0]; simp
    replace e1 := Lib.hid e1
    clear hN0
    go_wp2_with fail
    refine (rnadd_any _ _ _ _ _ _ _ (Ha.out.grew q6.out) (Hb.out.grew q6.out) (by omega)).mono ?_
    rintro e w7 ⟨v7, rfl, h7, g7⟩
    rw [e1.out] at h7
    replace h7 := Lib.hid h7
    replace g7 := Lib.hid (q6.out.trans g7)
    go_wp2_with fail
    go_ret
    exact ⟨_, rfl, h7.out, g7.out⟩
  · rw [decide_eq_false hN0]
    go_wp2_with fail
    refine (rzero_any _ _ _ _ H6.out (by omega)).mono ?_
    rintro e w' ⟨rfl, rfl⟩
    by_cases hM0 : M = 0
    · as_aux_lemma =>
      rw [decide_eq_true hM0]
      have e1 : N + M = Nat.gcd N M := by rw [hM0]; simp
      replace e1 := Lib.hid e1
      clear hM0
      go_wp2_with fail
      refine (rnadd_any _ _ _ _ _ _ _ (Ha.out.grew q6.out) (Hb.out.grew q6.out) (by omega)).mono ?_
      rintro e w7 ⟨v7, rfl, h7, g7⟩
      rw [e1.out] at h7
      replace h7 := Lib.hid h7
      replace g7 := Lib.hid (q6.out.trans g7)
      go_wp2_with fail
      go_ret
      exact ⟨_, rfl, h7.out, g7.out⟩
    · rw [decide_eq_false hM0]
      clear Ha Hb hsz
      replace hN0 := Lib.hid hN0
      replace hM0 := Lib.hid hM0
      go_wp2_with fail
      go_loopg [5, 6, 7] N (fun gk s5 s6 s7 wr => ∃ x y t : Nat, gk = x ∧ s7 = .int .i64 (t : Int) ∧ x ≠ 0 ∧ y ≠ 0 ∧ Hid (Nat.gcd N M = 2 ^ t * Nat.gcd x y) ∧ Hid (2 ^ t * x ≤ N) ∧ x ≤ N ∧ y ≤ M ∧ Num 4294967296 .u64 wr s5 x (len 4294967296 x) ∧ Num 4294967296 .u64 wr s6 y (len 4294967296 y) ∧ Grew w6 wr)
      case atStart => exact ⟨N, M, 0, rfl, rfl, hN0.out, hM0.out, Lib.hid (by simp), Lib.hid (by simp), Nat.le_refl _, Nat.le_refl _, H3.out, H6.out, Grew.refl _⟩
      case round =>
        obtain ⟨x, y, t, hgk, rfl, hx0, hy0, hg, h2t, hxN, hyM, hx, hy, hG⟩ := hrel
        have hgl : x ≤ gk := by omega
        clear hgk H3 H6
        have ht := t_bd h2t.out hx0 hNl.out
        have kx : len 4294967296 x < 4294967296 := Nat.lt_of_le_of_lt (len_mono (by omega) hxN) k1
        have ky : len 4294967296 y < 4294967296 := Nat.lt_of_le_of_lt (len_mono (by omega) hyM) k2
        obtain ⟨bx, ox, nx, cx, zx, rfl, px, cellx, lx, ex⟩ := first_word hx hx0
        obtain ⟨b_, o_, ny, cy, zy, rfl, py, celly, ly, ey⟩ := first_word hy hy0
        have Hx := Lib.hid hx
        have Hy := Lib.hid hy
        have HG := Lib.hid hG
        clear hx hy hG
        by_cases hev : x % 2 = 0 ∧ y % 2 = 0
        · have r1 := even_val (ex.trans hev.1)
          have r2 := even_valt (ex.trans hev.1)
          have r3 := even_val (ey.trans hev.2)
          have r4 := even_valt (ey.trans hev.2)
          have f1 := Lib.hid (show Nat.gcd N M = 2 ^ (t + 1) * Nat.gcd (x / 2) (y / 2) by rw [hg.out, gcd_both hev.1 hev.2, Nat.pow_succ, Nat.mul_assoc])
          have f2 := Lib.hid (show 2 ^ (t + 1) * (x / 2) ≤ N by
            have e : 2 ^ (t + 1) * (x / 2) = 2 ^ t * x := by rw [Nat.pow_succ, Nat.mul_assoc]; congr 1; omega
            rw [e]; exact h2t.out)
          have f3 := Lib.hid (show x / 2 ≠ 0 ∧ y / 2 ≠ 0 ∧ x / 2 ≤ N ∧ y / 2 ≤ M ∧ x / 2 < gk by omega)
          clear hev ex ey hg h2t
          go_wp2_with fail
          refine (rhalved_any _ x _ _ Hx.out (by omega)).mono ?_
          rintro e w7 ⟨v7, rfl, h7, g7⟩
          replace Hy := Lib.hid (Hy.out.grew g7)
          go_wp2_with fail
          refine (rhalved_any _ y _ _ Hy.out (by omega)).mono ?_
          rintro e w8 ⟨v8, rfl, h8, g8⟩
          replace h7 := Lib.hid (h7.grew g8)
          replace h8 := Lib.hid h8
          replace HG := Lib.hid ((HG.out.trans g7).trans g8)
          clear g7 g8 cellx celly
          go_wp2_with fail
          go_roundg (x / 2)
          case rel => exact ⟨x / 2, y / 2, t + 1, rfl, by go_num, f3.out.1, f3.out.2.1, f1, f2, f3.out.2.2.1, f3.out.2.2.2.1, h7.out, h8.out, HG.out⟩
          case measure => exact f3.out.2.2.2.2
        · have hcase : (x % 2 = 0 ∧ y % 2 = 1) ∨ x % 2 = 1 := by omega
          have hodd : Nat.gcd x y % 2 = 1 := by
            rcases hcase with ⟨_, h⟩ | h
            · rw [Nat.gcd_comm]; exact gcd_odd_l h
            · exact gcd_odd_l h
          replace hodd := Lib.hid hodd
          clear hev h2t
          obtain ⟨wo, rfl⟩ : ∃ wo : World, wo = wr := ⟨_, rfl⟩
          rcases hcase with ⟨c1, c2⟩ | c1
          · as_aux_lemma =>
            have r1 := even_val (ex.trans c1)
            have r2 := even_valt (ex.trans c1)
            have r3 := odd_val (ey.trans c2)
            have r4 := odd_valt (ey.trans c2)
            clear c1 c2 ex ey
            go_wp2_with fail
            go_loopg [5, 6] (x + y) (fun gk s5 s6 wr2 => ∃ p q : Nat, gk = p + q ∧ q ≠ 0 ∧ Hid (Nat.gcd p q = Nat.gcd x y) ∧ p ≤ N ∧ q ≤ M ∧ Num 4294967296 .u64 wr2 s5 p (len 4294967296 p) ∧ Num 4294967296 .u64 wr2 s6 q (len 4294967296 q) ∧ Grew w6 wr2)
            case atStart => exact ⟨x, y, rfl, hy0, Lib.hid rfl, hxN, hyM, Hx.out, Hy.out, HG.out⟩
            case round =>
              obtain ⟨p, q, hgk2, hq0, hgg, hpN, hqM, hp, hq, hG2⟩ := hrel
              obtain ⟨w2o, rfl⟩ : ∃ w2o : World, w2o = wr := ⟨_, rfl⟩
              obtain ⟨g2k, rfl⟩ : ∃ g2k : Nat, g2k = gk := ⟨_, rfl⟩
              clear Hx Hy HG cellx celly
              have hgl2 : p + q ≤ g2k := by omega
              clear hgk2
              have kp : len 4294967296 p < 4294967296 := Nat.lt_of_le_of_lt (len_mono (by omega) hpN) k1
              have kq : len 4294967296 q < 4294967296 := Nat.lt_of_le_of_lt (len_mono (by omega) hqM) k2
              obtain ⟨A5, c5, rfl, -⟩ := id hp
              obtain ⟨A6, c6, rfl, -⟩ := id hq
              have Hp := Lib.hid hp
              have Hq := Lib.hid hq
              have HG2 := Lib.hid hG2
              clear hp hq hG2
              go_wp2_with fail
              refine (rzero_any _ _ _ _ Hp.out (by omega)).mono ?_
              rintro e w' ⟨rfl, rfl⟩
              by_cases hp0 : p = 0
              · as_aux_lemma =>
                rw [decide_eq_true hp0]
                have hqg : Nat.gcd N M = q * 2 ^ t := by rw [hg.out, ← hgg.out, hp0, Nat.gcd_zero_left, Nat.mul_comm]
                replace hqg := Lib.hid hqg
                have hql := Lib.hid (lt_len (B := 4294967296) (by omega) q)
                clear hp0 Hp hgg hg
                obtain ⟨_, _, ee, a1, a2, -, a4⟩ := Hq.out
                injection ee with e1 e2 e3
                subst e1; subst e3
                have hll := Lib.hid (rfl : len 4294967296 q = len 4294967296 q)
                generalize hLq : len 4294967296 q = Lq at *
                replace hLq := Lib.hid hLq
                clear hll Hq
                go_wp2_with fail
                go_loopg [8, 9] Lq (fun gk out i wr => ∃ j : Nat, gk + j = Lq ∧ i = .int .i64 (j : Int) ∧ wr.ownsRow w2o.heap.size 163 1 out j (dvals 4294967296 .u32 q j) ∧ Grew w2o wr)
                case atStart => exact ⟨0, rfl, rfl, World.ownsRow_nil _ _ _ _, Grew.refl _⟩
                case round =>
                  obtain ⟨j, hj, rfl, hown, hG⟩ := hrel
                  by_cases hlt : j < Lq
                  · obtain ⟨ba, oa, rfl, hca⟩ := a4 (by omega)
                    have hcx := hG.cell (hca j hlt)
                    have hx := dig_lt (B := 4294967296) (by omega) q j
                    have hsucc := Lib.hid (dvals_succ 4294967296 .u32 q j)
                    have hsz1 := hG.size
                    have q1 := Lib.hid hG
                    have q2 := Lib.hid hown
                    clear hG hown hca a4
                    generalize dig 4294967296 q j = z at *
                    go_wp2_with (first | fail | (at_builtin; refine wpList_app1 _ rfl (.tmp 77) (.tmp 83) 46 rfl w2o.heap.size 163 (.int .u32 0) 1 4 Tryz.underlying46 info_u32 rfl (by omega) _ j _ rfl q2.out _ rfl (by simp [Value.oneCell']) rfl (by omega) (by omega) hsz1 ?_; intro v1 w2 hown1 hG2))
                    go_roundg (gk - 1)
                    case rel => exact ⟨j + 1, by omega, by go_num, by rw [hsucc.out]; exact hown1, hG2 _ (Nat.le_refl _) q1.out⟩
                    case measure => omega
                  · obtain rfl : j = Lq := by omega
                    have hnum := Lib.hid (Num.of_own hown hql.out)
                    replace hG := Lib.hid ((q6.out.trans HG2.out).trans hG)
                    obtain ⟨D, cd, rfl, -⟩ := id hnum.out
                    clear hown a4
                    go_wp2_with fail
                    refine (r1power_any t _ (by omega)).mono ?_
                    rintro e w8 ⟨v8, rfl, h8, g8⟩
                    have hl8 : len 4294967296 (2 ^ t) < 137438953472 := by
                      have := len_half (2 ^ t); have := len_pow2 t; omega
                    replace hnum := Lib.hid (hnum.out.grew g8)
                    go_wp2_with fail
                    refine (rMul_any _ _ _ _ _ _ _ hnum.out h8 ⟨by omega, hl8⟩).mono ?_
                    rintro e w9 ⟨v9, rfl, h9, g9⟩
                    rw [← hqg.out] at h9
                    replace h9 := Lib.hid h9
                    replace hG := Lib.hid ((hG.out.trans g8).trans g9)
                    clear g8 g9 h8
                    go_wp2_with fail
                    go_ret
                    exact ⟨_, rfl, h9.out, hG.out⟩
              · as_aux_lemma =>
                rw [decide_eq_false hp0]
                go_wp2_with fail
                go_loopg [5] p (fun gk s5 wr3 => ∃ p' : Nat, gk = p' ∧ p' ≠ 0 ∧ Hid (Nat.gcd p' q = Nat.gcd x y) ∧ p' ≤ p ∧ Num 4294967296 .u64 wr3 s5 p' (len 4294967296 p') ∧ Grew w2o wr3)
                case atStart => exact ⟨p, rfl, hp0, hgg, Nat.le_refl _, Hp.out, Grew.refl _⟩
                case round =>
                  obtain ⟨p', hgk3, hp0', hgg', hpp, hp', hG3⟩ := hrel
                  obtain ⟨w3o, rfl⟩ : ∃ w3o : World, w3o = wr := ⟨_, rfl⟩
                  have hgl3 : p' ≤ gk := by omega
                  clear hgk3 Hp hgg
                  have kp' : len 4294967296 p' < 4294967296 := Nat.lt_of_le_of_lt (len_mono (by omega) (Nat.le_trans hpp hpN)) k1
                  obtain ⟨b5, o5, n5, c5', z5, rfl, p5, cell5, l5, e5⟩ := first_word hp' hp0'
                  have Hp' := Lib.hid hp'
                  have HG3 := Lib.hid hG3
                  clear hp' hG3
                  rcases Nat.mod_two_eq_zero_or_one p' with c1 | c1
                  · have r5 := even_val (e5.trans c1)
                    have r6 := even_valt (e5.trans c1)
                    have f1 := Lib.hid (show Nat.gcd (p' / 2) q = Nat.gcd x y by rw [gcd_half_l c1 (odd_of_gcd (by rw [hgg'.out]; exact hodd.out) c1)]; exact hgg'.out)
                    have f3 := Lib.hid (show p' / 2 ≠ 0 ∧ p' / 2 ≤ p ∧ p' / 2 < gk by omega)
                    clear c1 e5
                    go_wp2_with fail
                    refine (rhalved_any _ p' _ _ Hp'.out (by omega)).mono ?_
                    rintro e w7 ⟨v7, rfl, h7, g7⟩
                    replace h7 := Lib.hid h7
                    replace g7 := Lib.hid (HG3.out.trans g7)
                    clear cell5
                    go_wp2_with fail
                    go_roundg (p' / 2)
                    case rel => exact ⟨p' / 2, rfl, f3.out.1, f1, f3.out.2.1, h7.out, g7.out⟩
                    case measure => exact f3.out.2.2
                  · have r5 := odd_val (e5.trans c1)
                    have r6 := odd_valt (e5.trans c1)
                    replace c1 := Lib.hid c1
                    clear e5
                    replace Hq := Lib.hid (Hq.out.grew HG3.out)
                    go_wp2_with fail
                    go_loopg [6] q (fun gk s6 wr4 => ∃ q' : Nat, gk = q' ∧ q' ≠ 0 ∧ Hid (Nat.gcd p' q' = Nat.gcd x y) ∧ q' ≤ q ∧ Num 4294967296 .u64 wr4 s6 q' (len 4294967296 q') ∧ Grew w3o wr4)
                    case atStart => exact ⟨q, rfl, hq0, hgg', Nat.le_refl _, Hq.out, Grew.refl _⟩
                    case round =>
                      obtain ⟨q', hgk4, hq0', hgg4, hqq, hq', hG4⟩ := hrel
                      have hgl4 : q' ≤ gk := by omega
                      clear hgk4 Hq hgg'
                      have kq' : len 4294967296 q' < 4294967296 := Nat.lt_of_le_of_lt (len_mono (by omega) (Nat.le_trans hqq hqM)) k2
                      obtain ⟨b6, o6, n6, c6', z6, rfl, p6, cell6, l6, e6⟩ := first_word hq' hq0'
                      have Hq' := Lib.hid hq'
                      have HG4 := Lib.hid hG4
                      clear hq' hG4
                      rcases Nat.mod_two_eq_zero_or_one q' with c2 | c2
                      · have r7 := even_val (e6.trans c2)
                        have r8 := even_valt (e6.trans c2)
                        have f1 := Lib.hid (show Nat.gcd p' (q' / 2) = Nat.gcd x y by rw [gcd_half_r c1.out c2]; exact hgg4.out)
                        have f3 := Lib.hid (show q' / 2 ≠ 0 ∧ q' / 2 ≤ q ∧ q' / 2 < gk by omega)
                        clear c2 e6
                        go_wp2_with fail
                        refine (rhalved_any _ q' _ _ Hq'.out (by omega)).mono ?_
                        rintro e w7 ⟨v7, rfl, h7, g7⟩
                        replace h7 := Lib.hid h7
                        replace g7 := Lib.hid (HG4.out.trans g7)
                        clear cell6
                        go_wp2_with fail
                        go_roundg (q' / 2)
                        case rel => exact ⟨q' / 2, rfl, f3.out.1, f1, f3.out.2.1, h7.out, g7.out⟩
                        case measure => exact f3.out.2.2
                      · have r7 := odd_val (e6.trans c2)
                        have r8 := odd_valt (e6.trans c2)
                        replace Hp' := Lib.hid (Hp'.out.grew HG4.out)
                        have GG := Lib.hid ((HG2.out.trans HG3.out).trans HG4.out)
                        clear c2 e6 HG2 HG3 HG4
                        go_wp2_with fail
                        refine (rbelow_any _ _ p' q' _ Hp'.out Hq'.out ⟨by omega, by omega⟩).mono ?_
                        rintro e w7 ⟨rfl, g7⟩
                        replace Hp' := Lib.hid (Hp'.out.grew g7)
                        replace Hq' := Lib.hid (Hq'.out.grew g7)
                        replace GG := Lib.hid (GG.out.trans g7)
                        clear g7 cell6 r7 r8
                        by_cases hlt : p' < q'
                        · as_aux_lemma =>
                          rw [decide_eq_true hlt]
                          have f1 := Lib.hid (show Nat.gcd p' (q' - p') = Nat.gcd x y by rw [gcd_less_r (by omega)]; exact hgg4.out)
                          have f3 := Lib.hid (show q' - p' ≠ 0 ∧ p' ≤ N ∧ q' - p' ≤ M ∧ p' + (q' - p') < g2k by omega)
                          have hle := Lib.hid (Nat.le_of_lt hlt)
                          clear hlt
                          go_wp2_with fail
                          refine (rless_any _ _ q' p' _ _ _ Hq'.out Hp'.out hle.out ⟨by omega, by omega⟩).mono ?_
                          rintro e w8 ⟨v8, rfl, h8, g8⟩
                          replace h8 := Lib.hid h8
                          replace Hp' := Lib.hid (Hp'.out.grew g8)
                          replace GG := Lib.hid (GG.out.trans g8)
                          clear g8
                          go_wp2_with fail
                          go_roundg (p' + (q' - p'))
                          case rel => exact ⟨p', q' - p', rfl, f3.out.1, f1, f3.out.2.1, f3.out.2.2.1, Hp'.out, h8.out, GG.out⟩
                          case measure => exact f3.out.2.2.2
                        · as_aux_lemma =>
                          rw [decide_eq_false hlt]
                          have f1 := Lib.hid (show Nat.gcd (p' - q') q' = Nat.gcd x y by rw [gcd_less_l (by omega)]; exact hgg4.out)
                          have f3 := Lib.hid (show q' ≠ 0 ∧ p' - q' ≤ N ∧ q' ≤ M ∧ (p' - q') + q' < g2k by omega)
                          have hle := Lib.hid (Nat.le_of_not_lt hlt)
                          clear hlt
                          go_wp2_with fail
                          refine (rless_any _ _ p' q' _ _ _ Hp'.out Hq'.out hle.out ⟨by omega, by omega⟩).mono ?_
                          rintro e w8 ⟨v8, rfl, h8, g8⟩
                          replace h8 := Lib.hid h8
                          replace Hq' := Lib.hid (Hq'.out.grew g8)
                          replace GG := Lib.hid (GG.out.trans g8)
                          clear g8
                          go_wp2_with fail
                          go_roundg ((p' - q') + q')
                          case rel => exact ⟨p' - q', q', rfl, f3.out.1, f1, f3.out.2.1, f3.out.2.2.1, h8.out, Hq'.out, GG.out⟩
                          case measure => exact f3.out.2.2.2
          · as_aux_lemma =>
            have r1 := odd_val (ex.trans c1)
            have r2 := odd_valt (ex.trans c1)
            clear c1 ex ey
            go_wp2_with fail
            go_loopg [5, 6] (x + y) (fun gk s5 s6 wr2 => ∃ p q : Nat, gk = p + q ∧ q ≠ 0 ∧ Hid (Nat.gcd p q = Nat.gcd x y) ∧ p ≤ N ∧ q ≤ M ∧ Num 4294967296 .u64 wr2 s5 p (len 4294967296 p) ∧ Num 4294967296 .u64 wr2 s6 q (len 4294967296 q) ∧ Grew w6 wr2)
            case atStart => exact ⟨x, y, rfl, hy0, Lib.hid rfl, hxN, hyM, Hx.out, Hy.out, HG.out⟩
            case round =>
              obtain ⟨p, q, hgk2, hq0, hgg, hpN, hqM, hp, hq, hG2⟩ := hrel
              obtain ⟨w2o, rfl⟩ : ∃ w2o : World, w2o = wr := ⟨_, rfl⟩
              obtain ⟨g2k, rfl⟩ : ∃ g2k : Nat, g2k = gk := ⟨_, rfl⟩
              clear Hx Hy HG cellx celly
              have hgl2 : p + q ≤ g2k := by omega
              clear hgk2
              have kp : len 4294967296 p < 4294967296 := Nat.lt_of_le_of_lt (len_mono (by omega) hpN) k1
              have kq : len 4294967296 q < 4294967296 := Nat.lt_of_le_of_lt (len_mono (by omega) hqM) k2
              obtain ⟨A5, c5, rfl, -⟩ := id hp
              obtain ⟨A6, c6, rfl, -⟩ := id hq
              have Hp := Lib.hid hp
              have Hq := Lib.hid hq
              have HG2 := Lib.hid hG2
              clear hp hq hG2
              go_wp2_with fail
              refine (rzero_any _ _ _ _ Hp.out (by omega)).mono ?_
              rintro e w' ⟨rfl, rfl⟩
              by_cases hp0 : p = 0
              · as_aux_lemma =>
                rw [decide_eq_true hp0]
                have hqg : Nat.gcd N M = q * 2 ^ t := by rw [hg.out, ← hgg.out, hp0, Nat.gcd_zero_left, Nat.mul_comm]
                replace hqg := Lib.hid hqg
                have hql := Lib.hid (lt_len (B := 4294967296) (by omega) q)
                clear hp0 Hp hgg hg
                obtain ⟨_, _, ee, a1, a2, -, a4⟩ := Hq.out
                injection ee with e1 e2 e3
                subst e1; subst e3
                have hll := Lib.hid (rfl : len 4294967296 q = len 4294967296 q)
                generalize hLq : len 4294967296 q = Lq at *
                replace hLq := Lib.hid hLq
                clear hll Hq
                go_wp2_with fail
                go_loopg [8, 9] Lq (fun gk out i wr => ∃ j : Nat, gk + j = Lq ∧ i = .int .i64 (j : Int) ∧ wr.ownsRow w2o.heap.size 163 1 out j (dvals 4294967296 .u32 q j) ∧ Grew w2o wr)
                case atStart => exact ⟨0, rfl, rfl, World.ownsRow_nil _ _ _ _, Grew.refl _⟩
                case round =>
                  obtain ⟨j, hj, rfl, hown, hG⟩ := hrel
                  by_cases hlt : j < Lq
                  · obtain ⟨ba, oa, rfl, hca⟩ := a4 (by omega)
                    have hcx := hG.cell (hca j hlt)
                    have hx := dig_lt (B := 4294967296) (by omega) q j
                    have hsucc := Lib.hid (dvals_succ 4294967296 .u32 q j)
                    have hsz1 := hG.size
                    have q1 := Lib.hid hG
                    have q2 := Lib.hid hown
                    clear hG hown hca a4
                    generalize dig 4294967296 q j = z at *
                    go_wp2_with (first | fail | (at_builtin; refine wpList_app1 _ rfl (.tmp 77) (.tmp 83) 46 rfl w2o.heap.size 163 (.int .u32 0) 1 4 Tryz.underlying46 info_u32 rfl (by omega) _ j _ rfl q2.out _ rfl (by simp [Value.oneCell']) rfl (by omega) (by omega) hsz1 ?_; intro v1 w2 hown1 hG2))
                    go_roundg (gk - 1)
                    case rel => exact ⟨j + 1, by omega, by go_num, by rw [hsucc.out]; exact hown1, hG2 _ (Nat.le_refl _) q1.out⟩
                    case measure => omega
                  · obtain rfl : j = Lq := by omega
                    have hnum := Lib.hid (Num.of_own hown hql.out)
                    replace hG := Lib.hid ((q6.out.trans HG2.out).trans hG)
                    obtain ⟨D, cd, rfl, -⟩ := id hnum.out
                    clear hown a4
                    go_wp2_with fail
                    refine (r1power_any t _ (by omega)).mono ?_
                    rintro e w8 ⟨v8, rfl, h8, g8⟩
                    have hl8 : len 4294967296 (2 ^ t) < 137438953472 := by
                      have := len_half (2 ^ t); have := len_pow2 t; omega
                    replace hnum := Lib.hid (hnum.out.grew g8)
                    go_wp2_with fail
                    refine (rMul_any _ _ _ _ _ _ _ hnum.out h8 ⟨by omega, hl8⟩).mono ?_
                    rintro e w9 ⟨v9, rfl, h9, g9⟩
                    rw [← hqg.out] at h9
                    replace h9 := Lib.hid h9
                    replace hG := Lib.hid ((hG.out.trans g8).trans g9)
                    clear g8 g9 h8
                    go_wp2_with fail
                    go_ret
                    exact ⟨_, rfl, h9.out, hG.out⟩
              · as_aux_lemma =>
                rw [decide_eq_false hp0]
                go_wp2_with fail
                go_loopg [5] p (fun gk s5 wr3 => ∃ p' : Nat, gk = p' ∧ p' ≠ 0 ∧ Hid (Nat.gcd p' q = Nat.gcd x y) ∧ p' ≤ p ∧ Num 4294967296 .u64 wr3 s5 p' (len 4294967296 p') ∧ Grew w2o wr3)
                case atStart => exact ⟨p, rfl, hp0, hgg, Nat.le_refl _, Hp.out, Grew.refl _⟩
                case round =>
                  obtain ⟨p', hgk3, hp0', hgg', hpp, hp', hG3⟩ := hrel
                  obtain ⟨w3o, rfl⟩ : ∃ w3o : World, w3o = wr := ⟨_, rfl⟩
                  have hgl3 : p' ≤ gk := by omega
                  clear hgk3 Hp hgg
                  have kp' : len 4294967296 p' < 4294967296 := Nat.lt_of_le_of_lt (len_mono (by omega) (Nat.le_trans hpp hpN)) k1
                  obtain ⟨b5, o5, n5, c5', z5, rfl, p5, cell5, l5, e5⟩ := first_word hp' hp0'
                  have Hp' := Lib.hid hp'
                  have HG3 := Lib.hid hG3
                  clear hp' hG3
                  rcases Nat.mod_two_eq_zero_or_one p' with c1 | c1
                  · have r5 := even_val (e5.trans c1)
                    have r6 := even_valt (e5.trans c1)
                    have f1 := Lib.hid (show Nat.gcd (p' / 2) q = Nat.gcd x y by rw [gcd_half_l c1 (odd_of_gcd (by rw [hgg'.out]; exact hodd.out) c1)]; exact hgg'.out)
                    have f3 := Lib.hid (show p' / 2 ≠ 0 ∧ p' / 2 ≤ p ∧ p' / 2 < gk by omega)
                    clear c1 e5
                    go_wp2_with fail
                    refine (rhalved_any _ p' _ _ Hp'.out (by omega)).mono ?_
                    rintro e w7 ⟨v7, rfl, h7, g7⟩
                    replace h7 := Lib.hid h7
                    replace g7 := Lib.hid (HG3.out.trans g7)
                    clear cell5
                    go_wp2_with fail
                    go_roundg (p' / 2)
                    case rel => exact ⟨p' / 2, rfl, f3.out.1, f1, f3.out.2.1, h7.out, g7.out⟩
                    case measure => exact f3.out.2.2
                  · have r5 := odd_val (e5.trans c1)
                    have r6 := odd_valt (e5.trans c1)
                    replace c1 := Lib.hid c1
                    clear e5
                    replace Hq := Lib.hid (Hq.out.grew HG3.out)
                    go_wp2_with fail
                    go_loopg [6] q (fun gk s6 wr4 => ∃ q' : Nat, gk = q' ∧ q' ≠ 0 ∧ Hid (Nat.gcd p' q' = Nat.gcd x y) ∧ q' ≤ q ∧ Num 4294967296 .u64 wr4 s6 q' (len 4294967296 q') ∧ Grew w3o wr4)
                    case atStart => exact ⟨q, rfl, hq0, hgg', Nat.le_refl _, Hq.out, Grew.refl _⟩
                    case round =>
                      obtain ⟨q', hgk4, hq0', hgg4, hqq, hq', hG4⟩ := hrel
                      have hgl4 : q' ≤ gk := by omega
                      clear hgk4 Hq hgg'
                      have kq' : len 4294967296 q' < 4294967296 := Nat.lt_of_le_of_lt (len_mono (by omega) (Nat.le_trans hqq hqM)) k2
                      obtain ⟨b6, o6, n6, c6', z6, rfl, p6, cell6, l6, e6⟩ := first_word hq' hq0'
                      have Hq' := Lib.hid hq'
                      have HG4 := Lib.hid hG4
                      clear hq' hG4
                      rcases Nat.mod_two_eq_zero_or_one q' with c2 | c2
                      · have r7 := even_val (e6.trans c2)
                        have r8 := even_valt (e6.trans c2)
                        have f1 := Lib.hid (show Nat.gcd p' (q' / 2) = Nat.gcd x y by rw [gcd_half_r c1.out c2]; exact hgg4.out)
                        have f3 := Lib.hid (show q' / 2 ≠ 0 ∧ q' / 2 ≤ q ∧ q' / 2 < gk by omega)
                        clear c2 e6
                        go_wp2_with fail
                        refine (rhalved_any _ q' _ _ Hq'.out (by omega)).mono ?_
                        rintro e w7 ⟨v7, rfl, h7, g7⟩
                        replace h7 := Lib.hid h7
                        replace g7 := Lib.hid (HG4.out.trans g7)
                        clear cell6
                        go_wp2_with fail
                        go_roundg (q' / 2)
                        case rel => exact ⟨q' / 2, rfl, f3.out.1, f1, f3.out.2.1, h7.out, g7.out⟩
                        case measure => exact f3.out.2.2
                      · have r7 := odd_val (e6.trans c2)
                        have r8 := odd_valt (e6.trans c2)
                        replace Hp' := Lib.hid (Hp'.out.grew HG4.out)
                        have GG := Lib.hid ((HG2.out.trans HG3.out).trans HG4.out)
                        clear c2 e6 HG2 HG3 HG4
                        go_wp2_with fail
                        refine (rbelow_any _ _ p' q' _ Hp'.out Hq'.out ⟨by omega, by omega⟩).mono ?_
                        rintro e w7 ⟨rfl, g7⟩
                        replace Hp' := Lib.hid (Hp'.out.grew g7)
                        replace Hq' := Lib.hid (Hq'.out.grew g7)
                        replace GG := Lib.hid (GG.out.trans g7)
                        clear g7 cell6 r7 r8
                        by_cases hlt : p' < q'
                        · as_aux_lemma =>
                          rw [decide_eq_true hlt]
                          have f1 := Lib.hid (show Nat.gcd p' (q' - p') = Nat.gcd x y by rw [gcd_less_r (by omega)]; exact hgg4.out)
                          have f3 := Lib.hid (show q' - p' ≠ 0 ∧ p' ≤ N ∧ q' - p' ≤ M ∧ p' + (q' - p') < g2k by omega)
                          have hle := Lib.hid (Nat.le_of_lt hlt)
                          clear hlt
                          go_wp2_with fail
                          refine (rless_any _ _ q' p' _ _ _ Hq'.out Hp'.out hle.out ⟨by omega, by omega⟩).mono ?_
                          rintro e w8 ⟨v8, rfl, h8, g8⟩
                          replace h8 := Lib.hid h8
                          replace Hp' := Lib.hid (Hp'.out.grew g8)
                          replace GG := Lib.hid (GG.out.trans g8)
                          clear g8
                          go_wp2_with fail
                          go_roundg (p' + (q' - p'))
                          case rel => exact ⟨p', q' - p', rfl, f3.out.1, f1, f3.out.2.1, f3.out.2.2.1, Hp'.out, h8.out, GG.out⟩
                          case measure => exact f3.out.2.2.2
                        · as_aux_lemma =>
                          rw [decide_eq_false hlt]
                          have f1 := Lib.hid (show Nat.gcd (p' - q') q' = Nat.gcd x y by rw [gcd_less_l (by omega)]; exact hgg4.out)
                          have f3 := Lib.hid (show q' ≠ 0 ∧ p' - q' ≤ N ∧ q' ≤ M ∧ (p' - q') + q' < g2k by omega)
                          have hle := Lib.hid (Nat.le_of_not_lt hlt)
                          clear hlt
                          go_wp2_with fail
                          refine (rless_any _ _ p' q' _ _ _ Hp'.out Hq'.out hle.out ⟨by omega, by omega⟩).mono ?_
                          rintro e w8 ⟨v8, rfl, h8, g8⟩
                          replace h8 := Lib.hid h8
                          replace Hq' := Lib.hid (Hq'.out.grew g8)
                          replace GG := Lib.hid (GG.out.trans g8)
                          clear g8
                          go_wp2_with fail
                          go_roundg ((p' - q') + q')
                          case rel => exact ⟨p' - q', q', rfl, f3.out.1, f1, f3.out.2.1, f3.out.2.2.1, h8.out, Hq'.out, GG.out⟩
                          case measure => exact f3.out.2.2.2
end Go.Proofs.YtngbcbncllfblaaGreat
namespace Go.Proofs.YtngbcbncllfblaaGreat
open Go.RowKit

set_option maxRecDepth 100000 in
set_option maxHeartbeats 4000000 in
theorem rReduce_any (va vb : Value) (N M n m : Nat) (w : World) (ha : Num 4294967296 .u32 w va N n) (hb : Num 4294967296 .u32 w vb M m) (hsz : n < 4294967296 ∧ m < 4294967296) (hM : M ≠ 0) :
    Calls Tryz.prog 194 #[va, vb] w fun e w' => ∃ x y, e = .returned (.tuple #[x, y]) ∧ Num 4294967296 .u32 w' x (N / Nat.gcd N M) (len 4294967296 (N / Nat.gcd N M)) ∧ Num 4294967296 .u32 w' y (M / Nat.gcd N M) (len 4294967296 (M / Nat.gcd N M)) ∧ Grew w w' := by
  have hg0 : Nat.gcd N M ≠ 0 := fun e => hM (Nat.gcd_eq_zero_iff.1 e).2
  have hgl : len 4294967296 (Nat.gcd N M) < 4294967297 := by
    have h1 := len_mono (B := 4294967296) (by omega) (Nat.gcd_le_right N (Nat.pos_of_ne_zero hM))
    have h2 := hb.len_le (by omega)
    omega
  have hl0 : len 4294967296 (Nat.gcd N M) ≠ 0 := fun e => hg0 ((len_eq_zero (by omega)).1 e)
  go_enter Tryz.func194, Tryz.ntmps194
  go_wp2_with fail
  refine (rGcd_any _ _ _ _ _ _ _ ha hb hsz).mono ?_
  rintro e w1 ⟨v1, rfl, h1, g1⟩
  obtain ⟨A, c, rfl, -⟩ := id h1
  have H1 := Lib.hid h1
  clear h1
  generalize hgg : Nat.gcd N M = g at *
  generalize hlg : len 4294967296 g = lg at *
  replace hgg := Lib.hid hgg
  replace hlg := Lib.hid hlg
  have hlb : ((lg : Int) == 0) = false := by simp; omega
  go_wp2_with fail
  refine (rDiv_any _ _ N g _ _ _ (ha.grew g1) H1.out ⟨by omega, by omega⟩ hg0).mono ?_
  rintro e w2 ⟨q2, r2, rfl, hq2, hr2, g2⟩
  replace H1 := Lib.hid (H1.out.grew g2)
  go_wp2_with fail
  refine (rDiv_any _ _ M g _ _ _ (hb.grew (g1.trans g2)) H1.out ⟨by omega, by omega⟩ hg0).mono ?_
  rintro e w3 ⟨q3, r3, rfl, hq3, hr3, g3⟩
  replace hq2 := Lib.hid (hq2.grew g3)
  replace hq3 := Lib.hid hq3
  have G := Lib.hid ((g1.trans g2).trans g3)
  clear g1 g2 g3 hr2 hr3 ha hb
  go_wp2_with fail
  go_ret2
  exact ⟨_, _, rfl, by rw [hgg.out]; exact hq2.out, by rw [hgg.out]; exact hq3.out, G.out⟩
end Go.Proofs.YtngbcbncllfblaaGreat
namespace Go.Proofs.YtngbcbncllfblaaGreat
open Go.RowKit

/-- Two cells of a struct that may be stored. -/
def Res2 (w : World) (r o : Nat) (u0 u1 : Value) : Prop :=
  w.cell? ⟨r, o, none⟩ = some u0 ∧ w.cell? ⟨r, o + 1, none⟩ = some u1 ∧ w.frozen? ⟨r, o, none⟩ = false ∧ w.frozen? ⟨r, o + 1, none⟩ = false ∧ r < w.heap.size
theorem Res2.grew {w w' : World} {r o : Nat} {u0 u1 : Value} (h : Res2 w r o u0 u1) (g : Grew w w') : Res2 w' r o u0 u1 := by
  obtain ⟨h0, h1, f0, f1, s⟩ := h
  exact ⟨g.cell h0, g.cell h1, (g.below.frozen (p := ⟨r, o, none⟩) s).trans f0, (g.below.frozen (p := ⟨r, o + 1, none⟩) s).trans f1, Nat.lt_of_lt_of_le s g.size⟩
theorem other2 {w : World} {b r o p : Nat} {u0 u1 : Value} {v : Option Value} (h : b ≠ r) (hc : w.cell? ⟨b, p, none⟩ = v) : ((w.setCell ⟨r, o, none⟩ u0).setCell ⟨r, o + 1, none⟩ u1).cell? ⟨b, p, none⟩ = v := by
  rw [World.cell?_setCell_other _ _ _ _ (by simp <;> omega), World.cell?_setCell_other _ _ _ _ (by simp <;> omega)]; exact hc
theorem store2 {w w' : World} {r o : Nat} {x : Bool} {A : Option Addr} {n c : Nat} {u0 u1 : Value} (h0 : w.cell? ⟨r, o, none⟩ = some (.bool x)) (h1 : w.cell? ⟨r, o + 1, none⟩ = some (.slice A n c))
    (h : w' = (w.setCell ⟨r, o, none⟩ u0).setCell ⟨r, o + 1, none⟩ u1) :
    w'.cell? ⟨r, o, none⟩ = some u0 ∧ w'.cell? ⟨r, o + 1, none⟩ = some u1 ∧ Keeps w w' ∧ (∀ b p, b ≠ r → w'.cell? ⟨b, p, none⟩ = w.cell? ⟨b, p, none⟩) ∧ w'.heap.size = w.heap.size ∧ (∀ a, a.heap.size ≤ r → Grew a w → Grew a w') := by
  have e1 : ∀ u, (w.setCell ⟨r, o, none⟩ u).cell? ⟨r, o + 1, none⟩ = some (.slice A n c) := fun u => by rw [World.cell?_setCell_other _ _ _ _ (by simp)]; exact h1
  subst h
  refine ⟨?_, ?_, ?_, ?_, ?_, ?_⟩
  · rw [World.cell?_setCell_other _ _ _ _ (by simp)]; exact cell_set h0 u0
  · exact cell_set (e1 _) u1
  · intro B' K v N k hh
    exact (hh.setCell (by rw [h0]; simp) _).setCell (by rw [e1]; simp) _
  · intro b p hb
    rw [World.cell?_setCell_other _ _ _ _ (by simp <;> omega), World.cell?_setCell_other _ _ _ _ (by simp <;> omega)]
  · simp [World.setCell]
  · intro a hr g
    exact (g.setCell hr _).setCell hr _

/-- A whole number as it comes in, of at most k words, whatever they are. -/
def WhlR (w : World) (V : Value) (z : Int) (k : Nat) : Prop := ∃ neg N n v, V = .agg #[.bool neg, v] ∧ Num 4294967296 .u32 w v N n ∧ sgn neg N = z ∧ n ≤ k
theorem WhlR.kept {w w' : World} {V : Value} {z : Int} {l : Nat} (h : WhlR w V z l) (k : Keeps w w') : WhlR w' V z l := by
  obtain ⟨neg, N, n, v, e, hn, h⟩ := h
  exact ⟨neg, N, n, v, e, k _ _ _ _ _ hn, h⟩
theorem Whl.r {w : World} {V : Value} {z : Int} {k : Nat} (h : Whl w V z) (e : len 4294967296 z.natAbs ≤ k) : WhlR w V z k := by
  obtain ⟨v, e1, hn⟩ := h
  exact ⟨_, _, _, v, e1, hn, sgn_of z, e⟩
theorem WhlR.open {w : World} {V : Value} {z : Int} {k : Nat} (h : WhlR w V z k) : ∃ b A n c N, V = .agg #[.bool b, .slice A n c] ∧ Hid (Num 4294967296 .u32 w (.slice A n c) N n) ∧ Hid (sgn b N = z) ∧ n ≤ k := by
  obtain ⟨neg, N, n, v, rfl, hn, h1, h2⟩ := h
  obtain ⟨A, c, rfl, -⟩ := id hn
  exact ⟨neg, A, n, c, N, rfl, hn, h1, h2⟩
/-- A fraction as it comes in, both parts of at most k words, whatever they are. -/
def FracR (w : World) (V : Value) (q : Rat) (k : Nat) : Prop :=
  ∃ neg N D n m va vd, V = .agg #[.bool neg, va, vd] ∧ Num 4294967296 .u32 w va N n ∧ Num 4294967296 .u32 w vd D m ∧ mkRat (sgn neg N) D = q ∧ n ≤ k ∧ m ≤ k
theorem FracR.kept {w w' : World} {V : Value} {q : Rat} {l : Nat} (h : FracR w V q l) (k : Keeps w w') : FracR w' V q l := by
  obtain ⟨neg, N, D, n, m, va, vd, e, h1, h2, h3⟩ := h
  exact ⟨neg, N, D, n, m, va, vd, e, k _ _ _ _ _ h1, k _ _ _ _ _ h2, h3⟩
theorem FracR.v {w : World} {V : Value} {q : Rat} {l : Nat} (h : FracR w V q l) : FracV w V q l := by
  obtain ⟨neg, N, D, n, m, va, vd, e, h1, h2, h3, h4, h5⟩ := h
  exact ⟨neg, N, D, n, m, va, vd, e, h1, h2, h3, Nat.le_trans (h1.len_le (by omega)) h4, Nat.le_trans (h2.len_le (by omega)) h5⟩
theorem FracC.r {w : World} {V : Value} {q : Rat} {k : Nat} (h : FracC w V q) (b : QB q k) : FracR w V q k := by
  obtain ⟨vn, vd, e, h1, h2, h3⟩ := h
  exact ⟨_, _, _, _, _, vn, vd, e, h1, h2, by rw [sgn_of, Rat.mkRat_self], b.1, b.2⟩
end Go.Proofs.YtngbcbncllfblaaGreat
