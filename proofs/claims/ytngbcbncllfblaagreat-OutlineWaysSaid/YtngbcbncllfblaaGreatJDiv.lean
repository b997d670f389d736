/- nat.guess: a digit of a long division, at most one too great. Condition: the divisor's highest bit is set. nat.take, nat.give: a divisor is taken so often from the words of a rest, and given back once. Condition: the rest lies in a row of the call's own, the divisor elsewhere. Plain arithmetic of a long division (no program in sight). nat.Div: how often a number is in another one, and what is left. Condition: both read; fewer than 2^39 words. -/
import Derived.Test.YtngbcbncllfblaaGreatJKnuth
import Derived.Deep.RegionHeld3
import Derived.Deep.RegionWith
namespace Go.Proofs.YtngbcbncllfblaaGreat
open Go.RowKit

theorem guess_dec {left top q v : Nat} (h : left + q * top = v) (h0 : 0 < q) : left + top + (q - 1) * top = v := by
  obtain ⟨j, rfl⟩ : ∃ j, q = j + 1 := ⟨q - 1, by omega⟩
  rw [Nat.add_mul] at h
  rw [Nat.add_sub_cancel]
  omega

theorem wrap_div (v t : Nat) (h : v < 18446744073709551616) : IntKind.u64.wrap ((v : Int) / t) = ((v / t : Nat) : Int) := by
  have e : (v : Int) / t = ((v / t : Nat) : Int) := by simp
  have h2 : v / t ≤ v := Nat.div_le_self _ _
  rw [e]
  generalize v / t = z at *
  exact IntWalk.u64_in _ (by omega)
theorem emod_cast (v t : Nat) : (v : Int) % t = ((v % t : Nat) : Int) := by simp

set_option maxRecDepth 100000 in
set_option maxHeartbeats 4000000 in
theorem guess_any (vp : Value) (U V n : Nat) (w : World) (hp : Num 4294967296 .u32 w vp U (n + 3)) (hV : V < 4294967296 ^ (n + 2)) (hU : U < V * 4294967296) (ht : 2147483648 ≤ dig 4294967296 V (n + 1)) :
    Calls Tryz.prog 323 #[vp, .int .u32 (dig 4294967296 V (n + 1) : Nat), .int .u32 (dig 4294967296 V n : Nat)] w fun e w' => ∃ q : Nat, e = .returned (.int .u64 (q : Nat)) ∧ U / V ≤ q ∧ q ≤ U / V + 1 ∧ q < 4294967296 ∧ Grew w w' := by
  obtain ⟨A, c, rfl, a1, a2, a3, a4⟩ := hp
  obtain ⟨b, off, rfl, hc⟩ := a4 (by omega)
  have c0 := hc n (by omega)
  have c1 : w.cell? ⟨b, off + (n + 1), none⟩ = _ := hc (n + 1) (by omega)
  have c2 : w.cell? ⟨b, off + (n + 2), none⟩ = _ := hc (n + 2) (by omega)
  have x0 := dig_lt (B := 4294967296) (by omega) U n
  have x1 := dig_lt (B := 4294967296) (by omega) U (n + 1)
  have x2 := dig_lt (B := 4294967296) (by omega) U (n + 2)
  have y0 := dig_lt (B := 4294967296) (by omega) V n
  have y1 := dig_lt (B := 4294967296) (by omega) V (n + 1)
  have hstart := guess_start hV hU ht
  have hfirst := Lib.hid (guess_first hV hU (by omega))
  have hQ := div_lt_base hU
  have href := Lib.hid (fun q left => guess_refuse (q := q) (left := left) hV hU ht)
  have hexit := Lib.hid (fun q left => guess_exit (q := q) (left := left) hV hU ht)
  have hbrk := Lib.hid (fun q left => guess_brk (q := q) (left := left) hV hU)
  have hor := or_low _ _ x2 x1
  clear hc a4 a3 hV hU
  generalize dig 4294967296 U n = u0 at *
  generalize dig 4294967296 U (n + 1) = u1 at *
  generalize dig 4294967296 U (n + 2) = u2 at *
  generalize dig 4294967296 V n = next at *
  generalize dig 4294967296 V (n + 1) = top at *
  generalize U / V = Q at *
  rw [show (u2 : Int) * 4294967296 + u1 = ((u2 * 4294967296 + u1 : Nat) : Int) from by omega] at hor
  have hv : u2 * 4294967296 + u1 < 18446744073709551616 := by omega
  generalize u2 * 4294967296 + u1 = v at *
  have htz : ((top : Int) == 0) = false := by simp; omega
  have q1 : ((n + 3 : Nat) : Int) = (n : Int) + 3 := by omega
  go_enter Tryz.func323, Tryz.ntmps323
  go_wp2_with fail
  rw [show (n : Int) + 3 - 1 = (n : Int) + 2 from by omega]
  have z1 : (n : Int) + 2 - 1 = (n : Int) + 1 := by omega
  have z2 : (n : Int) + 2 - 2 = (n : Int) := by omega
  go_quiet (fail)
  go_wp2_with fail
  go_quiet (fail)
  go_wp2_with fail
  rw [wrap_div v top hv, emod_cast v top]
  have hl0 := Nat.mod_lt v (show 0 < top by omega)
  have hm0 := Nat.div_add_mod v top
  clear hor c1 c2 htz
  go_loopg [9, 10] (v / top) (fun gk q l wr => ∃ left : Nat, q = .int .u64 (gk : Nat) ∧ l = .int .u64 (left : Nat) ∧ left < 4294967296 ∧ gk ≤ 4294967297 ∧ Hid (left + gk * top = v) ∧ Q ≤ gk ∧ Grew w wr)
  case atStart => exact ⟨v % top, rfl, rfl, by omega, hstart, Lib.hid (by rw [Nat.mul_comm]; omega), hfirst.out, ((Grew.refl w).drewN _).drewN _⟩
  case round =>
    obtain ⟨left, rfl, rfl, hll, hgl, hqv, hQl, hG⟩ := hrel
    have c0' := hG.cell c0
    clear c0
    have hor2 := or_low left u0 hll x0
    by_cases hbig : 4294967295 < gk
    · as_aux_lemma =>
      have hb1 : (4294967295 : Int) < (gk : Int) := by omega
      have HQ' : Hid (left + top + (gk - 1) * top = v) := Lib.hid (guess_dec hqv.out (by omega))
      by_cases hbk : 4294967295 < left + top
      · have hbk' : (4294967295 : Int) < (left : Int) + top := by omega
        go_wp2_with fail
        go_ret
        have hx := hbrk.out (gk - 1) (left + top) HQ'.out (by omega)
        have he := hexit.out (gk - 1) (left + top) HQ'.out hx.2 (by omega)
        exact ⟨gk - 1, ret_int (by omega), by omega, he, hx.1, hG⟩
      · have hbk' : ¬ (4294967295 : Int) < (left : Int) + top := by omega
        go_wp2_with fail
        go_roundg (gk - 1)
        case rel => exact ⟨left + top, congrArg _ (by omega), by go_num, by omega, by omega, Lib.hid HQ'.out, by omega, hG⟩
        case measure => omega
    · have hb1 : ¬ (4294967295 : Int) < (gk : Int) := by omega
      have hm : gk * next ≤ 4294967295 * 4294967295 := Nat.mul_le_mul (by omega) (by omega)
      have hm1 : ((gk * next : Nat) : Int) = (gk : Int) * next := by simp
      have hm2 : 0 ≤ (gk : Int) * next := by omega
      have hm3 : (gk : Int) * next ≤ 18446744065119617025 := by omega
      by_cases hcmp : left * 4294967296 + u0 < gk * next
      · as_aux_lemma =>
        have hcmp' : (left : Int) * 4294967296 + u0 < (gk : Int) * next := by omega
        have hr1 := href.out gk left hqv.out hcmp
        have HQ' : Hid (left + top + (gk - 1) * top = v) := Lib.hid (guess_dec hqv.out (by omega))
        clear hm1 hm
        by_cases hbk : 4294967295 < left + top
        · have hbk' : (4294967295 : Int) < (left : Int) + top := by omega
          go_wp2_with fail
          go_ret
          have hx := hbrk.out (gk - 1) (left + top) HQ'.out (by omega)
          have he := hexit.out (gk - 1) (left + top) HQ'.out hx.2 (by omega)
          exact ⟨gk - 1, ret_int (by omega), by omega, he, hx.1, hG⟩
        · have hbk' : ¬ (4294967295 : Int) < (left : Int) + top := by omega
          go_wp2_with fail
          go_roundg (gk - 1)
          case rel => exact ⟨left + top, congrArg _ (by omega), by go_num, by omega, by omega, Lib.hid HQ'.out, by omega, hG⟩
          case measure => omega
      · as_aux_lemma =>
        have hcmp' : ¬ (left : Int) * 4294967296 + u0 < (gk : Int) * next := by omega
        have he := hexit.out gk left hqv.out (by omega) hQl
        clear hm1 hm
        go_wp2_with fail
        go_ret
        exact ⟨gk, rfl, hQl, he, by omega, hG⟩
end Go.Proofs.YtngbcbncllfblaaGreat
namespace Go.Proofs.YtngbcbncllfblaaGreat
open Go.RowKit

theorem bor_nat (x y c : Nat) : bor x y c = ((if x < y + c then 1 else 0 : Nat) : Int) := by
  unfold bor
  by_cases h : x < y + c
  · rw [if_pos h, if_pos (by omega)]; rfl
  · rw [if_neg h, if_neg (by omega)]; rfl

/-- The words of a rest, of which n + 1 from i on have turned to those of R, below i + s. -/
def part (f : Nat → Nat) (R i s p : Nat) : Nat := if i ≤ p ∧ p < i + s then dig 4294967296 R (p - i) else f p
theorem part_zero (f : Nat → Nat) (R i : Nat) : part f R i 0 = f := by funext p; unfold part; rw [if_neg (by omega)]
theorem part_at (f : Nat → Nat) (R i s : Nat) : part f R i s (i + s) = f (i + s) := by unfold part; rw [if_neg (by omega)]
theorem part_set {w : World} {g t R i s L x : Nat} {K : IntKind} {f : Nat → Nat} (h : Row w g t K (part f R i s) L) (hx : x = dig 4294967296 R s) : Row (w.setCell ⟨g, i + s, none⟩ (.int K (x : Nat))) g t K (part f R i (s + 1)) L := by
  refine (h.set (i + s) x).congr fun p _ => ?_
  by_cases e : p = i + s
  · subst e
    simp only [if_true, part]
    rw [if_pos (by omega), hx, show i + s - i = s from by omega]
  · simp only [if_neg e, part]
    by_cases hp : i ≤ p ∧ p < i + s
    · rw [if_pos hp, if_pos (by omega)]
    · rw [if_neg hp, if_neg (by omega)]

theorem take_in (V q j : Nat) (x c : Nat) (hq : q < 4294967296) (hx : x = dig 4294967296 V j) (hc : c = mc 4294967296 V q j) :
    ∃ v : Nat, (x : Int) * q + c = (v : Int) ∧ v < 18446744073709551616 ∧ (x : Int) * q < 18446744073709551616 ∧ 0 ≤ (x : Int) * q ∧ (v : Int) % 4294967296 = (dig 4294967296 (q * V) j : Nat) ∧ (v : Int) / 4294967296 = (mc 4294967296 V q (j + 1) : Nat) := by
  have h1 := mc_dig (B := 4294967296) (by omega) V q j
  have h2 := mc_succ (B := 4294967296) (by omega) V q j
  have h3 := mc_lt (B := 4294967296) (by omega) (V := V) hq j
  have h4 := dig_lt (B := 4294967296) (by omega) V j
  rw [← hx, ← hc] at h1 h2
  rw [← hc] at h3
  rw [← hx] at h4
  have hm : x * q ≤ 4294967295 * 4294967295 := Nat.mul_le_mul (by omega) (by omega)
  have e : (x : Int) * q = ((x * q : Nat) : Int) := by simp
  rw [← h1, h2, e]
  generalize x * q = z at *
  exact ⟨z + c, by omega, by omega, by omega, by omega, by omega, by omega⟩

set_option maxRecDepth 100000 in
set_option maxHeartbeats 4000000 in
theorem take_any (g i n c bb ob cb U V q L : Nat) (f : Nat → Nat) (w : World) (hR : Row w g 163 .u32 f L) (hL : i + n + 1 ≤ L) (hc : n + 1 ≤ c) (hc2 : c < 1099511627776) (hcb : n ≤ cb)
    (hf : ∀ p, p ≤ n → f (i + p) = dig 4294967296 U p) (hb : ∀ p, p < n → w.cell? ⟨bb, ob + p, none⟩ = some (.int .u32 (dig 4294967296 V p : Nat))) (hne : bb ≠ g) (hV : V < 4294967296 ^ n) (hU : U < 4294967296 ^ (n + 1)) (hq : q < 4294967296) :
    Calls Tryz.prog 324 #[.slice (some ⟨g, i, none⟩) (n + 1) c, .slice (some ⟨bb, ob, none⟩) n cb, .int .u64 (q : Nat)] w fun e w' =>
      e = .returned (.bool (decide (q * V ≤ U))) ∧ Row w' g 163 .u32 (part f (U + 4294967296 ^ (n + 1) - q * V) i (n + 1)) L ∧ Wrote g w w' := by
  have hW : q * V < 4294967296 ^ (n + 1) := by
    rw [Nat.pow_succ, Nat.mul_comm]; exact Nat.mul_lt_mul'' hV hq
  have HW := Lib.hid hW
  have hend := Lib.hid (take_end hU hW)
  have hmn : mc 4294967296 V q n = dig 4294967296 (q * V) n := by
    have h1 := mc_dig (B := 4294967296) (by omega) V q n
    rw [dig_zero_of_lt (by omega) hV (Nat.le_refl _), Nat.zero_mul, Nat.zero_add, Nat.mod_eq_of_lt (mc_lt (by omega) hq n)] at h1
    exact h1
  have Hmn := Lib.hid hmn
  have Hf := Lib.hid hf
  have Hb := Lib.hid hb
  clear hW hmn hf hb hV hU
  go_enter Tryz.func324, Tryz.ntmps324
  go_wp2_with fail
  go_loopg [7, 8, 15] n (fun gk cr br k wr => ∃ j : Nat, gk + j = n ∧ k = .int .i64 j ∧ cr = .int .u64 (mc 4294967296 V q j : Nat) ∧ br = .int .u32 (borrow 4294967296 U (q * V) j : Nat) ∧ Row wr g 163 .u32 (part f (U + 4294967296 ^ (n + 1) - q * V) i j) L ∧ Wrote g w wr)
  case atStart => exact ⟨0, rfl, rfl, by rw [mc_zero]; rfl, by rw [borrow_zero]; rfl, by rw [part_zero]; exact hR, Wrote.refl _ _⟩
  case round =>
    obtain ⟨j, hj, rfl, rfl, rfl, hRr, hWr⟩ := hrel
    by_cases hlt : j < n
    · as_aux_lemma =>
      have hcb0 := hWr.cell (Hb.out j hlt) hne
      have hca := hRr.cell (p := i + j) (by omega)
      rw [part_at, Hf.out j (by omega)] at hca
      have hfz := hRr.frozen (i + j)
      have hx := dig_lt (B := 4294967296) (by omega) V j
      have hy := dig_lt (B := 4294967296) (by omega) U j
      have hdl := dig_lt (B := 4294967296) (by omega) (q * V) j
      have hbl := borrow_le (B := 4294967296) U (q * V) j
      obtain ⟨v, v1, v2, v3, v4, v5, v6⟩ := take_in V q j _ _ hq rfl rfl
      have hst := take_step U (q * V) n j _ _ _ (by omega) HW.out rfl rfl rfl
      have HR := Lib.hid hRr
      have S1 := Lib.hid hst.1
      have S2 := Lib.hid hst.2
      have hml := mc_lt (B := 4294967296) (by omega) (V := V) hq j
      have hand := and_low v v2
      rw [v5] at hand
      clear hst hRr v5
      generalize dig 4294967296 V j = x at *
      generalize dig 4294967296 U j = y at *
      generalize dig 4294967296 (q * V) j = d at *
      generalize borrow 4294967296 U (q * V) j = br at *
      generalize mc 4294967296 V q j = m at *
      have hdm : (d : Int) % 4294967296 = d := by omega
      have q1 : (j : Int) < (n : Int) + 1 := by omega
      go_wp2_with fail
      refine (sub32_any _ _ _ _ (by omega) (by omega) (by omega) (by omega) (by omega) (by omega)).mono ?_
      rintro e w' ⟨rfl, rfl⟩
      rw [S1.out, bor_nat, S2.out]
      have hl2 := borrow_le (B := 4294967296) U (q * V) (j + 1)
      go_wp2_with fail
      go_roundg (gk - 1)
      case rel => exact ⟨j + 1, by omega, by go_num, by first | rfl | rw [v6], rfl, part_set HR.out rfl, hWr.setCell _ _⟩
      case measure => omega
    · as_aux_lemma =>
      obtain rfl : j = n := by omega
      have hca := hRr.cell (p := i + j) (by omega)
      rw [part_at, Hf.out j (by omega)] at hca
      have hfz := hRr.frozen (i + j)
      have hy := dig_lt (B := 4294967296) (by omega) U j
      have hbl := borrow_le (B := 4294967296) U (q * V) j
      have hst := take_step U (q * V) j j _ _ _ (by omega) HW.out rfl rfl rfl
      have hdl := dig_lt (B := 4294967296) (by omega) (q * V) j
      have HR := Lib.hid hRr
      have S1 := Lib.hid hst.1
      have S2 := Lib.hid hst.2
      rw [Hmn.out]
      clear hst hRr Hmn
      generalize dig 4294967296 U j = y at *
      generalize dig 4294967296 (q * V) j = d at *
      generalize borrow 4294967296 U (q * V) j = br at *
      have hdm : (d : Int) % 4294967296 = d := by omega
      have q1 : (j : Int) < (j : Int) + 1 := by omega
      go_wp2_with fail
      refine (sub32_any _ _ _ _ (by omega) (by omega) (by omega) (by omega) (by omega) (by omega)).mono ?_
      rintro e w' ⟨rfl, rfl⟩
      rw [S1.out, bor_nat, S2.out]
      have hl2 := borrow_le (B := 4294967296) U (q * V) (j + 1)
      have hend2 := hend.out
      generalize borrow 4294967296 U (q * V) (j + 1) = br2 at *
      have Hend2 := Lib.hid hend2
      clear hend2 hend
      go_wp2_with fail
      go_ret
      refine ⟨?_, part_set HR.out rfl, hWr.setCell _ _⟩
      by_cases h : q * V ≤ U
      · have := Hend2.out.2 h
        subst this
        rw [decide_eq_true h]; rfl
      · have h0 : br2 ≠ 0 := fun e => h (Hend2.out.1 e)
        have : br2 = 1 := by omega
        subst this
        rw [decide_eq_false h]; rfl

theorem give_step (X V j x y c : Nat) (hx : x = dig 4294967296 X j) (hy : y = dig 4294967296 V j) (hc : c = carry 4294967296 X V j) :
    (((x : Int) + y + c) % 4294967296 = (dig 4294967296 (X + V) j : Nat)) ∧ (((x : Int) + y + c) / 4294967296 = (carry 4294967296 X V (j + 1) : Nat)) := add_step X V j x y c hx hy hc

set_option maxRecDepth 100000 in
set_option maxHeartbeats 4000000 in
theorem give_any (g i n c bb ob cb X V L : Nat) (f : Nat → Nat) (w : World) (hR : Row w g 163 .u32 f L) (hL : i + n + 1 ≤ L) (hc : n + 1 ≤ c) (hc2 : c < 1099511627776) (hcb : n ≤ cb)
    (hf : ∀ p, p ≤ n → f (i + p) = dig 4294967296 X p) (hb : ∀ p, p < n → w.cell? ⟨bb, ob + p, none⟩ = some (.int .u32 (dig 4294967296 V p : Nat))) (hne : bb ≠ g) (hV : V < 4294967296 ^ n) :
    Calls Tryz.prog 325 #[.slice (some ⟨g, i, none⟩) (n + 1) c, .slice (some ⟨bb, ob, none⟩) n cb] w fun e w' =>
      e = .returned (.tuple #[]) ∧ Row w' g 163 .u32 (part f (X + V) i (n + 1)) L ∧ Wrote g w w' := by
  have Hf := Lib.hid hf
  have Hb := Lib.hid hb
  have hv0 := dig_zero_of_lt (B := 4294967296) (by omega) hV (Nat.le_refl _)
  have Hv0 := Lib.hid hv0
  clear hf hb hV hv0
  go_enter Tryz.func325, Tryz.ntmps325
  go_wp2_with fail
  go_loopg [4, 9] n (fun gk cr k wr => ∃ j : Nat, gk + j = n ∧ k = .int .i64 j ∧ cr = .int .u32 (carry 4294967296 X V j : Nat) ∧ Row wr g 163 .u32 (part f (X + V) i j) L ∧ Wrote g w wr)
  case atStart => exact ⟨0, rfl, rfl, by rw [carry_zero]; rfl, by rw [part_zero]; exact hR, Wrote.refl _ _⟩
  case round =>
    obtain ⟨j, hj, rfl, rfl, hRr, hWr⟩ := hrel
    by_cases hlt : j < n
    · as_aux_lemma =>
      have hcb0 := hWr.cell (Hb.out j hlt) hne
      have hca := hRr.cell (p := i + j) (by omega)
      rw [part_at, Hf.out j (by omega)] at hca
      have hfz := hRr.frozen (i + j)
      have hx := dig_lt (B := 4294967296) (by omega) X j
      have hy := dig_lt (B := 4294967296) (by omega) V j
      have hcl := carry_le (B := 4294967296) (by omega) X V j
      have hst := give_step X V j _ _ _ rfl rfl rfl
      have HR := Lib.hid hRr
      have S1 := Lib.hid hst.1
      have S2 := Lib.hid hst.2
      clear hst hRr
      generalize dig 4294967296 X j = x at *
      generalize dig 4294967296 V j = y at *
      generalize carry 4294967296 X V j = cr at *
      have q1 : (j : Int) < (n : Int) + 1 := by omega
      go_wp2_with fail
      refine (add32_any _ _ _ _ (by omega) (by omega) (by omega) (by omega) (by omega) (by omega)).mono ?_
      rintro e w' ⟨rfl, rfl⟩
      rw [S1.out, S2.out]
      go_wp2_with fail
      go_roundg (gk - 1)
      case rel => exact ⟨j + 1, by omega, by go_num, rfl, part_set HR.out rfl, hWr.setCell _ _⟩
      case measure => omega
    · as_aux_lemma =>
      obtain rfl : j = n := by omega
      have hca := hRr.cell (p := i + j) (by omega)
      rw [part_at, Hf.out j (by omega)] at hca
      have hfz := hRr.frozen (i + j)
      have hx := dig_lt (B := 4294967296) (by omega) X j
      have hcl := carry_le (B := 4294967296) (by omega) X V j
      have hst := (give_step X V j _ 0 _ rfl Hv0.out.symm rfl).1
      have HR := Lib.hid hRr
      have S1 := Lib.hid hst
      clear hst hRr
      generalize dig 4294967296 X j = x at *
      generalize carry 4294967296 X V j = cr at *
      have q1 : (j : Int) < (j : Int) + 1 := by omega
      go_wp2_with fail
      go_end0
      have e : ((x : Int) + cr) % 4294967296 = (dig 4294967296 (X + V) j : Nat) := by rw [← S1.out]; congr 2 <;> simp
      rw [e]
      exact ⟨rfl, part_set HR.out rfl, hWr.setCell _ _⟩
end Go.Proofs.YtngbcbncllfblaaGreat
namespace Go.Proofs.YtngbcbncllfblaaGreat

/-- The shift that brings the divisor's highest bit to the top. -/
theorem norm_ok {M n s : Nat} (hl : len 4294967296 M = n + 2) (hs : s = 32 - Lib.bitLen (dig 4294967296 M (n + 1))) :
    s < 32 ∧ Lib.bitLen (dig 4294967296 M (n + 1)) ≤ 32 ∧ M * 2 ^ s < 4294967296 ^ (n + 2) ∧ 2147483648 ≤ dig 4294967296 (M * 2 ^ s) (n + 1) := by
  have hM := lt_len (B := 4294967296) (by omega) M
  rw [hl] at hM
  have htop := top_ne (B := 4294967296) (by omega) (show len 4294967296 M = (n + 1) + 1 from hl)
  have htl := dig_lt (B := 4294967296) (by omega) M (n + 1)
  have hdt := dig_top hM
  obtain ⟨b1, b2⟩ := bitLenAux_bd 64 (dig 4294967296 M (n + 1)) (by omega)
  obtain ⟨b3, b4⟩ := b2 htop
  change 0 < Lib.bitLen _ at b3
  change 2 ^ (Lib.bitLen _ - 1) ≤ _ at b4
  change _ < 2 ^ Lib.bitLen _ at b1
  generalize hbl : Lib.bitLen (dig 4294967296 M (n + 1)) = bl at *
  have hb32 : bl ≤ 32 := by
    rcases Nat.lt_or_ge 32 bl with h | h
    · have := Nat.pow_le_pow_right (n := 2) (by omega) (show 32 ≤ bl - 1 by omega)
      omega
    · exact h
  have hp := pow_pos' (B := 4294967296) (by omega) (n + 1)
  have e32 : 2 ^ bl * 2 ^ s = 4294967296 := by rw [← Nat.pow_add, hs, show bl + (32 - bl) = 32 from by omega]
  have e31 : 2 ^ (bl - 1) * 2 ^ s = 2147483648 := by rw [← Nat.pow_add, hs, show bl - 1 + (32 - bl) = 31 from by omega]
  have hps := Nat.two_pow_pos s
  have hV : M * 2 ^ s < 4294967296 ^ (n + 2) := by
    have h1 : M < 2 ^ bl * 4294967296 ^ (n + 1) := by
      rw [← Nat.div_lt_iff_lt_mul hp, hdt]; exact b1
    have h2 := Nat.mul_lt_mul_of_pos_right h1 hps
    have e : 2 ^ bl * 4294967296 ^ (n + 1) * 2 ^ s = 4294967296 ^ (n + 1) * 4294967296 := by
      rw [Nat.mul_right_comm, e32, Nat.mul_comm]
    rw [e] at h2
    exact h2
  refine ⟨by omega, hb32, hV, ?_⟩
  rw [← dig_top hV, Nat.le_div_iff_mul_le hp]
  have h3 : 2 ^ (bl - 1) * 4294967296 ^ (n + 1) ≤ M := by
    rw [← Nat.le_div_iff_mul_le hp, hdt]; exact b4
  have h4 := Nat.mul_le_mul_right (2 ^ s) h3
  rw [Nat.mul_right_comm, e31] at h4
  exact h4

/-- The dividend is short enough for the first step. -/
theorem div_start {N V n s d : Nat} (hN : N < 4294967296 ^ (n + 2 + d)) (hs : s < 32) (hV : V < 4294967296 ^ (n + 2)) (ht : 2147483648 ≤ dig 4294967296 V (n + 1)) : N * 2 ^ s < V * 4294967296 ^ (d + 1) := by
  have hp := pow_pos' (B := 4294967296) (by omega) (n + 1)
  rw [← dig_top hV, Nat.le_div_iff_mul_le hp] at ht
  have h1 : 2 ^ s ≤ 2147483648 := Nat.pow_le_pow_right (n := 2) (j := 31) (by omega) (by omega)
  have h2 : N * 2 ^ s < 4294967296 ^ (n + 2 + d) * 2147483648 := by
    have := Nat.mul_le_mul_left N h1
    have := Nat.mul_lt_mul_of_pos_right hN (show 0 < 2147483648 by omega)
    omega
  have h3 := Nat.mul_le_mul_right (4294967296 ^ (d + 1)) ht
  rw [show 2147483648 * 4294967296 ^ (n + 1) * 4294967296 ^ (d + 1) = 4294967296 ^ (n + 2 + d) * 2147483648 from by
    rw [Nat.mul_assoc, ← Nat.pow_add, show n + 1 + (d + 1) = n + 2 + d from by omega, Nat.mul_comm]] at h3
  exact Nat.lt_of_lt_of_le h2 h3

/-- One step: what is left, and the quotient's digit. -/
theorem div_facts {A V i : Nat} (hV : 0 < V) :
    A % (V * 4294967296 ^ (i + 1)) / 4294967296 ^ i < V * 4294967296 ∧
    A % (V * 4294967296 ^ (i + 1)) / 4294967296 ^ i / V = dig 4294967296 (A / V) i ∧
    A % (V * 4294967296 ^ i) = (A % (V * 4294967296 ^ (i + 1)) / 4294967296 ^ i % V) * 4294967296 ^ i + A % (V * 4294967296 ^ (i + 1)) % 4294967296 ^ i := by
  have hp := pow_pos' (B := 4294967296) (by omega) i
  have hp1 := pow_pos' (B := 4294967296) (by omega) (i + 1)
  have hVp : 0 < V * 4294967296 ^ (i + 1) := Nat.mul_pos hV hp1
  have hX := Nat.mod_lt A hVp
  have e0 : V * 4294967296 ^ (i + 1) = V * 4294967296 * 4294967296 ^ i := by rw [Nat.pow_succ, Nat.mul_assoc, Nat.mul_comm 4294967296]
  have e1 : A % (V * 4294967296 ^ i) = A % (V * 4294967296 ^ (i + 1)) % (V * 4294967296 ^ i) := by
    rw [Nat.pow_succ, ← Nat.mul_assoc, Nat.mod_mul_right_mod]
  refine ⟨?_, ?_, ?_⟩
  · rw [Nat.div_lt_iff_lt_mul hp, ← e0]; exact hX
  · rw [Nat.div_div_eq_div_mul, Nat.mul_comm (4294967296 ^ i) V]
    unfold dig
    rw [Nat.div_div_eq_div_mul]
    have h1 : A / (V * 4294967296 ^ i) % 4294967296 = A % (V * 4294967296 ^ i * 4294967296) / (V * 4294967296 ^ i) := (Nat.mod_mul_right_div_self A (V * 4294967296 ^ i) 4294967296).symm
    rw [h1, Nat.pow_succ, ← Nat.mul_assoc]
  · rw [e1]
    generalize A % (V * 4294967296 ^ (i + 1)) = X
    rw [Nat.mul_comm V, Nat.mod_mul, Nat.add_comm, Nat.mul_comm (4294967296 ^ i)]

theorem dig_div (X i p : Nat) : dig 4294967296 (X / 4294967296 ^ i) p = dig 4294967296 X (i + p) := by
  unfold dig; rw [Nat.div_div_eq_div_mul, ← Nat.pow_add]

/-- The row behind a step. -/
theorem div_row {V X i l L p : Nat} {f : Nat → Nat} {R : Nat} (hp : p < L) (hV : V < 4294967296 ^ l) (hf : ∀ p, p < L → f p = dig 4294967296 X p)
    (hX : X < V * 4294967296 ^ (i + 1)) (hR : ∀ p, p ≤ l → dig 4294967296 R p = dig 4294967296 (X / 4294967296 ^ i % V) p) :
    part f R i (l + 1) p = dig 4294967296 (X / 4294967296 ^ i % V * 4294967296 ^ i + X % 4294967296 ^ i) p := by
  have hpp := pow_pos' (B := 4294967296) (by omega) i
  have hV0 : 0 < V := by
    rcases Nat.eq_zero_or_pos V with h | h
    · subst h; omega
    · exact h
  have hr := Nat.mod_lt (X / 4294967296 ^ i) hV0
  have hlow := Nat.mod_lt X hpp
  unfold part
  by_cases h : i ≤ p ∧ p < i + (l + 1)
  · rw [if_pos h, hR _ (by omega)]
    obtain ⟨j, rfl⟩ : ∃ j, p = i + j := ⟨p - i, by omega⟩
    rw [← dig_div, show i + j - i = j from by omega, Nat.add_comm, Nat.add_mul_div_right _ _ hpp, Nat.div_eq_of_lt hlow, Nat.zero_add]
  · rw [if_neg h, hf p hp]
    by_cases hpi : p < i
    · rw [Nat.add_comm, mul_low hpi]
      have h2 := Nat.div_add_mod X (4294967296 ^ i)
      have h3 := mul_low (B := 4294967296) (U := X % 4294967296 ^ i) (V := X / 4294967296 ^ i) (p := p) (s := i) hpi
      rw [Nat.mul_comm, Nat.add_comm, h2] at h3
      exact h3
    · have h1 : X < 4294967296 ^ (l + (i + 1)) := by
        rw [Nat.pow_add]; exact Nat.lt_of_lt_of_le hX (Nat.mul_le_mul_right _ (Nat.le_of_lt hV))
      have h2 : X / 4294967296 ^ i % V * 4294967296 ^ i + X % 4294967296 ^ i < 4294967296 ^ (l + (i + 1)) := by
        have h3 : (X / 4294967296 ^ i % V + 1) * 4294967296 ^ i ≤ 4294967296 ^ l * 4294967296 ^ i := Nat.mul_le_mul_right _ (by omega)
        rw [← Nat.pow_add, Nat.add_mul, Nat.one_mul] at h3
        have h4 : 4294967296 ^ (l + i) ≤ 4294967296 ^ (l + (i + 1)) := Nat.pow_le_pow_right (by omega) (by omega)
        omega
      rw [dig_zero_of_lt (by omega) h1 (by omega), dig_zero_of_lt (by omega) h2 (by omega)]

theorem part_part (f : Nat → Nat) (R R' i s p : Nat) : part (part f R i s) R' i s p = part f R' i s p := by
  unfold part
  by_cases h : i ≤ p ∧ p < i + s
  · rw [if_pos h, if_pos h]
  · rw [if_neg h, if_neg h, if_neg h]
theorem part_in (f : Nat → Nat) (R i s p : Nat) (h : p < s) : part f R i s (i + p) = dig 4294967296 R p := by
  unfold part; rw [if_pos (by omega), show i + p - i = p from by omega]

/-- What is left by the true digit, and the words of it. -/
theorem left_dig {U V m p : Nat} (hp : p ≤ m) : dig 4294967296 (U + 4294967296 ^ (m + 1) - U / V * V) p = dig 4294967296 (U % V) p := by
  have h := Nat.div_add_mod U V
  have e : ∀ P, U + P - U / V * V = U % V + P := fun P => by
    have h2 : U / V * V = V * (U / V) := Nat.mul_comm _ _
    omega
  rw [e]
  exact dig_add_pow _ hp
theorem left_back {U V m : Nat} (hV : V < 4294967296 ^ (m + 1)) : U + 4294967296 ^ (m + 1) - (U / V + 1) * V + V = U + 4294967296 ^ (m + 1) - U / V * V := by
  have h := Nat.div_add_mod U V
  rw [Nat.add_mul, Nat.one_mul, Nat.mul_comm (U / V) V]
  generalize 4294967296 ^ (m + 1) = P at *
  generalize V * (U / V) = z at *
  omega

end Go.Proofs.YtngbcbncllfblaaGreat
namespace Go.Proofs.YtngbcbncllfblaaGreat
open Go.RowKit

set_option maxRecDepth 100000 in
set_option maxHeartbeats 4000000 in
theorem div_less (va vb : Value) (N M n m : Nat) (w : World) (ha : Num 4294967296 .u32 w va N n) (hb : Num 4294967296 .u32 w vb M m) (hlt : N < M) (hsz : len 4294967296 N < 1099511627776) :
    Calls Tryz.prog 283 #[va, vb] w fun e w' => ∃ q r, e = .returned (.tuple #[q, r, .bool true]) ∧ Num 4294967296 .u32 w' q (N / M) (len 4294967296 (N / M)) ∧ Num 4294967296 .u32 w' r (N % M) (len 4294967296 (N % M)) ∧ Grew w w' := by
  have hl0 : len 4294967296 M ≠ 0 := fun h => by have := (len_eq_zero (B := 4294967296) (by omega)).1 h; omega
  have hnil : Num 4294967296 .u32 w (.slice none 0 0) 0 (len 4294967296 0) := Num.nil _ _ _
  generalize hl : len 4294967296 M = l at *
  have Hl := Lib.hid hl
  clear hl
  have hl1 : ((l : Int) == 0) = false := by simp; omega
  go_enter Tryz.func283, Tryz.ntmps283
  go_wp2_with fail
  refine (size_any _ _ _ _ ha).mono ?_
  rintro e w' ⟨rfl, rfl⟩
  go_wp2_with fail
  refine (size_any _ _ _ _ hb).mono ?_
  rintro e w' ⟨rfl, rfl⟩
  rw [Hl.out]
  go_wp2_with fail
  refine (cmp_any _ _ _ _ _ _ _ ha hb).mono ?_
  rintro e w1 ⟨rfl, hG⟩
  rw [cmpN_lt hlt]
  go_wp2_with fail
  refine (trim_any _ _ _ _ (ha.grew hG) hsz).mono ?_
  rintro e w2 ⟨v, rfl, h1, h2⟩
  go_wp2_with fail
  go_ret3
  refine ⟨_, _, rfl, ?_, ?_, hG.trans h2⟩
  · rw [Nat.div_eq_of_lt hlt]; exact (hnil.grew hG).grew h2
  · rw [Nat.mod_eq_of_lt hlt]; exact h1

theorem cmp_ge {N M : Nat} (h : M ≤ N) : decide (cmpN N M < 0) = false := by
  unfold cmpN
  rw [if_neg (by omega)]
  split <;> simp

set_option maxRecDepth 100000 in
set_option maxHeartbeats 4000000 in
theorem div_one (va vb : Value) (N M n m : Nat) (w : World) (ha : Num 4294967296 .u32 w va N n) (hb : Num 4294967296 .u32 w vb M m) (hle : M ≤ N) (h1 : len 4294967296 M = 1) (hsz : len 4294967296 N < 1099511627776) :
    Calls Tryz.prog 283 #[va, vb] w fun e w' => ∃ q r, e = .returned (.tuple #[q, r, .bool true]) ∧ Num 4294967296 .u32 w' q (N / M) (len 4294967296 (N / M)) ∧ Num 4294967296 .u32 w' r (N % M) (len 4294967296 (N % M)) ∧ Grew w w' := by
  have hm := hb.len_le (by omega)
  have hM := lt_len (B := 4294967296) (by omega) M
  rw [h1] at hM hm
  have hM0 : 0 < M := by
    rcases Nat.eq_zero_or_pos M with h | h
    · subst h; simp [len_zero] at h1
    · exact h
  have hdM : dig 4294967296 M 0 = M := (eq_dig1 hM).symm
  rw [Nat.pow_one] at hM
  obtain ⟨C, cb, rfl, b1, b2, b3, b4⟩ := id hb
  obtain ⟨bb, ob, rfl, hcb⟩ := b4 (by omega)
  have hc0 : w.cell? ⟨bb, ob, none⟩ = _ := hcb 0 (by omega)
  rw [hdM] at hc0
  have hcge := cmp_ge hle
  have H1 := Lib.hid h1
  have Hle := Lib.hid hle
  have q0 : (0 : Int) < (m : Int) := by omega
  have hrl : N % M < 4294967296 := Nat.lt_trans (Nat.mod_lt _ hM0) hM
  clear h1 hle hdM b3 b4 hcb
  generalize hcm : cmpN N M = cm at *
  have Hcm := Lib.hid hcm
  clear hcm
  go_enter Tryz.func283, Tryz.ntmps283
  go_wp2_with fail
  refine (size_any _ _ _ _ ha).mono ?_
  rintro e w' ⟨rfl, rfl⟩
  go_wp2_with fail
  refine (size_any _ _ _ _ hb).mono ?_
  rintro e w' ⟨rfl, rfl⟩
  rw [H1.out]
  go_wp2_with fail
  refine (cmp_any _ _ _ _ _ _ _ ha hb).mono ?_
  rintro e w1 ⟨rfl, hG⟩
  rw [Hcm.out]
  have hc1 := hG.cell hc0
  go_wp2_with fail
  refine (small_any _ _ _ _ _ (ha.grew hG) hM0 hM hsz).mono ?_
  rintro e w2 ⟨v, rfl, hq, hG2⟩
  go_wp2_with fail
  refine (of_any _ (N % M) _ rfl (by omega)).mono ?_
  rintro e w3 ⟨r, rfl, hr, hG3⟩
  go_wp2_with fail
  go_ret3
  exact ⟨_, _, rfl, hq.grew hG3, hr, (hG.trans hG2).trans hG3⟩
end Go.Proofs.YtngbcbncllfblaaGreat
