/- nat.take, nat.give: a divisor is taken so often from the words of a rest, and given back once. Condition: the rest lies in a row of the call's own, the divisor elsewhere. -/
import Derived.Test.YtpglnfccmhkocaaGuess
namespace Go.Proofs.Ytpglnfccmhkocaa
open Go.RowKit

theorem bor_nat (x y c : Nat) : bor x y c = ((if x < y + c then 1 else 0 : Nat) : Int) := by
  unfold bor
  by_cases h : x < y + c
  · rw [if_pos h, if_pos (by omega)]; rfl
  · rw [if_neg h, if_neg (by omega)]; rfl

/-- The words of a rest, of which n + 1 from i on have turned to those of R, below i + s. -/
def part (f : Nat → Nat) (R i s p : Nat) : Nat := if i ≤ p ∧ p < i + s then dig 4294967296 R (p - i) else f p
theorem part_zero (f : Nat → Nat) (R i : Nat) : part f R i 0 = f := by funext p; unfold part; rw [if_neg (by omega)]
theorem part_at (f : Nat → Nat) (R i s : Nat) : part f R i s (i + s) = f (i + s) := by unfold part; rw [if_neg (by omega)]
theorem part_set {w : World} {g t R i s L x : Nat} {K : IntKind} {f : Nat → Nat} (h : Row w g t K (part f R i s) L) (hx : x = dig 4294967296 R s) : Row (w.setCell ⟨g, i + s, none⟩ (.int K (x : Nat))) g t K (part f R i (s + 1)) L := by
  refine (h.set (i + s) x).congr fun p _ => ?_
  by_cases e : p = i + s
  · subst e
    simp only [if_true, part]
    rw [if_pos (by omega), hx, show i + s - i = s from by omega]
  · simp only [if_neg e, part]
    by_cases hp : i ≤ p ∧ p < i + s
    · rw [if_pos hp, if_pos (by omega)]
    · rw [if_neg hp, if_neg (by omega)]

theorem take_in (V q j : Nat) (x c : Nat) (hq : q < 4294967296) (hx : x = dig 4294967296 V j) (hc : c = mc 4294967296 V q j) :
    ∃ v : Nat, (x : Int) * q + c = (v : Int) ∧ v < 18446744073709551616 ∧ (x : Int) * q < 18446744073709551616 ∧ 0 ≤ (x : Int) * q ∧ (v : Int) % 4294967296 = (dig 4294967296 (q * V) j : Nat) ∧ (v : Int) / 4294967296 = (mc 4294967296 V q (j + 1) : Nat) := by
  have h1 := mc_dig (B := 4294967296) (by omega) V q j
  have h2 := mc_succ (B := 4294967296) (by omega) V q j
  have h3 := mc_lt (B := 4294967296) (by omega) (V := V) hq j
  have h4 := dig_lt (B := 4294967296) (by omega) V j
  rw [← hx, ← hc] at h1 h2
  rw [← hc] at h3
  rw [← hx] at h4
  have hm : x * q ≤ 4294967295 * 4294967295 := Nat.mul_le_mul (by omega) (by omega)
  have e : (x : Int) * q = ((x * q : Nat) : Int) := by simp
  rw [← h1, h2, e]
  generalize x * q = z at *
  exact ⟨z + c, by omega, by omega, by omega, by omega, by omega, by omega⟩

set_option maxRecDepth 100000 in
set_option maxHeartbeats 4000000 in
theorem take_any (g i n c bb ob cb U V q L : Nat) (f : Nat → Nat) (w : World) (hR : Row w g 80 .u32 f L) (hL : i + n + 1 ≤ L) (hc : n + 1 ≤ c) (hc2 : c < 1099511627776) (hcb : n ≤ cb)
    (hf : ∀ p, p ≤ n → f (i + p) = dig 4294967296 U p) (hb : ∀ p, p < n → w.cell? ⟨bb, ob + p, none⟩ = some (.int .u32 (dig 4294967296 V p : Nat))) (hne : bb ≠ g) (hV : V < 4294967296 ^ n) (hU : U < 4294967296 ^ (n + 1)) (hq : q < 4294967296) :
    Calls Try.prog 131 #[.slice (some ⟨g, i, none⟩) (n + 1) c, .slice (some ⟨bb, ob, none⟩) n cb, .int .u64 (q : Nat)] w fun e w' =>
      e = .returned (.bool (decide (q * V ≤ U))) ∧ Row w' g 80 .u32 (part f (U + 4294967296 ^ (n + 1) - q * V) i (n + 1)) L ∧ Wrote g w w' := by
  have hW : q * V < 4294967296 ^ (n + 1) := by
    rw [Nat.pow_succ, Nat.mul_comm]; exact Nat.mul_lt_mul'' hV hq
  have HW := Lib.hid hW
  have hend := Lib.hid (take_end hU hW)
  have hmn : mc 4294967296 V q n = dig 4294967296 (q * V) n := by
    have h1 := mc_dig (B := 4294967296) (by omega) V q n
    rw [dig_zero_of_lt (by omega) hV (Nat.le_refl _), Nat.zero_mul, Nat.zero_add, Nat.mod_eq_of_lt (mc_lt (by omega) hq n)] at h1
    exact h1
  have Hmn := Lib.hid hmn
  have Hf := Lib.hid hf
  have Hb := Lib.hid hb
  clear hW hmn hf hb hV hU
  go_enter Try.func131, Try.ntmps131
  go_wp2_with fail
  go_loopg [7, 8, 15] n (fun gk cr br k wr => ∃ j : Nat, gk + j = n ∧ k = .int .i64 j ∧ cr = .int .u64 (mc 4294967296 V q j : Nat) ∧ br = .int .u32 (borrow 4294967296 U (q * V) j : Nat) ∧ Row wr g 80 .u32 (part f (U + 4294967296 ^ (n + 1) - q * V) i j) L ∧ Wrote g w wr)
  case atStart => exact ⟨0, rfl, rfl, by rw [mc_zero]; rfl, by rw [borrow_zero]; rfl, by rw [part_zero]; exact hR, Wrote.refl _ _⟩
  case round =>
    obtain ⟨j, hj, rfl, rfl, rfl, hRr, hWr⟩ := hrel
    by_cases hlt : j < n
    · as_aux_lemma =>
      have hcb0 := hWr.cell (Hb.out j hlt) hne
      have hca := hRr.cell (p := i + j) (by omega)
      rw [part_at, Hf.out j (by omega)] at hca
      have hfz := hRr.frozen (i + j)
      have hx := dig_lt (B := 4294967296) (by omega) V j
      have hy := dig_lt (B := 4294967296) (by omega) U j
      have hdl := dig_lt (B := 4294967296) (by omega) (q * V) j
      have hbl := borrow_le (B := 4294967296) U (q * V) j
      obtain ⟨v, v1, v2, v3, v4, v5, v6⟩ := take_in V q j _ _ hq rfl rfl
      have hst := take_step U (q * V) n j _ _ _ (by omega) HW.out rfl rfl rfl
      have HR := Lib.hid hRr
      have S1 := Lib.hid hst.1
      have S2 := Lib.hid hst.2
      have hml := mc_lt (B := 4294967296) (by omega) (V := V) hq j
      have hand := and_low v v2
      rw [v5] at hand
      clear hst hRr v5
      generalize dig 4294967296 V j = x at *
      generalize dig 4294967296 U j = y at *
      generalize dig 4294967296 (q * V) j = d at *
      generalize borrow 4294967296 U (q * V) j = br at *
      generalize mc 4294967296 V q j = m at *
      have hdm : (d : Int) % 4294967296 = d := by omega
      have q1 : (j : Int) < (n : Int) + 1 := by omega
      go_wp2_with fail
      refine (sub32_any _ _ _ _ (by omega) (by omega) (by omega) (by omega) (by omega) (by omega)).mono ?_
      rintro e w' ⟨rfl, rfl⟩
      rw [S1.out, bor_nat, S2.out]
      have hl2 := borrow_le (B := 4294967296) U (q * V) (j + 1)
      go_wp2_with fail
      go_roundg (gk - 1)
      case rel => exact ⟨j + 1, by omega, by go_num, by first | rfl | rw [v6], rfl, part_set HR.out rfl, hWr.setCell _ _⟩
      case measure => omega
    · as_aux_lemma =>
      obtain rfl : j = n := by omega
      have hca := hRr.cell (p := i + j) (by omega)
      rw [part_at, Hf.out j (by omega)] at hca
      have hfz := hRr.frozen (i + j)
      have hy := dig_lt (B := 4294967296) (by omega) U j
      have hbl := borrow_le (B := 4294967296) U (q * V) j
      have hst := take_step U (q * V) j j _ _ _ (by omega) HW.out rfl rfl rfl
      have hdl := dig_lt (B := 4294967296) (by omega) (q * V) j
      have HR := Lib.hid hRr
      have S1 := Lib.hid hst.1
      have S2 := Lib.hid hst.2
      rw [Hmn.out]
      clear hst hRr Hmn
      generalize dig 4294967296 U j = y at *
      generalize dig 4294967296 (q * V) j = d at *
      generalize borrow 4294967296 U (q * V) j = br at *
      have hdm : (d : Int) % 4294967296 = d := by omega
      have q1 : (j : Int) < (j : Int) + 1 := by omega
      go_wp2_with fail
      refine (sub32_any _ _ _ _ (by omega) (by omega) (by omega) (by omega) (by omega) (by omega)).mono ?_
      rintro e w' ⟨rfl, rfl⟩
      rw [S1.out, bor_nat, S2.out]
      have hl2 := borrow_le (B := 4294967296) U (q * V) (j + 1)
      have hend2 := hend.out
      generalize borrow 4294967296 U (q * V) (j + 1) = br2 at *
      have Hend2 := Lib.hid hend2
      clear hend2 hend
      go_wp2_with fail
      go_ret
      refine ⟨?_, part_set HR.out rfl, hWr.setCell _ _⟩
      by_cases h : q * V ≤ U
      · have := Hend2.out.2 h
        subst this
        rw [decide_eq_true h]; rfl
      · have h0 : br2 ≠ 0 := fun e => h (Hend2.out.1 e)
        have : br2 = 1 := by omega
        subst this
        rw [decide_eq_false h]; rfl

theorem give_step (X V j x y c : Nat) (hx : x = dig 4294967296 X j) (hy : y = dig 4294967296 V j) (hc : c = carry 4294967296 X V j) :
    (((x : Int) + y + c) % 4294967296 = (dig 4294967296 (X + V) j : Nat)) ∧ (((x : Int) + y + c) / 4294967296 = (carry 4294967296 X V (j + 1) : Nat)) := add_step X V j x y c hx hy hc

set_option maxRecDepth 100000 in
set_option maxHeartbeats 4000000 in
theorem give_any (g i n c bb ob cb X V L : Nat) (f : Nat → Nat) (w : World) (hR : Row w g 80 .u32 f L) (hL : i + n + 1 ≤ L) (hc : n + 1 ≤ c) (hc2 : c < 1099511627776) (hcb : n ≤ cb)
    (hf : ∀ p, p ≤ n → f (i + p) = dig 4294967296 X p) (hb : ∀ p, p < n → w.cell? ⟨bb, ob + p, none⟩ = some (.int .u32 (dig 4294967296 V p : Nat))) (hne : bb ≠ g) (hV : V < 4294967296 ^ n) :
    Calls Try.prog 132 #[.slice (some ⟨g, i, none⟩) (n + 1) c, .slice (some ⟨bb, ob, none⟩) n cb] w fun e w' =>
      e = .returned (.tuple #[]) ∧ Row w' g 80 .u32 (part f (X + V) i (n + 1)) L ∧ Wrote g w w' := by
  have Hf := Lib.hid hf
  have Hb := Lib.hid hb
  have hv0 := dig_zero_of_lt (B := 4294967296) (by omega) hV (Nat.le_refl _)
  have Hv0 := Lib.hid hv0
  clear hf hb hV hv0
  go_enter Try.func132, Try.ntmps132
  go_wp2_with fail
  go_loopg [4, 9] n (fun gk cr k wr => ∃ j : Nat, gk + j = n ∧ k = .int .i64 j ∧ cr = .int .u32 (carry 4294967296 X V j : Nat) ∧ Row wr g 80 .u32 (part f (X + V) i j) L ∧ Wrote g w wr)
  case atStart => exact ⟨0, rfl, rfl, by rw [carry_zero]; rfl, by rw [part_zero]; exact hR, Wrote.refl _ _⟩
  case round =>
    obtain ⟨j, hj, rfl, rfl, hRr, hWr⟩ := hrel
    by_cases hlt : j < n
    · as_aux_lemma =>
      have hcb0 := hWr.cell (Hb.out j hlt) hne
      have hca := hRr.cell (p := i + j) (by omega)
      rw [part_at, Hf.out j (by omega)] at hca
      have hfz := hRr.frozen (i + j)
      have hx := dig_lt (B := 4294967296) (by omega) X j
      have hy := dig_lt (B := 4294967296) (by omega) V j
      have hcl := carry_le (B := 4294967296) (by omega) X V j
      have hst := give_step X V j _ _ _ rfl rfl rfl
      have HR := Lib.hid hRr
      have S1 := Lib.hid hst.1
      have S2 := Lib.hid hst.2
      clear hst hRr
      generalize dig 4294967296 X j = x at *
      generalize dig 4294967296 V j = y at *
      generalize carry 4294967296 X V j = cr at *
      have q1 : (j : Int) < (n : Int) + 1 := by omega
      go_wp2_with fail
      refine (add32_any _ _ _ _ (by omega) (by omega) (by omega) (by omega) (by omega) (by omega)).mono ?_
      rintro e w' ⟨rfl, rfl⟩
      rw [S1.out, S2.out]
      go_wp2_with fail
      go_roundg (gk - 1)
      case rel => exact ⟨j + 1, by omega, by go_num, rfl, part_set HR.out rfl, hWr.setCell _ _⟩
      case measure => omega
    · as_aux_lemma =>
      obtain rfl : j = n := by omega
      have hca := hRr.cell (p := i + j) (by omega)
      rw [part_at, Hf.out j (by omega)] at hca
      have hfz := hRr.frozen (i + j)
      have hx := dig_lt (B := 4294967296) (by omega) X j
      have hcl := carry_le (B := 4294967296) (by omega) X V j
      have hst := (give_step X V j _ 0 _ rfl Hv0.out.symm rfl).1
      have HR := Lib.hid hRr
      have S1 := Lib.hid hst
      clear hst hRr
      generalize dig 4294967296 X j = x at *
      generalize carry 4294967296 X V j = cr at *
      have q1 : (j : Int) < (j : Int) + 1 := by omega
      go_wp2_with fail
      go_end0
      have e : ((x : Int) + cr) % 4294967296 = (dig 4294967296 (X + V) j : Nat) := by rw [← S1.out]; congr 2 <;> simp
      rw [e]
      exact ⟨rfl, part_set HR.out rfl, hWr.setCell _ _⟩
end Go.Proofs.Ytpglnfccmhkocaa
