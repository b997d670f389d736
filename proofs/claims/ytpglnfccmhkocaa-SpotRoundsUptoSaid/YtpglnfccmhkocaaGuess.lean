/- nat.guess: a digit of a long division, at most one too great. Condition: the divisor's highest bit is set. -/
import Derived.Test.YtpglnfccmhkocaaShift
import Derived.Test.YtpglnfccmhkocaaKnuth
namespace Go.Proofs.Ytpglnfccmhkocaa
open Go.RowKit

theorem guess_dec {left top q v : Nat} (h : left + q * top = v) (h0 : 0 < q) : left + top + (q - 1) * top = v := by
  obtain ⟨j, rfl⟩ : ∃ j, q = j + 1 := ⟨q - 1, by omega⟩
  rw [Nat.add_mul] at h
  rw [Nat.add_sub_cancel]
  omega

theorem wrap_div (v t : Nat) (h : v < 18446744073709551616) : IntKind.u64.wrap ((v : Int) / t) = ((v / t : Nat) : Int) := by
  have e : (v : Int) / t = ((v / t : Nat) : Int) := by simp
  have h2 : v / t ≤ v := Nat.div_le_self _ _
  rw [e]
  generalize v / t = z at *
  exact IntWalk.u64_in _ (by omega)
theorem emod_cast (v t : Nat) : (v : Int) % t = ((v % t : Nat) : Int) := by simp

set_option maxRecDepth 100000 in
set_option maxHeartbeats 4000000 in
theorem guess_any (vp : Value) (U V n : Nat) (w : World) (hp : Num 4294967296 .u32 w vp U (n + 3)) (hV : V < 4294967296 ^ (n + 2)) (hU : U < V * 4294967296) (ht : 2147483648 ≤ dig 4294967296 V (n + 1)) :
    Calls Try.prog 130 #[vp, .int .u32 (dig 4294967296 V (n + 1) : Nat), .int .u32 (dig 4294967296 V n : Nat)] w fun e w' => ∃ q : Nat, e = .returned (.int .u64 (q : Nat)) ∧ U / V ≤ q ∧ q ≤ U / V + 1 ∧ q < 4294967296 ∧ Grew w w' := by
  obtain ⟨A, c, rfl, a1, a2, a3, a4⟩ := hp
  obtain ⟨b, off, rfl, hc⟩ := a4 (by omega)
  have c0 := hc n (by omega)
  have c1 : w.cell? ⟨b, off + (n + 1), none⟩ = _ := hc (n + 1) (by omega)
  have c2 : w.cell? ⟨b, off + (n + 2), none⟩ = _ := hc (n + 2) (by omega)
  have x0 := dig_lt (B := 4294967296) (by omega) U n
  have x1 := dig_lt (B := 4294967296) (by omega) U (n + 1)
  have x2 := dig_lt (B := 4294967296) (by omega) U (n + 2)
  have y0 := dig_lt (B := 4294967296) (by omega) V n
  have y1 := dig_lt (B := 4294967296) (by omega) V (n + 1)
  have hstart := guess_start hV hU ht
  have hfirst := Lib.hid (guess_first hV hU (by omega))
  have hQ := div_lt_base hU
  have href := Lib.hid (fun q left => guess_refuse (q := q) (left := left) hV hU ht)
  have hexit := Lib.hid (fun q left => guess_exit (q := q) (left := left) hV hU ht)
  have hbrk := Lib.hid (fun q left => guess_brk (q := q) (left := left) hV hU)
  have hor := or_low _ _ x2 x1
  clear hc a4 a3 hV hU
  generalize dig 4294967296 U n = u0 at *
  generalize dig 4294967296 U (n + 1) = u1 at *
  generalize dig 4294967296 U (n + 2) = u2 at *
  generalize dig 4294967296 V n = next at *
  generalize dig 4294967296 V (n + 1) = top at *
  generalize U / V = Q at *
  rw [show (u2 : Int) * 4294967296 + u1 = ((u2 * 4294967296 + u1 : Nat) : Int) from by omega] at hor
  have hv : u2 * 4294967296 + u1 < 18446744073709551616 := by omega
  generalize u2 * 4294967296 + u1 = v at *
  have htz : ((top : Int) == 0) = false := by simp; omega
  have q1 : ((n + 3 : Nat) : Int) = (n : Int) + 3 := by omega
  go_enter Try.func130, Try.ntmps130
  go_wp2_with fail
  rw [show (n : Int) + 3 - 1 = (n : Int) + 2 from by omega]
  have z1 : (n : Int) + 2 - 1 = (n : Int) + 1 := by omega
  have z2 : (n : Int) + 2 - 2 = (n : Int) := by omega
  go_quiet (fail)
  go_wp2_with fail
  go_quiet (fail)
  go_wp2_with fail
  rw [wrap_div v top hv, emod_cast v top]
  have hl0 := Nat.mod_lt v (show 0 < top by omega)
  have hm0 := Nat.div_add_mod v top
  clear hor c1 c2 htz
  go_loopg [9, 10] (v / top) (fun gk q l wr => ∃ left : Nat, q = .int .u64 (gk : Nat) ∧ l = .int .u64 (left : Nat) ∧ left < 4294967296 ∧ gk ≤ 4294967297 ∧ Hid (left + gk * top = v) ∧ Q ≤ gk ∧ Grew w wr)
  case atStart => exact ⟨v % top, rfl, rfl, by omega, hstart, Lib.hid (by rw [Nat.mul_comm]; omega), hfirst.out, ((Grew.refl w).drewN _).drewN _⟩
  case round =>
    obtain ⟨left, rfl, rfl, hll, hgl, hqv, hQl, hG⟩ := hrel
    have c0' := hG.cell c0
    clear c0
    have hor2 := or_low left u0 hll x0
    by_cases hbig : 4294967295 < gk
    · as_aux_lemma =>
      have hb1 : (4294967295 : Int) < (gk : Int) := by omega
      have HQ' : Hid (left + top + (gk - 1) * top = v) := Lib.hid (guess_dec hqv.out (by omega))
      by_cases hbk : 4294967295 < left + top
      · have hbk' : (4294967295 : Int) < (left : Int) + top := by omega
        go_wp2_with fail
        go_ret
        have hx := hbrk.out (gk - 1) (left + top) HQ'.out (by omega)
        have he := hexit.out (gk - 1) (left + top) HQ'.out hx.2 (by omega)
        exact ⟨gk - 1, ret_int (by omega), by omega, he, hx.1, hG⟩
      · have hbk' : ¬ (4294967295 : Int) < (left : Int) + top := by omega
        go_wp2_with fail
        go_roundg (gk - 1)
        case rel => exact ⟨left + top, congrArg _ (by omega), by go_num, by omega, by omega, Lib.hid HQ'.out, by omega, hG⟩
        case measure => omega
    · have hb1 : ¬ (4294967295 : Int) < (gk : Int) := by omega
      have hm : gk * next ≤ 4294967295 * 4294967295 := Nat.mul_le_mul (by omega) (by omega)
      have hm1 : ((gk * next : Nat) : Int) = (gk : Int) * next := by simp
      have hm2 : 0 ≤ (gk : Int) * next := by omega
      have hm3 : (gk : Int) * next ≤ 18446744065119617025 := by omega
      by_cases hcmp : left * 4294967296 + u0 < gk * next
      · as_aux_lemma =>
        have hcmp' : (left : Int) * 4294967296 + u0 < (gk : Int) * next := by omega
        have hr1 := href.out gk left hqv.out hcmp
        have HQ' : Hid (left + top + (gk - 1) * top = v) := Lib.hid (guess_dec hqv.out (by omega))
        clear hm1 hm
        by_cases hbk : 4294967295 < left + top
        · have hbk' : (4294967295 : Int) < (left : Int) + top := by omega
          go_wp2_with fail
          go_ret
          have hx := hbrk.out (gk - 1) (left + top) HQ'.out (by omega)
          have he := hexit.out (gk - 1) (left + top) HQ'.out hx.2 (by omega)
          exact ⟨gk - 1, ret_int (by omega), by omega, he, hx.1, hG⟩
        · have hbk' : ¬ (4294967295 : Int) < (left : Int) + top := by omega
          go_wp2_with fail
          go_roundg (gk - 1)
          case rel => exact ⟨left + top, congrArg _ (by omega), by go_num, by omega, by omega, Lib.hid HQ'.out, by omega, hG⟩
          case measure => omega
      · as_aux_lemma =>
        have hcmp' : ¬ (left : Int) * 4294967296 + u0 < (gk : Int) * next := by omega
        have he := hexit.out gk left hqv.out (by omega) hQl
        clear hm1 hm
        go_wp2_with fail
        go_ret
        exact ⟨gk, rfl, hQl, he, by omega, hG⟩
end Go.Proofs.Ytpglnfccmhkocaa
