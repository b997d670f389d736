/- whole.Sign and the like. Condition: what comes in reads; fewer than 2^39 words. -/
import Derived.Test.YtpglnfccmhkocaaWhole
namespace Go.Proofs.Ytpglnfccmhkocaa
open Go.RowKit

/-- A number's sign. -/
def sg (z : Int) : Int := if z = 0 then 0 else if z < 0 then -1 else 1

theorem nbits_zero (N : Nat) : nbits N = 0 ↔ N = 0 := by
  unfold nbits
  constructor
  · intro h
    split at h
    · assumption
    · rename_i h0
      exfalso
      have hl : len 4294967296 N ≠ 0 := fun e => h0 ((len_eq_zero (by omega)).1 e)
      obtain ⟨k, hk⟩ : ∃ k, len 4294967296 N = k + 1 := ⟨len 4294967296 N - 1, by omega⟩
      have ht := top_ne (B := 4294967296) (by omega) hk
      have htl := dig_lt (B := 4294967296) (by omega) N k
      rw [hk, Nat.add_sub_cancel] at h
      obtain ⟨b1, b2⟩ := bitLenAux_bd 64 (dig 4294967296 N k) (by omega)
      have b3 := (b2 ht).1
      change 0 < Lib.bitLen _ at b3
      omega
  · rintro rfl; rfl

set_option maxRecDepth 100000 in
set_option maxHeartbeats 1000000 in
theorem sign_any (neg : Bool) (v : Value) (N n : Nat) (w : World) (h : Num 4294967296 .u32 w v N n) (hs : len 4294967296 N < 1099511627776) :
    Calls Try.prog 33 #[.agg #[.bool neg, v]] w fun e w' => e = .returned (.int .i64 (sg (sgn neg N))) ∧ Grew w w' := by
  obtain ⟨A, c, rfl, -⟩ := id h
  go_enter Try.func33, Try.ntmps33
  go_wp2_with fail
  refine (bits_any _ _ _ _ (h.grew ((Grew.refl w).alloc _)) hs).mono ?_
  rintro e w' ⟨rfl, rfl⟩
  by_cases h0 : N = 0
  · rw [(nbits_zero N).2 h0]
    subst h0
    have e0 : sg (sgn neg 0) = 0 := by unfold sg sgn; cases neg <;> simp
    have E0 := Lib.hid e0
    clear e0
    go_wp2_with fail
    go_ret
    exact ⟨by rw [E0.out]; rfl, (Grew.refl w).alloc _⟩
  · have hb : nbits N ≠ 0 := fun e => h0 ((nbits_zero N).1 e)
    generalize nbits N = bb at *
    have hbb : ((bb : Int) == 0) = false := by simp; omega
    cases neg
    · have e0 : sg (sgn false N) = 1 := by unfold sg sgn; simp; omega
      have E0 := Lib.hid e0
      clear e0
      go_wp2_with fail
      go_ret
      exact ⟨by rw [E0.out]; rfl, (Grew.refl w).alloc _⟩
    · have e0 : sg (sgn true N) = -1 := by unfold sg sgn; simp; omega
      have E0 := Lib.hid e0
      clear e0
      go_wp2_with fail
      go_ret
      exact ⟨by rw [E0.out]; rfl, (Grew.refl w).alloc _⟩
end Go.Proofs.Ytpglnfccmhkocaa
