/- nat.size: how many words count. Condition: the slice reads as a number. -/
import Derived.Test.YtpglnfccmhkocaaProg
import Derived.Test.YtpglnfccmhkocaaMem
namespace Go.Proofs.Ytpglnfccmhkocaa
open Go.RowKit

set_option maxHeartbeats 400000 in
theorem size_any (v : Value) (N n : Nat) (w : World) (hv : Num 4294967296 .u32 w v N n) :
    Calls Try.prog 87 #[v] w fun e w' => e = .returned (.int .i64 (len 4294967296 N : Nat)) ∧ w = w' := by
  obtain ⟨A, c, rfl, h1, h2, h4, h3⟩ := hv
  have hm : n ≤ 9223372036854775807 := by omega
  have HS : Hid (lenN 4294967296 N n = len 4294967296 N) := Lib.hid (lenN_eq (by omega) h4)
  clear h4
  go_enter Try.func87, Try.ntmps87
  go_wp2
  go_loop [3] (fun t => ∃ k : Nat, k ≤ n ∧ t = .int .i64 k ∧ Hid (lenN 4294967296 N k = len 4294967296 N)) (fun t => (intOf t).toNat)
  case atStart => exact ⟨n, Nat.le_refl _, rfl, HS⟩
  case round =>
    obtain ⟨k, hk, rfl, hs⟩ := hrel
    rcases k with _ | j
    · go_wp2
      go_ret
      exact ⟨by rw [← hs.out]; rfl, rfl⟩
    · obtain ⟨b, off, rfl, hc⟩ := h3 (by omega)
      have hcell := hc j (by omega)
      clear hc h3
      by_cases hz : dig 4294967296 N j = 0
      · rw [hz] at hcell
        go_wp2
        go_round
        case rel => exact ⟨j, by omega, by go_num, Lib.hid (by rw [← hs.out]; simp only [lenN, hz, if_true])⟩
        case measure => simp [intOf]
      · have hp : 0 < dig 4294967296 N j := by omega
        have hs' : Hid (lenN 4294967296 N (j + 1) = j + 1) := Lib.hid (by simp only [lenN, if_neg hz])
        generalize hx : dig 4294967296 N j = x at *
        have hpb : ((x : Int) == 0) = false := by simp; omega
        clear hx
        go_wp2
        go_ret
        exact ⟨ret_int (by rw [← hs.out, hs'.out]; rfl), rfl⟩
end Go.Proofs.Ytpglnfccmhkocaa
