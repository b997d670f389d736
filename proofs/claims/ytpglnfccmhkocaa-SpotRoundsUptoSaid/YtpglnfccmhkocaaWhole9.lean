/- whole.Cmp. Condition: what comes in reads; fewer than 2^39 words. -/
import Derived.Test.YtpglnfccmhkocaaWhole8
namespace Go.Proofs.Ytpglnfccmhkocaa
open Go.RowKit

/-- How two whole numbers stand. -/
def cmpZ (a b : Int) : Int := if a < b then -1 else if b < a then 1 else 0

theorem cmpZ_sg_lt {a b : Int} (h : sg a < sg b) : cmpZ a b = -1 := by
  unfold sg at h; unfold cmpZ
  rw [if_pos]
  split at h <;> split at h <;> (try split at h) <;> (try split at h) <;> omega
theorem cmpZ_sg_gt {a b : Int} (h : sg b < sg a) : cmpZ a b = 1 := by
  unfold sg at h; unfold cmpZ
  have : b < a := by split at h <;> split at h <;> (try split at h) <;> (try split at h) <;> omega
  rw [if_neg (by omega), if_pos this]
theorem cmpZ_pos {na nb : Bool} {N M : Nat} (h : sg (sgn na N) = sg (sgn nb M)) (h0 : ¬ sg (sgn na N) < 0) : cmpZ (sgn na N) (sgn nb M) = cmpN N M := by
  unfold sg sgn at *; unfold cmpZ cmpN
  cases na <;> cases nb <;> simp at * <;> (repeat' split at h) <;> (repeat' split) <;> omega

theorem cmpZ_neg {na nb : Bool} {N M : Nat} (h : sg (sgn na N) = sg (sgn nb M)) (h0 : sg (sgn na N) < 0) : cmpZ (sgn na N) (sgn nb M) = cmpN M N := by
  unfold sg sgn at *; unfold cmpZ cmpN
  cases na <;> cases nb <;> simp at * <;> (repeat' split at h) <;> (repeat' split) <;> omega
end Go.Proofs.Ytpglnfccmhkocaa
