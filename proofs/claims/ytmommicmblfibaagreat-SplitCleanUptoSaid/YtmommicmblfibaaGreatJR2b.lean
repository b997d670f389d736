/- Plain: signs of fractions. Conditions: none. Plain: points of the grid that are near; the sides of a way of the grid, over lower parts. Conditions: none. r02.Make, Sign, Neg, Mul. Condition: what comes in reads; fewer than 2^36 words. r02.Add, Sub, Cmp, Of. Condition: what comes in reads; fewer than 2^36 words. -/
import Derived.Test.YtmommicmblfibaaGreatJKit
import Derived.Test.YtmommicmblfibaaGreatJRowP
import Derived.Test.YtmommicmblfibaaGreatJKit2
namespace Go.Proofs.YtmommicmblfibaaGreat
open Go.RowKit

theorem sgQ_int (z : Int) : sgQ (z : Rat) = sg z := by
  have h := sgQ_mkRat z 1 (by omega)
  rwa [show mkRat z 1 = (z : Rat) from (Rat.mkRat_one z)] at h
theorem mkRat_times (n : Int) (d : Nat) (h : d ≠ 0) : mkRat n d * ((d : Int) : Rat) = (n : Rat) := by
  rw [Rat.mkRat_eq_div]
  exact Rat.div_mul_cancel (fun e => h (by have e2 : ((d : Int) : Rat) = ((0 : Int) : Rat) := e; have := Rat.intCast_inj.1 e2; omega))

end Go.Proofs.YtmommicmblfibaaGreat
namespace Go.Proofs.YtmommicmblfibaaGreat
open Go.RowKit

/-- The grid's own reckoning of sides. -/
theorem turnQ_int (ax ay bx b_y cx cy : Int) : turnQ (ax : Rat) (ay : Rat) (bx : Rat) (b_y : Rat) (cx : Rat) (cy : Rat) = sg ((bx - ax) * (cy - ay) - (b_y - ay) * (cx - ax)) := by
  rw [turnQ_eq, ← sgQ_int]
  congr 1
  simp only [Rat.intCast_sub, Rat.intCast_mul]
end Go.Proofs.YtmommicmblfibaaGreat
namespace Go.Proofs.YtmommicmblfibaaGreat
open Go.RowKit

end Go.Proofs.YtmommicmblfibaaGreat
namespace Go.Proofs.YtmommicmblfibaaGreat
open Go.RowKit

theorem WhlR.len {w : World} {V : Value} {z : Int} {k : Nat} (h : WhlR w V z k) : len 4294967296 z.natAbs ≤ k := by
  obtain ⟨neg, N, n, v, rfl, hn, h1, h2⟩ := h
  have := hn.len_le (by omega)
  rw [← h1, sgn_abs]; omega

end Go.Proofs.YtmommicmblfibaaGreat
