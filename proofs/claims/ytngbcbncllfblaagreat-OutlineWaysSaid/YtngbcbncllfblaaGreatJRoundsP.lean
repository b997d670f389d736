/- nat.Text of a number of one digit. Condition: the number is from 1 to 9. whole.Text, frac.Text, spot.Text where both numbers have one digit. frac.Text of whole numbers, spot.Text of two such; what lives says. Plain: the sides of three points. Conditions: none. -/
import Derived.Test.YtngbcbncllfblaaGreatJSpot3
import Derived.Laws.BytesString
namespace Go.Proofs.YtngbcbncllfblaaGreat
open Go.RowKit

end Go.Proofs.YtngbcbncllfblaaGreat
namespace Go.Proofs.YtngbcbncllfblaaGreat
open Go.RowKit

end Go.Proofs.YtngbcbncllfblaaGreat
namespace Go.Proofs.YtngbcbncllfblaaGreat
open Go.RowKit

theorem QB_int (x : Int) (k : Nat) (h : len 4294967296 x.natAbs ≤ k) (hk : 1 ≤ k) : QB (x : Rat) k := ⟨h, by rw [show ((x : Rat).den) = 1 from rfl, len1]; exact hk⟩

end Go.Proofs.YtngbcbncllfblaaGreat
namespace Go.Proofs.YtngbcbncllfblaaGreat
open Go.RowKit

end Go.Proofs.YtngbcbncllfblaaGreat
