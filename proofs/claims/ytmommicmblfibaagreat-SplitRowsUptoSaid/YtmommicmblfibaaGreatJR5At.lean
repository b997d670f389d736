/- r04.Neg, r04.Sub. Condition: what comes in reads. r05.Area, Turn. Condition: what comes in reads; fewer than 2^26 words. r05.Turn, between, On, and that they answer what spot.Turn and spot.On answer. Condition: what comes in reads; fewer than 2^26 words. r05.At. Condition: ints of 64 bits. -/
import Derived.Test.YtmommicmblfibaaGreatJR4g
import Derived.Test.YtmommicmblfibaaGreatJRowP
import Derived.Test.YtmommicmblfibaaGreatJR4c
namespace Go.Proofs.YtmommicmblfibaaGreat
open Go.RowKit

end Go.Proofs.YtmommicmblfibaaGreat
namespace Go.Proofs.YtmommicmblfibaaGreat
open Go.RowKit

end Go.Proofs.YtmommicmblfibaaGreat
namespace Go.Proofs.YtmommicmblfibaaGreat
open Go.RowKit

end Go.Proofs.YtmommicmblfibaaGreat
namespace Go.Proofs.YtmommicmblfibaaGreat
open Go.RowKit

end Go.Proofs.YtmommicmblfibaaGreat
