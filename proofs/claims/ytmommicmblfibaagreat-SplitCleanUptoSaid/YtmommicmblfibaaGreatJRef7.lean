/- r01.cmp, r01.Cmp. Condition: what comes in reads; fewer than 2^40 digits. r01.Add. Condition: what comes in reads; fewer than 2^38 words. r01.sub, r01.Sub. Condition: what comes in reads; fewer than 2^38 words. r01.Mul. Condition: what comes in reads; fewer than 2^37 words. -/
import Derived.Test.YtmommicmblfibaaGreatJRef3
namespace Go.Proofs.YtmommicmblfibaaGreat
open Go.RowKit

end Go.Proofs.YtmommicmblfibaaGreat
namespace Go.Proofs.YtmommicmblfibaaGreat
open Go.RowKit

end Go.Proofs.YtmommicmblfibaaGreat
namespace Go.Proofs.YtmommicmblfibaaGreat
open Go.RowKit

end Go.Proofs.YtmommicmblfibaaGreat
namespace Go.Proofs.YtmommicmblfibaaGreat
open Go.RowKit

end Go.Proofs.YtmommicmblfibaaGreat
