/- r01.Div, the short ways. Condition: what comes in reads; fewer than 2^37 words. r01.Div, the long way: bit by bit. Condition: what comes in reads; fewer than 2^37 words. r03.copied, r03.zero, r03.halved. Condition: what comes in reads; fewer than 2^40 words. r03.below, r03.less. Condition: what comes in reads, without noughts at the top; fewer than 2^40 words. -/
import Derived.Test.YtmommicmblfibaaGreatJWv
import Derived.Deep.DeepCutAuto
import Derived.RegionTactic
namespace Go.Proofs.YtmommicmblfibaaGreat
open Go.RowKit

end Go.Proofs.YtmommicmblfibaaGreat
namespace Go.Proofs.YtmommicmblfibaaGreat
open Go.RowKit

end Go.Proofs.YtmommicmblfibaaGreat
namespace Go.Proofs.YtmommicmblfibaaGreat
open Go.RowKit

end Go.Proofs.YtmommicmblfibaaGreat
namespace Go.Proofs.YtmommicmblfibaaGreat
open Go.RowKit

end Go.Proofs.YtmommicmblfibaaGreat
