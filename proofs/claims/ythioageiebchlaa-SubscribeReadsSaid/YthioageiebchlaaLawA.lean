/- What the law package of layer 1 uses: 'awake' answers true, 'Cut' cuts. Conditions: strings that may be. -/
import Derived.Test.YthioageiebchlaaProg
import Derived.Test.YthioageiebchlaaBase
import Derived.Test.YthioageiebchlaaPure
import Derived.Test.YthioageiebchlaaIn
import Derived.Test.YthioageiebchlaaCut
namespace Go.Proofs.Ythioageiebchlaa
open Go.RowKit

end Go.Proofs.Ythioageiebchlaa
