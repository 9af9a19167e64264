/- What the law package of layer 1 uses: 'awake' answers true, 'Cut' cuts. Conditions: strings that may be. -/
import Derived.Test.YtlhkgalmiajinaaProg
import Derived.Test.YtlhkgalmiajinaaBase
import Derived.Test.YtlhkgalmiajinaaPure
import Derived.Test.YtlhkgalmiajinaaIn
import Derived.Test.YtlhkgalmiajinaaCut
namespace Go.Proofs.Ytlhkgalmiajinaa
open Go.RowKit

end Go.Proofs.Ytlhkgalmiajinaa
