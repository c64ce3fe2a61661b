/- Walks: value, Parse (printed by gennats.py). -/
import Derived.Test.YtfmadiepefbepaaNatK
import Derived.Test.YtfmadiepefbepaaRefJ
import Derived.StillTailTactics
set_option linter.unusedVariables false
set_option linter.unusedSimpArgs false
set_option maxRecDepth 20000
namespace Go.Proofs.Ytfmadiepefbepaa
open Go.RowKit

/-! ### Parse -/
end Go.Proofs.Ytfmadiepefbepaa
