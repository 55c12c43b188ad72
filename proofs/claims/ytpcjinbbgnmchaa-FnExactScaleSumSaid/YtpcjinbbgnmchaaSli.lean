/- Lists of fractions, spec: l02List, SumOfFractions, l02Dot, DotOf. -/
import Derived.Test.YtpcjinbbgnmchaaFk
import Derived.Test.YtpcjinbbgnmchaaSl
import Derived.BigGuardPart
import Derived.Deep.RegionHeld3
namespace Go.Proofs.Ytpcjinbbgnmchaa
open Go.ChangeShapes Go.WideShapes Go.ChangeAt Go.RowKit
set_option linter.unusedVariables false
set_option linter.unusedSimpArgs false
attribute [local irreducible] Calls
end Go.Proofs.Ytpcjinbbgnmchaa
