/- impl.(*sums).average and what it does with each list of labels. -/
import Derived.Test.YtpcjinbbgnmchaaGreatAw
import Derived.Test.YtpcjinbbgnmchaaGreatBb
import Derived.Test.YtpcjinbbgnmchaaGreatFk
import Derived.Test.YtpcjinbbgnmchaaGreatRk
import Derived.Laws.EntriesVeiled
namespace Go.Proofs.YtpcjinbbgnmchaaGreat
open Go.ChangeShapes Go.WideShapes Go.RowKit
set_option linter.unusedVariables false
set_option linter.unusedSimpArgs false
attribute [local irreducible] Calls
theorem Chg.blk {F : List Nat} {w w' : World} (h : Chg F w w') {b : Nat} (hb : b ∉ F) {x : Obj} (hx : w.heap[b]? = some x) : w'.heap[b]? = some x := (h.2.2.2.2 b (blklt hx) hb).trans hx
end Go.Proofs.YtpcjinbbgnmchaaGreat
