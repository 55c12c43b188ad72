import Derived.Test.YtekchdgpaemofaaGreatYyPm
import Derived.Test.YtekchdgpaemofaaGreatYyGl
import Derived.Test.YtekchdgpaemofaaGreatYyGo
import Derived.Test.YtekchdgpaemofaaGreatYySl
import Derived.Test.YtekchdgpaemofaaGreatYyAl
import Derived.Test.YtekchdgpaemofaaGreatYyIx
namespace Go.Proofs.YtekchdgpaemofaaGreat
open Go.ChangeShapes Go.WideShapes Go.RowKit
set_option linter.unusedVariables false
set_option linter.unusedSimpArgs false
attribute [local irreducible] Calls
@[irreducible] def shlW (a : Int) (b : Nat) : Int := wrap64 (a * 2 ^ min b 64)
theorem shl_u64 (t : TypeId) (a : Int) (b : Nat) : binOp .shl t (.int .i64 a) (.int .u64 (b : Int)) = pure (.int .i64 (shlW a b)) := by
  rw [binOp_shl]
  unfold shlW
  have h : ¬ ((b : Int) < 0) := by omega
  simp only [Op.shift, h, if_false, Int.toNat_natCast, IntKind.bits]
  rw [IntKind.wrap_i64]
  unfold wrap64
  rfl
attribute [local go_sem high] shl_u64
end Go.Proofs.YtekchdgpaemofaaGreat
