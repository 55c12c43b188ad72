import Derived.Test.YtekchdgpaemofaaGreatYyVs
import Derived.Test.YtekchdgpaemofaaGreatYySl
namespace Go.Proofs.YtekchdgpaemofaaGreat
open Go.ChangeShapes Go.WideShapes Go.RowKit
set_option linter.unusedVariables false
set_option linter.unusedSimpArgs false
attribute [local irreducible] Calls
def leastF (d : Flg) : Int := leastI d.2.1.toNat d.1.toNat d.2.2
theorem flN {d : Flg} (h : flV d = true) : ∃ k n : Nat, d.1 = k ∧ d.2.1 = n ∧ k ≤ n ∧ n ≤ 5 ∧ k ≤ 3 := by
  have := (flV_iff d).1 h
  exact ⟨d.1.toNat, d.2.1.toNat, by omega, by omega, by omega, by omega, by omega⟩
end Go.Proofs.YtekchdgpaemofaaGreat
