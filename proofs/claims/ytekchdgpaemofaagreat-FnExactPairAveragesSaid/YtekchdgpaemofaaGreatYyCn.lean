import Derived.OwnWalk
import Derived.Deep.AppendLies
import Derived.Test.YtekchdgpaemofaaGreatYySl
namespace Go.Proofs.YtekchdgpaemofaaGreat
open Go.ChangeShapes Go.WideShapes Go.RowKit
set_option linter.unusedVariables false
set_option linter.unusedSimpArgs false
attribute [local irreducible] Calls
@[go_sem high] theorem nilTerm_t (n c n' c' : Nat) (w : World) : (binOp .eql 29 (.slice none n c) (.slice none n' c')).run Tryz.prog w = .ok (.bool true) w :=
  Lib.run_eql_slice_nil w _ 173 none n c n' c' Tryz.underlying29
@[go_sem high] theorem nilTerm_f (p : Addr) (n c n' c' : Nat) (w : World) : (binOp .eql 29 (.slice (some p) n c) (.slice none n' c')).run Tryz.prog w = .ok (.bool false) w :=
  Lib.run_eql_slice_nil w _ 173 (some p) n c n' c' Tryz.underlying29
end Go.Proofs.YtekchdgpaemofaaGreat
