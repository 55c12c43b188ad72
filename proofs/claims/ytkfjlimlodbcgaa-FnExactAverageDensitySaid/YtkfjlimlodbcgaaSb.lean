/- spec.AllFlags. -/
import Derived.Test.YtkfjlimlodbcgaaSa
import Derived.Test.YtkfjlimlodbcgaaFb
namespace Go.Proofs.Ytkfjlimlodbcgaa
open Go.ChangeShapes Go.WideShapes Go.RowKit
set_option linter.unusedVariables false
set_option linter.unusedSimpArgs false
attribute [local irreducible] Calls
/-- The code of a list of all flags. -/
def afC (tn te n : Int) (gs : List (Int × Int)) : Int := if grOk tn te then (if forbC gs = 0 then (if spOk tn n then (if (flagsL tn.toNat te n.toNat gs).length ≤ 64 then 0 else 3) else 2) else forbC gs) else 1
def afL (tn te n : Int) (gs : List (Int × Int)) : List shFlag.T := if afC tn te n gs = 0 then flagsF tn.toNat te n.toNat gs else []
/-- Flags and a code are handed out. -/
def FlsCode (B : Nat) (w : World) (L : List shFlag.T) (c : Int) (e : Ending) (w' : World) : Prop := ∃ A cap F, e = .returned (.tuple #[.slice A L.length cap, .int .i64 c]) ∧ Own shFlag B w' L (.slice A L.length cap) F ∧ Below w.heap.size w w'
theorem flsCode_no (w w' : World) (L : List shFlag.T) (p : Option Addr) (c c' : Int) (hL : L = []) (hc : c = c') (hb : Below w.heap.size w w') : FlsCode w.heap.size w L c (.returned (.tuple #[.slice p 0 0, .int .i64 c'])) w' := by
  subst hL hc
  exact ⟨p, 0, [], rfl, Own.nil _ _ _ 0 (Nat.zero_le _) _, hb⟩
end Go.Proofs.Ytkfjlimlodbcgaa
