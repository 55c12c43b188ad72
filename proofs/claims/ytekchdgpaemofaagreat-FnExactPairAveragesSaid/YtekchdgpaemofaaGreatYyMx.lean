import Derived.BigGuardPart
import Derived.Deep.RegionHeld3
import Derived.Deep.RegionLaw
import Derived.Deep.AppendLies
import Derived.Test.YtekchdgpaemofaaGreatYyFk
import Derived.Test.YtekchdgpaemofaaGreatYySl
import Derived.Test.YtekchdgpaemofaaGreatYyIx
namespace Go.Proofs.YtekchdgpaemofaaGreat
open Go.ChangeShapes Go.WideShapes Go.ChangeAt Go.RowKit
set_option linter.unusedVariables false
set_option linter.unusedSimpArgs false
attribute [local irreducible] Calls
theorem sZero_any (w : World) : Calls Tryz.prog 127 #[] w fun e w' => e = .returned (.agg #[.int .i64 0, .int .i64 1]) ∧ Below w.heap.size w w' := by
  go_enter Tryz.func127, Tryz.ntmps127
  go_wp2
  exact bodyPost_ret (v := .agg #[.int .i64 0, .int .i64 1]) (by simp [results, Tryz.results127, go_sem]) rfl ⟨rfl, belA⟩
end Go.Proofs.YtekchdgpaemofaaGreat

namespace Go.Proofs.YtekchdgpaemofaaGreat
open Go.ChangeShapes Go.WideShapes Go.ChangeAt Go.RowKit
set_option linter.unusedVariables false
set_option linter.unusedSimpArgs false
attribute [local irreducible] Calls
def at2 (xss : List (List (Int × Int))) (i j : Nat) : Int × Int := ((xss[i]?).getD [])[j]?.getD (0, 0)
def symB (xss : List (List (Int × Int))) : Bool := decide (∀ i, i < xss.length → ∀ j, j < xss.length → at2 xss j i = at2 xss i j)
def badRow (n : Nat) (d : List (Int × Int)) : Bool := (d.length != n) || !listOk d
def matOk (xss : List (List (Int × Int))) : Bool := decide (xss.length ≤ 8) && !anyB (badRow xss.length) xss && symB xss
theorem at2_eq {xss : List (List (Int × Int))} {i j : Nat} {xs : List (Int × Int)} {d : Int × Int} (h : xss[i]? = some xs) (h' : xs[j]? = some d) : at2 xss i j = d := by simp [at2, h, h']
theorem badRow_f {n : Nat} {d : List (Int × Int)} (h : badRow n d = false) : d.length = n ∧ listOk d = true := by simpa [badRow] using h
theorem matOk_iff {xss : List (List (Int × Int))} (h : matOk xss = true) : xss.length ≤ 8 ∧ (∀ xs ∈ xss, xs.length = xss.length ∧ listOk xs = true) ∧ symB xss = true := by
  simp only [matOk, Bool.and_eq_true, decide_eq_true_eq, Bool.not_eq_true'] at h
  exact ⟨h.1.1, fun xs hx => badRow_f (anyB_f h.1.2 xs hx), h.2⟩
end Go.Proofs.YtekchdgpaemofaaGreat
