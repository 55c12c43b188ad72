/- Flags of one type and one size, spec: l04Family. -/
import Derived.Test.YtkfjlimlodbcgaaGreatVf
import Derived.Test.YtkfjlimlodbcgaaGreatFr2
import Derived.BigGuardPart
namespace Go.Proofs.YtkfjlimlodbcgaaGreat
open Go.ChangeShapes Go.WideShapes Go.RowKit
set_option linter.unusedVariables false
set_option linter.unusedSimpArgs false
attribute [local irreducible] Calls
/-- The code of a family of flags. -/
def famC (fs : List Flg) : Int := if flagsB fs then (if 8 < fs.length then 3 else if fs.length = 0 then 4 else if alikesB fs then 0 else 4) else 1
theorem l03Type_i (w : World) (d : Flg) (h : 0 ≤ d.1 ∧ d.1 ≤ 5) : Calls Tryz.prog 77 #[.agg #[.int .i64 d.1, .int .i64 d.2.1, .int .u32 d.2.2]] w fun e0 w' => e0 = .returned (.agg #[.int .i64 d.1, .int .u32 (tyE d)]) ∧ Below w.heap.size w w' := by
  have := l03Type_any w d.1.toNat d.2.1 d.2.2 (by omega)
  rw [show ((d.1.toNat : Nat) : Int) = d.1 by omega] at this
  exact this
theorem l03Ok_i (W : World) (d : Flg) (hd : okFlag d) : Calls Tryz.prog 45 #[.agg #[.int .i64 d.1, .int .i64 d.2.1, .int .u32 d.2.2]] W fun e W' => e = .returned (.bool (flV d)) ∧ Below W.heap.size W W' := l03Ok_any d.1 d.2.1 d.2.2 W (okFl hd)
theorem hdF_eq {fs : List Flg} {f : Flg} (h : fs[0]? = some f) : hdF fs = f := by
  cases fs with
  | nil => cases h
  | cons x xs => simp at h; subst h; rfl
theorem alikesB_iff {fs : List Flg} {f : Flg} (h : fs[0]? = some f) : alikesB fs = true ↔ ∀ a ∈ fs, tyNe f a = false ∧ nNe f a = false := by
  rw [alikesB, sameTy, hdF_eq h]
  simp only [anyB, Bool.and_eq_true, Bool.not_eq_true', List.any_eq_false, Bool.not_eq_true]
  exact ⟨fun h a ha => ⟨h.1 a ha, h.2 a ha⟩, fun h => ⟨fun a ha => (h a ha).1, fun a ha => (h a ha).2⟩⟩
end Go.Proofs.YtkfjlimlodbcgaaGreat
