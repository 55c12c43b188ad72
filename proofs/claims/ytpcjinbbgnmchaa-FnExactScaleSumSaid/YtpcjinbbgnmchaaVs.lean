/- Several texts in one (Vf Vs). -/
import Derived.Test.YtpcjinbbgnmchaaGo
import Derived.Test.YtpcjinbbgnmchaaSl
import Derived.Test.YtpcjinbbgnmchaaIx
import Derived.Test.YtpcjinbbgnmchaaFr2
import Derived.BigGuardPart
/- Flags of one type and one size, impl: flagsOk, sameType, alikes. -/
namespace Go.Proofs.Ytpcjinbbgnmchaa
open Go.ChangeShapes Go.WideShapes Go.RowKit
set_option linter.unusedVariables false
set_option linter.unusedSimpArgs false
attribute [local irreducible] Calls
abbrev Flg := Int × (Int × Int)
def flV (d : Flg) : Bool := flOk d.1 d.2.1 d.2.2
def badFl (d : Flg) : Bool := !flV d
/-- A flag's type: the edges on its labelled vertices. -/
def tyE (d : Flg) : Int := onE d.2.2 (seqI d.1.toNat)
def tyNe (f d : Flg) : Bool := !eq2 d.1 (tyE d) f.1 (tyE f)
def nNe (f d : Flg) : Bool := d.2.1 != f.2.1
def hdF (fs : List Flg) : Flg := fs.headD (0, (0, 0))
def flagsB (fs : List Flg) : Bool := !anyB badFl fs
def sameTy (fs : List Flg) : Bool := !anyB (tyNe (hdF fs)) fs
def alikesB (fs : List Flg) : Bool := sameTy fs && !anyB (nNe (hdF fs)) fs
theorem flV_iff (d : Flg) : flV d = true ↔ (0 ≤ d.1 ∧ d.1 ≤ 3) ∧ (0 ≤ d.2.1 ∧ d.2.1 ≤ 5) ∧ d.1 ≤ d.2.1 ∧ d.2.2 < limN d.2.1 := by
  rw [flV, flOk_iff, grOk]
  simp [inB]
  omega
theorem okFl {d : Flg} (h : okFlag d) : 0 ≤ d.2.2 ∧ d.2.2 ≤ 4294967295 := u32_wf h.2.2
theorem flagsB_iff {fs : List Flg} : flagsB fs = true ↔ ∀ d ∈ fs, flV d = true := by simp [flagsB, anyB, badFl]
theorem typeOf_i (w : World) (d : Flg) (h : 0 ≤ d.1 ∧ d.1 ≤ 5) : Calls Try.prog 71 #[.agg #[.int .i64 d.1, .int .i64 d.2.1, .int .u32 d.2.2]] w fun e0 w' => e0 = .returned (.agg #[.int .i64 d.1, .int .u32 (tyE d)]) ∧ Below w.heap.size w w' := by
  have := typeOf_any w d.1.toNat d.2.1 d.2.2 (by omega)
  rw [show ((d.1.toNat : Nat) : Int) = d.1 by omega] at this
  exact this
theorem badFlag_i (W : World) (d : Flg) (hd : okFlag d) : Calls Try.prog 40 #[.agg #[.int .i64 d.1, .int .i64 d.2.1, .int .u32 d.2.2]] W fun e W' => e = .returned (.bool (badFl d)) ∧ Below W.heap.size W W' := badFlag_any d.1 d.2.1 d.2.2 W (okFl hd)
end Go.Proofs.Ytpcjinbbgnmchaa

/- Flags of one type and one size, spec: l04Family. -/
namespace Go.Proofs.Ytpcjinbbgnmchaa
open Go.ChangeShapes Go.WideShapes Go.RowKit
set_option linter.unusedVariables false
set_option linter.unusedSimpArgs false
attribute [local irreducible] Calls
/-- The code of a family of flags. -/
def famC (fs : List Flg) : Int := if flagsB fs then (if 8 < fs.length then 3 else if fs.length = 0 then 4 else if alikesB fs then 0 else 4) else 1
theorem l03Type_i (w : World) (d : Flg) (h : 0 ≤ d.1 ∧ d.1 ≤ 5) : Calls Try.prog 62 #[.agg #[.int .i64 d.1, .int .i64 d.2.1, .int .u32 d.2.2]] w fun e0 w' => e0 = .returned (.agg #[.int .i64 d.1, .int .u32 (tyE d)]) ∧ Below w.heap.size w w' := by
  have := l03Type_any w d.1.toNat d.2.1 d.2.2 (by omega)
  rw [show ((d.1.toNat : Nat) : Int) = d.1 by omega] at this
  exact this
theorem l03Ok_i (W : World) (d : Flg) (hd : okFlag d) : Calls Try.prog 30 #[.agg #[.int .i64 d.1, .int .i64 d.2.1, .int .u32 d.2.2]] W fun e W' => e = .returned (.bool (flV d)) ∧ Below W.heap.size W W' := l03Ok_any d.1 d.2.1 d.2.2 W (okFl hd)
theorem hdF_eq {fs : List Flg} {f : Flg} (h : fs[0]? = some f) : hdF fs = f := by
  cases fs with
  | nil => cases h
  | cons x xs => simp at h; subst h; rfl
theorem alikesB_iff {fs : List Flg} {f : Flg} (h : fs[0]? = some f) : alikesB fs = true ↔ ∀ a ∈ fs, tyNe f a = false ∧ nNe f a = false := by
  rw [alikesB, sameTy, hdF_eq h]
  simp only [anyB, Bool.and_eq_true, Bool.not_eq_true', List.any_eq_false, Bool.not_eq_true]
  exact ⟨fun h a ha => ⟨h.1 a ha, h.2 a ha⟩, fun h => ⟨fun a ha => (h a ha).1, fun a ha => (h a ha).2⟩⟩
end Go.Proofs.Ytpcjinbbgnmchaa
