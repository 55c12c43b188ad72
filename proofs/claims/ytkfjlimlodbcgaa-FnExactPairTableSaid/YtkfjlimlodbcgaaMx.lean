/- Matrices are right: impl.ValidMatrix, spec.l02Matrix. -/
import Derived.Test.YtkfjlimlodbcgaaIx
import Derived.Test.YtkfjlimlodbcgaaLi
import Derived.Test.YtkfjlimlodbcgaaSli
import Derived.Test.YtkfjlimlodbcgaaSl
import Derived.Deep.RegionLaw
namespace Go.Proofs.Ytkfjlimlodbcgaa
open Go.ChangeShapes Go.WideShapes Go.ChangeAt Go.RowKit
set_option linter.unusedVariables false
set_option linter.unusedSimpArgs false
attribute [local irreducible] Calls
/-- The entry at a place; the matrix is its own mirror; it is right. -/
def at2 (xss : List (List (Int × Int))) (i j : Nat) : Int × Int := ((xss[i]?).getD [])[j]?.getD (0, 0)
def symB (xss : List (List (Int × Int))) : Bool := decide (∀ i, i < xss.length → ∀ j, j < xss.length → at2 xss j i = at2 xss i j)
def badRow (n : Nat) (d : List (Int × Int)) : Bool := (d.length != n) || !listOk d
def matOk (xss : List (List (Int × Int))) : Bool := decide (xss.length ≤ 8) && !anyB (badRow xss.length) xss && symB xss
theorem at2_eq {xss : List (List (Int × Int))} {i j : Nat} {xs : List (Int × Int)} {d : Int × Int} (h : xss[i]? = some xs) (h' : xs[j]? = some d) : at2 xss i j = d := by simp [at2, h, h']
theorem badRow_f {n : Nat} {d : List (Int × Int)} (h : badRow n d = false) : d.length = n ∧ listOk d = true := by simpa [badRow] using h
theorem matOk_len {xss : List (List (Int × Int))} (h : ¬ xss.length ≤ 8) : matOk xss = false := by simp [matOk, h]
theorem matOk_bad {xss : List (List (Int × Int))} {xs : List (Int × Int)} (hm : xs ∈ xss) (h : badRow xss.length xs = true) : matOk xss = false := by
  have : anyB (badRow xss.length) xss = true := by rw [anyB, List.any_eq_true]; exact ⟨xs, hm, h⟩
  simp [matOk, this]
theorem matOk_fr {xss : List (List (Int × Int))} {xs : List (Int × Int)} {d : Int × Int} (hm : xs ∈ xss) (hd : d ∈ xs) (h : frOk d.1 d.2 = false) : matOk xss = false := by
  refine matOk_bad hm ?_
  have : listOk xs = false := by rw [Bool.eq_false_iff]; intro hl; rw [(listOk_iff.1 hl).2 d hd] at h; cases h
  simp [badRow, this]
theorem matOk_sym {xss : List (List (Int × Int))} (h : symB xss = false) : matOk xss = false := by simp [matOk, h]
theorem matOk_t {xss : List (List (Int × Int))} (h1 : xss.length ≤ 8) (h2 : ∀ xs ∈ xss, xs.length = xss.length) (h3 : ∀ xs ∈ xss, ∀ d ∈ xs, frOk d.1 d.2 = true) (h4 : symB xss = true) : matOk xss = true := by
  have : anyB (badRow xss.length) xss = false := by
    rw [anyB, List.any_eq_false]
    intro xs hx
    have hl : listOk xs = true := listOk_iff.2 ⟨by have := h2 xs hx; omega, h3 xs hx⟩
    simp [badRow, h2 xs hx, hl]
  simp [matOk, h1, this, h4]
theorem matOk_iff {xss : List (List (Int × Int))} (h : matOk xss = true) : xss.length ≤ 8 ∧ (∀ xs ∈ xss, xs.length = xss.length ∧ listOk xs = true) ∧ symB xss = true := by
  simp only [matOk, Bool.and_eq_true, decide_eq_true_eq, Bool.not_eq_true'] at h
  exact ⟨h.1.1, fun xs hx => badRow_f (anyB_f h.1.2 xs hx), h.2⟩
end Go.Proofs.Ytkfjlimlodbcgaa
