import Derived.Test.YtekchdgpaemofaaGreatYyDn
import Derived.Test.YtekchdgpaemofaaGreatYyAk
namespace Go.Proofs.YtekchdgpaemofaaGreat
open Go.ChangeShapes Go.WideShapes Go.RowKit
set_option linter.unusedVariables false
set_option linter.unusedSimpArgs false
attribute [local irreducible] Calls
def ptB (k : Nat) (e : Int) (f : Flg) (L : List Int) : Bool := leastI f.2.1.toNat k (onE e (seqI k ++ L)) == leastF f
theorem chs_oks : ∀ k ≤ 3, ∀ n ≤ 5, ∀ q ≤ 5, (chs (othI k n) q 0 []).all (fun L => decide (L.length = q) && (List.range (k + q)).all fun i => decide (0 ≤ gi (seqI k ++ L) i) && decide (gi (seqI k ++ L) i ≤ 4) && (List.range i).all fun j => decide (gi (seqI k ++ L) j ≠ gi (seqI k ++ L) i)) = true ∧ (chs (othI k n) q 0 []).length ≤ 100 := by decide +kernel
theorem chs_ok {k n q : Nat} (hk : k ≤ 3) (hn : n ≤ 5) (hq : k + q ≤ 5) : ∀ L ∈ chs (othI k n) q 0 [], VL (seqI k ++ L) ∧ L.length = q := by
  intro L hL
  have h := (chs_oks k hk n hn q (by omega)).1
  rw [List.all_eq_true] at h
  have h1 := h L hL
  simp only [Bool.and_eq_true, decide_eq_true_eq, List.all_eq_true, List.mem_range] at h1
  obtain ⟨h2, h3⟩ := h1
  have hl : (seqI k ++ L).length = k + q := by rw [List.length_append, seqI_len, h2]
  refine ⟨⟨by omega, fun i hi => ?_, fun i j hij hj => ?_⟩, h2⟩
  · have := h3 i (by omega); exact this.1
  · have := h3 j (by omega); exact this.2 i hij
def dnC (k n m : Nat) : Int := chI ((n - k : Nat) : Int) (m - k)
theorem dnC_bd {k n m : Nat} (hkm : k ≤ m) (hmn : m ≤ n) (hn : n ≤ 5) : 1 ≤ dnC k n m ∧ dnC k n m ≤ 10 := by
  have h : ∀ n ≤ 5, ∀ i ≤ n, 1 ≤ chI ((n : Nat) : Int) i ∧ chI ((n : Nat) : Int) i ≤ 10 := by decide
  exact h (n - k) (by omega) (m - k) (by omega)
end Go.Proofs.YtekchdgpaemofaaGreat
