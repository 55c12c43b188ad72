import Derived.Test.YtekchdgpaemofaaGreatYyAz
namespace Go.Proofs.YtekchdgpaemofaaGreat
set_option linter.unusedVariables false
theorem lists_eqs : ∀ n ≤ 5, ∀ k ≤ 3, decide (lists4 n k = lsts n k []) = true := by decide +kernel
theorem lists_eq {n k : Nat} (hn : n ≤ 5) (hk : k ≤ 3) : lists4 n k = lsts n k [] := of_decide_eq_true (lists_eqs n hn k hk)
theorem lists_vls : ∀ n ≤ 5, ∀ k ≤ 3, (lists4 n k).all (fun L => vlB (L ++ rstI L n) && decide ((L ++ rstI L n).length = n) && decide (L.length = k)) = true := by decide +kernel
theorem lists_vl {n k : Nat} (hn : n ≤ 5) (hk : k ≤ 3) {L : List Int} (hL : L ∈ lists4 n k) : VL (L ++ rstI L n) ∧ (L ++ rstI L n).length = n ∧ L.length = k := by
  have h := lists_vls n hn k hk
  rw [List.all_eq_true] at h
  have h2 := h L hL
  simp only [Bool.and_eq_true, decide_eq_true_eq] at h2
  exact ⟨VL.of h2.1.1, h2.1.2, h2.2⟩
theorem lists_cnts : ∀ n ≤ 5, ∀ k ≤ 3, decide (((lists4 n k).length : Int) = lisI n k) = true := by decide +kernel
theorem lists_cnt {n k : Nat} (hn : n ≤ 5) (hk : k ≤ 3) : ((lists4 n k).length : Int) = lisI n k := of_decide_eq_true (lists_cnts n hn k hk)
end Go.Proofs.YtekchdgpaemofaaGreat
