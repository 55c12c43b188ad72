/- The two ways through all orders are one list; both ways to the least graph are one. -/
import Derived.Test.YtbpamifkfbcloaaGo
namespace Go.Proofs.Ytbpamifkfbcloaa
set_option linter.unusedVariables false
set_option linter.unusedSimpArgs false
/-- The orders as the reference goes through them. -/
def ordsR (k m : Nat) : Nat → List Int → List (List Int)
  | 0, _ => []
  | f + 1, o => ordL k o :: (if (nxI m o o.length).isSome then ordsR k m f (nextL m o) else [])
theorem leastR_ords (e : Int) (k m : Nat) (f : Nat) (o : List Int) (b : Int) : leastR e k m f o b = (handed (fun _ => false) (fun b L => lessE (onE e L) b) (ordsR k m f o) b).2 := by
  induction f generalizing o b with
  | zero => rfl
  | succ f ih =>
    simp only [leastR, ordsR, handed, Bool.false_eq_true, if_false]
    split
    · rw [ih]
    · rfl
def ordsB : Bool := (List.range 6).all fun k => (List.range (6 - k)).all fun m => decide (ordsR k m 130 (seqI m) = lsts (k + m) m (seqI k)) && runOk k m 130 (seqI m) && (lsts (k + m) m (seqI k)).all fun L => vlB L && decide (L.length = k + m)
theorem ordsB_t : ordsB = true := by decide +kernel
theorem ords_all {k m : Nat} (h : k + m ≤ 5) : ordsR k m 130 (seqI m) = lsts (k + m) m (seqI k) ∧ runOk k m 130 (seqI m) = true ∧ ∀ L ∈ lsts (k + m) m (seqI k), VL L ∧ L.length = k + m := by
  have h1 := ordsB_t
  simp only [ordsB, List.all_eq_true, List.mem_range, Bool.and_eq_true, decide_eq_true_eq] at h1
  obtain ⟨⟨h2, h3⟩, h4⟩ := h1 k (by omega) m (by omega)
  exact ⟨h2, h3, fun L hL => ⟨VL.of (h4 L hL).1, (h4 L hL).2⟩⟩
theorem lsts_ok {n q : Nat} (hn : n ≤ 5) (hq : q ≤ n) : ∀ L ∈ lsts n (n - q) (seqI q), VL L ∧ L.length = n := by
  obtain ⟨m, rfl⟩ : ∃ m, n = q + m := ⟨n - q, by omega⟩
  rw [Nat.add_sub_cancel_left]
  exact (ords_all hn).2.2
theorem leastS_eq {n q : Nat} (hn : n ≤ 5) (hq : q ≤ n) (e : Int) : leastS e q (n - q) = leastI n q e := by
  obtain ⟨m, rfl⟩ : ∃ m, n = q + m := ⟨n - q, by omega⟩
  unfold leastS leastI
  rw [Nat.add_sub_cancel_left, leastR_ords, (ords_all hn).1]
end Go.Proofs.Ytbpamifkfbcloaa
