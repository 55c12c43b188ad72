import Derived.OwnWalk
import Derived.Deep.AppendLies
import Derived.Lib.LazyBuf
import Derived.Test.YtekchdgpaemofaaGreatYySl
import Derived.Test.YtekchdgpaemofaaGreatYyIx
namespace Go.Proofs.YtekchdgpaemofaaGreat
open Go.ChangeShapes Go.WideShapes Go.RowKit
set_option linter.unusedVariables false
set_option linter.unusedSimpArgs false
attribute [local irreducible] Calls
@[go_sem high] theorem nilTerm_t (n c n' c' : Nat) (w : World) : (binOp .eql 29 (.slice none n c) (.slice none n' c')).run Tryz.prog w = .ok (.bool true) w :=
  Lib.run_eql_slice_nil w _ 173 none n c n' c' Tryz.underlying29
@[go_sem high] theorem nilTerm_f (p : Addr) (n c n' c' : Nat) (w : World) : (binOp .eql 29 (.slice (some p) n c) (.slice none n' c')).run Tryz.prog w = .ok (.bool false) w :=
  Lib.run_eql_slice_nil w _ 173 (some p) n c n' c' Tryz.underlying29
end Go.Proofs.YtekchdgpaemofaaGreat

namespace Go.Proofs.YtekchdgpaemofaaGreat
open Go.ChangeShapes Go.WideShapes Go.RowKit
set_option linter.unusedVariables false
set_option linter.unusedSimpArgs false
attribute [local irreducible] Calls
def Kept {α : Type} (P : α → Bool) (xs ys : List α) (i j : Nat) : Prop := ys.length = xs.length ∧ ys.take i = (xs.take j).filter (fun d => !P d) ∧ ys.drop j = xs.drop j
theorem Kept.drop {α : Type} {P : α → Bool} {xs ys : List α} {i j : Nat} (h : Kept P xs ys i j) {d : α} (hd : xs[j]? = some d) (hp : P d = true) : Kept P xs ys i (j + 1) := by
  obtain ⟨h1, h2, h3⟩ := h
  refine ⟨h1, by rw [List.take_add_one, hd, List.filter_append]; simp [hp, h2], ?_⟩
  have := congrArg (List.drop 1) h3
  rwa [List.drop_drop, List.drop_drop] at this
theorem Kept.keep {α : Type} {P : α → Bool} {xs ys : List α} {i j : Nat} (h : Kept P xs ys i j) (hij : i < j) {d : α} (hd : xs[j]? = some d) (hp : P d = false) : Kept P xs (ys.set i d) (i + 1) (j + 1) := by
  obtain ⟨h1, h2, h3⟩ := h
  have hj : j < xs.length := (List.getElem?_eq_some_iff.1 hd).1
  have hi : i < ys.length := by omega
  refine ⟨by rw [List.length_set, h1], ?_, ?_⟩
  · rw [List.take_add_one, List.take_add_one, hd, List.getElem?_set_self hi, List.filter_append, List.take_set_of_le (Nat.le_refl i), h2]
    simp [hp]
  · rw [List.drop_set_of_lt (by omega)]
    have := congrArg (List.drop 1) h3
    rwa [List.drop_drop, List.drop_drop] at this
theorem Kept.el {α : Type} {P : α → Bool} {xs ys : List α} {i j : Nat} (h : Kept P xs ys i j) {d : α} (hd : xs[j]? = some d) : ys[j]? = some d := by
  have := congrArg (fun l => l[0]?) h.2.2
  simpa [List.getElem?_drop, hd] using this
theorem Kept.start {α : Type} {P : α → Bool} {xs : List α} {k : Nat} {d : α} (hd : xs[k]? = some d) (hp : P d = true) (h : ∀ a ∈ xs.take k, P a = false) : Kept P xs xs k (k + 1) := by
  refine ⟨rfl, ?_, rfl⟩
  rw [List.take_add_one, hd, List.filter_append]
  have : (xs.take k).filter (fun d => !P d) = xs.take k := List.filter_eq_self.2 fun a ha => by simp [h a ha]
  simp [hp, this]
theorem first_of {α : Type} (P : α → Bool) (xs : List α) (h : ¬ ∀ a ∈ xs, P a = false) : ∃ (k : Nat) (d : α), xs[k]? = some d ∧ P d = true ∧ ∀ a ∈ xs.take k, P a = false := by
  induction xs with
  | nil => exact absurd (by simp) h
  | cons x xs ih =>
    cases hx : P x
    · obtain ⟨k, d, h1, h2, h3⟩ := ih (fun hh => h (by intro a ha; rcases List.mem_cons.1 ha with rfl | ha; exact hx; exact hh a ha))
      refine ⟨k + 1, d, by simpa using h1, h2, ?_⟩
      intro a ha
      rw [List.take_succ_cons] at ha
      rcases List.mem_cons.1 ha with rfl | ha
      · exact hx
      · exact h3 a ha
    · exact ⟨0, x, rfl, hx, by simp⟩
end Go.Proofs.YtekchdgpaemofaaGreat
