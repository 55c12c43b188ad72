/- Two flags that should have one type: impl.flagsOk, impl.sameType of two, spec.l04Types. -/
import Derived.Test.YtpcjinbbgnmchaaGreatVs
namespace Go.Proofs.YtpcjinbbgnmchaaGreat
open Go.ChangeShapes Go.WideShapes Go.RowKit
set_option linter.unusedVariables false
set_option linter.unusedSimpArgs false
attribute [local irreducible] Calls
theorem lst_two {w : World} {g : Nat} {a b : Flg} {t : TypeId} (h : w.heap[g]? = some (.cells #[.int .i64 a.1, .int .i64 a.2.1, .int .u32 a.2.2, .int .i64 b.1, .int .i64 b.2.1, .int .u32 b.2.2] t (0, 0))) (ha : okFlag a) (hb : okFlag b) : Lst shFlag w [a, b] (.slice (some ⟨g, 0, none⟩) 2 2) :=
  (own_of_row (s := shFlag) flatFlag (fun d => rfl) (xs := [a, b]) (cap := 2) h (Nat.le_refl _) (by decide) (Nat.le_refl 6) rfl (by
    intro d hd
    rcases List.mem_cons.1 hd with rfl | hd
    · exact ha
    · have : d = b := List.mem_singleton.1 hd
      subst this; exact hb) (B := 0) (Nat.zero_le _)).lst
theorem flags2_any (w : World) (a b : Flg) (v : Value) (h : Lst shFlag w [a, b] v) : Calls Tryz.prog 181 #[v] w fun e w' => e = .returned (.int .i64 (if flV a && flV b then 0 else 1)) ∧ Below w.heap.size w w' := by
  have := flagsOk_any w [a, b] v h (by show (2 : Nat) ≤ _; decide)
  have e : flagsB [a, b] = (flV a && flV b) := by
    unfold flagsB anyB badFl
    simp only [List.any_cons, List.any_nil, Bool.or_false]
    cases flV a <;> cases flV b <;> rfl
  rw [e] at this
  exact this
theorem tyNe_self (a : Flg) : tyNe a a = false := by simp [tyNe, eq2]
theorem same2_any (w : World) (a b : Flg) (v : Value) (h : Lst shFlag w [a, b] v) (ha : 0 ≤ a.1 ∧ a.1 ≤ 5) (hb : 0 ≤ b.1 ∧ b.1 ≤ 5) : Calls Tryz.prog 219 #[v] w fun e w' => e = .returned (.bool (!tyNe a b)) ∧ Below w.heap.size w w' := by
  have := sameType_any w [a, b] v h (by show (2 : Nat) ≤ _; decide) (by
    intro d hd
    rcases List.mem_cons.1 hd with rfl | hd
    · exact ha
    · have : d = b := List.mem_singleton.1 hd
      subst this; exact hb)
  have e : sameTy [a, b] = !tyNe a b := by
    unfold sameTy anyB hdF
    simp [tyNe_self]
  rw [e] at this
  exact this
/-- The code of two flags that should have one type. -/
def tpC (a b : Flg) : Int := if flV a && flV b then (if tyNe a b then 4 else 0) else 1
theorem tyNe_eq (a b : Flg) : tyNe a b = !eq2 a.1 (tyE a) b.1 (tyE b) := by
  unfold tyNe
  congr 1
  rw [Bool.eq_iff_iff]
  simp only [eq2, decide_eq_true_eq]
  exact ⟨fun h => ⟨h.1.symm, h.2.symm⟩, fun h => ⟨h.1.symm, h.2.symm⟩⟩
end Go.Proofs.YtpcjinbbgnmchaaGreat
