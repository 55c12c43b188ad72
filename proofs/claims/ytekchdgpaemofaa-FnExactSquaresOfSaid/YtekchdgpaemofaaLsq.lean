/- SquaresOf returns what the reference returns: the law's row. -/
import Derived.Test.YtekchdgpaemofaaWSquaresOf
import Derived.Test.YtekchdgpaemofaaPh
namespace Go.Proofs.Ytekchdgpaemofaa
open Go.ChangeShapes Go.WideShapes Go.ChangeAt Go.RowKit
set_option linter.unusedVariables false
set_option linter.unusedSimpArgs false
attribute [local irreducible] Calls
theorem lenSS_mat (m n : Nat) (D : Nat → Nat → Int × Int) : lenSS (matL m n D) = m * n := by
  unfold lenSS matL
  rw [List.map_map]
  have : ∀ m : Nat, ((List.range m).map (List.length ∘ fun i => rowL n (D i))).sum = m * n := fun m => by
    induction m with
    | zero => simp
    | succ m ih =>
      rw [List.range_succ, List.map_append, List.sum_append, ih]
      simp [rowL_len, Nat.succ_mul]
  exact this m
theorem sqR_small (a : List (List (Int × Int))) : (sqR a).length + lenSS (sqR a) ≤ 100000 := by
  unfold sqR
  split
  · rename_i h
    unfold sqC at h
    split at h
    · rename_i hv
      have h8 := (SqM.of hv).1
      rw [matL_len, lenSS_mat]
      have : a.length * a.length ≤ 8 * 8 := Nat.mul_le_mul h8 h8
      omega
    · omega
  · simp [lenSS]
theorem wholeSquaresOf (a : List (List (Int × Int))) (v : Value) (w : World) (h : Lst (shL shFr) w a v) :
    Calls Try.prog 5 #[v] w fun e0 w' => e0 = .returned (.bool true) ∧ Below w.heap.size w w' :=
  walkSquaresOf a v (sqP a) (sqR a) (sqC a) (by have := sqP_len a; omega) (sqR_small a)
    (fun W u0 h0 _ => (SquaresOf_any W a u0 h0).mono fun e W' h => by
      obtain ⟨A, cap, A', cap', F, F', h1, h2, h3, h4, h5⟩ := h
      exact ⟨A, cap, F, A', cap', F', h1, h2, h3, h4, h5⟩)
    (fun W u0 h0 _ => (sSquaresOf_any W a u0 h0).mono fun e W' h => by
      obtain ⟨A, cap, A', cap', F, F', h1, h2, h3, h4, h5⟩ := h
      exact ⟨A, cap, F, A', cap', F', h1, h2, h3, h4, h5⟩) w h

set_option maxRecDepth 100000 in
theorem fnExactSquaresOf_lifted (os : Os) (started : os.Started) (H : Type) (enc : TypeId × Value → H) :
    ReturnsInHanded {} Try.checked os 5 .any (Rows.fnExactSquaresOfSpec.pre6 enc Try.prog Try.f5 Rows.fnExactSquaresOfRow.domain false) (Rows.fnExactSquaresOfSpec.post enc Try.prog Try.f5 false true false false) := by
  refine returnsInHanded_of_change (C := Try.checked) tryOwn started (by kernel_rfl) Try.func5
    (ChangeSpec.witness6 (enc := enc) (C := Try.checked) false ⟨#[], #[.slice none 0 0], []⟩ 8 (by kernel_rfl) (by kernel_rfl) (by kernel_rfl) (by kernel_rfl)) ?_
  intro W base args ds gs before hval0 hW hcnd _
  have hval : ∀ (j : Nat) t v, Try.f5.params[j]? = some t → args[j]? = some v → Value.okWide Try.prog W .any base t v := hval0
  have hW' := hW
  obtain ⟨p, q, hA0, hV, _, _, _⟩ := hW
  have hA : DataW.TrodAll enc Try.prog W 0 (fun _ => true) true Try.f5.params.toList args.toList ds p := hA0
  rw [Try.params5] at hA hval
  obtain ⟨v0, d0, rfl, rfl, h0⟩ := trodAll_one hA
  obtain ⟨rfl, rfl⟩ := trodVars_none hV
  obtain ⟨a, ha⟩ := arg_slice Try.underlying22 readsFrSS (hval 0 22 v0 rfl rfl) h0
  refine (wholeSquaresOf a v0 W ha).mono fun e W' ⟨he, hb⟩ => ?_
  exact ⟨_, he, law_post (f := Try.f5) (s := Rows.fnExactSquaresOfSpec) tryLaid (by kernel_rfl) rfl rfl Try.underlying4 hW' rfl hb⟩
theorem fnExactSquaresOf_holds : Rows.FnExactSquaresOfSaid :=
  OpenClaim.holds_of_wide 5 Try.f5 rfl rfl rfl rfl rfl rfl rfl ⟨rfl, rfl, rfl, rfl, rfl⟩ rfl rfl rfl rfl rfl (by kernel_rfl) Try.func5 (by kernel_rfl)
    (of_decide_eq_true (by kernel_rfl)) (by unfold Func.isWrapper; first | (rw [if_pos (by decide +kernel)]; kernel_rfl) | (rw [if_neg (by decide +kernel)]; exact ⟨rfl, rfl⟩))
    (fun os started H enc _ => fnExactSquaresOf_lifted os started H enc)
#print axioms fnExactSquaresOf_holds
end Go.Proofs.Ytekchdgpaemofaa
