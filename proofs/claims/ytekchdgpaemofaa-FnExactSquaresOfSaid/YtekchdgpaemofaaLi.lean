/- Lists of fractions, impl: validList, SumOfFractions, dot, DotOf. -/
import Derived.Test.YtekchdgpaemofaaFk
import Derived.Test.YtekchdgpaemofaaIx
import Derived.Deep.AppendLies
import Derived.Deep.RegionLaw
namespace Go.Proofs.Ytekchdgpaemofaa
open Go.ChangeShapes Go.WideShapes Go.ChangeAt Go.RowKit
set_option linter.unusedVariables false
set_option linter.unusedSimpArgs false
attribute [local irreducible] Calls
def badF (d : Int × Int) : Bool := !frOk d.1 d.2
theorem badFraction_any (d : Int × Int) (w : World) (hd : okFr d) : Calls Try.prog 123 #[.agg #[.int .i64 d.1, .int .i64 d.2]] w fun e w' => e = .returned (.bool (badF d)) ∧ Below w.heap.size w w' := by
  obtain ⟨i1, i2⟩ := i64_wf hd.1
  obtain ⟨i3, i4⟩ := i64_wf hd.2
  go_enter Try.func123, Try.ntmps123
  go_wp2_with (first | (go_at_call 156; refine Calls.mono (valid_any _ _ _ i1 i2 i3 i4) ?_; rintro e w1 ⟨rfl, hb⟩; obtain ⟨X, m, rfl⟩ := plsOf hb; clear hb))
  exact bodyPost_ret (v := .bool (!frOk d.1 d.2)) (by simp [results, Try.results123, go_sem]) rfl ⟨rfl, belA⟩
theorem listOk_bad {xs : List (Int × Int)} : listOk xs = (decide (xs.length ≤ 256) && !anyB badF xs) := by
  unfold listOk anyB badF
  rw [List.all_eq_not_any_not]
theorem validList_any (w : World) (xs : List (Int × Int)) (v : Value) (h : Lst shFr w xs v) : Calls Try.prog 77 #[v] w fun e w' => e = .returned (.bool (listOk xs)) ∧ Below w.heap.size w w' := by
  have eg : ∀ args w, (callFunc 123 args).run Try.prog w = .ok (.enter 123 args) w := enters_of Try.func123 (by kernel_rfl) rfl
  obtain ⟨A, cap, rfl, hc, hm⟩ := formFraction h
  unfold maxLen at hm
  have hok := Lib.hid (oks_of flatFr h)
  by_cases hl : xs.length ≤ 256
  · have hr : listOk xs = !anyB badF xs := by rw [listOk_bad]; simp [hl]
    have hl' : ((xs.length : Nat) : Int) ≤ 256 := by omega
    go_enter Try.func77, Try.ntmps77
    go_wp2_with (first | (go_at_call 122; refine Calls.mono (hasFraction_any _ xs _ 123 #[] badF (h.below belA) (by omega) eg (fun W d _ hd => badFraction_any d W (hok.out d hd))) ?_; rintro e w1 ⟨rfl, hb⟩; obtain ⟨X, m, rfl⟩ := plsOf hb; clear hb))
    exact bodyPost_ret (v := .bool (!anyB badF xs)) (by simp [results, Try.results77, go_sem]) rfl ⟨by rw [hr], belA⟩
  · have hr : listOk xs = false := by rw [listOk_bad]; simp [hl]
    have hl' : 256 < ((xs.length : Nat) : Int) := by omega
    go_enter Try.func77, Try.ntmps77
    go_wp2
    exact bodyPost_ret (v := .bool false) (by simp [results, Try.results77, go_sem]) rfl ⟨by simp [hr], belA⟩
/-- A fraction is returned, and the mark tells whether it is right. -/
def FrRet (b o : Nat) (r : Option (Int × Int)) (w : World) (e : Ending) (w' : World) : Prop := ∃ (d : Int × Int) (g' : Bool), e = .returned (.agg #[.int .i64 d.1, .int .i64 d.2]) ∧ Tr r d g' ∧ Fl b o w g' w'
end Go.Proofs.Ytekchdgpaemofaa
