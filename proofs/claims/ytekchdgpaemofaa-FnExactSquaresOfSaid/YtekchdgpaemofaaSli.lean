/- Lists of fractions, spec: l02List, SumOfFractions, l02Dot, DotOf. -/
import Derived.Test.YtekchdgpaemofaaFk
import Derived.Test.YtekchdgpaemofaaSl
import Derived.BigGuardPart
import Derived.Deep.RegionHeld3
namespace Go.Proofs.Ytekchdgpaemofaa
open Go.ChangeShapes Go.WideShapes Go.ChangeAt Go.RowKit
set_option linter.unusedVariables false
set_option linter.unusedSimpArgs false
attribute [local irreducible] Calls
theorem sList_any (w : World) (xs : List (Int × Int)) (v : Value) (h : Lst shFr w xs v) : Calls Try.prog 82 #[v] w fun e w' => e = .returned (.bool (listOk xs)) ∧ Below w.heap.size w w' := by
  obtain ⟨A, cap, rfl, hc, hm, hok, hel⟩ := lstFraction h
  unfold maxLen at hm
  clear h
  have H1 := Lib.hid hel
  have HO := Lib.hid hok
  clear hel hok
  go_enter Try.func82, Try.ntmps82
  go_wp2
  go_loopw [3] (fun i wr => ∃ (k : Nat), k ≤ xs.length ∧ i = .int .i64 k ∧ (∀ a ∈ xs.take k, frOk a.1 a.2 = true) ∧ Below w.heap.size w wr) (fun i _ => xs.length - (intOf i).toNat)
  case atStart => exact ⟨0, Nat.zero_le _, rfl, by simp, belA⟩
  case round =>
    obtain ⟨k, hk, rfl, ht, hB⟩ := hrel
    have HT := Lib.hid ht
    clear ht
    by_cases hlt : k < xs.length
    · obtain ⟨bl, off, rfl, hel⟩ := H1.out (by omega)
      clear H1
      obtain ⟨d, hd, hok, c0, c1⟩ := hel k hlt
      clear hel
      obtain ⟨i1, i2⟩ := i64_wf hok.1
      obtain ⟨i3, i4⟩ := i64_wf hok.2
      have hmem : Hid (d ∈ xs) := Lib.hid (List.mem_of_getElem? hd)
      have HD := Lib.hid hd
      clear hd
      replace c0 := bkeep hB c0
      replace c1 := bkeep hB c1
      cases hp : frOk d.1 d.2
      · have hr : listOk xs = false := by
          rw [Bool.eq_false_iff]
          intro hc
          rw [(listOk_iff.1 hc).2 d hmem.out] at hp
          cases hp
        go_wp2_with (first | (go_at_call 70; refine Calls.mono (sok_any _ _ _ i1 i2 i3 i4) ?_; rintro e w1 ⟨rfl, hb⟩; obtain ⟨X, m, rfl⟩ := plsOf hb; clear hb))
        exact bodyPost_ret (v := .bool false) (by simp [results, Try.results82, go_sem]) rfl ⟨by rw [hr], belA⟩
      · go_wp2_with (first | (go_at_call 70; refine Calls.mono (sok_any _ _ _ i1 i2 i3 i4) ?_; rintro e w1 ⟨rfl, hb⟩; obtain ⟨X, m, rfl⟩ := plsOf hb; clear hb))
        go_roundw
        case rel => exact ⟨k + 1, by omega, by go_num, mem_take_succ HT.out HD.out hp, belA⟩
        case measure => simp [intOf]; omega
    · have e : k = xs.length := by omega
      subst e
      have ht := HT.out
      rw [List.take_length] at ht
      have hr : listOk xs = decide ((xs.length : Int) ≤ 256) := by
        rw [Bool.eq_iff_iff, listOk_iff, decide_eq_true_eq]
        exact ⟨fun h => by omega, fun h => ⟨by omega, ht⟩⟩
      clear ht
      go_wp2
      exact bodyPost_ret (v := .bool (decide ((xs.length : Int) ≤ 256))) (by simp [results, Try.results82, go_sem]) rfl ⟨by rw [hr], belA⟩
theorem sZero_any (w : World) : Calls Try.prog 117 #[] w fun e w' => e = .returned (.agg #[.int .i64 0, .int .i64 1]) ∧ Below w.heap.size w w' := by
  go_enter Try.func117, Try.ntmps117
  go_wp2
  exact bodyPost_ret (v := .agg #[.int .i64 0, .int .i64 1]) (by simp [results, Try.results117, go_sem]) rfl ⟨rfl, belA⟩
end Go.Proofs.Ytekchdgpaemofaa
