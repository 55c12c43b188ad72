import Derived.Test.YtekchdgpaemofaaGreatYyVq
import Derived.Test.YtekchdgpaemofaaGreatYySa
import Derived.Test.YtekchdgpaemofaaGreatYyGx
import Derived.Test.YtekchdgpaemofaaGreatYySl
import Derived.Test.YtekchdgpaemofaaGreatYyIx
import Derived.Test.YtekchdgpaemofaaGreatYyPm
import Derived.Test.YtekchdgpaemofaaGreatYyAl
namespace Go.Proofs.YtekchdgpaemofaaGreat
open Go.ChangeShapes Go.WideShapes Go.RowKit
set_option linter.unusedVariables false
set_option linter.unusedSimpArgs false
attribute [local irreducible] Calls
theorem l00Has_any (w : World) (L : List Int) (v : Value) (x : Int) (h : Lst (shI .i64) w L v) (hl : L.length ≤ 100) : Calls Tryz.prog 242 #[v, .int .i64 x] w fun e w' => e = .returned (.bool (memB L x)) ∧ Below w.heap.size w w' := by
  obtain ⟨A, cap, rfl, hc, hm, hel⟩ := lstI h
  have H1 := Lib.hid hel
  clear hel h
  unfold maxLen at hm
  go_enter Tryz.func242, Tryz.ntmps242
  go_wp2_with fail
  go_loopw [5] (fun i wr => ∃ (k : Nat), k ≤ L.length ∧ i = .int .i64 k ∧ Hid (∀ i, i < k → gi L i ≠ x) ∧ Below w.heap.size w wr) (fun i _ => L.length - (intOf i).toNat)
  case atStart => exact ⟨0, Nat.zero_le _, rfl, Lib.hid fun i hi => absurd hi (Nat.not_lt_zero i), belA⟩
  case round =>
    obtain ⟨k, hk, rfl, hS, hB⟩ := hrel
    by_cases hlt : k < L.length
    · have hk8 : (k : Int) < 9223372036854775807 := by omega
      obtain ⟨bl, off, rfl, hel⟩ := H1.out (by omega)
      have c0 := bkeep hB (hel k hlt)
      clear hel
      by_cases hx : gi L k = x
      · have hr : memB L x = true := memB_at hlt hx
        have hx1 : (gi L k == x) = true := by simp [hx]
        have HR := Lib.hid hr
        clear hr hx
        go_wp2_with fail
        exact bodyPost_ret (v := .bool true) (by simp [results, Tryz.results242, go_sem]) rfl ⟨by rw [HR.out], belA⟩
      · have hx1 : (gi L k == x) = false := by simp [hx]
        have HX := Lib.hid hx
        clear hx
        go_wp2_with fail
        go_roundw
        case rel =>
          refine ⟨k + 1, by omega, by go_num, Lib.hid fun i hi => ?_, belA⟩
          rcases Nat.lt_or_ge i k with h1 | h1
          · exact hS.out i h1
          · have : i = k := by omega
            subst this
            exact HX.out
        case measure => simp [intOf]; omega
    · have hr : memB L x = false := memB_f fun i hi => hS.out i (by omega)
      have HR := Lib.hid hr
      clear hr
      go_wp2_with fail
      exact bodyPost_ret (v := .bool false) (by simp [results, Tryz.results242, go_sem]) rfl ⟨by rw [HR.out], belA⟩
end Go.Proofs.YtekchdgpaemofaaGreat
