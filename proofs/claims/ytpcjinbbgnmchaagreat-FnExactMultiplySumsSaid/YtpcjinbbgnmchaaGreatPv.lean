/- Small words that many texts lean on: sizes of a valid sum, all flags, flags out of the list, spec.l00Has. -/
import Derived.Test.YtpcjinbbgnmchaaGreatVq
import Derived.Test.YtpcjinbbgnmchaaGreatSb
import Derived.Test.YtpcjinbbgnmchaaGreatFa
import Derived.Test.YtpcjinbbgnmchaaGreatSl
namespace Go.Proofs.YtpcjinbbgnmchaaGreat
open Go.ChangeShapes Go.WideShapes Go.RowKit
set_option linter.unusedVariables false
set_option linter.unusedSimpArgs false
attribute [local irreducible] Calls
theorem rs_sizes {tn te s : Int} {T : List Trm} (h : sumOk tn te s T = true) : ∃ k : Nat, tn = k ∧ k ≤ 3 ∧ (k : Int) ≤ s ∧ s ≤ 5 := by
  obtain ⟨h1, h2, h3, h4⟩ := sumOk_iff.1 h
  simp [grOk, spOk, inB] at h1 h2
  exact ⟨tn.toNat, by omega, by omega, by omega, by omega⟩
theorem af_sum {te : Int} {k m : Nat} (hg : grOk k te = true) (hs : spOk k m = true) : afC k te m [] = (if (flagsL k te m []).length ≤ 64 then 0 else 3) ∧ afL k te m [] = (if (flagsL k te m []).length ≤ 64 then flagsF k te m [] else []) := by
  have h1 : afC k te m [] = (if (flagsL k te m []).length ≤ 64 then 0 else 3) := by
    unfold afC
    rw [if_pos hg, if_pos (show forbC [] = 0 from rfl), if_pos hs, Int.toNat_natCast, Int.toNat_natCast]
  refine ⟨h1, ?_⟩
  unfold afL
  rw [h1, Int.toNat_natCast, Int.toNat_natCast]
  split
  · rfl
  · rfl
theorem flagsF_mem {tn : Nat} {te : Int} {n : Nat} {gs : List (Int × Int)} {h : Flg} (ht : tn ≤ 3) (htn : tn ≤ n) (hn : n ≤ 5) (hm : h ∈ flagsF tn te n gs) : h.1 = tn ∧ h.2.1 = n ∧ flV h = true ∧ okFlag h := by
  obtain ⟨e, he, rfl⟩ := List.mem_map.1 hm
  have h1 := flagsL_mem hn he
  have h2 : limN n ≤ 1024 := by
    have : n = 0 ∨ n = 1 ∨ n = 2 ∨ n = 3 ∨ n = 4 ∨ n = 5 := by omega
    rcases this with rfl | rfl | rfl | rfl | rfl | rfl <;> decide
  refine ⟨rfl, rfl, (flV_iff _).2 ⟨⟨by show (0 : Int) ≤ tn; omega, by show (tn : Int) ≤ 3; omega⟩, ⟨by show (0 : Int) ≤ n; omega, by show (n : Int) ≤ 5; omega⟩, by show (tn : Int) ≤ n; omega, h1.2.1⟩, okN (by omega), okN (by omega), ?_⟩
  simp only [okI, Lit.wf, IntKind.min, IntKind.max, IntKind.signed, IntKind.bits]
  simp
  omega
theorem l00Has_any (w : World) (L : List Int) (v : Value) (x : Int) (h : Lst (shI .i64) w L v) (hl : L.length ≤ 100) : Calls Tryz.prog 205 #[v, .int .i64 x] w fun e w' => e = .returned (.bool (memB L x)) ∧ Below w.heap.size w w' := by
  obtain ⟨A, cap, rfl, hc, hm, hel⟩ := lstI h
  have H1 := Lib.hid hel
  clear hel h
  unfold maxLen at hm
  go_enter Tryz.func205, Tryz.ntmps205
  go_wp2_with fail
  go_loopw [5] (fun i wr => ∃ (k : Nat), k ≤ L.length ∧ i = .int .i64 k ∧ Hid (∀ i, i < k → gi L i ≠ x) ∧ Below w.heap.size w wr) (fun i _ => L.length - (intOf i).toNat)
  case atStart => exact ⟨0, Nat.zero_le _, rfl, Lib.hid fun i hi => absurd hi (Nat.not_lt_zero i), belA⟩
  case round =>
    obtain ⟨k, hk, rfl, hS, hB⟩ := hrel
    by_cases hlt : k < L.length
    · have hk8 : (k : Int) < 9223372036854775807 := by omega
      obtain ⟨bl, off, rfl, hel⟩ := H1.out (by omega)
      have c0 := bkeep hB (hel k hlt)
      clear hel
      by_cases hx : gi L k = x
      · have hr : memB L x = true := memB_at hlt hx
        have hx1 : (gi L k == x) = true := by simp [hx]
        have HR := Lib.hid hr
        clear hr hx
        go_wp2_with fail
        exact bodyPost_ret (v := .bool true) (by simp [results, Tryz.results205, go_sem]) rfl ⟨by rw [HR.out], belA⟩
      · have hx1 : (gi L k == x) = false := by simp [hx]
        have HX := Lib.hid hx
        clear hx
        go_wp2_with fail
        go_roundw
        case rel =>
          refine ⟨k + 1, by omega, by go_num, Lib.hid fun i hi => ?_, belA⟩
          rcases Nat.lt_or_ge i k with h1 | h1
          · exact hS.out i h1
          · have : i = k := by omega
            subst this
            exact HX.out
        case measure => simp [intOf]; omega
    · have hr : memB L x = false := memB_f fun i hi => hS.out i (by omega)
      have HR := Lib.hid hr
      clear hr
      go_wp2_with fail
      exact bodyPost_ret (v := .bool false) (by simp [results, Tryz.results205, go_sem]) rfl ⟨by rw [HR.out], belA⟩
end Go.Proofs.YtpcjinbbgnmchaaGreat
