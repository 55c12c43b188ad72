import Derived.BigGuardPart
import Derived.Deep.RegionHeld3
import Derived.Shelf.Abstract
import Derived.Test.YtekchdgpaemofaaGreatProg
import Derived.Test.YtekchdgpaemofaaGreatYySl
namespace Go.Proofs.YtekchdgpaemofaaGreat
open Go.ChangeShapes Go.WideShapes Go.ChangeAt Go.RowKit
set_option linter.unusedVariables false
set_option linter.unusedSimpArgs false
attribute [local irreducible] Calls
theorem idxFlag_any (w : World) (xs : List (Int × (Int × Int))) (v : Value) (f : FuncId) (caps : Array Value) (P : Int × (Int × Int) → Bool) (h : Lst shFlag w xs v) (hb : xs.length ≤ 9223372036854775806)
    (eg : ∀ args w, (callFunc f args).run Tryz.prog w = .ok (.enter f args) w)
    (hf : ∀ (W : World) (d : Int × (Int × Int)), Below w.heap.size w W → d ∈ xs → Calls Tryz.prog f (#[.agg #[.int .i64 d.1, .int .i64 d.2.1, .int .u32 d.2.2]] ++ caps) W fun e W' => e = .returned (.bool (P d)) ∧ Below W.heap.size W W') :
    Calls Tryz.prog 209 #[v, .func (.func f) #[] caps] w fun e w' => e = .returned (.int .i64 (idxI P xs)) ∧ Below w.heap.size w w' := by
  obtain ⟨A, cap, rfl, hc, hm, hok, hel⟩ := lstFlag h
  clear h hok
  have H1 := Lib.hid hel
  have HF := Lib.hid hf
  clear hel hf
  go_enter Tryz.func209, Tryz.ntmps209
  go_wp2
  go_loopw [8] (fun i wr => ∃ (k : Nat), k ≤ xs.length ∧ i = .int .i64 k ∧ (∀ a ∈ xs.take k, P a = false) ∧ Below w.heap.size w wr) (fun i _ => xs.length - (intOf i).toNat)
  case atStart => exact ⟨0, Nat.zero_le _, rfl, by simp, belA⟩
  case round =>
    obtain ⟨k, hk, rfl, ht, hB⟩ := hrel
    have HT := Lib.hid ht
    clear ht
    by_cases hlt : k < xs.length
    · obtain ⟨bl, off, rfl, hel⟩ := H1.out (by omega)
      clear H1
      obtain ⟨d, hd, hok, c0, c1, c2⟩ := hel k hlt
      clear hel
      have hmem : Hid (d ∈ xs) := Lib.hid (List.mem_of_getElem? hd)
      have hd := Lib.hid hd
      replace c0 := bkeep hB c0
      replace c1 := bkeep hB c1
      replace c2 := bkeep hB c2
      go_wp2_with fail
      refine Calls.mono (HF.out wr d hB hmem.out) ?_
      rintro e w1 ⟨rfl, hb1⟩
      obtain ⟨X, m, rfl⟩ := plsOf hb1
      clear hb1
      cases hp : P d
      · go_wp2_with fail
        go_roundw
        case rel => exact ⟨k + 1, by omega, by go_num, mem_take_succ HT.out hd.out hp, belA⟩
        case measure => simp [intOf]; omega
      · go_wp2_with fail
        go_ret
        exact ⟨by rw [idxI_at HT.out hd.out hp]; rfl, belA⟩
    · have e : k = xs.length := by omega
      subst e
      go_wp2
      go_ret
      exact ⟨by rw [idxI_none (by have := HT.out; rwa [List.take_length] at this)]; rfl, belA⟩
theorem hasFlag_any (w : World) (xs : List (Int × (Int × Int))) (v : Value) (f : FuncId) (caps : Array Value) (P : Int × (Int × Int) → Bool) (h : Lst shFlag w xs v) (hb : xs.length ≤ 9223372036854775806)
    (eg : ∀ args w, (callFunc f args).run Tryz.prog w = .ok (.enter f args) w)
    (hf : ∀ (W : World) (d : Int × (Int × Int)), Below w.heap.size w W → d ∈ xs → Calls Tryz.prog f (#[.agg #[.int .i64 d.1, .int .i64 d.2.1, .int .u32 d.2.2]] ++ caps) W fun e W' => e = .returned (.bool (P d)) ∧ Below W.heap.size W W') :
    Calls Tryz.prog 133 #[v, .func (.func f) #[] caps] w fun e w' => e = .returned (.bool (anyB P xs)) ∧ Below w.heap.size w w' := by
  obtain ⟨h1, h2, h3⟩ := idxI_any P xs
  have H1 := Lib.hid h1
  clear h1
  have HF := Lib.hid hf
  clear hf
  go_enter Tryz.func133, Tryz.ntmps133
  go_wp2_with (first | (go_at_call 209; refine Calls.mono (idxFlag_any _ xs v f caps P h hb eg HF.out) ?_; rintro e w1 ⟨rfl, hb⟩; obtain ⟨X, m, rfl⟩ := plsOf hb; clear hb))
  exact bodyPost_ret (v := .bool (decide (0 ≤ idxI P xs))) (by simp [results, Tryz.results133, go_sem]) rfl ⟨by rw [H1.out], belA⟩
end Go.Proofs.YtekchdgpaemofaaGreat

/- slices.IndexFunc and slices.ContainsFunc at slices of Graph. -/
namespace Go.Proofs.YtekchdgpaemofaaGreat
open Go.ChangeShapes Go.WideShapes Go.ChangeAt Go.RowKit
set_option linter.unusedVariables false
set_option linter.unusedSimpArgs false
attribute [local irreducible] Calls
end Go.Proofs.YtekchdgpaemofaaGreat

/- slices.IndexFunc and slices.ContainsFunc at slices of Graph, the function value with a bound receiver. -/
namespace Go.Proofs.YtekchdgpaemofaaGreat
open Go.ChangeShapes Go.WideShapes Go.ChangeAt Go.RowKit
set_option linter.unusedVariables false
set_option linter.unusedSimpArgs false
attribute [local irreducible] Calls
end Go.Proofs.YtekchdgpaemofaaGreat

/- slices.IndexFunc and slices.ContainsFunc at slices of Term. -/
namespace Go.Proofs.YtekchdgpaemofaaGreat
open Go.ChangeShapes Go.WideShapes Go.ChangeAt Go.RowKit
set_option linter.unusedVariables false
set_option linter.unusedSimpArgs false
attribute [local irreducible] Calls
end Go.Proofs.YtekchdgpaemofaaGreat

/- slices.IndexFunc and slices.ContainsFunc at slices of Fraction. -/
namespace Go.Proofs.YtekchdgpaemofaaGreat
open Go.ChangeShapes Go.WideShapes Go.ChangeAt Go.RowKit
set_option linter.unusedVariables false
set_option linter.unusedSimpArgs false
attribute [local irreducible] Calls
theorem idxFraction_any (w : World) (xs : List (Int × Int)) (v : Value) (f : FuncId) (caps : Array Value) (P : Int × Int → Bool) (h : Lst shFr w xs v) (hb : xs.length ≤ 9223372036854775806)
    (eg : ∀ args w, (callFunc f args).run Tryz.prog w = .ok (.enter f args) w)
    (hf : ∀ (W : World) (d : Int × Int), Below w.heap.size w W → d ∈ xs → Calls Tryz.prog f (#[.agg #[.int .i64 d.1, .int .i64 d.2]] ++ caps) W fun e W' => e = .returned (.bool (P d)) ∧ Below W.heap.size W W') :
    Calls Tryz.prog 182 #[v, .func (.func f) #[] caps] w fun e w' => e = .returned (.int .i64 (idxI P xs)) ∧ Below w.heap.size w w' := by
  obtain ⟨A, cap, rfl, hc, hm, hok, hel⟩ := lstFraction h
  clear h hok
  have H1 := Lib.hid hel
  have HF := Lib.hid hf
  clear hel hf
  go_enter Tryz.func182, Tryz.ntmps182
  go_wp2
  go_loopw [8] (fun i wr => ∃ (k : Nat), k ≤ xs.length ∧ i = .int .i64 k ∧ (∀ a ∈ xs.take k, P a = false) ∧ Below w.heap.size w wr) (fun i _ => xs.length - (intOf i).toNat)
  case atStart => exact ⟨0, Nat.zero_le _, rfl, by simp, belA⟩
  case round =>
    obtain ⟨k, hk, rfl, ht, hB⟩ := hrel
    have HT := Lib.hid ht
    clear ht
    by_cases hlt : k < xs.length
    · obtain ⟨bl, off, rfl, hel⟩ := H1.out (by omega)
      clear H1
      obtain ⟨d, hd, hok, c0, c1⟩ := hel k hlt
      clear hel
      have hmem : Hid (d ∈ xs) := Lib.hid (List.mem_of_getElem? hd)
      have hd := Lib.hid hd
      replace c0 := bkeep hB c0
      replace c1 := bkeep hB c1
      go_wp2_with fail
      refine Calls.mono (HF.out wr d hB hmem.out) ?_
      rintro e w1 ⟨rfl, hb1⟩
      obtain ⟨X, m, rfl⟩ := plsOf hb1
      clear hb1
      cases hp : P d
      · go_wp2_with fail
        go_roundw
        case rel => exact ⟨k + 1, by omega, by go_num, mem_take_succ HT.out hd.out hp, belA⟩
        case measure => simp [intOf]; omega
      · go_wp2_with fail
        go_ret
        exact ⟨by rw [idxI_at HT.out hd.out hp]; rfl, belA⟩
    · have e : k = xs.length := by omega
      subst e
      go_wp2
      go_ret
      exact ⟨by rw [idxI_none (by have := HT.out; rwa [List.take_length] at this)]; rfl, belA⟩
theorem hasFraction_any (w : World) (xs : List (Int × Int)) (v : Value) (f : FuncId) (caps : Array Value) (P : Int × Int → Bool) (h : Lst shFr w xs v) (hb : xs.length ≤ 9223372036854775806)
    (eg : ∀ args w, (callFunc f args).run Tryz.prog w = .ok (.enter f args) w)
    (hf : ∀ (W : World) (d : Int × Int), Below w.heap.size w W → d ∈ xs → Calls Tryz.prog f (#[.agg #[.int .i64 d.1, .int .i64 d.2]] ++ caps) W fun e W' => e = .returned (.bool (P d)) ∧ Below W.heap.size W W') :
    Calls Tryz.prog 110 #[v, .func (.func f) #[] caps] w fun e w' => e = .returned (.bool (anyB P xs)) ∧ Below w.heap.size w w' := by
  obtain ⟨h1, h2, h3⟩ := idxI_any P xs
  have H1 := Lib.hid h1
  clear h1
  have HF := Lib.hid hf
  clear hf
  go_enter Tryz.func110, Tryz.ntmps110
  go_wp2_with (first | (go_at_call 182; refine Calls.mono (idxFraction_any _ xs v f caps P h hb eg HF.out) ?_; rintro e w1 ⟨rfl, hb⟩; obtain ⟨X, m, rfl⟩ := plsOf hb; clear hb))
  exact bodyPost_ret (v := .bool (decide (0 ≤ idxI P xs))) (by simp [results, Tryz.results110, go_sem]) rfl ⟨by rw [H1.out], belA⟩
end Go.Proofs.YtekchdgpaemofaaGreat

/- slices.IndexFunc and slices.ContainsFunc at slices of slices of fractions. -/
namespace Go.Proofs.YtekchdgpaemofaaGreat
open Go.ChangeShapes Go.WideShapes Go.ChangeAt Go.RowKit
set_option linter.unusedVariables false
set_option linter.unusedSimpArgs false
attribute [local irreducible] Calls
theorem idxSS_any (w : World) (xs : List (List (Int × Int))) (v : Value) (f : FuncId) (caps : Array Value) (P : List (Int × Int) → Bool) (h : Lst (shL shFr) w xs v) (hb : xs.length ≤ 9223372036854775806)
    (eg : ∀ args w, (callFunc f args).run Tryz.prog w = .ok (.enter f args) w)
    (hf : ∀ (W : World) (d : List (Int × Int)) (vi : Value), Below w.heap.size w W → d ∈ xs → Lst shFr W d vi → Calls Tryz.prog f (#[vi] ++ caps) W fun e W' => e = .returned (.bool (P d)) ∧ Below W.heap.size W W') :
    Calls Tryz.prog 211 #[v, .func (.func f) #[] caps] w fun e w' => e = .returned (.int .i64 (idxI P xs)) ∧ Below w.heap.size w w' := by
  obtain ⟨A, cap, rfl, hc, hm, hel⟩ := lstFrSS h
  clear h
  have H1 := Lib.hid hel
  have HF := Lib.hid hf
  clear hel hf
  go_enter Tryz.func211, Tryz.ntmps211
  go_wp2
  go_loopw [8] (fun i wr => ∃ (k : Nat), k ≤ xs.length ∧ i = .int .i64 k ∧ (∀ a ∈ xs.take k, P a = false) ∧ Below w.heap.size w wr) (fun i _ => xs.length - (intOf i).toNat)
  case atStart => exact ⟨0, Nat.zero_le _, rfl, by simp, belA⟩
  case round =>
    obtain ⟨k, hk, rfl, ht, hB⟩ := hrel
    have HT := Lib.hid ht
    clear ht
    by_cases hlt : k < xs.length
    · obtain ⟨bl, off, rfl, hel⟩ := H1.out (by omega)
      clear H1
      obtain ⟨d, vi, hd, hL, c0⟩ := hel k hlt
      clear hel
      have hmem : Hid (d ∈ xs) := Lib.hid (List.mem_of_getElem? hd)
      have hd := Lib.hid hd
      replace c0 := bkeep hB c0
      have hL1 := Lib.hid (hL.below hB)
      clear hL
      go_wp2_with fail
      refine Calls.mono (HF.out wr d vi hB hmem.out hL1.out) ?_
      rintro e w1 ⟨rfl, hb1⟩
      obtain ⟨X, m, rfl⟩ := plsOf hb1
      clear hb1
      cases hp : P d
      · go_wp2_with fail
        go_roundw
        case rel => exact ⟨k + 1, by omega, by go_num, mem_take_succ HT.out hd.out hp, belA⟩
        case measure => simp [intOf]; omega
      · go_wp2_with fail
        go_ret
        exact ⟨by rw [idxI_at HT.out hd.out hp]; rfl, belA⟩
    · have e : k = xs.length := by omega
      subst e
      go_wp2
      go_ret
      exact ⟨by rw [idxI_none (by have := HT.out; rwa [List.take_length] at this)]; rfl, belA⟩
theorem hasSS_any (w : World) (xs : List (List (Int × Int))) (v : Value) (f : FuncId) (caps : Array Value) (P : List (Int × Int) → Bool) (h : Lst (shL shFr) w xs v) (hb : xs.length ≤ 9223372036854775806)
    (eg : ∀ args w, (callFunc f args).run Tryz.prog w = .ok (.enter f args) w)
    (hf : ∀ (W : World) (d : List (Int × Int)) (vi : Value), Below w.heap.size w W → d ∈ xs → Lst shFr W d vi → Calls Tryz.prog f (#[vi] ++ caps) W fun e W' => e = .returned (.bool (P d)) ∧ Below W.heap.size W W') :
    Calls Tryz.prog 135 #[v, .func (.func f) #[] caps] w fun e w' => e = .returned (.bool (anyB P xs)) ∧ Below w.heap.size w w' := by
  obtain ⟨h1, h2, h3⟩ := idxI_any P xs
  have H1 := Lib.hid h1
  clear h1
  have HF := Lib.hid hf
  clear hf
  go_enter Tryz.func135, Tryz.ntmps135
  go_wp2_with (first | (go_at_call 211; refine Calls.mono (idxSS_any _ xs v f caps P h hb eg HF.out) ?_; rintro e w1 ⟨rfl, hb⟩; obtain ⟨X, m, rfl⟩ := plsOf hb; clear hb))
  exact bodyPost_ret (v := .bool (decide (0 ≤ idxI P xs))) (by simp [results, Tryz.results135, go_sem]) rfl ⟨by rw [H1.out], belA⟩
end Go.Proofs.YtekchdgpaemofaaGreat
