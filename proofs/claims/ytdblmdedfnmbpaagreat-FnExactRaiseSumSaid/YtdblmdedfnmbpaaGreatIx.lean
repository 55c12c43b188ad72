/- Several texts in one (IxFlag IxGraph IbGraph IxTerm IxFraction IxSS). -/
import Derived.Test.YtdblmdedfnmbpaaGreatProg
import Derived.Test.YtdblmdedfnmbpaaGreatSl
import Derived.BigGuardPart
import Derived.Deep.RegionHeld3
import Derived.Shelf.Abstract
/- slices.IndexFunc and slices.ContainsFunc at slices of Flag. -/
namespace Go.Proofs.YtdblmdedfnmbpaaGreat
open Go.ChangeShapes Go.WideShapes Go.ChangeAt Go.RowKit
set_option linter.unusedVariables false
set_option linter.unusedSimpArgs false
attribute [local irreducible] Calls
end Go.Proofs.YtdblmdedfnmbpaaGreat

/- slices.IndexFunc and slices.ContainsFunc at slices of Graph. -/
namespace Go.Proofs.YtdblmdedfnmbpaaGreat
open Go.ChangeShapes Go.WideShapes Go.ChangeAt Go.RowKit
set_option linter.unusedVariables false
set_option linter.unusedSimpArgs false
attribute [local irreducible] Calls
theorem idxGraph_any (w : World) (xs : List (Int × Int)) (v : Value) (f : FuncId) (caps : Array Value) (P : Int × Int → Bool) (h : Lst shGr w xs v) (hb : xs.length ≤ 9223372036854775806)
    (eg : ∀ args w, (callFunc f args).run Tryz.prog w = .ok (.enter f args) w)
    (hf : ∀ (W : World) (d : Int × Int), Below w.heap.size w W → d ∈ xs → Calls Tryz.prog f (#[.agg #[.int .i64 d.1, .int .u32 d.2]] ++ caps) W fun e W' => e = .returned (.bool (P d)) ∧ Below W.heap.size W W') :
    Calls Tryz.prog 166 #[v, .func (.func f) #[] caps] w fun e w' => e = .returned (.int .i64 (idxI P xs)) ∧ Below w.heap.size w w' := by
  obtain ⟨A, cap, rfl, hc, hm, hok, hel⟩ := lstGraph h
  clear h hok
  have H1 := Lib.hid hel
  have HF := Lib.hid hf
  clear hel hf
  go_enter Tryz.func166, Tryz.ntmps166
  go_wp2
  go_loopw [8] (fun i wr => ∃ (k : Nat), k ≤ xs.length ∧ i = .int .i64 k ∧ (∀ a ∈ xs.take k, P a = false) ∧ Below w.heap.size w wr) (fun i _ => xs.length - (intOf i).toNat)
  case atStart => exact ⟨0, Nat.zero_le _, rfl, by simp, (by (try with_reducible refine bsz ?_); repeat (first | with_reducible exact Below.refl _ _ | ((with_reducible refine bpre ?_); (try simp only [Array.append_assoc]); repeat (first | with_reducible exact Pre.refl _ | with_reducible exact Pre.base _ _ | with_reducible refine Pre.cons _ ?_)) | with_reducible assumption | ((with_reducible refine bsetr ?_); rfl) | with_reducible refine Below.setCell ?_ (by simp <;> omega) _ | with_reducible refine bpl ?_ _ _ | with_reducible refine bal ?_ _ | with_reducible refine bdrew1 ?_ | with_reducible refine bdrew ?_ _))⟩
  case round =>
    obtain ⟨k, hk, rfl, ht, hB⟩ := hrel
    have HT := Lib.hid ht
    clear ht
    by_cases hlt : k < xs.length
    · obtain ⟨bl, off, rfl, hel⟩ := H1.out (by omega)
      clear H1
      obtain ⟨d, hd, hok, c0, c1⟩ := hel k hlt
      clear hel
      have hmem : Hid (d ∈ xs) := Lib.hid (List.mem_of_getElem? hd)
      have hd := Lib.hid hd
      replace c0 := bkeep hB c0
      replace c1 := bkeep hB c1
      go_wp2_with fail
      refine Calls.mono (HF.out wr d hB hmem.out) ?_
      rintro e w1 ⟨rfl, hb1⟩
      obtain ⟨X, m, rfl⟩ := plsOf hb1
      clear hb1
      cases hp : P d
      · go_wp2_with fail
        go_roundw
        case rel => exact ⟨k + 1, by omega, by go_num, mem_take_succ HT.out hd.out hp, (by (try with_reducible refine bsz ?_); repeat (first | with_reducible exact Below.refl _ _ | ((with_reducible refine bpre ?_); (try simp only [Array.append_assoc]); repeat (first | with_reducible exact Pre.refl _ | with_reducible exact Pre.base _ _ | with_reducible refine Pre.cons _ ?_)) | with_reducible assumption | ((with_reducible refine bsetr ?_); rfl) | with_reducible refine Below.setCell ?_ (by simp <;> omega) _ | with_reducible refine bpl ?_ _ _ | with_reducible refine bal ?_ _ | with_reducible refine bdrew1 ?_ | with_reducible refine bdrew ?_ _))⟩
        case measure => simp [intOf]; omega
      · go_wp2_with fail
        go_ret
        exact ⟨by rw [idxI_at HT.out hd.out hp]; rfl, (by (try with_reducible refine bsz ?_); repeat (first | with_reducible exact Below.refl _ _ | ((with_reducible refine bpre ?_); (try simp only [Array.append_assoc]); repeat (first | with_reducible exact Pre.refl _ | with_reducible exact Pre.base _ _ | with_reducible refine Pre.cons _ ?_)) | with_reducible assumption | ((with_reducible refine bsetr ?_); rfl) | with_reducible refine Below.setCell ?_ (by simp <;> omega) _ | with_reducible refine bpl ?_ _ _ | with_reducible refine bal ?_ _ | with_reducible refine bdrew1 ?_ | with_reducible refine bdrew ?_ _))⟩
    · have e : k = xs.length := by omega
      subst e
      go_wp2
      go_ret
      exact ⟨by rw [idxI_none (by have := HT.out; rwa [List.take_length] at this)]; rfl, (by (try with_reducible refine bsz ?_); repeat (first | with_reducible exact Below.refl _ _ | ((with_reducible refine bpre ?_); (try simp only [Array.append_assoc]); repeat (first | with_reducible exact Pre.refl _ | with_reducible exact Pre.base _ _ | with_reducible refine Pre.cons _ ?_)) | with_reducible assumption | ((with_reducible refine bsetr ?_); rfl) | with_reducible refine Below.setCell ?_ (by simp <;> omega) _ | with_reducible refine bpl ?_ _ _ | with_reducible refine bal ?_ _ | with_reducible refine bdrew1 ?_ | with_reducible refine bdrew ?_ _))⟩
theorem hasGraph_any (w : World) (xs : List (Int × Int)) (v : Value) (f : FuncId) (caps : Array Value) (P : Int × Int → Bool) (h : Lst shGr w xs v) (hb : xs.length ≤ 9223372036854775806)
    (eg : ∀ args w, (callFunc f args).run Tryz.prog w = .ok (.enter f args) w)
    (hf : ∀ (W : World) (d : Int × Int), Below w.heap.size w W → d ∈ xs → Calls Tryz.prog f (#[.agg #[.int .i64 d.1, .int .u32 d.2]] ++ caps) W fun e W' => e = .returned (.bool (P d)) ∧ Below W.heap.size W W') :
    Calls Tryz.prog 151 #[v, .func (.func f) #[] caps] w fun e w' => e = .returned (.bool (anyB P xs)) ∧ Below w.heap.size w w' := by
  obtain ⟨h1, h2, h3⟩ := idxI_any P xs
  have H1 := Lib.hid h1
  clear h1
  have HF := Lib.hid hf
  clear hf
  go_enter Tryz.func151, Tryz.ntmps151
  go_wp2_with (first | (go_at_call 166; refine Calls.mono (idxGraph_any _ xs v f caps P h hb eg HF.out) ?_; rintro e w1 ⟨rfl, hb⟩; obtain ⟨X, m, rfl⟩ := plsOf hb; clear hb))
  exact bodyPost_ret (v := .bool (decide (0 ≤ idxI P xs))) (by simp [results, Tryz.results151, go_sem]) rfl ⟨by rw [H1.out], (by (try with_reducible refine bsz ?_); repeat (first | with_reducible exact Below.refl _ _ | ((with_reducible refine bpre ?_); (try simp only [Array.append_assoc]); repeat (first | with_reducible exact Pre.refl _ | with_reducible exact Pre.base _ _ | with_reducible refine Pre.cons _ ?_)) | with_reducible assumption | ((with_reducible refine bsetr ?_); rfl) | with_reducible refine Below.setCell ?_ (by simp <;> omega) _ | with_reducible refine bpl ?_ _ _ | with_reducible refine bal ?_ _ | with_reducible refine bdrew1 ?_ | with_reducible refine bdrew ?_ _))⟩
end Go.Proofs.YtdblmdedfnmbpaaGreat

/- slices.IndexFunc and slices.ContainsFunc at slices of Graph, the function value with a bound receiver. -/
namespace Go.Proofs.YtdblmdedfnmbpaaGreat
open Go.ChangeShapes Go.WideShapes Go.ChangeAt Go.RowKit
set_option linter.unusedVariables false
set_option linter.unusedSimpArgs false
attribute [local irreducible] Calls
theorem idxGraphB_any (w : World) (xs : List (Int × Int)) (v : Value) (f : FuncId) (b0 : Value) (P : Int × Int → Bool) (h : Lst shGr w xs v) (hb : xs.length ≤ 9223372036854775806)
    (eg : ∀ args w, (callFunc f args).run Tryz.prog w = .ok (.enter f args) w)
    (hf : ∀ (W : World) (d : Int × Int), Below w.heap.size w W → d ∈ xs → Calls Tryz.prog f #[b0, .agg #[.int .i64 d.1, .int .u32 d.2]] W fun e W' => e = .returned (.bool (P d)) ∧ Below W.heap.size W W') :
    Calls Tryz.prog 166 #[v, .func (.func f) #[b0] #[]] w fun e w' => e = .returned (.int .i64 (idxI P xs)) ∧ Below w.heap.size w w' := by
  obtain ⟨A, cap, rfl, hc, hm, hok, hel⟩ := lstGraph h
  clear h hok
  have H1 := Lib.hid hel
  have HF := Lib.hid hf
  clear hel hf
  go_enter Tryz.func166, Tryz.ntmps166
  go_wp2
  go_loopw [8] (fun i wr => ∃ (k : Nat), k ≤ xs.length ∧ i = .int .i64 k ∧ (∀ a ∈ xs.take k, P a = false) ∧ Below w.heap.size w wr) (fun i _ => xs.length - (intOf i).toNat)
  case atStart => exact ⟨0, Nat.zero_le _, rfl, by simp, (by (try with_reducible refine bsz ?_); repeat (first | with_reducible exact Below.refl _ _ | ((with_reducible refine bpre ?_); (try simp only [Array.append_assoc]); repeat (first | with_reducible exact Pre.refl _ | with_reducible exact Pre.base _ _ | with_reducible refine Pre.cons _ ?_)) | with_reducible assumption | ((with_reducible refine bsetr ?_); rfl) | with_reducible refine Below.setCell ?_ (by simp <;> omega) _ | with_reducible refine bpl ?_ _ _ | with_reducible refine bal ?_ _ | with_reducible refine bdrew1 ?_ | with_reducible refine bdrew ?_ _))⟩
  case round =>
    obtain ⟨k, hk, rfl, ht, hB⟩ := hrel
    have HT := Lib.hid ht
    clear ht
    by_cases hlt : k < xs.length
    · obtain ⟨bl, off, rfl, hel⟩ := H1.out (by omega)
      clear H1
      obtain ⟨d, hd, hok, c0, c1⟩ := hel k hlt
      clear hel
      have hmem : Hid (d ∈ xs) := Lib.hid (List.mem_of_getElem? hd)
      have hd := Lib.hid hd
      replace c0 := bkeep hB c0
      replace c1 := bkeep hB c1
      go_wp2_with fail
      refine Calls.mono (HF.out wr d hB hmem.out) ?_
      rintro e w1 ⟨rfl, hb1⟩
      obtain ⟨X, m, rfl⟩ := plsOf hb1
      clear hb1
      cases hp : P d
      · go_wp2_with fail
        go_roundw
        case rel => exact ⟨k + 1, by omega, by go_num, mem_take_succ HT.out hd.out hp, (by (try with_reducible refine bsz ?_); repeat (first | with_reducible exact Below.refl _ _ | ((with_reducible refine bpre ?_); (try simp only [Array.append_assoc]); repeat (first | with_reducible exact Pre.refl _ | with_reducible exact Pre.base _ _ | with_reducible refine Pre.cons _ ?_)) | with_reducible assumption | ((with_reducible refine bsetr ?_); rfl) | with_reducible refine Below.setCell ?_ (by simp <;> omega) _ | with_reducible refine bpl ?_ _ _ | with_reducible refine bal ?_ _ | with_reducible refine bdrew1 ?_ | with_reducible refine bdrew ?_ _))⟩
        case measure => simp [intOf]; omega
      · go_wp2_with fail
        go_ret
        exact ⟨by rw [idxI_at HT.out hd.out hp]; rfl, (by (try with_reducible refine bsz ?_); repeat (first | with_reducible exact Below.refl _ _ | ((with_reducible refine bpre ?_); (try simp only [Array.append_assoc]); repeat (first | with_reducible exact Pre.refl _ | with_reducible exact Pre.base _ _ | with_reducible refine Pre.cons _ ?_)) | with_reducible assumption | ((with_reducible refine bsetr ?_); rfl) | with_reducible refine Below.setCell ?_ (by simp <;> omega) _ | with_reducible refine bpl ?_ _ _ | with_reducible refine bal ?_ _ | with_reducible refine bdrew1 ?_ | with_reducible refine bdrew ?_ _))⟩
    · have e : k = xs.length := by omega
      subst e
      go_wp2
      go_ret
      exact ⟨by rw [idxI_none (by have := HT.out; rwa [List.take_length] at this)]; rfl, (by (try with_reducible refine bsz ?_); repeat (first | with_reducible exact Below.refl _ _ | ((with_reducible refine bpre ?_); (try simp only [Array.append_assoc]); repeat (first | with_reducible exact Pre.refl _ | with_reducible exact Pre.base _ _ | with_reducible refine Pre.cons _ ?_)) | with_reducible assumption | ((with_reducible refine bsetr ?_); rfl) | with_reducible refine Below.setCell ?_ (by simp <;> omega) _ | with_reducible refine bpl ?_ _ _ | with_reducible refine bal ?_ _ | with_reducible refine bdrew1 ?_ | with_reducible refine bdrew ?_ _))⟩
theorem hasGraphB_any (w : World) (xs : List (Int × Int)) (v : Value) (f : FuncId) (b0 : Value) (P : Int × Int → Bool) (h : Lst shGr w xs v) (hb : xs.length ≤ 9223372036854775806)
    (eg : ∀ args w, (callFunc f args).run Tryz.prog w = .ok (.enter f args) w)
    (hf : ∀ (W : World) (d : Int × Int), Below w.heap.size w W → d ∈ xs → Calls Tryz.prog f #[b0, .agg #[.int .i64 d.1, .int .u32 d.2]] W fun e W' => e = .returned (.bool (P d)) ∧ Below W.heap.size W W') :
    Calls Tryz.prog 151 #[v, .func (.func f) #[b0] #[]] w fun e w' => e = .returned (.bool (anyB P xs)) ∧ Below w.heap.size w w' := by
  obtain ⟨h1, h2, h3⟩ := idxI_any P xs
  have H1 := Lib.hid h1
  clear h1
  have HF := Lib.hid hf
  clear hf
  go_enter Tryz.func151, Tryz.ntmps151
  go_wp2_with (first | (go_at_call 166; refine Calls.mono (idxGraphB_any _ xs v f b0 P h hb eg HF.out) ?_; rintro e w1 ⟨rfl, hb⟩; obtain ⟨X, m, rfl⟩ := plsOf hb; clear hb))
  exact bodyPost_ret (v := .bool (decide (0 ≤ idxI P xs))) (by simp [results, Tryz.results151, go_sem]) rfl ⟨by rw [H1.out], (by (try with_reducible refine bsz ?_); repeat (first | with_reducible exact Below.refl _ _ | ((with_reducible refine bpre ?_); (try simp only [Array.append_assoc]); repeat (first | with_reducible exact Pre.refl _ | with_reducible exact Pre.base _ _ | with_reducible refine Pre.cons _ ?_)) | with_reducible assumption | ((with_reducible refine bsetr ?_); rfl) | with_reducible refine Below.setCell ?_ (by simp <;> omega) _ | with_reducible refine bpl ?_ _ _ | with_reducible refine bal ?_ _ | with_reducible refine bdrew1 ?_ | with_reducible refine bdrew ?_ _))⟩
end Go.Proofs.YtdblmdedfnmbpaaGreat

/- slices.IndexFunc and slices.ContainsFunc at slices of Term. -/
namespace Go.Proofs.YtdblmdedfnmbpaaGreat
open Go.ChangeShapes Go.WideShapes Go.ChangeAt Go.RowKit
set_option linter.unusedVariables false
set_option linter.unusedSimpArgs false
attribute [local irreducible] Calls
theorem idxTerm_any (w : World) (xs : List ((Int × (Int × Int)) × (Int × Int))) (v : Value) (f : FuncId) (caps : Array Value) (P : (Int × (Int × Int)) × (Int × Int) → Bool) (h : Lst shTerm w xs v) (hb : xs.length ≤ 9223372036854775806)
    (eg : ∀ args w, (callFunc f args).run Tryz.prog w = .ok (.enter f args) w)
    (hf : ∀ (W : World) (d : (Int × (Int × Int)) × (Int × Int)), Below w.heap.size w W → d ∈ xs → Calls Tryz.prog f (#[.agg #[.int .i64 d.1.1, .int .i64 d.1.2.1, .int .u32 d.1.2.2, .int .i64 d.2.1, .int .i64 d.2.2]] ++ caps) W fun e W' => e = .returned (.bool (P d)) ∧ Below W.heap.size W W') :
    Calls Tryz.prog 136 #[v, .func (.func f) #[] caps] w fun e w' => e = .returned (.int .i64 (idxI P xs)) ∧ Below w.heap.size w w' := by
  obtain ⟨A, cap, rfl, hc, hm, hok, hel⟩ := lstTerm h
  clear h hok
  have H1 := Lib.hid hel
  have HF := Lib.hid hf
  clear hel hf
  go_enter Tryz.func136, Tryz.ntmps136
  go_wp2
  go_loopw [8] (fun i wr => ∃ (k : Nat), k ≤ xs.length ∧ i = .int .i64 k ∧ (∀ a ∈ xs.take k, P a = false) ∧ Below w.heap.size w wr) (fun i _ => xs.length - (intOf i).toNat)
  case atStart => exact ⟨0, Nat.zero_le _, rfl, by simp, (by (try with_reducible refine bsz ?_); repeat (first | with_reducible exact Below.refl _ _ | ((with_reducible refine bpre ?_); (try simp only [Array.append_assoc]); repeat (first | with_reducible exact Pre.refl _ | with_reducible exact Pre.base _ _ | with_reducible refine Pre.cons _ ?_)) | with_reducible assumption | ((with_reducible refine bsetr ?_); rfl) | with_reducible refine Below.setCell ?_ (by simp <;> omega) _ | with_reducible refine bpl ?_ _ _ | with_reducible refine bal ?_ _ | with_reducible refine bdrew1 ?_ | with_reducible refine bdrew ?_ _))⟩
  case round =>
    obtain ⟨k, hk, rfl, ht, hB⟩ := hrel
    have HT := Lib.hid ht
    clear ht
    by_cases hlt : k < xs.length
    · obtain ⟨bl, off, rfl, hel⟩ := H1.out (by omega)
      clear H1
      obtain ⟨d, hd, hok, c0, c1, c2, c3, c4⟩ := hel k hlt
      clear hel
      have hmem : Hid (d ∈ xs) := Lib.hid (List.mem_of_getElem? hd)
      have hd := Lib.hid hd
      replace c0 := bkeep hB c0
      replace c1 := bkeep hB c1
      replace c2 := bkeep hB c2
      replace c3 := bkeep hB c3
      replace c4 := bkeep hB c4
      go_wp2_with fail
      refine Calls.mono (HF.out wr d hB hmem.out) ?_
      rintro e w1 ⟨rfl, hb1⟩
      obtain ⟨X, m, rfl⟩ := plsOf hb1
      clear hb1
      cases hp : P d
      · go_wp2_with fail
        go_roundw
        case rel => exact ⟨k + 1, by omega, by go_num, mem_take_succ HT.out hd.out hp, (by (try with_reducible refine bsz ?_); repeat (first | with_reducible exact Below.refl _ _ | ((with_reducible refine bpre ?_); (try simp only [Array.append_assoc]); repeat (first | with_reducible exact Pre.refl _ | with_reducible exact Pre.base _ _ | with_reducible refine Pre.cons _ ?_)) | with_reducible assumption | ((with_reducible refine bsetr ?_); rfl) | with_reducible refine Below.setCell ?_ (by simp <;> omega) _ | with_reducible refine bpl ?_ _ _ | with_reducible refine bal ?_ _ | with_reducible refine bdrew1 ?_ | with_reducible refine bdrew ?_ _))⟩
        case measure => simp [intOf]; omega
      · go_wp2_with fail
        go_ret
        exact ⟨by rw [idxI_at HT.out hd.out hp]; rfl, (by (try with_reducible refine bsz ?_); repeat (first | with_reducible exact Below.refl _ _ | ((with_reducible refine bpre ?_); (try simp only [Array.append_assoc]); repeat (first | with_reducible exact Pre.refl _ | with_reducible exact Pre.base _ _ | with_reducible refine Pre.cons _ ?_)) | with_reducible assumption | ((with_reducible refine bsetr ?_); rfl) | with_reducible refine Below.setCell ?_ (by simp <;> omega) _ | with_reducible refine bpl ?_ _ _ | with_reducible refine bal ?_ _ | with_reducible refine bdrew1 ?_ | with_reducible refine bdrew ?_ _))⟩
    · have e : k = xs.length := by omega
      subst e
      go_wp2
      go_ret
      exact ⟨by rw [idxI_none (by have := HT.out; rwa [List.take_length] at this)]; rfl, (by (try with_reducible refine bsz ?_); repeat (first | with_reducible exact Below.refl _ _ | ((with_reducible refine bpre ?_); (try simp only [Array.append_assoc]); repeat (first | with_reducible exact Pre.refl _ | with_reducible exact Pre.base _ _ | with_reducible refine Pre.cons _ ?_)) | with_reducible assumption | ((with_reducible refine bsetr ?_); rfl) | with_reducible refine Below.setCell ?_ (by simp <;> omega) _ | with_reducible refine bpl ?_ _ _ | with_reducible refine bal ?_ _ | with_reducible refine bdrew1 ?_ | with_reducible refine bdrew ?_ _))⟩
theorem hasTerm_any (w : World) (xs : List ((Int × (Int × Int)) × (Int × Int))) (v : Value) (f : FuncId) (caps : Array Value) (P : (Int × (Int × Int)) × (Int × Int) → Bool) (h : Lst shTerm w xs v) (hb : xs.length ≤ 9223372036854775806)
    (eg : ∀ args w, (callFunc f args).run Tryz.prog w = .ok (.enter f args) w)
    (hf : ∀ (W : World) (d : (Int × (Int × Int)) × (Int × Int)), Below w.heap.size w W → d ∈ xs → Calls Tryz.prog f (#[.agg #[.int .i64 d.1.1, .int .i64 d.1.2.1, .int .u32 d.1.2.2, .int .i64 d.2.1, .int .i64 d.2.2]] ++ caps) W fun e W' => e = .returned (.bool (P d)) ∧ Below W.heap.size W W') :
    Calls Tryz.prog 86 #[v, .func (.func f) #[] caps] w fun e w' => e = .returned (.bool (anyB P xs)) ∧ Below w.heap.size w w' := by
  obtain ⟨h1, h2, h3⟩ := idxI_any P xs
  have H1 := Lib.hid h1
  clear h1
  have HF := Lib.hid hf
  clear hf
  go_enter Tryz.func86, Tryz.ntmps86
  go_wp2_with (first | (go_at_call 136; refine Calls.mono (idxTerm_any _ xs v f caps P h hb eg HF.out) ?_; rintro e w1 ⟨rfl, hb⟩; obtain ⟨X, m, rfl⟩ := plsOf hb; clear hb))
  exact bodyPost_ret (v := .bool (decide (0 ≤ idxI P xs))) (by simp [results, Tryz.results86, go_sem]) rfl ⟨by rw [H1.out], (by (try with_reducible refine bsz ?_); repeat (first | with_reducible exact Below.refl _ _ | ((with_reducible refine bpre ?_); (try simp only [Array.append_assoc]); repeat (first | with_reducible exact Pre.refl _ | with_reducible exact Pre.base _ _ | with_reducible refine Pre.cons _ ?_)) | with_reducible assumption | ((with_reducible refine bsetr ?_); rfl) | with_reducible refine Below.setCell ?_ (by simp <;> omega) _ | with_reducible refine bpl ?_ _ _ | with_reducible refine bal ?_ _ | with_reducible refine bdrew1 ?_ | with_reducible refine bdrew ?_ _))⟩
end Go.Proofs.YtdblmdedfnmbpaaGreat

/- slices.IndexFunc and slices.ContainsFunc at slices of Fraction. -/
namespace Go.Proofs.YtdblmdedfnmbpaaGreat
open Go.ChangeShapes Go.WideShapes Go.ChangeAt Go.RowKit
set_option linter.unusedVariables false
set_option linter.unusedSimpArgs false
attribute [local irreducible] Calls
end Go.Proofs.YtdblmdedfnmbpaaGreat

/- slices.IndexFunc and slices.ContainsFunc at slices of slices of fractions. -/
namespace Go.Proofs.YtdblmdedfnmbpaaGreat
open Go.ChangeShapes Go.WideShapes Go.ChangeAt Go.RowKit
set_option linter.unusedVariables false
set_option linter.unusedSimpArgs false
attribute [local irreducible] Calls
end Go.Proofs.YtdblmdedfnmbpaaGreat
