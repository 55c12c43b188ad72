/- slices.IndexFunc and slices.ContainsFunc at slices of slices of fractions. -/
import Derived.Test.YtbpamifkfbcloaaProg
import Derived.Test.YtbpamifkfbcloaaNs
import Derived.BigGuardPart
import Derived.Deep.RegionHeld3
import Derived.Shelf.Abstract
namespace Go.Proofs.Ytbpamifkfbcloaa
open Go.ChangeShapes Go.WideShapes Go.ChangeAt Go.RowKit
set_option linter.unusedVariables false
set_option linter.unusedSimpArgs false
attribute [local irreducible] Calls
theorem idxSS_any (w : World) (xs : List (List (Int × Int))) (v : Value) (f : FuncId) (caps : Array Value) (P : List (Int × Int) → Bool) (h : Lst (shL shFr) w xs v) (hb : xs.length ≤ 9223372036854775806)
    (eg : ∀ args w, (callFunc f args).run Try.prog w = .ok (.enter f args) w)
    (hf : ∀ (W : World) (d : List (Int × Int)) (vi : Value), Below w.heap.size w W → d ∈ xs → Lst shFr W d vi → Calls Try.prog f (#[vi] ++ caps) W fun e W' => e = .returned (.bool (P d)) ∧ Below W.heap.size W W') :
    Calls Try.prog 117 #[v, .func (.func f) #[] caps] w fun e w' => e = .returned (.int .i64 (idxI P xs)) ∧ Below w.heap.size w w' := by
  obtain ⟨A, cap, rfl, hc, hm, hel⟩ := lstFrSS h
  clear h
  have H1 := Lib.hid hel
  have HF := Lib.hid hf
  clear hel hf
  go_enter Try.func117, Try.ntmps117
  go_wp2
  go_loopw [8] (fun i wr => ∃ (k : Nat), k ≤ xs.length ∧ i = .int .i64 k ∧ (∀ a ∈ xs.take k, P a = false) ∧ Below w.heap.size w wr) (fun i _ => xs.length - (intOf i).toNat)
  case atStart => exact ⟨0, Nat.zero_le _, rfl, by simp, (by (try with_reducible refine bsz ?_); repeat (first | with_reducible exact Below.refl _ _ | ((with_reducible refine bpre ?_); (try simp only [Array.append_assoc]); repeat (first | with_reducible exact Pre.refl _ | with_reducible exact Pre.base _ _ | with_reducible refine Pre.cons _ ?_)) | with_reducible assumption | ((with_reducible refine bsetr ?_); rfl) | with_reducible refine Below.setCell ?_ (by simp <;> omega) _ | with_reducible refine bpl ?_ _ _ | with_reducible refine bal ?_ _ | with_reducible refine bdrew1 ?_ | with_reducible refine bdrew ?_ _))⟩
  case round =>
    obtain ⟨k, hk, rfl, ht, hB⟩ := hrel
    have HT := Lib.hid ht
    clear ht
    by_cases hlt : k < xs.length
    · obtain ⟨bl, off, rfl, hel⟩ := H1.out (by omega)
      clear H1
      obtain ⟨d, vi, hd, hL, c0⟩ := hel k hlt
      clear hel
      have hmem : Hid (d ∈ xs) := Lib.hid (List.mem_of_getElem? hd)
      have hd := Lib.hid hd
      replace c0 := bkeep hB c0
      have hL1 := Lib.hid (hL.below hB)
      clear hL
      go_wp2_with fail
      refine Calls.mono (HF.out wr d vi hB hmem.out hL1.out) ?_
      rintro e w1 ⟨rfl, hb1⟩
      obtain ⟨X, m, rfl⟩ := plsOf hb1
      clear hb1
      cases hp : P d
      · go_wp2_with fail
        go_roundw
        case rel => exact ⟨k + 1, by omega, by go_num, mem_take_succ HT.out hd.out hp, (by (try with_reducible refine bsz ?_); repeat (first | with_reducible exact Below.refl _ _ | ((with_reducible refine bpre ?_); (try simp only [Array.append_assoc]); repeat (first | with_reducible exact Pre.refl _ | with_reducible exact Pre.base _ _ | with_reducible refine Pre.cons _ ?_)) | with_reducible assumption | ((with_reducible refine bsetr ?_); rfl) | with_reducible refine Below.setCell ?_ (by simp <;> omega) _ | with_reducible refine bpl ?_ _ _ | with_reducible refine bal ?_ _ | with_reducible refine bdrew1 ?_ | with_reducible refine bdrew ?_ _))⟩
        case measure => simp [intOf]; omega
      · go_wp2_with fail
        go_ret
        exact ⟨by rw [idxI_at HT.out hd.out hp]; rfl, (by (try with_reducible refine bsz ?_); repeat (first | with_reducible exact Below.refl _ _ | ((with_reducible refine bpre ?_); (try simp only [Array.append_assoc]); repeat (first | with_reducible exact Pre.refl _ | with_reducible exact Pre.base _ _ | with_reducible refine Pre.cons _ ?_)) | with_reducible assumption | ((with_reducible refine bsetr ?_); rfl) | with_reducible refine Below.setCell ?_ (by simp <;> omega) _ | with_reducible refine bpl ?_ _ _ | with_reducible refine bal ?_ _ | with_reducible refine bdrew1 ?_ | with_reducible refine bdrew ?_ _))⟩
    · have e : k = xs.length := by omega
      subst e
      go_wp2
      go_ret
      exact ⟨by rw [idxI_none (by have := HT.out; rwa [List.take_length] at this)]; rfl, (by (try with_reducible refine bsz ?_); repeat (first | with_reducible exact Below.refl _ _ | ((with_reducible refine bpre ?_); (try simp only [Array.append_assoc]); repeat (first | with_reducible exact Pre.refl _ | with_reducible exact Pre.base _ _ | with_reducible refine Pre.cons _ ?_)) | with_reducible assumption | ((with_reducible refine bsetr ?_); rfl) | with_reducible refine Below.setCell ?_ (by simp <;> omega) _ | with_reducible refine bpl ?_ _ _ | with_reducible refine bal ?_ _ | with_reducible refine bdrew1 ?_ | with_reducible refine bdrew ?_ _))⟩
theorem hasSS_any (w : World) (xs : List (List (Int × Int))) (v : Value) (f : FuncId) (caps : Array Value) (P : List (Int × Int) → Bool) (h : Lst (shL shFr) w xs v) (hb : xs.length ≤ 9223372036854775806)
    (eg : ∀ args w, (callFunc f args).run Try.prog w = .ok (.enter f args) w)
    (hf : ∀ (W : World) (d : List (Int × Int)) (vi : Value), Below w.heap.size w W → d ∈ xs → Lst shFr W d vi → Calls Try.prog f (#[vi] ++ caps) W fun e W' => e = .returned (.bool (P d)) ∧ Below W.heap.size W W') :
    Calls Try.prog 91 #[v, .func (.func f) #[] caps] w fun e w' => e = .returned (.bool (anyB P xs)) ∧ Below w.heap.size w w' := by
  obtain ⟨h1, h2, h3⟩ := idxI_any P xs
  have H1 := Lib.hid h1
  clear h1
  have HF := Lib.hid hf
  clear hf
  go_enter Try.func91, Try.ntmps91
  go_wp2_with (first | (go_at_call 117; refine Calls.mono (idxSS_any _ xs v f caps P h hb eg HF.out) ?_; rintro e w1 ⟨rfl, hb⟩; obtain ⟨X, m, rfl⟩ := plsOf hb; clear hb))
  exact bodyPost_ret (v := .bool (decide (0 ≤ idxI P xs))) (by simp [results, Try.results91, go_sem]) rfl ⟨by rw [H1.out], (by (try with_reducible refine bsz ?_); repeat (first | with_reducible exact Below.refl _ _ | ((with_reducible refine bpre ?_); (try simp only [Array.append_assoc]); repeat (first | with_reducible exact Pre.refl _ | with_reducible exact Pre.base _ _ | with_reducible refine Pre.cons _ ?_)) | with_reducible assumption | ((with_reducible refine bsetr ?_); rfl) | with_reducible refine Below.setCell ?_ (by simp <;> omega) _ | with_reducible refine bpl ?_ _ _ | with_reducible refine bal ?_ _ | with_reducible refine bdrew1 ?_ | with_reducible refine bdrew ?_ _))⟩
end Go.Proofs.Ytbpamifkfbcloaa
