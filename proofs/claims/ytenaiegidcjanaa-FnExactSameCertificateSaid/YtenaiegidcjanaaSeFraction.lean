/- slices.Equal at slices of Fraction. -/
import Derived.Test.YtenaiegidcjanaaProg
import Derived.Test.YtenaiegidcjanaaLFraction
import Derived.Test.YtenaiegidcjanaaEq
import Derived.BigGuardPart
import Derived.Deep.RegionHeld3
namespace Go.Proofs.Ytenaiegidcjanaa
open Go.ChangeShapes Go.WideShapes Go.ChangeAt Go.RowKit
set_option linter.unusedVariables false
set_option linter.unusedSimpArgs false
theorem slEqFraction_any (w : World) (xs ys : List (Int × Int)) (v v' : Value) (h : Lst shFr w xs v) (h' : Lst shFr w ys v') (hb : xs.length ≤ 9223372036854775806) :
    Calls Try.prog 64 #[v, v'] w fun e w' => e = .returned (.bool (eqL xs ys)) ∧ Below w.heap.size w w' := by
  obtain ⟨A, cap, rfl, hc, hm, _, hel⟩ := lstFraction h
  obtain ⟨A', cap', rfl, hc', hm', _, hel'⟩ := lstFraction h'
  clear h h'
  have H1 := Lib.hid hel
  have H2 := Lib.hid hel'
  clear hel hel'
  by_cases hl : xs.length = ys.length
  · have hl1 : ((xs.length : Int) != (ys.length : Int)) = false := by simp [hl]
    have HL := Lib.hid hl
    clear hl
    go_enter Try.func64, Try.ntmps64
    go_wp2
    clear hl1
    go_loopw [13] (fun i wr => ∃ (k : Nat), k ≤ xs.length ∧ i = .int .i64 k ∧ xs.take k = ys.take k ∧ Below w.heap.size w wr) (fun i _ => xs.length - (intOf i).toNat)
    case atStart => exact ⟨0, Nat.zero_le _, rfl, rfl, (by (try with_reducible refine bsz ?_); repeat (first | with_reducible exact Below.refl _ _ | ((with_reducible refine bpre ?_); (try simp only [Array.append_assoc]); repeat (first | with_reducible exact Pre.refl _ | with_reducible exact Pre.base _ _ | with_reducible refine Pre.cons _ ?_)) | with_reducible assumption | ((with_reducible refine bsetr ?_); rfl) | with_reducible refine Below.setCell ?_ (by simp <;> omega) _ | with_reducible refine bpl ?_ _ _ | with_reducible refine bal ?_ _ | with_reducible refine bdrew1 ?_ | with_reducible refine bdrew ?_ _))⟩
    case round =>
      obtain ⟨k, hk, rfl, ht, hB⟩ := hrel
      have HT := Lib.hid ht
      clear ht
      by_cases hlt : k < xs.length
      · have hlt2 : k < ys.length := by have := HL.out; omega
        obtain ⟨bl, off, rfl, hel⟩ := H1.out (by omega)
        obtain ⟨bl', off', rfl, hel'⟩ := H2.out (by omega)
        clear H1 H2
        obtain ⟨d, hd, hok, c0, c1⟩ := hel k hlt
        obtain ⟨d', hd', hok', e0, e1⟩ := hel' k (by omega)
        clear hel hel'
        have hd := Lib.hid hd
        have hd' := Lib.hid hd'
        replace c0 := bkeep hB c0
        replace e0 := bkeep hB e0
        replace c1 := bkeep hB c1
        replace e1 := bkeep hB e1
        cases hq : eq2 d.1 d.2 d'.1 d'.2
        · have hne : eqL xs ys = false := eqL_f fun e => by
            rw [e] at hd
            have := hd.out.symm.trans hd'.out
            cases this
            rw [eq2_self] at hq
            cases hq
          go_wp2
          go_region
          go_wp2
          go_ret
          exact ⟨by rw [hne]; rfl, (by (try with_reducible refine bsz ?_); repeat (first | with_reducible exact Below.refl _ _ | ((with_reducible refine bpre ?_); (try simp only [Array.append_assoc]); repeat (first | with_reducible exact Pre.refl _ | with_reducible exact Pre.base _ _ | with_reducible refine Pre.cons _ ?_)) | with_reducible assumption | ((with_reducible refine bsetr ?_); rfl) | with_reducible refine Below.setCell ?_ (by simp <;> omega) _ | with_reducible refine bpl ?_ _ _ | with_reducible refine bal ?_ _ | with_reducible refine bdrew1 ?_ | with_reducible refine bdrew ?_ _))⟩
        · have he : Hid (d = d') := by
            refine Lib.hid ?_
            obtain ⟨a, b⟩ := d
            obtain ⟨a', b'⟩ := d'
            simp only [eq2, decide_eq_true_eq] at hq
            simp [hq]
          go_wp2
          go_region
          go_wp2
          go_roundw
          case rel => exact ⟨k + 1, by omega, by go_num, take_both HT.out hd.out (he.out ▸ hd'.out), (by (try with_reducible refine bsz ?_); repeat (first | with_reducible exact Below.refl _ _ | ((with_reducible refine bpre ?_); (try simp only [Array.append_assoc]); repeat (first | with_reducible exact Pre.refl _ | with_reducible exact Pre.base _ _ | with_reducible refine Pre.cons _ ?_)) | with_reducible assumption | ((with_reducible refine bsetr ?_); rfl) | with_reducible refine Below.setCell ?_ (by simp <;> omega) _ | with_reducible refine bpl ?_ _ _ | with_reducible refine bal ?_ _ | with_reducible refine bdrew1 ?_ | with_reducible refine bdrew ?_ _))⟩
          case measure => simp [intOf]; omega
      · have e : k = xs.length := by omega
        subst e
        have he : eqL xs ys = true := eqL_t (by have := HT.out; rw [List.take_length, HL.out, List.take_length] at this; exact this)
        go_wp2
        go_ret
        exact ⟨by rw [he]; rfl, (by (try with_reducible refine bsz ?_); repeat (first | with_reducible exact Below.refl _ _ | ((with_reducible refine bpre ?_); (try simp only [Array.append_assoc]); repeat (first | with_reducible exact Pre.refl _ | with_reducible exact Pre.base _ _ | with_reducible refine Pre.cons _ ?_)) | with_reducible assumption | ((with_reducible refine bsetr ?_); rfl) | with_reducible refine Below.setCell ?_ (by simp <;> omega) _ | with_reducible refine bpl ?_ _ _ | with_reducible refine bal ?_ _ | with_reducible refine bdrew1 ?_ | with_reducible refine bdrew ?_ _))⟩
  · have hne : eqL xs ys = false := eqL_f fun e => hl (by rw [e])
    have hl1 : ((xs.length : Int) != (ys.length : Int)) = true := by simp; omega
    clear hl
    go_enter Try.func64, Try.ntmps64
    go_wp2
    go_ret
    exact ⟨by rw [hne]; rfl, (by (try with_reducible refine bsz ?_); repeat (first | with_reducible exact Below.refl _ _ | ((with_reducible refine bpre ?_); (try simp only [Array.append_assoc]); repeat (first | with_reducible exact Pre.refl _ | with_reducible exact Pre.base _ _ | with_reducible refine Pre.cons _ ?_)) | with_reducible assumption | ((with_reducible refine bsetr ?_); rfl) | with_reducible refine Below.setCell ?_ (by simp <;> omega) _ | with_reducible refine bpl ?_ _ _ | with_reducible refine bal ?_ _ | with_reducible refine bdrew1 ?_ | with_reducible refine bdrew ?_ _))⟩
end Go.Proofs.Ytenaiegidcjanaa
