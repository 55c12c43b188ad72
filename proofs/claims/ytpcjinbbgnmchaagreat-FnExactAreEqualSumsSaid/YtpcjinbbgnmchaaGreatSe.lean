/- Several texts in one (SeTerm SeGraph SeFraction SeFlag Sg SgFlag). -/
import Derived.Test.YtpcjinbbgnmchaaGreatProg
import Derived.Test.YtpcjinbbgnmchaaGreatSl
import Derived.BigGuardPart
import Derived.Deep.RegionHeld3
/- slices.Equal at slices of Term. -/
namespace Go.Proofs.YtpcjinbbgnmchaaGreat
open Go.ChangeShapes Go.WideShapes Go.ChangeAt Go.RowKit
set_option linter.unusedVariables false
set_option linter.unusedSimpArgs false
theorem slEqTerm_any (w : World) (xs ys : List ((Int × (Int × Int)) × (Int × Int))) (v v' : Value) (h : Lst shTerm w xs v) (h' : Lst shTerm w ys v') (hb : xs.length ≤ 9223372036854775806) :
    Calls Tryz.prog 92 #[v, v'] w fun e w' => e = .returned (.bool (eqL xs ys)) ∧ Below w.heap.size w w' := by
  obtain ⟨A, cap, rfl, hc, hm, _, hel⟩ := lstTerm h
  obtain ⟨A', cap', rfl, hc', hm', _, hel'⟩ := lstTerm h'
  clear h h'
  have H1 := Lib.hid hel
  have H2 := Lib.hid hel'
  clear hel hel'
  by_cases hl : xs.length = ys.length
  · have hl1 : ((xs.length : Int) != (ys.length : Int)) = false := by simp [hl]
    have HL := Lib.hid hl
    clear hl
    go_enter Tryz.func92, Tryz.ntmps92
    go_wp2
    clear hl1
    go_loopw [13] (fun i wr => ∃ (k : Nat), k ≤ xs.length ∧ i = .int .i64 k ∧ xs.take k = ys.take k ∧ Below w.heap.size w wr) (fun i _ => xs.length - (intOf i).toNat)
    case atStart => exact ⟨0, Nat.zero_le _, rfl, rfl, belA⟩
    case round =>
      obtain ⟨k, hk, rfl, ht, hB⟩ := hrel
      have HT := Lib.hid ht
      clear ht
      by_cases hlt : k < xs.length
      · have hlt2 : k < ys.length := by have := HL.out; omega
        obtain ⟨bl, off, rfl, hel⟩ := H1.out (by omega)
        obtain ⟨bl', off', rfl, hel'⟩ := H2.out (by omega)
        clear H1 H2
        obtain ⟨d, hd, hok, c0, c1, c2, c3, c4⟩ := hel k hlt
        obtain ⟨d', hd', hok', e0, e1, e2, e3, e4⟩ := hel' k (by omega)
        clear hel hel'
        have hd := Lib.hid hd
        have hd' := Lib.hid hd'
        replace c0 := bkeep hB c0
        replace e0 := bkeep hB e0
        replace c1 := bkeep hB c1
        replace e1 := bkeep hB e1
        replace c2 := bkeep hB c2
        replace e2 := bkeep hB e2
        replace c3 := bkeep hB c3
        replace e3 := bkeep hB e3
        replace c4 := bkeep hB c4
        replace e4 := bkeep hB e4
        cases hq : eq5 d.1.1 d.1.2.1 d.1.2.2 d.2.1 d.2.2 d'.1.1 d'.1.2.1 d'.1.2.2 d'.2.1 d'.2.2
        · have hne : eqL xs ys = false := eqL_f fun e => by
            rw [e] at hd
            have := hd.out.symm.trans hd'.out
            cases this
            rw [eq5_self] at hq
            cases hq
          go_wp2
          go_region
          go_wp2
          go_ret
          exact ⟨by rw [hne]; rfl, belA⟩
        · have he : Hid (d = d') := by
            refine Lib.hid ?_
            obtain ⟨⟨a, b, c⟩, p, q⟩ := d
            obtain ⟨⟨a', b', c'⟩, p', q'⟩ := d'
            simp only [eq5, decide_eq_true_eq] at hq
            simp [hq]
          go_wp2
          go_region
          go_wp2
          go_roundw
          case rel => exact ⟨k + 1, by omega, by go_num, take_both HT.out hd.out (he.out ▸ hd'.out), belA⟩
          case measure => simp [intOf]; omega
      · have e : k = xs.length := by omega
        subst e
        have he : eqL xs ys = true := eqL_t (by have := HT.out; rw [List.take_length, HL.out, List.take_length] at this; exact this)
        go_wp2
        go_ret
        exact ⟨by rw [he]; rfl, belA⟩
  · have hne : eqL xs ys = false := eqL_f fun e => hl (by rw [e])
    have hl1 : ((xs.length : Int) != (ys.length : Int)) = true := by simp; omega
    clear hl
    go_enter Tryz.func92, Tryz.ntmps92
    go_wp2
    go_ret
    exact ⟨by rw [hne]; rfl, belA⟩
end Go.Proofs.YtpcjinbbgnmchaaGreat

/- slices.Equal at slices of Graph. -/
namespace Go.Proofs.YtpcjinbbgnmchaaGreat
open Go.ChangeShapes Go.WideShapes Go.ChangeAt Go.RowKit
set_option linter.unusedVariables false
set_option linter.unusedSimpArgs false
end Go.Proofs.YtpcjinbbgnmchaaGreat

/- slices.Equal at slices of Fraction. -/
namespace Go.Proofs.YtpcjinbbgnmchaaGreat
open Go.ChangeShapes Go.WideShapes Go.ChangeAt Go.RowKit
set_option linter.unusedVariables false
set_option linter.unusedSimpArgs false
end Go.Proofs.YtpcjinbbgnmchaaGreat

/- slices.Equal at slices of Flag. -/
namespace Go.Proofs.YtpcjinbbgnmchaaGreat
open Go.ChangeShapes Go.WideShapes Go.ChangeAt Go.RowKit
set_option linter.unusedVariables false
set_option linter.unusedSimpArgs false
end Go.Proofs.YtpcjinbbgnmchaaGreat

/- spec.l06SameGraphs. -/
namespace Go.Proofs.YtpcjinbbgnmchaaGreat
open Go.ChangeShapes Go.WideShapes Go.ChangeAt Go.RowKit
set_option linter.unusedVariables false
set_option linter.unusedSimpArgs false
end Go.Proofs.YtpcjinbbgnmchaaGreat

/- spec.l06SameFlags. -/
namespace Go.Proofs.YtpcjinbbgnmchaaGreat
open Go.ChangeShapes Go.WideShapes Go.ChangeAt Go.RowKit
set_option linter.unusedVariables false
set_option linter.unusedSimpArgs false
end Go.Proofs.YtpcjinbbgnmchaaGreat
