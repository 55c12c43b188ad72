/- Two sums are compared: impl.SameSum, spec.SameSum. -/
import Derived.Test.YtpcjinbbgnmchaaGreatSe
import Derived.Deep.DeepCutAuto
namespace Go.Proofs.YtpcjinbbgnmchaaGreat
open Go.ChangeShapes Go.WideShapes Go.ChangeAt Go.RowKit
set_option linter.unusedVariables false
set_option linter.unusedSimpArgs false
/-- Two sums are the same. -/
def sameS (n e s : Int) (xs : List ((Int × (Int × Int)) × (Int × Int))) (n' e' s' : Int) (ys : List ((Int × (Int × Int)) × (Int × Int))) : Bool := eq2 n e n' e' && (s == s') && eqL xs ys
theorem sameS_any (w : World) (n e s n' e' s' : Int) (xs ys : List ((Int × (Int × Int)) × (Int × Int))) (v v' : Value) (h : Lst shTerm w xs v) (h' : Lst shTerm w ys v') (hb : xs.length ≤ 9223372036854775806) :
    Calls Tryz.prog 37 #[.agg #[.int .i64 n, .int .u32 e, .int .i64 s, v], .agg #[.int .i64 n', .int .u32 e', .int .i64 s', v']] w fun e0 w' => e0 = .returned (.bool (sameS n e s xs n' e' s' ys)) ∧ Below w.heap.size w w' := by
  cases h1 : eq2 n e n' e'
  · have hr : sameS n e s xs n' e' s' ys = false := by simp [sameS, h1]
    go_enter Tryz.func37, Tryz.ntmps37
    go_wp2
    exact bodyPost_ret (v := .bool false) (by simp [results, Tryz.results37, go_sem]) rfl ⟨by rw [hr], belA⟩
  · cases h2 : (s == s')
    · have hr : sameS n e s xs n' e' s' ys = false := by simp [sameS, h2]
      go_enter Tryz.func37, Tryz.ntmps37
      go_wp2
      exact bodyPost_ret (v := .bool false) (by simp [results, Tryz.results37, go_sem]) rfl ⟨by rw [hr], belA⟩
    · have hr : sameS n e s xs n' e' s' ys = eqL xs ys := by simp [sameS, h1, h2]
      go_enter Tryz.func37, Tryz.ntmps37
      go_wp2_with (first | (go_at_call 92; refine Calls.mono (slEqTerm_any _ xs ys v v' (h.below belA) (h'.below belA) hb) ?_; rintro e w1 ⟨rfl, hb⟩; obtain ⟨X, m, rfl⟩ := plsOf hb; clear hb))
      exact bodyPost_ret (v := .bool (eqL xs ys)) (by simp [results, Tryz.results37, go_sem]) rfl ⟨by rw [hr], belA⟩
theorem l05Same_any (w : World) (i o j u : Nat) (n e s n' e' s' : Int) (xs ys : List ((Int × (Int × Int)) × (Int × Int))) (v v' : Value) (h : Lst shTerm w xs v) (h' : Lst shTerm w ys v') (hb : xs.length ≤ 9223372036854775806)
    (c0 : w.cell? ⟨i, o, none⟩ = some (.int .i64 n)) (c1 : w.cell? ⟨i, o + 1, none⟩ = some (.int .u32 e)) (c2 : w.cell? ⟨i, o + 2, none⟩ = some (.int .i64 s)) (c3 : w.cell? ⟨i, o + 3, none⟩ = some v)
    (e0 : w.cell? ⟨j, u, none⟩ = some (.int .i64 n')) (e1 : w.cell? ⟨j, u + 1, none⟩ = some (.int .u32 e')) (e2 : w.cell? ⟨j, u + 2, none⟩ = some (.int .i64 s')) (e3 : w.cell? ⟨j, u + 3, none⟩ = some v') :
    Calls Tryz.prog 31 #[.pointer (some ⟨i, o, none⟩), .pointer (some ⟨j, u, none⟩)] w fun e0 w' => e0 = .returned (.bool (sameS n e s xs n' e' s' ys)) ∧ Below w.heap.size w w' := by
  obtain ⟨A, cap, rfl, hc, hm, _, hel⟩ := lstTerm h
  obtain ⟨A', cap', rfl, hc', hm', _, hel'⟩ := lstTerm h'
  clear h h'
  have H1 := Lib.hid hel
  have H2 := Lib.hid hel'
  clear hel hel'
  cases h1 : eq2 n e n' e'
  · have hr : sameS n e s xs n' e' s' ys = false := by simp [sameS, h1]
    go_enter Tryz.func31, Tryz.ntmps31
    go_wp2
    go_region
    go_wp2
    exact bodyPost_ret (v := .bool false) (by simp [results, Tryz.results31, go_sem]) rfl ⟨by rw [hr], belA⟩
  · cases h2 : (s == s')
    · have hr : sameS n e s xs n' e' s' ys = false := by simp [sameS, h2]
      have h3 : (s != s') = true := by simp [bne, h2]
      go_enter Tryz.func31, Tryz.ntmps31
      go_wp2
      go_region
      go_wp2
      exact bodyPost_ret (v := .bool false) (by simp [results, Tryz.results31, go_sem]) rfl ⟨by rw [hr], belA⟩
    · have hr : sameS n e s xs n' e' s' ys = eqL xs ys := by simp [sameS, h1, h2]
      have h3 : (s != s') = false := by simp [bne, h2]
      by_cases hl : xs.length = ys.length
      · have hl1 : ((xs.length : Int) != (ys.length : Int)) = false := by simp [hl]
        have HL := Lib.hid hl
        clear hl
        go_enter Tryz.func31, Tryz.ntmps31
        go_wp2
        go_region
        go_wp2
        clear hl1 h1 h3
        go_loopw [5] (fun i wr => ∃ (k : Nat), k ≤ xs.length ∧ i = .int .i64 k ∧ xs.take k = ys.take k ∧ Below w.heap.size w wr) (fun i _ => xs.length - (intOf i).toNat)
        case atStart => exact ⟨0, Nat.zero_le _, rfl, rfl, belA⟩
        case round =>
          obtain ⟨k, hk, rfl, ht, hB⟩ := hrel
          have HT := Lib.hid ht
          clear ht
          replace c3 := bkeep hB c3
          replace e3 := bkeep hB e3
          clear c0 c1 c2 e0 e1 e2
          by_cases hlt : k < xs.length
          · have hlt2 : k < ys.length := by have := HL.out; omega
            obtain ⟨bl, off, rfl, hel⟩ := H1.out (by omega)
            obtain ⟨bl', off', rfl, hel'⟩ := H2.out (by omega)
            clear H1 H2
            obtain ⟨d, hd, hok, c0, c1, c2, c3', c4⟩ := hel k hlt
            obtain ⟨d', hd', hok', e0, e1, e2, e3', e4⟩ := hel' k (by omega)
            clear hel hel'
            have hd := Lib.hid hd
            have hd' := Lib.hid hd'
            replace c0 := bkeep hB c0
            replace e0 := bkeep hB e0
            replace c1 := bkeep hB c1
            replace e1 := bkeep hB e1
            replace c2 := bkeep hB c2
            replace e2 := bkeep hB e2
            replace c3' := bkeep hB c3'
            replace e3' := bkeep hB e3'
            replace c4 := bkeep hB c4
            replace e4 := bkeep hB e4
            cases hq : eq5 d.1.1 d.1.2.1 d.1.2.2 d.2.1 d.2.2 d'.1.1 d'.1.2.1 d'.1.2.2 d'.2.1 d'.2.2
            · have hne : eqL xs ys = false := eqL_f fun e => by
                rw [e] at hd
                have := hd.out.symm.trans hd'.out
                cases this
                rw [eq5_self] at hq
                cases hq
              go_wp2
              go_region
              go_wp2
              go_ret
              exact ⟨by rw [hr, hne]; rfl, belA⟩
            · have he : Hid (d = d') := by
                refine Lib.hid ?_
                obtain ⟨⟨a, b, c⟩, p, q⟩ := d
                obtain ⟨⟨a', b', c'⟩, p', q'⟩ := d'
                simp only [eq5, decide_eq_true_eq] at hq
                simp [hq]
              go_wp2
              go_region
              go_wp2
              go_roundw
              case rel => exact ⟨k + 1, by omega, by go_num, take_both HT.out hd.out (he.out ▸ hd'.out), belA⟩
              case measure => simp [intOf]; omega
          · have e : k = xs.length := by omega
            subst e
            have he : eqL xs ys = true := eqL_t (by have := HT.out; rw [List.take_length, HL.out, List.take_length] at this; exact this)
            go_wp2
            go_ret
            exact ⟨by rw [hr, he]; rfl, belA⟩
      · have hne : eqL xs ys = false := eqL_f fun e => hl (by rw [e])
        have hl1 : ((xs.length : Int) != (ys.length : Int)) = true := by simp; omega
        clear hl
        go_enter Tryz.func31, Tryz.ntmps31
        go_wp2
        go_region
        go_wp2
        exact bodyPost_ret (v := .bool false) (by simp [results, Tryz.results31, go_sem]) rfl ⟨by rw [hr, hne], belA⟩
end Go.Proofs.YtpcjinbbgnmchaaGreat
