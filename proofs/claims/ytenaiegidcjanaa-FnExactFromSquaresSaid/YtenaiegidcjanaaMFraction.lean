/- The laws' marks in slices of Fraction. -/
import Derived.Test.YtenaiegidcjanaaProg
import Derived.Test.YtenaiegidcjanaaLFraction
import Derived.BigGuardPart
import Derived.Deep.RegionHeld3
namespace Go.Proofs.Ytenaiegidcjanaa
open Go.ChangeShapes Go.WideShapes Go.ChangeAt Go.RowKit
set_option linter.unusedVariables false
set_option linter.unusedSimpArgs false
attribute [local irreducible] Calls
def mkFraction (k : Int) (i : Nat) : Int × Int := (k + 2 * i + 0, k + 2 * i + 1)
def mkFractionS (k : Int) (n : Nat) : List (Int × Int) := (List.range n).map (mkFraction k)
theorem mkFractionS_len (k : Int) (n : Nat) : (mkFractionS k n).length = n := by simp [mkFractionS]
theorem mkFractionS_succ (k : Int) (n : Nat) : (mkFractionS k (n + 1)).flatMap encFr = (mkFractionS k n).flatMap encFr ++ encFr (mkFraction k n) := by
  simp [mkFractionS, List.range_succ, List.flatMap_append]
theorem markFractionS_any (w : World) (B : Nat) (xs : List (Int × Int)) (v : Value) (F : List Nat) (k : Int) (h : Own shFr B w xs v F) (hk : 0 ≤ k) (hb : k + 2 * xs.length ≤ 2147483647) :
    Calls Try.prog 18 #[v, .int .i64 k] w fun e w' => e = .returned (.int .i64 (k + 2 * xs.length)) ∧ Own shFr B w' (mkFractionS k xs.length) v F ∧ Chg F w w' := by
  obtain ⟨A, cap, rfl, hc, hm, hcase⟩ := own_flat flatFr h
  rcases hcase with ⟨rfl, rfl⟩ | ⟨g, cu, t, rfl, rfl, hBg, hg, hcu⟩
  · have hN := Lib.hid h
    clear h
    go_enter Try.func18, Try.ntmps18
    go_wp2
    go_loopw [1, 5] (fun a i wr => a = .int .i64 k ∧ i = .int .i64 0 ∧ wr = w) (fun _ _ _ => 0)
    case atStart => exact ⟨rfl, rfl, rfl⟩
    case round =>
      obtain ⟨rfl, rfl, rfl⟩ := hrel
      go_wp2_with fail
      exact bodyPost_ret (v := .int .i64 k) (by simp [results, Try.results18, go_sem]) rfl ⟨ret_int (by show k = k + _ * (([] : List Nat).length : Int); simp), hN.out, Chg.refl _ _⟩
  · have hlen : ∀ d : Int × Int, (encFr d).length = 2 := fun _ => rfl
    go_enter Try.func18, Try.ntmps18
    go_wp2
    go_loopw [1, 5] (fun a i wr => ∃ (j : Nat), j ≤ xs.length ∧ i = .int .i64 j ∧ a = .int .i64 (k + 2 * j) ∧ Part wr g t cu.size ((mkFractionS k j).flatMap encFr) ∧ Chg [g] w wr) (fun _ i _ => xs.length - (intOf i).toNat)
    case atStart => exact ⟨0, Nat.zero_le _, rfl, by simp, ⟨cu, hg, rfl, rfl⟩, rfl, rfl, rfl, Nat.le_refl _, fun _ _ _ => rfl⟩
    case round =>
      obtain ⟨j, hj, rfl, rfl, hp, hC⟩ := hrel
      by_cases hlt : j < xs.length
      · have hz := hp.lt
        have hsz : xs.length * 2 ≤ cu.size := hcu
        obtain ⟨⟨u0, e0⟩, f0⟩ := hp.cell (p := j * 2) (by omega)
        obtain ⟨⟨u1, e1⟩, f1⟩ := hp.cell (p := j * 2 + 1) (by omega)
        have hp := Lib.hid hp
        have hC := Lib.hid hC
        clear hg hcu
        go_wp2_with fail
        go_roundw
        case rel =>
          have hL : ((mkFractionS k j).flatMap encFr).length = j * 2 := (flatMap_len (n := 2) hlen _).trans (by rw [mkFractionS_len])
          have p0 := hp.out
          have l0 := hL
          have p1 := Part.push p0 (p := j * 2) l0.symm (by omega) (.int .i64 (k + 2 * (j : Int)))
          have l1 := len1 l0 (.int .i64 (k + 2 * (j : Int)))
          have p2 := Part.push p1 (p := j * 2 + 1) l1.symm (by omega) (.int .i64 (k + 2 * (j : Int) + 1))
          have l2 := len1 l1 (.int .i64 (k + 2 * (j : Int) + 1))
          refine ⟨j + 1, by omega, by go_num, ?_, p2.eq ?_, ?_⟩
          · congr 1; omega
          · rw [mkFractionS_succ]; simp [mkFraction]; try omega
          · exact (Chg.set (Chg.set hC.out (by simp) _) (by simp) _)
        case measure => simp [intOf]; omega
      · have e : j = xs.length := by omega
        subst e
        have hok : ∀ d ∈ mkFractionS k xs.length, okFr d := by
          intro d hd
          simp only [mkFractionS, List.mem_map, List.mem_range] at hd
          obtain ⟨i, hi, rfl⟩ := hd
          have hi' : (i : Int) < xs.length := by omega
          simp [mkFraction, okFr, okFlag, okGr, okFr, okI, Lit.wf, IntKind.min, IntKind.max, IntKind.signed, IntKind.bits]
          omega
        have hO := hp.own (s := shFr) flatFr hlen (n := cap) (B := B) (Nat.le_trans (Nat.le_of_eq (mkFractionS_len k xs.length)) hc) hm (Nat.le_trans (Nat.mul_le_mul_right _ (Nat.le_of_eq (mkFractionS_len k xs.length))) hcu) hok hBg
        have hO : Own shFr B wr (mkFractionS k xs.length) (.slice (some ⟨g, 0, none⟩) (mkFractionS k xs.length).length cap) [g] := hO
        rw [mkFractionS_len] at hO
        have hO := Lib.hid hO
        have hC := Lib.hid hC
        clear hp hg hcu h
        go_wp2_with fail
        exact bodyPost_ret (v := .int .i64 (k + 2 * xs.length)) (by simp [results, Try.results18, go_sem]) rfl ⟨rfl, hO.out, hC.out⟩
theorem heldFractionS_any (w : World) (m : Nat) (v : Value) (k : Int) (h : Lst shFr w (mkFractionS k m) v) (hk : 0 ≤ k) (hb : k + 2 * m ≤ 2147483647) :
    Calls Try.prog 46 #[v, .int .i64 k] w fun e w' => e = .returned (.int .i64 (k + 2 * m)) ∧ Below w.heap.size w w' := by
  obtain ⟨A, cap, rfl, hc, hm, _, hel⟩ := lstFraction h
  clear h
  rw [mkFractionS_len] at hc hel ⊢
  have H1 := Lib.hid hel
  clear hel
  go_enter Try.func46, Try.ntmps46
  go_wp2
  go_loopw [1, 5] (fun a i wr => ∃ (j : Nat), j ≤ m ∧ i = .int .i64 j ∧ a = .int .i64 (k + 2 * j) ∧ Below w.heap.size w wr) (fun _ i _ => m - (intOf i).toNat)
  case atStart => exact ⟨0, Nat.zero_le _, rfl, by simp, (by (try with_reducible refine bsz ?_); repeat (first | with_reducible exact Below.refl _ _ | ((with_reducible refine bpre ?_); (try simp only [Array.append_assoc]); repeat (first | with_reducible exact Pre.refl _ | with_reducible exact Pre.base _ _ | with_reducible refine Pre.cons _ ?_)) | with_reducible assumption | ((with_reducible refine bsetr ?_); rfl) | with_reducible refine Below.setCell ?_ (by simp <;> omega) _ | with_reducible refine bpl ?_ _ _ | with_reducible refine bal ?_ _ | with_reducible refine bdrew1 ?_ | with_reducible refine bdrew ?_ _))⟩
  case round =>
    obtain ⟨j, hj, rfl, rfl, hB⟩ := hrel
    by_cases hlt : j < m
    · obtain ⟨bl, off, rfl, hel⟩ := H1.out (by omega)
      clear H1
      obtain ⟨d, hd, hok, c0, c1⟩ := hel j hlt
      clear hel
      have he : d = mkFraction k j := by
        have : (mkFractionS k m)[j]? = some (mkFraction k j) := by simp [mkFractionS, hlt]
        rw [this] at hd; cases hd; rfl
      subst he
      clear hd
      replace c0 := bkeep hB c0
      replace c1 := bkeep hB c1
      simp only [mkFraction] at c0 c1
      go_wp2_with fail
      go_roundw
      case rel => exact ⟨j + 1, by omega, by go_num, by congr 1; omega, (by (try with_reducible refine bsz ?_); repeat (first | with_reducible exact Below.refl _ _ | ((with_reducible refine bpre ?_); (try simp only [Array.append_assoc]); repeat (first | with_reducible exact Pre.refl _ | with_reducible exact Pre.base _ _ | with_reducible refine Pre.cons _ ?_)) | with_reducible assumption | ((with_reducible refine bsetr ?_); rfl) | with_reducible refine Below.setCell ?_ (by simp <;> omega) _ | with_reducible refine bpl ?_ _ _ | with_reducible refine bal ?_ _ | with_reducible refine bdrew1 ?_ | with_reducible refine bdrew ?_ _))⟩
      case measure => simp [intOf]; omega
    · have e : j = m := by omega
      subst e
      go_wp2_with fail
      exact bodyPost_ret (v := .int .i64 (k + 2 * j)) (by simp [results, Try.results46, go_sem]) rfl ⟨rfl, (by (try with_reducible refine bsz ?_); repeat (first | with_reducible exact Below.refl _ _ | ((with_reducible refine bpre ?_); (try simp only [Array.append_assoc]); repeat (first | with_reducible exact Pre.refl _ | with_reducible exact Pre.base _ _ | with_reducible refine Pre.cons _ ?_)) | with_reducible assumption | ((with_reducible refine bsetr ?_); rfl) | with_reducible refine Below.setCell ?_ (by simp <;> omega) _ | with_reducible refine bpl ?_ _ _ | with_reducible refine bal ?_ _ | with_reducible refine bdrew1 ?_ | with_reducible refine bdrew ?_ _))⟩
end Go.Proofs.Ytenaiegidcjanaa
