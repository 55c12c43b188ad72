/- The laws' marks in slices of Term. -/
import Derived.Test.YtbpamifkfbcloaaProg
import Derived.Test.YtbpamifkfbcloaaLTerm
import Derived.BigGuardPart
import Derived.Deep.RegionHeld3
namespace Go.Proofs.Ytbpamifkfbcloaa
open Go.ChangeShapes Go.WideShapes Go.ChangeAt Go.RowKit
set_option linter.unusedVariables false
set_option linter.unusedSimpArgs false
attribute [local irreducible] Calls
def mkTerm (k : Int) (i : Nat) : (Int × (Int × Int)) × (Int × Int) := ((k + 5 * i + 0, (k + 5 * i + 1, k + 5 * i + 2)), (k + 5 * i + 3, k + 5 * i + 4))
def mkTermS (k : Int) (n : Nat) : List ((Int × (Int × Int)) × (Int × Int)) := (List.range n).map (mkTerm k)
theorem mkTermS_len (k : Int) (n : Nat) : (mkTermS k n).length = n := by simp [mkTermS]
theorem mkTermS_succ (k : Int) (n : Nat) : (mkTermS k (n + 1)).flatMap encTerm = (mkTermS k n).flatMap encTerm ++ encTerm (mkTerm k n) := by
  simp [mkTermS, List.range_succ, List.flatMap_append]
theorem markTermS_any (w : World) (B : Nat) (xs : List ((Int × (Int × Int)) × (Int × Int))) (v : Value) (F : List Nat) (k : Int) (h : Own shTerm B w xs v F) (hk : 0 ≤ k) (hb : k + 5 * xs.length ≤ 2147483647) :
    Calls Try.prog 42 #[v, .int .i64 k] w fun e w' => e = .returned (.int .i64 (k + 5 * xs.length)) ∧ Own shTerm B w' (mkTermS k xs.length) v F ∧ Chg F w w' := by
  obtain ⟨A, cap, rfl, hc, hm, hcase⟩ := own_flat flatTerm h
  rcases hcase with ⟨rfl, rfl⟩ | ⟨g, cu, t, rfl, rfl, hBg, hg, hcu⟩
  · have hN := Lib.hid h
    clear h
    go_enter Try.func42, Try.ntmps42
    go_wp2
    go_loopw [1, 5] (fun a i wr => a = .int .i64 k ∧ i = .int .i64 0 ∧ wr = w) (fun _ _ _ => 0)
    case atStart => exact ⟨rfl, rfl, rfl⟩
    case round =>
      obtain ⟨rfl, rfl, rfl⟩ := hrel
      go_wp2_with fail
      exact bodyPost_ret (v := .int .i64 k) (by simp [results, Try.results42, go_sem]) rfl ⟨ret_int (by show k = k + _ * (([] : List Nat).length : Int); simp), hN.out, Chg.refl _ _⟩
  · have hlen : ∀ d : (Int × (Int × Int)) × (Int × Int), (encTerm d).length = 5 := fun _ => rfl
    go_enter Try.func42, Try.ntmps42
    go_wp2
    go_loopw [1, 5] (fun a i wr => ∃ (j : Nat), j ≤ xs.length ∧ i = .int .i64 j ∧ a = .int .i64 (k + 5 * j) ∧ Part wr g t cu.size ((mkTermS k j).flatMap encTerm) ∧ Chg [g] w wr) (fun _ i _ => xs.length - (intOf i).toNat)
    case atStart => exact ⟨0, Nat.zero_le _, rfl, by simp, ⟨cu, hg, rfl, rfl⟩, rfl, rfl, rfl, Nat.le_refl _, fun _ _ _ => rfl⟩
    case round =>
      obtain ⟨j, hj, rfl, rfl, hp, hC⟩ := hrel
      by_cases hlt : j < xs.length
      · have hz := hp.lt
        have hsz : xs.length * 5 ≤ cu.size := hcu
        obtain ⟨⟨u0, e0⟩, f0⟩ := hp.cell (p := j * 5) (by omega)
        obtain ⟨⟨u1, e1⟩, f1⟩ := hp.cell (p := j * 5 + 1) (by omega)
        obtain ⟨⟨u2, e2⟩, f2⟩ := hp.cell (p := j * 5 + 2) (by omega)
        obtain ⟨⟨u3, e3⟩, f3⟩ := hp.cell (p := j * 5 + 3) (by omega)
        obtain ⟨⟨u4, e4⟩, f4⟩ := hp.cell (p := j * 5 + 4) (by omega)
        have hp := Lib.hid hp
        have hC := Lib.hid hC
        clear hg hcu
        go_wp2_with fail
        go_roundw
        case rel =>
          have hL : ((mkTermS k j).flatMap encTerm).length = j * 5 := (flatMap_len (n := 5) hlen _).trans (by rw [mkTermS_len])
          have p0 := hp.out
          have l0 := hL
          have p1 := Part.push p0 (p := j * 5) l0.symm (by omega) (.int .i64 (k + 5 * (j : Int)))
          have l1 := len1 l0 (.int .i64 (k + 5 * (j : Int)))
          have p2 := Part.push p1 (p := j * 5 + 1) l1.symm (by omega) (.int .i64 (k + 5 * (j : Int) + 1))
          have l2 := len1 l1 (.int .i64 (k + 5 * (j : Int) + 1))
          have p3 := Part.push p2 (p := j * 5 + 1 + 1) l2.symm (by omega) (.int .u32 (k + 5 * (j : Int) + 1 + 1))
          have l3 := len1 l2 (.int .u32 (k + 5 * (j : Int) + 1 + 1))
          have p4 := Part.push p3 (p := j * 5 + 3) l3.symm (by omega) (.int .i64 (k + 5 * (j : Int) + 1 + 1 + 1))
          have l4 := len1 l3 (.int .i64 (k + 5 * (j : Int) + 1 + 1 + 1))
          have p5 := Part.push p4 (p := j * 5 + 3 + 1) l4.symm (by omega) (.int .i64 (k + 5 * (j : Int) + 1 + 1 + 1 + 1))
          have l5 := len1 l4 (.int .i64 (k + 5 * (j : Int) + 1 + 1 + 1 + 1))
          refine ⟨j + 1, by omega, by go_num, ?_, p5.eq ?_, ?_⟩
          · congr 1; omega
          · rw [mkTermS_succ]; simp [mkTerm]; try omega
          · exact (Chg.set (Chg.set (Chg.set (Chg.set (Chg.set hC.out (by simp) _) (by simp) _) (by simp) _) (by simp) _) (by simp) _)
        case measure => simp [intOf]; omega
      · have e : j = xs.length := by omega
        subst e
        have hok : ∀ d ∈ mkTermS k xs.length, okTerm d := by
          intro d hd
          simp only [mkTermS, List.mem_map, List.mem_range] at hd
          obtain ⟨i, hi, rfl⟩ := hd
          have hi' : (i : Int) < xs.length := by omega
          simp [mkTerm, okTerm, okFlag, okGr, okFr, okI, Lit.wf, IntKind.min, IntKind.max, IntKind.signed, IntKind.bits]
          omega
        have hO := hp.own (s := shTerm) flatTerm hlen (n := cap) (B := B) (Nat.le_trans (Nat.le_of_eq (mkTermS_len k xs.length)) hc) hm (Nat.le_trans (Nat.mul_le_mul_right _ (Nat.le_of_eq (mkTermS_len k xs.length))) hcu) hok hBg
        have hO : Own shTerm B wr (mkTermS k xs.length) (.slice (some ⟨g, 0, none⟩) (mkTermS k xs.length).length cap) [g] := hO
        rw [mkTermS_len] at hO
        have hO := Lib.hid hO
        have hC := Lib.hid hC
        clear hp hg hcu h
        go_wp2_with fail
        exact bodyPost_ret (v := .int .i64 (k + 5 * xs.length)) (by simp [results, Try.results42, go_sem]) rfl ⟨rfl, hO.out, hC.out⟩
theorem heldTermS_any (w : World) (m : Nat) (v : Value) (k : Int) (h : Lst shTerm w (mkTermS k m) v) (hk : 0 ≤ k) (hb : k + 5 * m ≤ 2147483647) :
    Calls Try.prog 43 #[v, .int .i64 k] w fun e w' => e = .returned (.int .i64 (k + 5 * m)) ∧ Below w.heap.size w w' := by
  obtain ⟨A, cap, rfl, hc, hm, _, hel⟩ := lstTerm h
  clear h
  rw [mkTermS_len] at hc hel ⊢
  have H1 := Lib.hid hel
  clear hel
  go_enter Try.func43, Try.ntmps43
  go_wp2
  go_loopw [1, 5] (fun a i wr => ∃ (j : Nat), j ≤ m ∧ i = .int .i64 j ∧ a = .int .i64 (k + 5 * j) ∧ Below w.heap.size w wr) (fun _ i _ => m - (intOf i).toNat)
  case atStart => exact ⟨0, Nat.zero_le _, rfl, by simp, (by (try with_reducible refine bsz ?_); repeat (first | with_reducible exact Below.refl _ _ | ((with_reducible refine bpre ?_); (try simp only [Array.append_assoc]); repeat (first | with_reducible exact Pre.refl _ | with_reducible exact Pre.base _ _ | with_reducible refine Pre.cons _ ?_)) | with_reducible assumption | ((with_reducible refine bsetr ?_); rfl) | with_reducible refine Below.setCell ?_ (by simp <;> omega) _ | with_reducible refine bpl ?_ _ _ | with_reducible refine bal ?_ _ | with_reducible refine bdrew1 ?_ | with_reducible refine bdrew ?_ _))⟩
  case round =>
    obtain ⟨j, hj, rfl, rfl, hB⟩ := hrel
    by_cases hlt : j < m
    · obtain ⟨bl, off, rfl, hel⟩ := H1.out (by omega)
      clear H1
      obtain ⟨d, hd, hok, c0, c1, c2, c3, c4⟩ := hel j hlt
      clear hel
      have he : d = mkTerm k j := by
        have : (mkTermS k m)[j]? = some (mkTerm k j) := by simp [mkTermS, hlt]
        rw [this] at hd; cases hd; rfl
      subst he
      clear hd
      replace c0 := bkeep hB c0
      replace c1 := bkeep hB c1
      replace c2 := bkeep hB c2
      replace c3 := bkeep hB c3
      replace c4 := bkeep hB c4
      simp only [mkTerm] at c0 c1 c2 c3 c4
      go_wp2_with fail
      go_roundw
      case rel => exact ⟨j + 1, by omega, by go_num, by congr 1; omega, (by (try with_reducible refine bsz ?_); repeat (first | with_reducible exact Below.refl _ _ | ((with_reducible refine bpre ?_); (try simp only [Array.append_assoc]); repeat (first | with_reducible exact Pre.refl _ | with_reducible exact Pre.base _ _ | with_reducible refine Pre.cons _ ?_)) | with_reducible assumption | ((with_reducible refine bsetr ?_); rfl) | with_reducible refine Below.setCell ?_ (by simp <;> omega) _ | with_reducible refine bpl ?_ _ _ | with_reducible refine bal ?_ _ | with_reducible refine bdrew1 ?_ | with_reducible refine bdrew ?_ _))⟩
      case measure => simp [intOf]; omega
    · have e : j = m := by omega
      subst e
      go_wp2_with fail
      exact bodyPost_ret (v := .int .i64 (k + 5 * j)) (by simp [results, Try.results43, go_sem]) rfl ⟨rfl, (by (try with_reducible refine bsz ?_); repeat (first | with_reducible exact Below.refl _ _ | ((with_reducible refine bpre ?_); (try simp only [Array.append_assoc]); repeat (first | with_reducible exact Pre.refl _ | with_reducible exact Pre.base _ _ | with_reducible refine Pre.cons _ ?_)) | with_reducible assumption | ((with_reducible refine bsetr ?_); rfl) | with_reducible refine Below.setCell ?_ (by simp <;> omega) _ | with_reducible refine bpl ?_ _ _ | with_reducible refine bal ?_ _ | with_reducible refine bdrew1 ?_ | with_reducible refine bdrew ?_ _))⟩
end Go.Proofs.Ytbpamifkfbcloaa
