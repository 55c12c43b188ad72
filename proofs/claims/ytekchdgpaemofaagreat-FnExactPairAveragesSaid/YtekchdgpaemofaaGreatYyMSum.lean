import Derived.BigGuardPart
import Derived.Deep.RegionHeld3
import Derived.Test.YtekchdgpaemofaaGreatProg
import Derived.Test.YtekchdgpaemofaaGreatYySl
namespace Go.Proofs.YtekchdgpaemofaaGreat
open Go.ChangeShapes Go.WideShapes Go.ChangeAt Go.RowKit
set_option linter.unusedVariables false
set_option linter.unusedSimpArgs false
attribute [local irreducible] Calls
def mkFraction (k : Int) (i : Nat) : Int × Int := (k + 2 * i + 0, k + 2 * i + 1)
def mkFractionS (k : Int) (n : Nat) : List (Int × Int) := (List.range n).map (mkFraction k)
theorem mkFractionS_len (k : Int) (n : Nat) : (mkFractionS k n).length = n := by simp [mkFractionS]
theorem mkFractionS_succ (k : Int) (n : Nat) : (mkFractionS k (n + 1)).flatMap encFr = (mkFractionS k n).flatMap encFr ++ encFr (mkFraction k n) := by
  simp [mkFractionS, List.range_succ, List.flatMap_append]
theorem markFractionS_any (w : World) (B : Nat) (xs : List (Int × Int)) (v : Value) (F : List Nat) (k : Int) (h : Own shFr B w xs v F) (hk : 0 ≤ k) (hb : k + 2 * xs.length ≤ 2147483647) :
    Calls Tryz.prog 51 #[v, .int .i64 k] w fun e w' => e = .returned (.int .i64 (k + 2 * xs.length)) ∧ Own shFr B w' (mkFractionS k xs.length) v F ∧ Chg F w w' := by
  obtain ⟨A, cap, rfl, hc, hm, hcase⟩ := own_flat flatFr h
  rcases hcase with ⟨rfl, rfl⟩ | ⟨g, cu, t, rfl, rfl, hBg, hg, hcu⟩
  · have hN := Lib.hid h
    clear h
    go_enter Tryz.func51, Tryz.ntmps51
    go_wp2
    go_loopw [1, 5] (fun a i wr => a = .int .i64 k ∧ i = .int .i64 0 ∧ wr = w) (fun _ _ _ => 0)
    case atStart => exact ⟨rfl, rfl, rfl⟩
    case round =>
      obtain ⟨rfl, rfl, rfl⟩ := hrel
      go_wp2_with fail
      exact bodyPost_ret (v := .int .i64 k) (by simp [results, Tryz.results51, go_sem]) rfl ⟨ret_int (by show k = k + _ * (([] : List Nat).length : Int); simp), hN.out, Chg.refl _ _⟩
  · have hlen : ∀ d : Int × Int, (encFr d).length = 2 := fun _ => rfl
    go_enter Tryz.func51, Tryz.ntmps51
    go_wp2
    go_loopw [1, 5] (fun a i wr => ∃ (j : Nat), j ≤ xs.length ∧ i = .int .i64 j ∧ a = .int .i64 (k + 2 * j) ∧ Part wr g t cu.size ((mkFractionS k j).flatMap encFr) ∧ Chg [g] w wr) (fun _ i _ => xs.length - (intOf i).toNat)
    case atStart => exact ⟨0, Nat.zero_le _, rfl, by simp, ⟨cu, hg, rfl, rfl⟩, rfl, rfl, rfl, Nat.le_refl _, fun _ _ _ => rfl⟩
    case round =>
      obtain ⟨j, hj, rfl, rfl, hp, hC⟩ := hrel
      by_cases hlt : j < xs.length
      · have hz := hp.lt
        have hsz : xs.length * 2 ≤ cu.size := hcu
        obtain ⟨⟨u0, e0⟩, f0⟩ := hp.cell (p := j * 2) (by omega)
        obtain ⟨⟨u1, e1⟩, f1⟩ := hp.cell (p := j * 2 + 1) (by omega)
        have hp := Lib.hid hp
        have hC := Lib.hid hC
        clear hg hcu
        go_wp2_with fail
        go_roundw
        case rel =>
          have hL : ((mkFractionS k j).flatMap encFr).length = j * 2 := (flatMap_len (n := 2) hlen _).trans (by rw [mkFractionS_len])
          have p0 := hp.out
          have l0 := hL
          have p1 := Part.push p0 (p := j * 2) l0.symm (by omega) (.int .i64 (k + 2 * (j : Int)))
          have l1 := len1 l0 (.int .i64 (k + 2 * (j : Int)))
          have p2 := Part.push p1 (p := j * 2 + 1) l1.symm (by omega) (.int .i64 (k + 2 * (j : Int) + 1))
          have l2 := len1 l1 (.int .i64 (k + 2 * (j : Int) + 1))
          refine ⟨j + 1, by omega, by go_num, ?_, p2.eq ?_, ?_⟩
          · congr 1; omega
          · rw [mkFractionS_succ]; simp [mkFraction]; try omega
          · exact (Chg.set (Chg.set hC.out (by simp) _) (by simp) _)
        case measure => simp [intOf]; omega
      · have e : j = xs.length := by omega
        subst e
        have hok : ∀ d ∈ mkFractionS k xs.length, okFr d := by
          intro d hd
          simp only [mkFractionS, List.mem_map, List.mem_range] at hd
          obtain ⟨i, hi, rfl⟩ := hd
          have hi' : (i : Int) < xs.length := by omega
          simp [mkFraction, okFr, okFlag, okGr, okFr, okI, Lit.wf, IntKind.min, IntKind.max, IntKind.signed, IntKind.bits]
          omega
        have hO := hp.own (s := shFr) flatFr hlen (n := cap) (B := B) (Nat.le_trans (Nat.le_of_eq (mkFractionS_len k xs.length)) hc) hm (Nat.le_trans (Nat.mul_le_mul_right _ (Nat.le_of_eq (mkFractionS_len k xs.length))) hcu) hok hBg
        have hO : Own shFr B wr (mkFractionS k xs.length) (.slice (some ⟨g, 0, none⟩) (mkFractionS k xs.length).length cap) [g] := hO
        rw [mkFractionS_len] at hO
        have hO := Lib.hid hO
        have hC := Lib.hid hC
        clear hp hg hcu h
        go_wp2_with fail
        exact bodyPost_ret (v := .int .i64 (k + 2 * xs.length)) (by simp [results, Tryz.results51, go_sem]) rfl ⟨rfl, hO.out, hC.out⟩
theorem heldFractionS_any (w : World) (m : Nat) (v : Value) (k : Int) (h : Lst shFr w (mkFractionS k m) v) (hk : 0 ≤ k) (hb : k + 2 * m ≤ 2147483647) :
    Calls Tryz.prog 52 #[v, .int .i64 k] w fun e w' => e = .returned (.int .i64 (k + 2 * m)) ∧ Below w.heap.size w w' := by
  obtain ⟨A, cap, rfl, hc, hm, _, hel⟩ := lstFraction h
  clear h
  rw [mkFractionS_len] at hc hel ⊢
  have H1 := Lib.hid hel
  clear hel
  go_enter Tryz.func52, Tryz.ntmps52
  go_wp2
  go_loopw [1, 5] (fun a i wr => ∃ (j : Nat), j ≤ m ∧ i = .int .i64 j ∧ a = .int .i64 (k + 2 * j) ∧ Below w.heap.size w wr) (fun _ i _ => m - (intOf i).toNat)
  case atStart => exact ⟨0, Nat.zero_le _, rfl, by simp, belA⟩
  case round =>
    obtain ⟨j, hj, rfl, rfl, hB⟩ := hrel
    by_cases hlt : j < m
    · obtain ⟨bl, off, rfl, hel⟩ := H1.out (by omega)
      clear H1
      obtain ⟨d, hd, hok, c0, c1⟩ := hel j hlt
      clear hel
      have he : d = mkFraction k j := by
        have : (mkFractionS k m)[j]? = some (mkFraction k j) := by simp [mkFractionS, hlt]
        rw [this] at hd; cases hd; rfl
      subst he
      clear hd
      replace c0 := bkeep hB c0
      replace c1 := bkeep hB c1
      simp only [mkFraction] at c0 c1
      go_wp2_with fail
      go_roundw
      case rel => exact ⟨j + 1, by omega, by go_num, by congr 1; omega, belA⟩
      case measure => simp [intOf]; omega
    · have e : j = m := by omega
      subst e
      go_wp2_with fail
      exact bodyPost_ret (v := .int .i64 (k + 2 * j)) (by simp [results, Tryz.results52, go_sem]) rfl ⟨rfl, belA⟩
end Go.Proofs.YtekchdgpaemofaaGreat

/- The laws' marks in slices of Term. -/
namespace Go.Proofs.YtekchdgpaemofaaGreat
open Go.ChangeShapes Go.WideShapes Go.ChangeAt Go.RowKit
set_option linter.unusedVariables false
set_option linter.unusedSimpArgs false
attribute [local irreducible] Calls
end Go.Proofs.YtekchdgpaemofaaGreat

/- The laws' marks in sums. -/
namespace Go.Proofs.YtekchdgpaemofaaGreat
open Go.ChangeShapes Go.WideShapes Go.ChangeAt Go.RowKit
set_option linter.unusedVariables false
set_option linter.unusedSimpArgs false
attribute [local irreducible] Calls
end Go.Proofs.YtekchdgpaemofaaGreat

/- The laws' marks in slices of Flag. -/
namespace Go.Proofs.YtekchdgpaemofaaGreat
open Go.ChangeShapes Go.WideShapes Go.ChangeAt Go.RowKit
set_option linter.unusedVariables false
set_option linter.unusedSimpArgs false
attribute [local irreducible] Calls
def mkFlag (k : Int) (i : Nat) : Int × (Int × Int) := (k + 3 * i + 0, (k + 3 * i + 1, k + 3 * i + 2))
def mkFlagS (k : Int) (n : Nat) : List (Int × (Int × Int)) := (List.range n).map (mkFlag k)
theorem mkFlagS_len (k : Int) (n : Nat) : (mkFlagS k n).length = n := by simp [mkFlagS]
theorem mkFlagS_succ (k : Int) (n : Nat) : (mkFlagS k (n + 1)).flatMap encFlag = (mkFlagS k n).flatMap encFlag ++ encFlag (mkFlag k n) := by
  simp [mkFlagS, List.range_succ, List.flatMap_append]
theorem markFlagS_any (w : World) (B : Nat) (xs : List (Int × (Int × Int))) (v : Value) (F : List Nat) (k : Int) (h : Own shFlag B w xs v F) (hk : 0 ≤ k) (hb : k + 3 * xs.length ≤ 2147483647) :
    Calls Tryz.prog 19 #[v, .int .i64 k] w fun e w' => e = .returned (.int .i64 (k + 3 * xs.length)) ∧ Own shFlag B w' (mkFlagS k xs.length) v F ∧ Chg F w w' := by
  obtain ⟨A, cap, rfl, hc, hm, hcase⟩ := own_flat flatFlag h
  rcases hcase with ⟨rfl, rfl⟩ | ⟨g, cu, t, rfl, rfl, hBg, hg, hcu⟩
  · have hN := Lib.hid h
    clear h
    go_enter Tryz.func19, Tryz.ntmps19
    go_wp2
    go_loopw [1, 5] (fun a i wr => a = .int .i64 k ∧ i = .int .i64 0 ∧ wr = w) (fun _ _ _ => 0)
    case atStart => exact ⟨rfl, rfl, rfl⟩
    case round =>
      obtain ⟨rfl, rfl, rfl⟩ := hrel
      go_wp2_with fail
      exact bodyPost_ret (v := .int .i64 k) (by simp [results, Tryz.results19, go_sem]) rfl ⟨ret_int (by show k = k + _ * (([] : List Nat).length : Int); simp), hN.out, Chg.refl _ _⟩
  · have hlen : ∀ d : Int × (Int × Int), (encFlag d).length = 3 := fun _ => rfl
    go_enter Tryz.func19, Tryz.ntmps19
    go_wp2
    go_loopw [1, 5] (fun a i wr => ∃ (j : Nat), j ≤ xs.length ∧ i = .int .i64 j ∧ a = .int .i64 (k + 3 * j) ∧ Part wr g t cu.size ((mkFlagS k j).flatMap encFlag) ∧ Chg [g] w wr) (fun _ i _ => xs.length - (intOf i).toNat)
    case atStart => exact ⟨0, Nat.zero_le _, rfl, by simp, ⟨cu, hg, rfl, rfl⟩, rfl, rfl, rfl, Nat.le_refl _, fun _ _ _ => rfl⟩
    case round =>
      obtain ⟨j, hj, rfl, rfl, hp, hC⟩ := hrel
      by_cases hlt : j < xs.length
      · have hz := hp.lt
        have hsz : xs.length * 3 ≤ cu.size := hcu
        obtain ⟨⟨u0, e0⟩, f0⟩ := hp.cell (p := j * 3) (by omega)
        obtain ⟨⟨u1, e1⟩, f1⟩ := hp.cell (p := j * 3 + 1) (by omega)
        obtain ⟨⟨u2, e2⟩, f2⟩ := hp.cell (p := j * 3 + 2) (by omega)
        have hp := Lib.hid hp
        have hC := Lib.hid hC
        clear hg hcu
        go_wp2_with fail
        go_roundw
        case rel =>
          have hL : ((mkFlagS k j).flatMap encFlag).length = j * 3 := (flatMap_len (n := 3) hlen _).trans (by rw [mkFlagS_len])
          have p0 := hp.out
          have l0 := hL
          have p1 := Part.push p0 (p := j * 3) l0.symm (by omega) (.int .i64 (k + 3 * (j : Int)))
          have l1 := len1 l0 (.int .i64 (k + 3 * (j : Int)))
          have p2 := Part.push p1 (p := j * 3 + 1) l1.symm (by omega) (.int .i64 (k + 3 * (j : Int) + 1))
          have l2 := len1 l1 (.int .i64 (k + 3 * (j : Int) + 1))
          have p3 := Part.push p2 (p := j * 3 + 1 + 1) l2.symm (by omega) (.int .u32 (k + 3 * (j : Int) + 1 + 1))
          have l3 := len1 l2 (.int .u32 (k + 3 * (j : Int) + 1 + 1))
          refine ⟨j + 1, by omega, by go_num, ?_, p3.eq ?_, ?_⟩
          · congr 1; omega
          · rw [mkFlagS_succ]; simp [mkFlag]; try omega
          · exact (Chg.set (Chg.set (Chg.set hC.out (by simp) _) (by simp) _) (by simp) _)
        case measure => simp [intOf]; omega
      · have e : j = xs.length := by omega
        subst e
        have hok : ∀ d ∈ mkFlagS k xs.length, okFlag d := by
          intro d hd
          simp only [mkFlagS, List.mem_map, List.mem_range] at hd
          obtain ⟨i, hi, rfl⟩ := hd
          have hi' : (i : Int) < xs.length := by omega
          simp [mkFlag, okFlag, okFlag, okGr, okFr, okI, Lit.wf, IntKind.min, IntKind.max, IntKind.signed, IntKind.bits]
          omega
        have hO := hp.own (s := shFlag) flatFlag hlen (n := cap) (B := B) (Nat.le_trans (Nat.le_of_eq (mkFlagS_len k xs.length)) hc) hm (Nat.le_trans (Nat.mul_le_mul_right _ (Nat.le_of_eq (mkFlagS_len k xs.length))) hcu) hok hBg
        have hO : Own shFlag B wr (mkFlagS k xs.length) (.slice (some ⟨g, 0, none⟩) (mkFlagS k xs.length).length cap) [g] := hO
        rw [mkFlagS_len] at hO
        have hO := Lib.hid hO
        have hC := Lib.hid hC
        clear hp hg hcu h
        go_wp2_with fail
        exact bodyPost_ret (v := .int .i64 (k + 3 * xs.length)) (by simp [results, Tryz.results19, go_sem]) rfl ⟨rfl, hO.out, hC.out⟩
end Go.Proofs.YtekchdgpaemofaaGreat

/- The laws' marks in slices of Graph. -/
namespace Go.Proofs.YtekchdgpaemofaaGreat
open Go.ChangeShapes Go.WideShapes Go.ChangeAt Go.RowKit
set_option linter.unusedVariables false
set_option linter.unusedSimpArgs false
attribute [local irreducible] Calls
end Go.Proofs.YtekchdgpaemofaaGreat

/- The laws' marks in [][]impl.Fraction. -/
namespace Go.Proofs.YtekchdgpaemofaaGreat
open Go.ChangeShapes Go.WideShapes Go.ChangeAt Go.RowKit
set_option linter.unusedVariables false
set_option linter.unusedSimpArgs false
attribute [local irreducible] Calls
def mkFractionSS (k : Int) : List (List (Int × Int)) → List (List (Int × Int))
  | [] => []
  | xs :: r => mkFractionS k xs.length :: mkFractionSS (k + 2 * xs.length) r
theorem mkSS_len (k : Int) (xss : List (List (Int × Int))) : (mkFractionSS k xss).length = xss.length := by
  induction xss generalizing k with
  | nil => rfl
  | cons x r ih => simp [mkFractionSS, ih]
theorem lenSS_cons {α : Type} (x : List α) (r : List (List α)) : lenSS (x :: r) = x.length + lenSS r := by simp [lenSS]
theorem lenSS_take {α : Type} {xss : List (List α)} {j : Nat} {xs : List α} (h : xss[j]? = some xs) : lenSS (xss.take (j + 1)) = lenSS (xss.take j) + xs.length := by
  simp [lenSS, List.take_add_one, h]
theorem lenSS_le {α : Type} (xss : List (List α)) (j : Nat) : lenSS (xss.take j) ≤ lenSS xss := by
  induction xss generalizing j with
  | nil => simp
  | cons x r ih => cases j with
    | zero => simp [lenSS]
    | succ j => rw [List.take_succ_cons, lenSS_cons, lenSS_cons]; have := ih j; omega
theorem mkSS_get (k : Int) {xss : List (List (Int × Int))} {j : Nat} {xs : List (Int × Int)} (h : xss[j]? = some xs) : (mkFractionSS k xss)[j]? = some (mkFractionS (k + 2 * lenSS (xss.take j)) xs.length) := by
  induction xss generalizing k j with
  | nil => simp at h
  | cons x r ih => cases j with
    | zero => simp at h; subst h; simp [mkFractionSS, lenSS]
    | succ j =>
      rw [mkFractionSS, List.getElem?_cons_succ, ih (k + 2 * x.length) (by simpa using h), List.take_succ_cons, lenSS_cons]
      congr 2
      push_cast
      omega
theorem mkSS_set (k : Int) {xss : List (List (Int × Int))} {j : Nat} {xs : List (Int × Int)} (h : xss[j]? = some xs) :
    ((mkFractionSS k xss).take j ++ xss.drop j).set j (mkFractionS (k + 2 * lenSS (xss.take j)) xs.length) = (mkFractionSS k xss).take (j + 1) ++ xss.drop (j + 1) := by
  have hj : j < xss.length := (List.getElem?_eq_some_iff.1 h).1
  have hl : ((mkFractionSS k xss).take j).length = j := by rw [List.length_take, mkSS_len]; omega
  rw [List.set_append, if_neg (by omega), hl, Nat.sub_self, List.drop_eq_getElem_cons hj, List.set_cons_zero, List.take_add_one, mkSS_get k h, Option.toList_some, List.append_assoc]
  rfl
theorem markFractionSS_any (w : World) (B : Nat) (xss : List (List (Int × Int))) (v : Value) (F : List Nat) (k : Int) (h : Own (shL shFr) B w xss v F) (hk : 0 ≤ k) (hb : k + 2 * lenSS xss ≤ 2147483647) (hl : xss.length ≤ 1048576) :
    Calls Tryz.prog 20 #[v, .int .i64 k] w fun e w' => e = .returned (.int .i64 (k + 2 * lenSS xss)) ∧ Own (shL shFr) B w' (mkFractionSS k xss) v F ∧ Chg F w w' := by
  obtain ⟨A, cap, rfl, hc, hm⟩ := formFrSS h.lst
  have hO0 := Lib.hid h
  go_enter Tryz.func20, Tryz.ntmps20
  go_wp2
  go_loopw [1, 5] (fun a i wr => ∃ (j : Nat), j ≤ xss.length ∧ i = .int .i64 j ∧ a = .int .i64 (k + 2 * lenSS (xss.take j)) ∧ Own (shL shFr) B wr ((mkFractionSS k xss).take j ++ xss.drop j) (.slice A xss.length cap) F ∧ Chg F w wr) (fun _ i _ => xss.length - (intOf i).toNat)
  case atStart => exact ⟨0, Nat.zero_le _, rfl, by simp [lenSS], by rw [List.take_zero, List.drop_zero]; exact hO0.out, Chg.refl _ _⟩
  case round =>
    obtain ⟨j, hj, rfl, rfl, hO, hC⟩ := hrel
    clear h hO0
    have hle := lenSS_le xss j
    by_cases hlt : j < xss.length
    · obtain ⟨xs, hd⟩ : ∃ xs, xss[j]? = some xs := ⟨_, List.getElem?_eq_getElem hlt⟩
      have hr : ((mkFractionSS k xss).take j ++ xss.drop j)[j]? = some xs := by
        have hl : ((mkFractionSS k xss).take j).length = j := by rw [List.length_take, mkSS_len]; omega
        rw [List.getElem?_append_right (by omega), hl, Nat.sub_self, List.getElem?_drop, Nat.add_zero, hd]
      have hle2 := lenSS_le xss (j + 1)
      have ht := lenSS_take hd
      obtain ⟨g, cap1, Fi, vi, hv, c0, f0, hOi, hsub, hg, hgF, hback⟩ := hO.rowFr hr
      have hlen : ((mkFractionSS k xss).take j ++ xss.drop j).length = xss.length := by simp [mkSS_len]; omega
      have hA : A = some ⟨g, 0, none⟩ := by injection hv
      subst hA
      have hd := Lib.hid hd
      have hC := Lib.hid hC
      have hback := Lib.hid hback
      clear hO hr hv
      go_wp2_with fail
      refine Calls.mono (markFractionS_any _ B xs vi Fi _ hOi (by omega) (by omega)) ?_
      rintro e w1 ⟨rfl, hO1, hC1⟩
      have hO1 := Lib.hid hO1
      have hC1 := Lib.hid hC1
      go_wp2_with fail
      go_roundw
      case rel =>
        refine ⟨j + 1, by omega, by go_num, ?_, ?_, hC.out.trans (hC1.out.mono hsub)⟩
        · congr 1; omega
        · rw [← mkSS_set k hd.out]
          exact hback.out _ _ hC1.out.2.2.2.2 hO1.out
      case measure => simp [intOf]; omega
    · have e : j = xss.length := by omega
      subst e
      have hO : Own (shL shFr) B wr (mkFractionSS k xss) (.slice A xss.length cap) F := by
        rw [List.drop_length, List.append_nil, List.take_of_length_le (Nat.le_of_eq (mkSS_len k xss))] at hO
        exact hO
      have hO := Lib.hid hO
      have hC := Lib.hid hC
      go_wp2_with fail
      exact bodyPost_ret (v := .int .i64 (k + 2 * lenSS xss)) (by simp [results, Tryz.results20, go_sem]) rfl ⟨rfl, hO.out, hC.out⟩
theorem heldFractionSS_any (w : World) (xss : List (List (Int × Int))) (v : Value) (k : Int) (h : Lst (shL shFr) w (mkFractionSS k xss) v) (hk : 0 ≤ k) (hb : k + 2 * lenSS xss ≤ 2147483647) (hl : xss.length ≤ 1048576) :
    Calls Tryz.prog 26 #[v, .int .i64 k] w fun e w' => e = .returned (.int .i64 (k + 2 * lenSS xss)) ∧ Below w.heap.size w w' := by
  obtain ⟨A, cap, rfl, hc, hm, hel⟩ := lstFrSS h
  clear h
  rw [mkSS_len] at hc hel ⊢
  have H1 := Lib.hid hel
  clear hel
  go_enter Tryz.func26, Tryz.ntmps26
  go_wp2
  go_loopw [1, 5] (fun a i wr => ∃ (j : Nat), j ≤ xss.length ∧ i = .int .i64 j ∧ a = .int .i64 (k + 2 * lenSS (xss.take j)) ∧ Below w.heap.size w wr) (fun _ i _ => xss.length - (intOf i).toNat)
  case atStart => exact ⟨0, Nat.zero_le _, rfl, by simp [lenSS], belA⟩
  case round =>
    obtain ⟨j, hj, rfl, rfl, hB⟩ := hrel
    have hle := lenSS_le xss j
    by_cases hlt : j < xss.length
    · obtain ⟨bl, off, rfl, hel⟩ := H1.out (by omega)
      clear H1
      obtain ⟨xs', vi, hd', hL, c0⟩ := hel j hlt
      clear hel
      obtain ⟨xs, hd⟩ : ∃ xs, xss[j]? = some xs := ⟨_, List.getElem?_eq_getElem hlt⟩
      rw [mkSS_get k hd] at hd'
      cases hd'
      have hle2 := lenSS_le xss (j + 1)
      have ht := lenSS_take hd
      have hd := Lib.hid hd
      replace c0 := bkeep hB c0
      have hL1 := hL.below hB
      clear hL
      go_wp2_with (first | (go_at_call 52; refine Calls.mono (heldFractionS_any _ xs.length vi _ (hL1.below belA) (by omega) (by omega)) ?_; rintro e w1 ⟨rfl, hb⟩; obtain ⟨X, m, rfl⟩ := plsOf hb; clear hb))
      go_roundw
      case rel => exact ⟨j + 1, by omega, by go_num, by congr 1; omega, belA⟩
      case measure => simp [intOf]; omega
    · have e : j = xss.length := by omega
      subst e
      rw [List.take_length]
      go_wp2_with fail
      exact bodyPost_ret (v := .int .i64 (k + 2 * lenSS xss)) (by simp [results, Tryz.results26, go_sem]) rfl ⟨rfl, belA⟩
end Go.Proofs.YtekchdgpaemofaaGreat
