/- Several texts in one (MFraction MTerm MSum MFlag MGraph MSS). -/
import Derived.Test.YtpcjinbbgnmchaaGreatProg
import Derived.Test.YtpcjinbbgnmchaaGreatSl
import Derived.BigGuardPart
import Derived.Deep.RegionHeld3
/- The laws' marks in slices of Fraction. -/
namespace Go.Proofs.YtpcjinbbgnmchaaGreat
open Go.ChangeShapes Go.WideShapes Go.ChangeAt Go.RowKit
set_option linter.unusedVariables false
set_option linter.unusedSimpArgs false
attribute [local irreducible] Calls
def mkFraction (k : Int) (i : Nat) : Int × Int := (k + 2 * i + 0, k + 2 * i + 1)
def mkFractionS (k : Int) (n : Nat) : List (Int × Int) := (List.range n).map (mkFraction k)
theorem mkFractionS_len (k : Int) (n : Nat) : (mkFractionS k n).length = n := by simp [mkFractionS]
theorem mkFractionS_succ (k : Int) (n : Nat) : (mkFractionS k (n + 1)).flatMap encFr = (mkFractionS k n).flatMap encFr ++ encFr (mkFraction k n) := by
  simp [mkFractionS, List.range_succ, List.flatMap_append]
end Go.Proofs.YtpcjinbbgnmchaaGreat

/- The laws' marks in slices of Term. -/
namespace Go.Proofs.YtpcjinbbgnmchaaGreat
open Go.ChangeShapes Go.WideShapes Go.ChangeAt Go.RowKit
set_option linter.unusedVariables false
set_option linter.unusedSimpArgs false
attribute [local irreducible] Calls
def mkTerm (k : Int) (i : Nat) : (Int × (Int × Int)) × (Int × Int) := ((k + 5 * i + 0, (k + 5 * i + 1, k + 5 * i + 2)), (k + 5 * i + 3, k + 5 * i + 4))
def mkTermS (k : Int) (n : Nat) : List ((Int × (Int × Int)) × (Int × Int)) := (List.range n).map (mkTerm k)
theorem mkTermS_len (k : Int) (n : Nat) : (mkTermS k n).length = n := by simp [mkTermS]
theorem mkTermS_succ (k : Int) (n : Nat) : (mkTermS k (n + 1)).flatMap encTerm = (mkTermS k n).flatMap encTerm ++ encTerm (mkTerm k n) := by
  simp [mkTermS, List.range_succ, List.flatMap_append]
theorem markTermS_any (w : World) (B : Nat) (xs : List ((Int × (Int × Int)) × (Int × Int))) (v : Value) (F : List Nat) (k : Int) (h : Own shTerm B w xs v F) (hk : 0 ≤ k) (hb : k + 5 * xs.length ≤ 2147483647) :
    Calls Tryz.prog 47 #[v, .int .i64 k] w fun e w' => e = .returned (.int .i64 (k + 5 * xs.length)) ∧ Own shTerm B w' (mkTermS k xs.length) v F ∧ Chg F w w' := by
  obtain ⟨A, cap, rfl, hc, hm, hcase⟩ := own_flat flatTerm h
  rcases hcase with ⟨rfl, rfl⟩ | ⟨g, cu, t, rfl, rfl, hBg, hg, hcu⟩
  · have hN := Lib.hid h
    clear h
    go_enter Tryz.func47, Tryz.ntmps47
    go_wp2
    go_loopw [1, 5] (fun a i wr => a = .int .i64 k ∧ i = .int .i64 0 ∧ wr = w) (fun _ _ _ => 0)
    case atStart => exact ⟨rfl, rfl, rfl⟩
    case round =>
      obtain ⟨rfl, rfl, rfl⟩ := hrel
      go_wp2_with fail
      exact bodyPost_ret (v := .int .i64 k) (by simp [results, Tryz.results47, go_sem]) rfl ⟨ret_int (by show k = k + _ * (([] : List Nat).length : Int); simp), hN.out, Chg.refl _ _⟩
  · have hlen : ∀ d : (Int × (Int × Int)) × (Int × Int), (encTerm d).length = 5 := fun _ => rfl
    go_enter Tryz.func47, Tryz.ntmps47
    go_wp2
    go_loopw [1, 5] (fun a i wr => ∃ (j : Nat), j ≤ xs.length ∧ i = .int .i64 j ∧ a = .int .i64 (k + 5 * j) ∧ Part wr g t cu.size ((mkTermS k j).flatMap encTerm) ∧ Chg [g] w wr) (fun _ i _ => xs.length - (intOf i).toNat)
    case atStart => exact ⟨0, Nat.zero_le _, rfl, by simp, ⟨cu, hg, rfl, rfl⟩, rfl, rfl, rfl, Nat.le_refl _, fun _ _ _ => rfl⟩
    case round =>
      obtain ⟨j, hj, rfl, rfl, hp, hC⟩ := hrel
      by_cases hlt : j < xs.length
      · have hz := hp.lt
        have hsz : xs.length * 5 ≤ cu.size := hcu
        obtain ⟨⟨u0, e0⟩, f0⟩ := hp.cell (p := j * 5) (by omega)
        obtain ⟨⟨u1, e1⟩, f1⟩ := hp.cell (p := j * 5 + 1) (by omega)
        obtain ⟨⟨u2, e2⟩, f2⟩ := hp.cell (p := j * 5 + 2) (by omega)
        obtain ⟨⟨u3, e3⟩, f3⟩ := hp.cell (p := j * 5 + 3) (by omega)
        obtain ⟨⟨u4, e4⟩, f4⟩ := hp.cell (p := j * 5 + 4) (by omega)
        have hp := Lib.hid hp
        have hC := Lib.hid hC
        clear hg hcu
        go_wp2_with fail
        go_roundw
        case rel =>
          have hL : ((mkTermS k j).flatMap encTerm).length = j * 5 := (flatMap_len (n := 5) hlen _).trans (by rw [mkTermS_len])
          have p0 := hp.out
          have l0 := hL
          have p1 := Part.push p0 (p := j * 5) l0.symm (by omega) (.int .i64 (k + 5 * (j : Int)))
          have l1 := len1 l0 (.int .i64 (k + 5 * (j : Int)))
          have p2 := Part.push p1 (p := j * 5 + 1) l1.symm (by omega) (.int .i64 (k + 5 * (j : Int) + 1))
          have l2 := len1 l1 (.int .i64 (k + 5 * (j : Int) + 1))
          have p3 := Part.push p2 (p := j * 5 + 1 + 1) l2.symm (by omega) (.int .u32 (k + 5 * (j : Int) + 1 + 1))
          have l3 := len1 l2 (.int .u32 (k + 5 * (j : Int) + 1 + 1))
          have p4 := Part.push p3 (p := j * 5 + 3) l3.symm (by omega) (.int .i64 (k + 5 * (j : Int) + 1 + 1 + 1))
          have l4 := len1 l3 (.int .i64 (k + 5 * (j : Int) + 1 + 1 + 1))
          have p5 := Part.push p4 (p := j * 5 + 3 + 1) l4.symm (by omega) (.int .i64 (k + 5 * (j : Int) + 1 + 1 + 1 + 1))
          have l5 := len1 l4 (.int .i64 (k + 5 * (j : Int) + 1 + 1 + 1 + 1))
          refine ⟨j + 1, by omega, by go_num, ?_, p5.eq ?_, ?_⟩
          · congr 1; omega
          · rw [mkTermS_succ]; simp [mkTerm]; try omega
          · exact (Chg.set (Chg.set (Chg.set (Chg.set (Chg.set hC.out (by simp) _) (by simp) _) (by simp) _) (by simp) _) (by simp) _)
        case measure => simp [intOf]; omega
      · have e : j = xs.length := by omega
        subst e
        have hok : ∀ d ∈ mkTermS k xs.length, okTerm d := by
          intro d hd
          simp only [mkTermS, List.mem_map, List.mem_range] at hd
          obtain ⟨i, hi, rfl⟩ := hd
          have hi' : (i : Int) < xs.length := by omega
          simp [mkTerm, okTerm, okFlag, okGr, okFr, okI, Lit.wf, IntKind.min, IntKind.max, IntKind.signed, IntKind.bits]
          omega
        have hO := hp.own (s := shTerm) flatTerm hlen (n := cap) (B := B) (Nat.le_trans (Nat.le_of_eq (mkTermS_len k xs.length)) hc) hm (Nat.le_trans (Nat.mul_le_mul_right _ (Nat.le_of_eq (mkTermS_len k xs.length))) hcu) hok hBg
        have hO : Own shTerm B wr (mkTermS k xs.length) (.slice (some ⟨g, 0, none⟩) (mkTermS k xs.length).length cap) [g] := hO
        rw [mkTermS_len] at hO
        have hO := Lib.hid hO
        have hC := Lib.hid hC
        clear hp hg hcu h
        go_wp2_with fail
        exact bodyPost_ret (v := .int .i64 (k + 5 * xs.length)) (by simp [results, Tryz.results47, go_sem]) rfl ⟨rfl, hO.out, hC.out⟩
theorem heldTermS_any (w : World) (m : Nat) (v : Value) (k : Int) (h : Lst shTerm w (mkTermS k m) v) (hk : 0 ≤ k) (hb : k + 5 * m ≤ 2147483647) :
    Calls Tryz.prog 48 #[v, .int .i64 k] w fun e w' => e = .returned (.int .i64 (k + 5 * m)) ∧ Below w.heap.size w w' := by
  obtain ⟨A, cap, rfl, hc, hm, _, hel⟩ := lstTerm h
  clear h
  rw [mkTermS_len] at hc hel ⊢
  have H1 := Lib.hid hel
  clear hel
  go_enter Tryz.func48, Tryz.ntmps48
  go_wp2
  go_loopw [1, 5] (fun a i wr => ∃ (j : Nat), j ≤ m ∧ i = .int .i64 j ∧ a = .int .i64 (k + 5 * j) ∧ Below w.heap.size w wr) (fun _ i _ => m - (intOf i).toNat)
  case atStart => exact ⟨0, Nat.zero_le _, rfl, by simp, belA⟩
  case round =>
    obtain ⟨j, hj, rfl, rfl, hB⟩ := hrel
    by_cases hlt : j < m
    · obtain ⟨bl, off, rfl, hel⟩ := H1.out (by omega)
      clear H1
      obtain ⟨d, hd, hok, c0, c1, c2, c3, c4⟩ := hel j hlt
      clear hel
      have he : d = mkTerm k j := by
        have : (mkTermS k m)[j]? = some (mkTerm k j) := by simp [mkTermS, hlt]
        rw [this] at hd; cases hd; rfl
      subst he
      clear hd
      replace c0 := bkeep hB c0
      replace c1 := bkeep hB c1
      replace c2 := bkeep hB c2
      replace c3 := bkeep hB c3
      replace c4 := bkeep hB c4
      simp only [mkTerm] at c0 c1 c2 c3 c4
      go_wp2_with fail
      go_roundw
      case rel => exact ⟨j + 1, by omega, by go_num, by congr 1; omega, belA⟩
      case measure => simp [intOf]; omega
    · have e : j = m := by omega
      subst e
      go_wp2_with fail
      exact bodyPost_ret (v := .int .i64 (k + 5 * j)) (by simp [results, Tryz.results48, go_sem]) rfl ⟨rfl, belA⟩
end Go.Proofs.YtpcjinbbgnmchaaGreat

/- The laws' marks in sums. -/
namespace Go.Proofs.YtpcjinbbgnmchaaGreat
open Go.ChangeShapes Go.WideShapes Go.ChangeAt Go.RowKit
set_option linter.unusedVariables false
set_option linter.unusedSimpArgs false
attribute [local irreducible] Calls
theorem markFlagSum_any (w : World) (B : Nat) (n e s : Int) (xs : List ((Int × (Int × Int)) × (Int × Int))) (v : Value) (F : List Nat) (k : Int) (h : Own shTerm B w xs v F) (hk : 0 ≤ k) (hb : k + 5 * xs.length ≤ 2147483647) :
    Calls Tryz.prog 15 #[.agg #[.int .i64 n, .int .u32 e, .int .i64 s, v], .int .i64 k] w fun e w' => e = .returned (.int .i64 (k + 5 * xs.length)) ∧ Own shTerm B w' (mkTermS k xs.length) v F ∧ Chg F w w' := by
  obtain ⟨A, cap, rfl, _⟩ := formTerm h.lst
  go_enter Tryz.func15, Tryz.ntmps15
  go_wp2_with fail
  refine Calls.mono (markTermS_any _ B xs _ F k (h.below (Nat.le_refl _) belA) hk hb) ?_
  rintro e0 w1 ⟨rfl, hO, hC⟩
  have hO := Lib.hid hO
  have hC := Lib.hid hC
  go_wp2_with fail
  exact bodyPost_ret (v := .int .i64 (k + 5 * xs.length)) (by simp [results, Tryz.results15, go_sem]) rfl ⟨rfl, hO.out, (Chg.of belA F).trans hC.out⟩
theorem heldFlagSum_any (w : World) (n e s : Int) (m0 : Nat) (v : Value) (k : Int) (h : Lst shTerm w (mkTermS k m0) v) (hk : 0 ≤ k) (hb : k + 5 * m0 ≤ 2147483647) :
    Calls Tryz.prog 16 #[.agg #[.int .i64 n, .int .u32 e, .int .i64 s, v], .int .i64 k] w fun e w' => e = .returned (.int .i64 (k + 5 * m0)) ∧ Below w.heap.size w w' := by
  obtain ⟨A, cap, rfl, _⟩ := formTerm h
  rw [mkTermS_len] at h ⊢
  go_enter Tryz.func16, Tryz.ntmps16
  go_wp2_with (first | (go_at_call 48; refine Calls.mono (heldTermS_any _ m0 _ k (h.below belA) hk hb) ?_; rintro e w1 ⟨rfl, hb⟩; obtain ⟨X, m, rfl⟩ := plsOf hb; clear hb))
  exact bodyPost_ret (v := .int .i64 (k + 5 * m0)) (by simp [results, Tryz.results16, go_sem]) rfl ⟨rfl, belA⟩
end Go.Proofs.YtpcjinbbgnmchaaGreat

/- The laws' marks in slices of Flag. -/
namespace Go.Proofs.YtpcjinbbgnmchaaGreat
open Go.ChangeShapes Go.WideShapes Go.ChangeAt Go.RowKit
set_option linter.unusedVariables false
set_option linter.unusedSimpArgs false
attribute [local irreducible] Calls
def mkFlag (k : Int) (i : Nat) : Int × (Int × Int) := (k + 3 * i + 0, (k + 3 * i + 1, k + 3 * i + 2))
def mkFlagS (k : Int) (n : Nat) : List (Int × (Int × Int)) := (List.range n).map (mkFlag k)
theorem mkFlagS_len (k : Int) (n : Nat) : (mkFlagS k n).length = n := by simp [mkFlagS]
theorem mkFlagS_succ (k : Int) (n : Nat) : (mkFlagS k (n + 1)).flatMap encFlag = (mkFlagS k n).flatMap encFlag ++ encFlag (mkFlag k n) := by
  simp [mkFlagS, List.range_succ, List.flatMap_append]
end Go.Proofs.YtpcjinbbgnmchaaGreat

/- The laws' marks in slices of Graph. -/
namespace Go.Proofs.YtpcjinbbgnmchaaGreat
open Go.ChangeShapes Go.WideShapes Go.ChangeAt Go.RowKit
set_option linter.unusedVariables false
set_option linter.unusedSimpArgs false
attribute [local irreducible] Calls
def mkGraph (k : Int) (i : Nat) : Int × Int := (k + 2 * i + 0, k + 2 * i + 1)
def mkGraphS (k : Int) (n : Nat) : List (Int × Int) := (List.range n).map (mkGraph k)
theorem mkGraphS_len (k : Int) (n : Nat) : (mkGraphS k n).length = n := by simp [mkGraphS]
theorem mkGraphS_succ (k : Int) (n : Nat) : (mkGraphS k (n + 1)).flatMap encGr = (mkGraphS k n).flatMap encGr ++ encGr (mkGraph k n) := by
  simp [mkGraphS, List.range_succ, List.flatMap_append]
end Go.Proofs.YtpcjinbbgnmchaaGreat

/- The laws' marks in [][]impl.Fraction. -/
namespace Go.Proofs.YtpcjinbbgnmchaaGreat
open Go.ChangeShapes Go.WideShapes Go.ChangeAt Go.RowKit
set_option linter.unusedVariables false
set_option linter.unusedSimpArgs false
attribute [local irreducible] Calls
def mkFractionSS (k : Int) : List (List (Int × Int)) → List (List (Int × Int))
  | [] => []
  | xs :: r => mkFractionS k xs.length :: mkFractionSS (k + 2 * xs.length) r
theorem mkSS_len (k : Int) (xss : List (List (Int × Int))) : (mkFractionSS k xss).length = xss.length := by
  induction xss generalizing k with
  | nil => rfl
  | cons x r ih => simp [mkFractionSS, ih]
theorem lenSS_cons {α : Type} (x : List α) (r : List (List α)) : lenSS (x :: r) = x.length + lenSS r := by simp [lenSS]
theorem lenSS_take {α : Type} {xss : List (List α)} {j : Nat} {xs : List α} (h : xss[j]? = some xs) : lenSS (xss.take (j + 1)) = lenSS (xss.take j) + xs.length := by
  simp [lenSS, List.take_add_one, h]
theorem lenSS_le {α : Type} (xss : List (List α)) (j : Nat) : lenSS (xss.take j) ≤ lenSS xss := by
  induction xss generalizing j with
  | nil => simp
  | cons x r ih => cases j with
    | zero => simp [lenSS]
    | succ j => rw [List.take_succ_cons, lenSS_cons, lenSS_cons]; have := ih j; omega
theorem mkSS_get (k : Int) {xss : List (List (Int × Int))} {j : Nat} {xs : List (Int × Int)} (h : xss[j]? = some xs) : (mkFractionSS k xss)[j]? = some (mkFractionS (k + 2 * lenSS (xss.take j)) xs.length) := by
  induction xss generalizing k j with
  | nil => simp at h
  | cons x r ih => cases j with
    | zero => simp at h; subst h; simp [mkFractionSS, lenSS]
    | succ j =>
      rw [mkFractionSS, List.getElem?_cons_succ, ih (k + 2 * x.length) (by simpa using h), List.take_succ_cons, lenSS_cons]
      congr 2
      push_cast
      omega
theorem mkSS_set (k : Int) {xss : List (List (Int × Int))} {j : Nat} {xs : List (Int × Int)} (h : xss[j]? = some xs) :
    ((mkFractionSS k xss).take j ++ xss.drop j).set j (mkFractionS (k + 2 * lenSS (xss.take j)) xs.length) = (mkFractionSS k xss).take (j + 1) ++ xss.drop (j + 1) := by
  have hj : j < xss.length := (List.getElem?_eq_some_iff.1 h).1
  have hl : ((mkFractionSS k xss).take j).length = j := by rw [List.length_take, mkSS_len]; omega
  rw [List.set_append, if_neg (by omega), hl, Nat.sub_self, List.drop_eq_getElem_cons hj, List.set_cons_zero, List.take_add_one, mkSS_get k h, Option.toList_some, List.append_assoc]
  rfl
end Go.Proofs.YtpcjinbbgnmchaaGreat
