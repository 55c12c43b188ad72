/- The laws' marks in [][]impl.Fraction. -/
import Derived.Test.YtenaiegidcjanaaNs
import Derived.Test.YtenaiegidcjanaaMFraction
namespace Go.Proofs.Ytenaiegidcjanaa
open Go.ChangeShapes Go.WideShapes Go.ChangeAt Go.RowKit
set_option linter.unusedVariables false
set_option linter.unusedSimpArgs false
attribute [local irreducible] Calls
def mkFractionSS (k : Int) : List (List (Int × Int)) → List (List (Int × Int))
  | [] => []
  | xs :: r => mkFractionS k xs.length :: mkFractionSS (k + 2 * xs.length) r
theorem mkSS_len (k : Int) (xss : List (List (Int × Int))) : (mkFractionSS k xss).length = xss.length := by
  induction xss generalizing k with
  | nil => rfl
  | cons x r ih => simp [mkFractionSS, ih]
theorem lenSS_cons {α : Type} (x : List α) (r : List (List α)) : lenSS (x :: r) = x.length + lenSS r := by simp [lenSS]
theorem lenSS_take {α : Type} {xss : List (List α)} {j : Nat} {xs : List α} (h : xss[j]? = some xs) : lenSS (xss.take (j + 1)) = lenSS (xss.take j) + xs.length := by
  simp [lenSS, List.take_add_one, h]
theorem lenSS_le {α : Type} (xss : List (List α)) (j : Nat) : lenSS (xss.take j) ≤ lenSS xss := by
  induction xss generalizing j with
  | nil => simp
  | cons x r ih => cases j with
    | zero => simp [lenSS]
    | succ j => rw [List.take_succ_cons, lenSS_cons, lenSS_cons]; have := ih j; omega
theorem mkSS_get (k : Int) {xss : List (List (Int × Int))} {j : Nat} {xs : List (Int × Int)} (h : xss[j]? = some xs) : (mkFractionSS k xss)[j]? = some (mkFractionS (k + 2 * lenSS (xss.take j)) xs.length) := by
  induction xss generalizing k j with
  | nil => simp at h
  | cons x r ih => cases j with
    | zero => simp at h; subst h; simp [mkFractionSS, lenSS]
    | succ j =>
      rw [mkFractionSS, List.getElem?_cons_succ, ih (k + 2 * x.length) (by simpa using h), List.take_succ_cons, lenSS_cons]
      congr 2
      push_cast
      omega
theorem mkSS_set (k : Int) {xss : List (List (Int × Int))} {j : Nat} {xs : List (Int × Int)} (h : xss[j]? = some xs) :
    ((mkFractionSS k xss).take j ++ xss.drop j).set j (mkFractionS (k + 2 * lenSS (xss.take j)) xs.length) = (mkFractionSS k xss).take (j + 1) ++ xss.drop (j + 1) := by
  have hj : j < xss.length := (List.getElem?_eq_some_iff.1 h).1
  have hl : ((mkFractionSS k xss).take j).length = j := by rw [List.length_take, mkSS_len]; omega
  rw [List.set_append, if_neg (by omega), hl, Nat.sub_self, List.drop_eq_getElem_cons hj, List.set_cons_zero, List.take_add_one, mkSS_get k h, Option.toList_some, List.append_assoc]
  rfl
theorem markFractionSS_any (w : World) (B : Nat) (xss : List (List (Int × Int))) (v : Value) (F : List Nat) (k : Int) (h : Own (shL shFr) B w xss v F) (hk : 0 ≤ k) (hb : k + 2 * lenSS xss ≤ 2147483647) (hl : xss.length ≤ 1048576) :
    Calls Try.prog 19 #[v, .int .i64 k] w fun e w' => e = .returned (.int .i64 (k + 2 * lenSS xss)) ∧ Own (shL shFr) B w' (mkFractionSS k xss) v F ∧ Chg F w w' := by
  obtain ⟨A, cap, rfl, hc, hm⟩ := formFrSS h.lst
  have hO0 := Lib.hid h
  go_enter Try.func19, Try.ntmps19
  go_wp2
  go_loopw [1, 5] (fun a i wr => ∃ (j : Nat), j ≤ xss.length ∧ i = .int .i64 j ∧ a = .int .i64 (k + 2 * lenSS (xss.take j)) ∧ Own (shL shFr) B wr ((mkFractionSS k xss).take j ++ xss.drop j) (.slice A xss.length cap) F ∧ Chg F w wr) (fun _ i _ => xss.length - (intOf i).toNat)
  case atStart => exact ⟨0, Nat.zero_le _, rfl, by simp [lenSS], by rw [List.take_zero, List.drop_zero]; exact hO0.out, Chg.refl _ _⟩
  case round =>
    obtain ⟨j, hj, rfl, rfl, hO, hC⟩ := hrel
    clear h hO0
    have hle := lenSS_le xss j
    by_cases hlt : j < xss.length
    · obtain ⟨xs, hd⟩ : ∃ xs, xss[j]? = some xs := ⟨_, List.getElem?_eq_getElem hlt⟩
      have hr : ((mkFractionSS k xss).take j ++ xss.drop j)[j]? = some xs := by
        have hl : ((mkFractionSS k xss).take j).length = j := by rw [List.length_take, mkSS_len]; omega
        rw [List.getElem?_append_right (by omega), hl, Nat.sub_self, List.getElem?_drop, Nat.add_zero, hd]
      have hle2 := lenSS_le xss (j + 1)
      have ht := lenSS_take hd
      obtain ⟨g, cap1, Fi, vi, hv, c0, f0, hOi, hsub, hg, hgF, hback⟩ := hO.rowFr hr
      have hlen : ((mkFractionSS k xss).take j ++ xss.drop j).length = xss.length := by simp [mkSS_len]; omega
      have hA : A = some ⟨g, 0, none⟩ := by injection hv
      subst hA
      have hd := Lib.hid hd
      have hC := Lib.hid hC
      have hback := Lib.hid hback
      clear hO hr hv
      go_wp2_with fail
      refine Calls.mono (markFractionS_any _ B xs vi Fi _ hOi (by omega) (by omega)) ?_
      rintro e w1 ⟨rfl, hO1, hC1⟩
      have hO1 := Lib.hid hO1
      have hC1 := Lib.hid hC1
      go_wp2_with fail
      go_roundw
      case rel =>
        refine ⟨j + 1, by omega, by go_num, ?_, ?_, hC.out.trans (hC1.out.mono hsub)⟩
        · congr 1; omega
        · rw [← mkSS_set k hd.out]
          exact hback.out _ _ hC1.out.2.2.2.2 hO1.out
      case measure => simp [intOf]; omega
    · have e : j = xss.length := by omega
      subst e
      have hO : Own (shL shFr) B wr (mkFractionSS k xss) (.slice A xss.length cap) F := by
        rw [List.drop_length, List.append_nil, List.take_of_length_le (Nat.le_of_eq (mkSS_len k xss))] at hO
        exact hO
      have hO := Lib.hid hO
      have hC := Lib.hid hC
      go_wp2_with fail
      exact bodyPost_ret (v := .int .i64 (k + 2 * lenSS xss)) (by simp [results, Try.results19, go_sem]) rfl ⟨rfl, hO.out, hC.out⟩
theorem heldFractionSS_any (w : World) (xss : List (List (Int × Int))) (v : Value) (k : Int) (h : Lst (shL shFr) w (mkFractionSS k xss) v) (hk : 0 ≤ k) (hb : k + 2 * lenSS xss ≤ 2147483647) (hl : xss.length ≤ 1048576) :
    Calls Try.prog 20 #[v, .int .i64 k] w fun e w' => e = .returned (.int .i64 (k + 2 * lenSS xss)) ∧ Below w.heap.size w w' := by
  obtain ⟨A, cap, rfl, hc, hm, hel⟩ := lstFrSS h
  clear h
  rw [mkSS_len] at hc hel ⊢
  have H1 := Lib.hid hel
  clear hel
  go_enter Try.func20, Try.ntmps20
  go_wp2
  go_loopw [1, 5] (fun a i wr => ∃ (j : Nat), j ≤ xss.length ∧ i = .int .i64 j ∧ a = .int .i64 (k + 2 * lenSS (xss.take j)) ∧ Below w.heap.size w wr) (fun _ i _ => xss.length - (intOf i).toNat)
  case atStart => exact ⟨0, Nat.zero_le _, rfl, by simp [lenSS], (by (try with_reducible refine bsz ?_); repeat (first | with_reducible exact Below.refl _ _ | ((with_reducible refine bpre ?_); (try simp only [Array.append_assoc]); repeat (first | with_reducible exact Pre.refl _ | with_reducible exact Pre.base _ _ | with_reducible refine Pre.cons _ ?_)) | with_reducible assumption | ((with_reducible refine bsetr ?_); rfl) | with_reducible refine Below.setCell ?_ (by simp <;> omega) _ | with_reducible refine bpl ?_ _ _ | with_reducible refine bal ?_ _ | with_reducible refine bdrew1 ?_ | with_reducible refine bdrew ?_ _))⟩
  case round =>
    obtain ⟨j, hj, rfl, rfl, hB⟩ := hrel
    have hle := lenSS_le xss j
    by_cases hlt : j < xss.length
    · obtain ⟨bl, off, rfl, hel⟩ := H1.out (by omega)
      clear H1
      obtain ⟨xs', vi, hd', hL, c0⟩ := hel j hlt
      clear hel
      obtain ⟨xs, hd⟩ : ∃ xs, xss[j]? = some xs := ⟨_, List.getElem?_eq_getElem hlt⟩
      rw [mkSS_get k hd] at hd'
      cases hd'
      have hle2 := lenSS_le xss (j + 1)
      have ht := lenSS_take hd
      have hd := Lib.hid hd
      replace c0 := bkeep hB c0
      have hL1 := hL.below hB
      clear hL
      go_wp2_with (first | (go_at_call 46; refine Calls.mono (heldFractionS_any _ xs.length vi _ (hL1.below (by (try with_reducible refine bsz ?_); repeat (first | with_reducible exact Below.refl _ _ | ((with_reducible refine bpre ?_); (try simp only [Array.append_assoc]); repeat (first | with_reducible exact Pre.refl _ | with_reducible exact Pre.base _ _ | with_reducible refine Pre.cons _ ?_)) | with_reducible assumption | ((with_reducible refine bsetr ?_); rfl) | with_reducible refine Below.setCell ?_ (by simp <;> omega) _ | with_reducible refine bpl ?_ _ _ | with_reducible refine bal ?_ _ | with_reducible refine bdrew1 ?_ | with_reducible refine bdrew ?_ _))) (by omega) (by omega)) ?_; rintro e w1 ⟨rfl, hb⟩; obtain ⟨X, m, rfl⟩ := plsOf hb; clear hb))
      go_roundw
      case rel => exact ⟨j + 1, by omega, by go_num, by congr 1; omega, (by (try with_reducible refine bsz ?_); repeat (first | with_reducible exact Below.refl _ _ | ((with_reducible refine bpre ?_); (try simp only [Array.append_assoc]); repeat (first | with_reducible exact Pre.refl _ | with_reducible exact Pre.base _ _ | with_reducible refine Pre.cons _ ?_)) | with_reducible assumption | ((with_reducible refine bsetr ?_); rfl) | with_reducible refine Below.setCell ?_ (by simp <;> omega) _ | with_reducible refine bpl ?_ _ _ | with_reducible refine bal ?_ _ | with_reducible refine bdrew1 ?_ | with_reducible refine bdrew ?_ _))⟩
      case measure => simp [intOf]; omega
    · have e : j = xss.length := by omega
      subst e
      rw [List.take_length]
      go_wp2_with fail
      exact bodyPost_ret (v := .int .i64 (k + 2 * lenSS xss)) (by simp [results, Try.results20, go_sem]) rfl ⟨rfl, (by (try with_reducible refine bsz ?_); repeat (first | with_reducible exact Below.refl _ _ | ((with_reducible refine bpre ?_); (try simp only [Array.append_assoc]); repeat (first | with_reducible exact Pre.refl _ | with_reducible exact Pre.base _ _ | with_reducible refine Pre.cons _ ?_)) | with_reducible assumption | ((with_reducible refine bsetr ?_); rfl) | with_reducible refine Below.setCell ?_ (by simp <;> omega) _ | with_reducible refine bpl ?_ _ _ | with_reducible refine bal ?_ _ | with_reducible refine bdrew1 ?_ | with_reducible refine bdrew ?_ _))⟩
end Go.Proofs.Ytenaiegidcjanaa
