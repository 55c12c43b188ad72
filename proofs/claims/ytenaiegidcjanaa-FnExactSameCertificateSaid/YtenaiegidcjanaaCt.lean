/- Matrices, blocks, certificates are compared: impl and spec. -/
import Derived.Test.YtenaiegidcjanaaBk
import Derived.Test.YtenaiegidcjanaaSeFraction
import Derived.Test.YtenaiegidcjanaaSeFlag
import Derived.Test.YtenaiegidcjanaaSgFlag
import Derived.Test.YtenaiegidcjanaaRg
import Derived.Shelf.Abstract
namespace Go.Proofs.Ytenaiegidcjanaa
open Go.ChangeShapes Go.WideShapes Go.ChangeAt Go.RowKit
set_option linter.unusedVariables false
set_option linter.unusedSimpArgs false
attribute [local irreducible] Calls
theorem eqL_at {α : Type} [DecidableEq α] {xs ys : List α} {k : Nat} {a b : α} (h : xs[k]? = some a) (h' : ys[k]? = some b) (hn : a ≠ b) : eqL xs ys = false := eqL_f fun e => by
  subst e
  rw [h] at h'
  cases h'
  exact hn rfl
theorem eqL_len {α : Type} [DecidableEq α] {xs ys : List α} (h : xs.length ≠ ys.length) : eqL xs ys = false := eqL_f fun e => h (by rw [e])
theorem take_all {α : Type} {xs ys : List α} (hl : xs.length = ys.length) (h : xs.take xs.length = ys.take xs.length) : xs = ys := by
  rw [List.take_length, hl, List.take_length] at h; exact h
theorem eqL_false {α : Type} [DecidableEq α] {xs ys : List α} (h : eqL xs ys = false) : xs ≠ ys := by simpa [eqL] using h
theorem eqL_true {α : Type} [DecidableEq α] {xs ys : List α} (h : eqL xs ys = true) : xs = ys := by simpa [eqL] using h
theorem eqfSS_any (w : World) (xs ys : List (List (Int × Int))) (v v' : Value) (f : FuncId) (caps : Array Value) (h : Lst (shL shFr) w xs v) (h' : Lst (shL shFr) w ys v') (hb : xs.length ≤ 1048576)
    (eg : ∀ args w, (callFunc f args).run Try.prog w = .ok (.enter f args) w) (hf : ∀ (W : World) (a b : List (Int × Int)) (va vb : Value), a ∈ xs → Lst shFr W a va → Lst shFr W b vb → Calls Try.prog f (#[va, vb] ++ caps) W fun e W' => e = .returned (.bool (eqL a b)) ∧ Below W.heap.size W W') :
    Calls Try.prog 63 #[v, v', .func (.func f) #[] caps] w fun e w' => e = .returned (.bool (eqL xs ys)) ∧ Below w.heap.size w w' := by
  obtain ⟨A0, cap0, rfl, hc0, hm0, hel0⟩ := lstFrSS h
  obtain ⟨A1, cap1, rfl, hc1, hm1, hel1⟩ := lstFrSS h'
  clear h h'
  have H1 := Lib.hid hel0
  have H2 := Lib.hid hel1
  have HF := Lib.hid hf
  clear hel0 hel1 hf
  by_cases hl : xs.length = ys.length
  · have hl1 : ((xs.length : Int) != (ys.length : Int)) = false := by simp [hl]
    have HL := Lib.hid hl
    clear hl
    go_enter Try.func63, Try.ntmps63
    go_wp2_with fail
    clear hl1
    go_loopw [17] (fun i wr => ∃ (k : Nat), k ≤ xs.length ∧ i = .int .i64 k ∧ xs.take k = ys.take k ∧ Below w.heap.size w wr) (fun i _ => xs.length - (intOf i).toNat)
    case atStart => exact ⟨0, Nat.zero_le _, rfl, rfl, (by (try with_reducible refine bsz ?_); repeat (first | with_reducible exact Below.refl _ _ | ((with_reducible refine bpre ?_); (try simp only [Array.append_assoc]); repeat (first | with_reducible exact Pre.refl _ | with_reducible exact Pre.base _ _ | with_reducible refine Pre.cons _ ?_)) | with_reducible assumption | ((with_reducible refine bsetr ?_); rfl) | with_reducible refine Below.setCell ?_ (by simp <;> omega) _ | with_reducible refine bpl ?_ _ _ | with_reducible refine bal ?_ _ | with_reducible refine bdrew1 ?_ | with_reducible refine bdrew ?_ _))⟩
    case round =>
      obtain ⟨k, hk, rfl, ht, hB⟩ := hrel
      have HT := Lib.hid ht
      clear ht
      by_cases hlt : k < xs.length
      · have hlt2 : k < ys.length := by have := HL.out; omega
        obtain ⟨bl, off, rfl, hel⟩ := H1.out (by omega)
        obtain ⟨bl', off', rfl, hel'⟩ := H2.out (by omega)
        clear H1 H2
        obtain ⟨a, va, hd, hL, c0⟩ := hel k hlt
        obtain ⟨b, vb, hd', hL', e0⟩ := hel' k hlt2
        clear hel hel'
        have hmem := Lib.hid (List.mem_of_getElem? hd)
        have hd := Lib.hid hd
        have hd' := Lib.hid hd'
        replace c0 := bkeep hB c0
        replace e0 := bkeep hB e0
        have hL1 := Lib.hid (hL.below hB)
        have hL2 := Lib.hid (hL'.below hB)
        clear hL hL'
        go_wp2_with fail
        refine Calls.mono (HF.out wr a b va vb hmem.out hL1.out hL2.out) ?_
        rintro e w1 ⟨rfl, hb1⟩
        obtain ⟨X, m, rfl⟩ := plsOf hb1
        clear hb1
        cases hp : eqL a b
        · have hr := Lib.hid (eqL_at hd.out hd'.out (eqL_false hp))
          go_wp2_with fail
          go_ret
          exact ⟨by rw [hr.out]; rfl, (by (try with_reducible refine bsz ?_); repeat (first | with_reducible exact Below.refl _ _ | ((with_reducible refine bpre ?_); (try simp only [Array.append_assoc]); repeat (first | with_reducible exact Pre.refl _ | with_reducible exact Pre.base _ _ | with_reducible refine Pre.cons _ ?_)) | with_reducible assumption | ((with_reducible refine bsetr ?_); rfl) | with_reducible refine Below.setCell ?_ (by simp <;> omega) _ | with_reducible refine bpl ?_ _ _ | with_reducible refine bal ?_ _ | with_reducible refine bdrew1 ?_ | with_reducible refine bdrew ?_ _))⟩
        · have hab := Lib.hid (eqL_true hp)
          go_wp2_with fail
          go_roundw
          case rel => exact ⟨k + 1, by omega, by go_num, take_both HT.out hd.out (hab.out ▸ hd'.out), (by (try with_reducible refine bsz ?_); repeat (first | with_reducible exact Below.refl _ _ | ((with_reducible refine bpre ?_); (try simp only [Array.append_assoc]); repeat (first | with_reducible exact Pre.refl _ | with_reducible exact Pre.base _ _ | with_reducible refine Pre.cons _ ?_)) | with_reducible assumption | ((with_reducible refine bsetr ?_); rfl) | with_reducible refine Below.setCell ?_ (by simp <;> omega) _ | with_reducible refine bpl ?_ _ _ | with_reducible refine bal ?_ _ | with_reducible refine bdrew1 ?_ | with_reducible refine bdrew ?_ _))⟩
          case measure => simp [intOf]; omega
      · have e : k = xs.length := by omega
        subst e
        have hr := Lib.hid (eqL_t (take_all HL.out HT.out))
        go_wp2_with fail
        go_ret
        exact ⟨by rw [hr.out]; rfl, (by (try with_reducible refine bsz ?_); repeat (first | with_reducible exact Below.refl _ _ | ((with_reducible refine bpre ?_); (try simp only [Array.append_assoc]); repeat (first | with_reducible exact Pre.refl _ | with_reducible exact Pre.base _ _ | with_reducible refine Pre.cons _ ?_)) | with_reducible assumption | ((with_reducible refine bsetr ?_); rfl) | with_reducible refine Below.setCell ?_ (by simp <;> omega) _ | with_reducible refine bpl ?_ _ _ | with_reducible refine bal ?_ _ | with_reducible refine bdrew1 ?_ | with_reducible refine bdrew ?_ _))⟩
  · have hl1 : ((xs.length : Int) != (ys.length : Int)) = true := by simp; omega
    have hr := Lib.hid (eqL_len hl)
    clear hl
    go_enter Try.func63, Try.ntmps63
    go_wp2_with fail
    go_ret
    exact ⟨by rw [hr.out]; rfl, (by (try with_reducible refine bsz ?_); repeat (first | with_reducible exact Below.refl _ _ | ((with_reducible refine bpre ?_); (try simp only [Array.append_assoc]); repeat (first | with_reducible exact Pre.refl _ | with_reducible exact Pre.base _ _ | with_reducible refine Pre.cons _ ?_)) | with_reducible assumption | ((with_reducible refine bsetr ?_); rfl) | with_reducible refine Below.setCell ?_ (by simp <;> omega) _ | with_reducible refine bpl ?_ _ _ | with_reducible refine bal ?_ _ | with_reducible refine bdrew1 ?_ | with_reducible refine bdrew ?_ _))⟩
theorem SameMatrix_any (w : World) (xs ys : List (List (Int × Int))) (v v' : Value) (h : Lst (shL shFr) w xs v) (h' : Lst (shL shFr) w ys v') (hb : xs.length + lenSS xs ≤ 1048576) :
    Calls Try.prog 50 #[v, v'] w fun e w' => e = .returned (.bool (eqL xs ys)) ∧ Below w.heap.size w w' := by
  have eg : ∀ args w, (callFunc 64 args).run Try.prog w = .ok (.enter 64 args) w := enters_of Try.func64 (by kernel_rfl) rfl
  go_enter Try.func50, Try.ntmps50
  go_wp2_with (first | (go_at_call 63; refine Calls.mono (eqfSS_any _ xs ys v v' 64 #[] (h.below (by (try with_reducible refine bsz ?_); repeat (first | with_reducible exact Below.refl _ _ | ((with_reducible refine bpre ?_); (try simp only [Array.append_assoc]); repeat (first | with_reducible exact Pre.refl _ | with_reducible exact Pre.base _ _ | with_reducible refine Pre.cons _ ?_)) | with_reducible assumption | ((with_reducible refine bsetr ?_); rfl) | with_reducible refine Below.setCell ?_ (by simp <;> omega) _ | with_reducible refine bpl ?_ _ _ | with_reducible refine bal ?_ _ | with_reducible refine bdrew1 ?_ | with_reducible refine bdrew ?_ _))) (h'.below (by (try with_reducible refine bsz ?_); repeat (first | with_reducible exact Below.refl _ _ | ((with_reducible refine bpre ?_); (try simp only [Array.append_assoc]); repeat (first | with_reducible exact Pre.refl _ | with_reducible exact Pre.base _ _ | with_reducible refine Pre.cons _ ?_)) | with_reducible assumption | ((with_reducible refine bsetr ?_); rfl) | with_reducible refine Below.setCell ?_ (by simp <;> omega) _ | with_reducible refine bpl ?_ _ _ | with_reducible refine bal ?_ _ | with_reducible refine bdrew1 ?_ | with_reducible refine bdrew ?_ _))) (by omega) eg (fun W a b va vb ha h1 h2 => slEqFraction_any W a b va vb h1 h2 (by have := lenSS_mem ha; omega))) ?_; rintro e w1 ⟨rfl, hb⟩; obtain ⟨X, m, rfl⟩ := plsOf hb; clear hb))
  exact bodyPost_ret (v := .bool (eqL xs ys)) (by simp [results, Try.results50, go_sem]) rfl ⟨rfl, (by (try with_reducible refine bsz ?_); repeat (first | with_reducible exact Below.refl _ _ | ((with_reducible refine bpre ?_); (try simp only [Array.append_assoc]); repeat (first | with_reducible exact Pre.refl _ | with_reducible exact Pre.base _ _ | with_reducible refine Pre.cons _ ?_)) | with_reducible assumption | ((with_reducible refine bsetr ?_); rfl) | with_reducible refine Below.setCell ?_ (by simp <;> omega) _ | with_reducible refine bpl ?_ _ _ | with_reducible refine bal ?_ _ | with_reducible refine bdrew1 ?_ | with_reducible refine bdrew ?_ _))⟩
theorem eqfBk_any (w : World) (xs ys : List Blk) (v v' : Value) (f : FuncId) (caps : Array Value) (h : Lst shBlock w xs v) (h' : Lst shBlock w ys v') (hb : xs.length ≤ 1048576)
    (eg : ∀ args w, (callFunc f args).run Try.prog w = .ok (.enter f args) w) (hf : ∀ (W : World) (a b : Blk) (va vb ua ub : Value), a ∈ xs → Lst shFlag W a.1 va → Lst (shL shFr) W a.2 vb → Lst shFlag W b.1 ua → Lst (shL shFr) W b.2 ub → Calls Try.prog f (#[.agg #[va, vb], .agg #[ua, ub]] ++ caps) W fun e W' => e = .returned (.bool (eqL a.1 b.1 && eqL a.2 b.2)) ∧ Below W.heap.size W W') :
    Calls Try.prog 25 #[v, v', .func (.func f) #[] caps] w fun e w' => e = .returned (.bool (eqL xs ys)) ∧ Below w.heap.size w w' := by
  obtain ⟨A0, cap0, rfl, hc0, hm0, hel0⟩ := lstBlock h
  obtain ⟨A1, cap1, rfl, hc1, hm1, hel1⟩ := lstBlock h'
  clear h h'
  have H1 := Lib.hid hel0
  have H2 := Lib.hid hel1
  have HF := Lib.hid hf
  clear hel0 hel1 hf
  by_cases hl : xs.length = ys.length
  · have hl1 : ((xs.length : Int) != (ys.length : Int)) = false := by simp [hl]
    have HL := Lib.hid hl
    clear hl
    go_enter Try.func25, Try.ntmps25
    go_wp2_with fail
    clear hl1
    go_loopw [17] (fun i wr => ∃ (k : Nat), k ≤ xs.length ∧ i = .int .i64 k ∧ xs.take k = ys.take k ∧ Below w.heap.size w wr) (fun i _ => xs.length - (intOf i).toNat)
    case atStart => exact ⟨0, Nat.zero_le _, rfl, rfl, (by (try with_reducible refine bsz ?_); repeat (first | with_reducible exact Below.refl _ _ | ((with_reducible refine bpre ?_); (try simp only [Array.append_assoc]); repeat (first | with_reducible exact Pre.refl _ | with_reducible exact Pre.base _ _ | with_reducible refine Pre.cons _ ?_)) | with_reducible assumption | ((with_reducible refine bsetr ?_); rfl) | with_reducible refine Below.setCell ?_ (by simp <;> omega) _ | with_reducible refine bpl ?_ _ _ | with_reducible refine bal ?_ _ | with_reducible refine bdrew1 ?_ | with_reducible refine bdrew ?_ _))⟩
    case round =>
      obtain ⟨k, hk, rfl, ht, hB⟩ := hrel
      have HT := Lib.hid ht
      clear ht
      by_cases hlt : k < xs.length
      · have hlt2 : k < ys.length := by have := HL.out; omega
        obtain ⟨bl, off, rfl, hel⟩ := H1.out (by omega)
        obtain ⟨bl', off', rfl, hel'⟩ := H2.out (by omega)
        clear H1 H2
        obtain ⟨a, va, vb, hd, hL, hM, c0, c1⟩ := hel k hlt
        obtain ⟨b, ua, ub, hd', hL', hM', e0, e1⟩ := hel' k hlt2
        obtain ⟨Aa, ca, rfl, _, _⟩ := formFlag hL
        obtain ⟨Ab, cb, rfl, _, _⟩ := formFrSS hM
        obtain ⟨Ac, cc, rfl, _, _⟩ := formFlag hL'
        obtain ⟨Ad, cd, rfl, _, _⟩ := formFrSS hM'
        clear hel hel'
        have hmem := Lib.hid (List.mem_of_getElem? hd)
        have hd := Lib.hid hd
        have hd' := Lib.hid hd'
        replace c0 := bkeep hB c0
        replace e0 := bkeep hB e0
        replace c1 := bkeep hB c1
        replace e1 := bkeep hB e1
        have z1 : bl < wr.heap.size := World.block_lt_of_cell? _ _ c0
        have z2 : bl' < wr.heap.size := World.block_lt_of_cell? _ _ e0
        have hL1 := Lib.hid (hL.below hB)
        have hL2 := Lib.hid (hL'.below hB)
        have hM1 := Lib.hid (hM.below hB)
        have hM2 := Lib.hid (hM'.below hB)
        clear hL hL' hM hM'
        go_wp2_with fail
        refine Calls.mono (HF.out _ a b _ _ _ _ hmem.out (hL1.out.below (by (try with_reducible refine bsz ?_); repeat (first | with_reducible exact Below.refl _ _ | ((with_reducible refine bpre ?_); (try simp only [Array.append_assoc]); repeat (first | with_reducible exact Pre.refl _ | with_reducible exact Pre.base _ _ | with_reducible refine Pre.cons _ ?_)) | with_reducible assumption | ((with_reducible refine bsetr ?_); rfl) | with_reducible refine Below.setCell ?_ (by simp <;> omega) _ | with_reducible refine bpl ?_ _ _ | with_reducible refine bal ?_ _ | with_reducible refine bdrew1 ?_ | with_reducible refine bdrew ?_ _))) (hM1.out.below (by (try with_reducible refine bsz ?_); repeat (first | with_reducible exact Below.refl _ _ | ((with_reducible refine bpre ?_); (try simp only [Array.append_assoc]); repeat (first | with_reducible exact Pre.refl _ | with_reducible exact Pre.base _ _ | with_reducible refine Pre.cons _ ?_)) | with_reducible assumption | ((with_reducible refine bsetr ?_); rfl) | with_reducible refine Below.setCell ?_ (by simp <;> omega) _ | with_reducible refine bpl ?_ _ _ | with_reducible refine bal ?_ _ | with_reducible refine bdrew1 ?_ | with_reducible refine bdrew ?_ _))) (hL2.out.below (by (try with_reducible refine bsz ?_); repeat (first | with_reducible exact Below.refl _ _ | ((with_reducible refine bpre ?_); (try simp only [Array.append_assoc]); repeat (first | with_reducible exact Pre.refl _ | with_reducible exact Pre.base _ _ | with_reducible refine Pre.cons _ ?_)) | with_reducible assumption | ((with_reducible refine bsetr ?_); rfl) | with_reducible refine Below.setCell ?_ (by simp <;> omega) _ | with_reducible refine bpl ?_ _ _ | with_reducible refine bal ?_ _ | with_reducible refine bdrew1 ?_ | with_reducible refine bdrew ?_ _))) (hM2.out.below (by (try with_reducible refine bsz ?_); repeat (first | with_reducible exact Below.refl _ _ | ((with_reducible refine bpre ?_); (try simp only [Array.append_assoc]); repeat (first | with_reducible exact Pre.refl _ | with_reducible exact Pre.base _ _ | with_reducible refine Pre.cons _ ?_)) | with_reducible assumption | ((with_reducible refine bsetr ?_); rfl) | with_reducible refine Below.setCell ?_ (by simp <;> omega) _ | with_reducible refine bpl ?_ _ _ | with_reducible refine bal ?_ _ | with_reducible refine bdrew1 ?_ | with_reducible refine bdrew ?_ _)))) ?_
        rintro e w1 ⟨rfl, hb1⟩
        obtain ⟨X, m, rfl⟩ := plsOf hb1
        clear hb1
        cases hp : (eqL a.1 b.1 && eqL a.2 b.2)
        · have hr := Lib.hid (eqL_at hd.out hd'.out (fun e => by subst e; simp [eqL] at hp))
          go_wp2_with fail
          go_ret
          exact ⟨by rw [hr.out]; rfl, (by (try with_reducible refine bsz ?_); repeat (first | with_reducible exact Below.refl _ _ | ((with_reducible refine bpre ?_); (try simp only [Array.append_assoc]); repeat (first | with_reducible exact Pre.refl _ | with_reducible exact Pre.base _ _ | with_reducible refine Pre.cons _ ?_)) | with_reducible assumption | ((with_reducible refine bsetr ?_); rfl) | with_reducible refine Below.setCell ?_ (by simp <;> omega) _ | with_reducible refine bpl ?_ _ _ | with_reducible refine bal ?_ _ | with_reducible refine bdrew1 ?_ | with_reducible refine bdrew ?_ _))⟩
        · have hab : Hid (a = b) := Lib.hid (by rw [Bool.and_eq_true] at hp; exact Prod.ext (eqL_true hp.1) (eqL_true hp.2))
          go_wp2_with fail
          go_roundw
          case rel => exact ⟨k + 1, by omega, by go_num, take_both HT.out hd.out (hab.out ▸ hd'.out), (by (try with_reducible refine bsz ?_); repeat (first | with_reducible exact Below.refl _ _ | ((with_reducible refine bpre ?_); (try simp only [Array.append_assoc]); repeat (first | with_reducible exact Pre.refl _ | with_reducible exact Pre.base _ _ | with_reducible refine Pre.cons _ ?_)) | with_reducible assumption | ((with_reducible refine bsetr ?_); rfl) | with_reducible refine Below.setCell ?_ (by simp <;> omega) _ | with_reducible refine bpl ?_ _ _ | with_reducible refine bal ?_ _ | with_reducible refine bdrew1 ?_ | with_reducible refine bdrew ?_ _))⟩
          case measure => simp [intOf]; omega
      · have e : k = xs.length := by omega
        subst e
        have hr := Lib.hid (eqL_t (take_all HL.out HT.out))
        go_wp2_with fail
        go_ret
        exact ⟨by rw [hr.out]; rfl, (by (try with_reducible refine bsz ?_); repeat (first | with_reducible exact Below.refl _ _ | ((with_reducible refine bpre ?_); (try simp only [Array.append_assoc]); repeat (first | with_reducible exact Pre.refl _ | with_reducible exact Pre.base _ _ | with_reducible refine Pre.cons _ ?_)) | with_reducible assumption | ((with_reducible refine bsetr ?_); rfl) | with_reducible refine Below.setCell ?_ (by simp <;> omega) _ | with_reducible refine bpl ?_ _ _ | with_reducible refine bal ?_ _ | with_reducible refine bdrew1 ?_ | with_reducible refine bdrew ?_ _))⟩
  · have hl1 : ((xs.length : Int) != (ys.length : Int)) = true := by simp; omega
    have hr := Lib.hid (eqL_len hl)
    clear hl
    go_enter Try.func25, Try.ntmps25
    go_wp2_with fail
    go_ret
    exact ⟨by rw [hr.out]; rfl, (by (try with_reducible refine bsz ?_); repeat (first | with_reducible exact Below.refl _ _ | ((with_reducible refine bpre ?_); (try simp only [Array.append_assoc]); repeat (first | with_reducible exact Pre.refl _ | with_reducible exact Pre.base _ _ | with_reducible refine Pre.cons _ ?_)) | with_reducible assumption | ((with_reducible refine bsetr ?_); rfl) | with_reducible refine Below.setCell ?_ (by simp <;> omega) _ | with_reducible refine bpl ?_ _ _ | with_reducible refine bal ?_ _ | with_reducible refine bdrew1 ?_ | with_reducible refine bdrew ?_ _))⟩
theorem sameBlock_any (W : World) (a b : Blk) (va vb ua ub : Value) (h1 : Lst shFlag W a.1 va) (h2 : Lst (shL shFr) W a.2 vb) (h3 : Lst shFlag W b.1 ua) (h4 : Lst (shL shFr) W b.2 ub) (hb : a.1.length ≤ 1048576) (hb' : a.2.length + lenSS a.2 ≤ 1048576) :
    Calls Try.prog 26 #[.agg #[va, vb], .agg #[ua, ub]] W fun e W' => e = .returned (.bool (eqL a.1 b.1 && eqL a.2 b.2)) ∧ Below W.heap.size W W' := by
  cases c1 : eqL a.1 b.1
  · go_enter Try.func26, Try.ntmps26
    go_wp2_with (first | (go_at_call 49; refine Calls.mono (slEqFlag_any _ a.1 b.1 va ua (h1.below (by (try with_reducible refine bsz ?_); repeat (first | with_reducible exact Below.refl _ _ | ((with_reducible refine bpre ?_); (try simp only [Array.append_assoc]); repeat (first | with_reducible exact Pre.refl _ | with_reducible exact Pre.base _ _ | with_reducible refine Pre.cons _ ?_)) | with_reducible assumption | ((with_reducible refine bsetr ?_); rfl) | with_reducible refine Below.setCell ?_ (by simp <;> omega) _ | with_reducible refine bpl ?_ _ _ | with_reducible refine bal ?_ _ | with_reducible refine bdrew1 ?_ | with_reducible refine bdrew ?_ _))) (h3.below (by (try with_reducible refine bsz ?_); repeat (first | with_reducible exact Below.refl _ _ | ((with_reducible refine bpre ?_); (try simp only [Array.append_assoc]); repeat (first | with_reducible exact Pre.refl _ | with_reducible exact Pre.base _ _ | with_reducible refine Pre.cons _ ?_)) | with_reducible assumption | ((with_reducible refine bsetr ?_); rfl) | with_reducible refine Below.setCell ?_ (by simp <;> omega) _ | with_reducible refine bpl ?_ _ _ | with_reducible refine bal ?_ _ | with_reducible refine bdrew1 ?_ | with_reducible refine bdrew ?_ _))) (by omega)) ?_; rintro e w1 ⟨rfl, hb⟩; obtain ⟨X, m, rfl⟩ := plsOf hb; clear hb))
    exact bodyPost_ret (v := .bool false) (by simp [results, Try.results26, go_sem]) rfl ⟨rfl, (by (try with_reducible refine bsz ?_); repeat (first | with_reducible exact Below.refl _ _ | ((with_reducible refine bpre ?_); (try simp only [Array.append_assoc]); repeat (first | with_reducible exact Pre.refl _ | with_reducible exact Pre.base _ _ | with_reducible refine Pre.cons _ ?_)) | with_reducible assumption | ((with_reducible refine bsetr ?_); rfl) | with_reducible refine Below.setCell ?_ (by simp <;> omega) _ | with_reducible refine bpl ?_ _ _ | with_reducible refine bal ?_ _ | with_reducible refine bdrew1 ?_ | with_reducible refine bdrew ?_ _))⟩
  · go_enter Try.func26, Try.ntmps26
    go_wp2_with (first | (go_at_call 49; refine Calls.mono (slEqFlag_any _ a.1 b.1 va ua (h1.below (by (try with_reducible refine bsz ?_); repeat (first | with_reducible exact Below.refl _ _ | ((with_reducible refine bpre ?_); (try simp only [Array.append_assoc]); repeat (first | with_reducible exact Pre.refl _ | with_reducible exact Pre.base _ _ | with_reducible refine Pre.cons _ ?_)) | with_reducible assumption | ((with_reducible refine bsetr ?_); rfl) | with_reducible refine Below.setCell ?_ (by simp <;> omega) _ | with_reducible refine bpl ?_ _ _ | with_reducible refine bal ?_ _ | with_reducible refine bdrew1 ?_ | with_reducible refine bdrew ?_ _))) (h3.below (by (try with_reducible refine bsz ?_); repeat (first | with_reducible exact Below.refl _ _ | ((with_reducible refine bpre ?_); (try simp only [Array.append_assoc]); repeat (first | with_reducible exact Pre.refl _ | with_reducible exact Pre.base _ _ | with_reducible refine Pre.cons _ ?_)) | with_reducible assumption | ((with_reducible refine bsetr ?_); rfl) | with_reducible refine Below.setCell ?_ (by simp <;> omega) _ | with_reducible refine bpl ?_ _ _ | with_reducible refine bal ?_ _ | with_reducible refine bdrew1 ?_ | with_reducible refine bdrew ?_ _))) (by omega)) ?_; rintro e w1 ⟨rfl, hb⟩; obtain ⟨X, m, rfl⟩ := plsOf hb; clear hb) | (go_at_call 50; refine Calls.mono (SameMatrix_any _ a.2 b.2 vb ub (h2.below (by (try with_reducible refine bsz ?_); repeat (first | with_reducible exact Below.refl _ _ | ((with_reducible refine bpre ?_); (try simp only [Array.append_assoc]); repeat (first | with_reducible exact Pre.refl _ | with_reducible exact Pre.base _ _ | with_reducible refine Pre.cons _ ?_)) | with_reducible assumption | ((with_reducible refine bsetr ?_); rfl) | with_reducible refine Below.setCell ?_ (by simp <;> omega) _ | with_reducible refine bpl ?_ _ _ | with_reducible refine bal ?_ _ | with_reducible refine bdrew1 ?_ | with_reducible refine bdrew ?_ _))) (h4.below (by (try with_reducible refine bsz ?_); repeat (first | with_reducible exact Below.refl _ _ | ((with_reducible refine bpre ?_); (try simp only [Array.append_assoc]); repeat (first | with_reducible exact Pre.refl _ | with_reducible exact Pre.base _ _ | with_reducible refine Pre.cons _ ?_)) | with_reducible assumption | ((with_reducible refine bsetr ?_); rfl) | with_reducible refine Below.setCell ?_ (by simp <;> omega) _ | with_reducible refine bpl ?_ _ _ | with_reducible refine bal ?_ _ | with_reducible refine bdrew1 ?_ | with_reducible refine bdrew ?_ _))) hb') ?_; rintro e w1 ⟨rfl, hb⟩; obtain ⟨X, m, rfl⟩ := plsOf hb; clear hb))
    exact bodyPost_ret (v := .bool (eqL a.2 b.2)) (by simp [results, Try.results26, go_sem]) rfl ⟨by rw [Bool.true_and], (by (try with_reducible refine bsz ?_); repeat (first | with_reducible exact Below.refl _ _ | ((with_reducible refine bpre ?_); (try simp only [Array.append_assoc]); repeat (first | with_reducible exact Pre.refl _ | with_reducible exact Pre.base _ _ | with_reducible refine Pre.cons _ ?_)) | with_reducible assumption | ((with_reducible refine bsetr ?_); rfl) | with_reducible refine Below.setCell ?_ (by simp <;> omega) _ | with_reducible refine bpl ?_ _ _ | with_reducible refine bal ?_ _ | with_reducible refine bdrew1 ?_ | with_reducible refine bdrew ?_ _))⟩
theorem SameCertificate_any (w : World) (s s' : Int) (xs ys : List Blk) (v v' : Value) (h : Lst shBlock w xs v) (h' : Lst shBlock w ys v') (hb : xs.length ≤ 1048576) (hbs : ∀ b ∈ xs, b.1.length ≤ 1048576 ∧ b.2.length + lenSS b.2 ≤ 1048576) :
    Calls Try.prog 8 #[.agg #[.int .i64 s, v], .agg #[.int .i64 s', v']] w fun e w' => e = .returned (.bool ((s == s') && eqL xs ys)) ∧ Below w.heap.size w w' := by
  have eg : ∀ args w, (callFunc 26 args).run Try.prog w = .ok (.enter 26 args) w := enters_of Try.func26 (by kernel_rfl) rfl
  have HBS := Lib.hid hbs
  clear hbs
  cases c1 : (s == s')
  · go_enter Try.func8, Try.ntmps8
    go_wp2_with fail
    exact bodyPost_ret (v := .bool false) (by simp [results, Try.results8, go_sem]) rfl ⟨rfl, (by (try with_reducible refine bsz ?_); repeat (first | with_reducible exact Below.refl _ _ | ((with_reducible refine bpre ?_); (try simp only [Array.append_assoc]); repeat (first | with_reducible exact Pre.refl _ | with_reducible exact Pre.base _ _ | with_reducible refine Pre.cons _ ?_)) | with_reducible assumption | ((with_reducible refine bsetr ?_); rfl) | with_reducible refine Below.setCell ?_ (by simp <;> omega) _ | with_reducible refine bpl ?_ _ _ | with_reducible refine bal ?_ _ | with_reducible refine bdrew1 ?_ | with_reducible refine bdrew ?_ _))⟩
  · go_enter Try.func8, Try.ntmps8
    go_wp2_with (first | (go_at_call 25; refine Calls.mono (eqfBk_any _ xs ys v v' 26 #[] (h.below (by (try with_reducible refine bsz ?_); repeat (first | with_reducible exact Below.refl _ _ | ((with_reducible refine bpre ?_); (try simp only [Array.append_assoc]); repeat (first | with_reducible exact Pre.refl _ | with_reducible exact Pre.base _ _ | with_reducible refine Pre.cons _ ?_)) | with_reducible assumption | ((with_reducible refine bsetr ?_); rfl) | with_reducible refine Below.setCell ?_ (by simp <;> omega) _ | with_reducible refine bpl ?_ _ _ | with_reducible refine bal ?_ _ | with_reducible refine bdrew1 ?_ | with_reducible refine bdrew ?_ _))) (h'.below (by (try with_reducible refine bsz ?_); repeat (first | with_reducible exact Below.refl _ _ | ((with_reducible refine bpre ?_); (try simp only [Array.append_assoc]); repeat (first | with_reducible exact Pre.refl _ | with_reducible exact Pre.base _ _ | with_reducible refine Pre.cons _ ?_)) | with_reducible assumption | ((with_reducible refine bsetr ?_); rfl) | with_reducible refine Below.setCell ?_ (by simp <;> omega) _ | with_reducible refine bpl ?_ _ _ | with_reducible refine bal ?_ _ | with_reducible refine bdrew1 ?_ | with_reducible refine bdrew ?_ _))) hb eg (fun W a b va vb ua ub ha h1 h2 h3 h4 => sameBlock_any W a b va vb ua ub h1 h2 h3 h4 (HBS.out a ha).1 (HBS.out a ha).2)) ?_; rintro e w1 ⟨rfl, hb⟩; obtain ⟨X, m, rfl⟩ := plsOf hb; clear hb))
    exact bodyPost_ret (v := .bool (eqL xs ys)) (by simp [results, Try.results8, go_sem]) rfl ⟨by rw [Bool.true_and], (by (try with_reducible refine bsz ?_); repeat (first | with_reducible exact Below.refl _ _ | ((with_reducible refine bpre ?_); (try simp only [Array.append_assoc]); repeat (first | with_reducible exact Pre.refl _ | with_reducible exact Pre.base _ _ | with_reducible refine Pre.cons _ ?_)) | with_reducible assumption | ((with_reducible refine bsetr ?_); rfl) | with_reducible refine Below.setCell ?_ (by simp <;> omega) _ | with_reducible refine bpl ?_ _ _ | with_reducible refine bal ?_ _ | with_reducible refine bdrew1 ?_ | with_reducible refine bdrew ?_ _))⟩
end Go.Proofs.Ytenaiegidcjanaa
