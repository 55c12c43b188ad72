/- Lists of fractions, impl: validList, SumOfFractions, dot, DotOf. -/
import Derived.Test.YtnajolfiikamcaaFk
import Derived.Test.YtnajolfiikamcaaIxFraction
import Derived.Deep.AppendLies
import Derived.Deep.RegionLaw
namespace Go.Proofs.Ytnajolfiikamcaa
open Go.ChangeShapes Go.WideShapes Go.ChangeAt Go.RowKit
set_option linter.unusedVariables false
set_option linter.unusedSimpArgs false
attribute [local irreducible] Calls
def badF (d : Int × Int) : Bool := !frOk d.1 d.2
theorem badFraction_any (d : Int × Int) (w : World) (hd : okFr d) : Calls Try.prog 161 #[.agg #[.int .i64 d.1, .int .i64 d.2]] w fun e w' => e = .returned (.bool (badF d)) ∧ Below w.heap.size w w' := by
  obtain ⟨i1, i2⟩ := i64_wf hd.1
  obtain ⟨i3, i4⟩ := i64_wf hd.2
  go_enter Try.func161, Try.ntmps161
  go_wp2_with (first | (go_at_call 82; refine Calls.mono (valid_any _ _ _ i1 i2 i3 i4) ?_; rintro e w1 ⟨rfl, hb⟩; obtain ⟨X, m, rfl⟩ := plsOf hb; clear hb))
  exact bodyPost_ret (v := .bool (!frOk d.1 d.2)) (by simp [results, Try.results161, go_sem]) rfl ⟨rfl, (by (try with_reducible refine bsz ?_); repeat (first | with_reducible exact Below.refl _ _ | ((with_reducible refine bpre ?_); (try simp only [Array.append_assoc]); repeat (first | with_reducible exact Pre.refl _ | with_reducible exact Pre.base _ _ | with_reducible refine Pre.cons _ ?_)) | with_reducible assumption | ((with_reducible refine bsetr ?_); rfl) | with_reducible refine Below.setCell ?_ (by simp <;> omega) _ | with_reducible refine bpl ?_ _ _ | with_reducible refine bal ?_ _ | with_reducible refine bdrew1 ?_ | with_reducible refine bdrew ?_ _))⟩
theorem listOk_bad {xs : List (Int × Int)} : listOk xs = (decide (xs.length ≤ 256) && !anyB badF xs) := by
  unfold listOk anyB badF
  rw [List.all_eq_not_any_not]
theorem validList_any (w : World) (xs : List (Int × Int)) (v : Value) (h : Lst shFr w xs v) : Calls Try.prog 117 #[v] w fun e w' => e = .returned (.bool (listOk xs)) ∧ Below w.heap.size w w' := by
  have eg : ∀ args w, (callFunc 161 args).run Try.prog w = .ok (.enter 161 args) w := enters_of Try.func161 (by kernel_rfl) rfl
  obtain ⟨A, cap, rfl, hc, hm⟩ := formFraction h
  unfold maxLen at hm
  have hok := Lib.hid (oks_of flatFr h)
  by_cases hl : xs.length ≤ 256
  · have hr : listOk xs = !anyB badF xs := by rw [listOk_bad]; simp [hl]
    have hl' : ((xs.length : Nat) : Int) ≤ 256 := by omega
    go_enter Try.func117, Try.ntmps117
    go_wp2_with (first | (go_at_call 160; refine Calls.mono (hasFraction_any _ xs _ 161 #[] badF (h.below (by (try with_reducible refine bsz ?_); repeat (first | with_reducible exact Below.refl _ _ | ((with_reducible refine bpre ?_); (try simp only [Array.append_assoc]); repeat (first | with_reducible exact Pre.refl _ | with_reducible exact Pre.base _ _ | with_reducible refine Pre.cons _ ?_)) | with_reducible assumption | ((with_reducible refine bsetr ?_); rfl) | with_reducible refine Below.setCell ?_ (by simp <;> omega) _ | with_reducible refine bpl ?_ _ _ | with_reducible refine bal ?_ _ | with_reducible refine bdrew1 ?_ | with_reducible refine bdrew ?_ _))) (by omega) eg (fun W d _ hd => badFraction_any d W (hok.out d hd))) ?_; rintro e w1 ⟨rfl, hb⟩; obtain ⟨X, m, rfl⟩ := plsOf hb; clear hb))
    exact bodyPost_ret (v := .bool (!anyB badF xs)) (by simp [results, Try.results117, go_sem]) rfl ⟨by rw [hr], (by (try with_reducible refine bsz ?_); repeat (first | with_reducible exact Below.refl _ _ | ((with_reducible refine bpre ?_); (try simp only [Array.append_assoc]); repeat (first | with_reducible exact Pre.refl _ | with_reducible exact Pre.base _ _ | with_reducible refine Pre.cons _ ?_)) | with_reducible assumption | ((with_reducible refine bsetr ?_); rfl) | with_reducible refine Below.setCell ?_ (by simp <;> omega) _ | with_reducible refine bpl ?_ _ _ | with_reducible refine bal ?_ _ | with_reducible refine bdrew1 ?_ | with_reducible refine bdrew ?_ _))⟩
  · have hr : listOk xs = false := by rw [listOk_bad]; simp [hl]
    have hl' : 256 < ((xs.length : Nat) : Int) := by omega
    go_enter Try.func117, Try.ntmps117
    go_wp2
    exact bodyPost_ret (v := .bool false) (by simp [results, Try.results117, go_sem]) rfl ⟨by simp [hr], (by (try with_reducible refine bsz ?_); repeat (first | with_reducible exact Below.refl _ _ | ((with_reducible refine bpre ?_); (try simp only [Array.append_assoc]); repeat (first | with_reducible exact Pre.refl _ | with_reducible exact Pre.base _ _ | with_reducible refine Pre.cons _ ?_)) | with_reducible assumption | ((with_reducible refine bsetr ?_); rfl) | with_reducible refine Below.setCell ?_ (by simp <;> omega) _ | with_reducible refine bpl ?_ _ _ | with_reducible refine bal ?_ _ | with_reducible refine bdrew1 ?_ | with_reducible refine bdrew ?_ _))⟩
theorem SumOfFractions_any (w : World) (xs : List (Int × Int)) (v : Value) (h : Lst shFr w xs v) :
    Calls Try.prog 45 #[v] w fun e w' => e = .returned (.tuple #[.agg #[.int .i64 (cP (sumC xs) (sumO xs)), .int .i64 (cQ (sumC xs) (sumO xs))], .int .i64 (cC (sumC xs) (sumO xs))]) ∧ Below w.heap.size w w' := by
  cases hv : listOk xs
  · have e1 : sumC xs = 1 := by simp [sumC, hv]
    rw [e1]
    go_enter Try.func45, Try.ntmps45
    go_wp2_with (first | (go_at_call 117; refine Calls.mono (validList_any _ xs v (h.below (by (try with_reducible refine bsz ?_); repeat (first | with_reducible exact Below.refl _ _ | ((with_reducible refine bpre ?_); (try simp only [Array.append_assoc]); repeat (first | with_reducible exact Pre.refl _ | with_reducible exact Pre.base _ _ | with_reducible refine Pre.cons _ ?_)) | with_reducible assumption | ((with_reducible refine bsetr ?_); rfl) | with_reducible refine Below.setCell ?_ (by simp <;> omega) _ | with_reducible refine bpl ?_ _ _ | with_reducible refine bal ?_ _ | with_reducible refine bdrew1 ?_ | with_reducible refine bdrew ?_ _)))) ?_; rintro e w1 ⟨rfl, hb⟩; obtain ⟨X, m, rfl⟩ := plsOf hb; clear hb))
    exact bodyPost_ret (v := .tuple #[.agg #[.int .i64 0, .int .i64 0], .int .i64 1]) (by simp [results, Try.results45, go_sem]) rfl ⟨rfl, (by (try with_reducible refine bsz ?_); repeat (first | with_reducible exact Below.refl _ _ | ((with_reducible refine bpre ?_); (try simp only [Array.append_assoc]); repeat (first | with_reducible exact Pre.refl _ | with_reducible exact Pre.base _ _ | with_reducible refine Pre.cons _ ?_)) | with_reducible assumption | ((with_reducible refine bsetr ?_); rfl) | with_reducible refine Below.setCell ?_ (by simp <;> omega) _ | with_reducible refine bpl ?_ _ _ | with_reducible refine bal ?_ _ | with_reducible refine bdrew1 ?_ | with_reducible refine bdrew ?_ _))⟩
  · have e1 : sumC xs = 0 := by simp [sumC, hv]
    rw [e1, cP_0, cQ_0, cC_0]
    obtain ⟨A, cap, rfl, hc, hm, _, hel⟩ := lstFraction h
    unfold maxLen at hm
    have H1 := Lib.hid hel
    have hIn := Lib.hid (listOk_in hv)
    clear hel
    go_enter Try.func45, Try.ntmps45
    (go_wp2_with fail; refine Calls.mono (validList_any _ xs _ (h.below (by (try with_reducible refine bsz ?_); repeat (first | with_reducible exact Below.refl _ _ | ((with_reducible refine bpre ?_); (try simp only [Array.append_assoc]); repeat (first | with_reducible exact Pre.refl _ | with_reducible exact Pre.base _ _ | with_reducible refine Pre.cons _ ?_)) | with_reducible assumption | ((with_reducible refine bsetr ?_); rfl) | with_reducible refine Below.setCell ?_ (by simp <;> omega) _ | with_reducible refine bpl ?_ _ _ | with_reducible refine bal ?_ _ | with_reducible refine bdrew1 ?_ | with_reducible refine bdrew ?_ _)))) ?_; rintro e0 w1 ⟨rfl, hb⟩; obtain ⟨X0, m0, rfl⟩ := plsOf hb; clear hb)
    (go_wp2_with fail; refine Calls.mono (zero_any _) ?_; rintro e0 w1 ⟨rfl, hb⟩; obtain ⟨X1, m1, rfl⟩ := plsOf hb; clear hb)
    go_wp2_with fail
    go_loopw [16] (fun i wr => ∃ (k : Nat) (d : Int × Int) (g : Bool), k ≤ xs.length ∧ i = .int .i64 k ∧ Tr (sumO (xs.take k)) d g ∧ wr.heap[w.heap.size + 1 + (X0.size + X1.size)]? = some (.cells #[.bool g] 97 (0, 0)) ∧ wr.heap[w.heap.size + 1 + (X0.size + X1.size) + 1]? = some (.cells #[.int .i64 d.1, .int .i64 d.2] 23 (0, 0)) ∧ wr.heap[w.heap.size]? = some (.cells #[.int .i64 0, .int .i64 0] 23 (0, 0)) ∧ Below w.heap.size w wr) (fun i _ => xs.length - (intOf i).toNat)
    case atStart => exact ⟨0, (0, 1), false, Nat.zero_le _, rfl, Tr.zero, (by repeat (first | with_reducible assumption | with_reducible refine pls_block _ _ ?_ | with_reducible apply blkset2 | with_reducible apply blkset1 | ((with_reducible refine blksetN ?_ ?_ _); (focus (simp <;> omega))) | with_reducible exact blknew _ _ | ((with_reducible refine blknew' _ _ _ ?_); (simp <;> omega)) | with_reducible refine blkal ?_ _)), (by repeat (first | with_reducible assumption | with_reducible refine pls_block _ _ ?_ | with_reducible apply blkset2 | with_reducible apply blkset1 | ((with_reducible refine blksetN ?_ ?_ _); (focus (simp <;> omega))) | with_reducible exact blknew _ _ | ((with_reducible refine blknew' _ _ _ ?_); (simp <;> omega)) | with_reducible refine blkal ?_ _)), (by repeat (first | with_reducible assumption | with_reducible refine pls_block _ _ ?_ | with_reducible apply blkset2 | with_reducible apply blkset1 | ((with_reducible refine blksetN ?_ ?_ _); (focus (simp <;> omega))) | with_reducible exact blknew _ _ | ((with_reducible refine blknew' _ _ _ ?_); (simp <;> omega)) | with_reducible refine blkal ?_ _)), (by (try with_reducible refine bsz ?_); repeat (first | with_reducible exact Below.refl _ _ | ((with_reducible refine bpre ?_); (try simp only [Array.append_assoc]); repeat (first | with_reducible exact Pre.refl _ | with_reducible exact Pre.base _ _ | with_reducible refine Pre.cons _ ?_)) | with_reducible assumption | ((with_reducible refine bsetr ?_); rfl) | with_reducible refine Below.setCell ?_ (by simp <;> omega) _ | with_reducible refine bpl ?_ _ _ | with_reducible refine bal ?_ _ | with_reducible refine bdrew1 ?_ | with_reducible refine bdrew ?_ _))⟩
    case round =>
      obtain ⟨k, d, g, hk, rfl, ht, b0, b1, b2, hB⟩ := hrel
      have HT := Lib.hid ht
      have hdI := ht.1
      clear ht
      obtain ⟨s0, f0⟩ := blk1 b0
      obtain ⟨s1, s2, f1, f2⟩ := blk2 b1
      obtain ⟨s3, s4, f3, f4⟩ := blk2 b2
      have z0 := blklt b0
      have z1 := blklt b1
      have z2 := blklt b2
      have B0 := Lib.hid b0
      have B1 := Lib.hid b1
      have B2 := Lib.hid b2
      clear b0 b1 b2
      by_cases hlt : k < xs.length
      · obtain ⟨bl, off, rfl, hel⟩ := H1.out (by omega)
        clear H1
        obtain ⟨x, hx, hok, c0, c1⟩ := hel k hlt
        clear hel
        have hmem := hIn.out x (List.mem_of_getElem? hx)
        have hx := Lib.hid hx
        replace c0 := bkeep hB c0
        replace c1 := bkeep hB c1
        go_wp2_with (first | (go_at_call 77; refine Calls.mono (kadd_any _ _ g d x _ (by first | omega | (simp <;> omega)) (by first | assumption | simp [go_sem, *]) (by first | assumption | simp [go_sem, *]) hdI hmem) ?_; rintro e w1 ⟨rfl, hb⟩; obtain ⟨X, m, rfl⟩ := plsOfS hb; clear hb))
        go_roundw
        case rel =>
          have b0 := B0.out
          have b1 := B1.out
          have b2 := B2.out
          exact ⟨k + 1, kD (addO d x), g || noB (addO d x), by omega, by go_num, by rw [sumO_take hx.out]; exact HT.out.add hmem, (by repeat (first | with_reducible assumption | with_reducible refine pls_block _ _ ?_ | with_reducible apply blkset2 | with_reducible apply blkset1 | ((with_reducible refine blksetN ?_ ?_ _); (focus (simp <;> omega))) | with_reducible exact blknew _ _ | ((with_reducible refine blknew' _ _ _ ?_); (simp <;> omega)) | with_reducible refine blkal ?_ _)), (by repeat (first | with_reducible assumption | with_reducible refine pls_block _ _ ?_ | with_reducible apply blkset2 | with_reducible apply blkset1 | ((with_reducible refine blksetN ?_ ?_ _); (focus (simp <;> omega))) | with_reducible exact blknew _ _ | ((with_reducible refine blknew' _ _ _ ?_); (simp <;> omega)) | with_reducible refine blkal ?_ _)), (by repeat (first | with_reducible assumption | with_reducible refine pls_block _ _ ?_ | with_reducible apply blkset2 | with_reducible apply blkset1 | ((with_reducible refine blksetN ?_ ?_ _); (focus (simp <;> omega))) | with_reducible exact blknew _ _ | ((with_reducible refine blknew' _ _ _ ?_); (simp <;> omega)) | with_reducible refine blkal ?_ _)), (by (try with_reducible refine bsz ?_); repeat (first | with_reducible exact Below.refl _ _ | ((with_reducible refine bpre ?_); (try simp only [Array.append_assoc]); repeat (first | with_reducible exact Pre.refl _ | with_reducible exact Pre.base _ _ | with_reducible refine Pre.cons _ ?_)) | with_reducible assumption | ((with_reducible refine bsetr ?_); rfl) | with_reducible refine Below.setCell ?_ (by simp <;> omega) _ | with_reducible refine bpl ?_ _ _ | with_reducible refine bal ?_ _ | with_reducible refine bdrew1 ?_ | with_reducible refine bdrew ?_ _))⟩
        case measure => simp [intOf]; omega
      · have e : k = xs.length := by omega
        subst e
        rw [List.take_length] at HT
        go_wp2_with (first | (go_at_call 67; refine Calls.mono (ktold_any _ _ g d (sumO xs) _ (by first | omega | (simp <;> omega)) (by first | assumption | simp [go_sem, *]) HT.out) ?_; rintro e w1 ⟨rfl, hb⟩; obtain ⟨X, m, rfl⟩ := plsOf hb; clear hb))
        exact bodyPost_ret (v := .tuple #[.agg #[.int .i64 (rD (sumO xs)).1, .int .i64 (rD (sumO xs)).2], .int .i64 (rC (sumO xs))]) (by simp [results, Try.results45, go_sem, *]) rfl ⟨rfl, (by (try with_reducible refine bsz ?_); repeat (first | with_reducible exact Below.refl _ _ | ((with_reducible refine bpre ?_); (try simp only [Array.append_assoc]); repeat (first | with_reducible exact Pre.refl _ | with_reducible exact Pre.base _ _ | with_reducible refine Pre.cons _ ?_)) | with_reducible assumption | ((with_reducible refine bsetr ?_); rfl) | with_reducible refine Below.setCell ?_ (by simp <;> omega) _ | with_reducible refine bpl ?_ _ _ | with_reducible refine bal ?_ _ | with_reducible refine bdrew1 ?_ | with_reducible refine bdrew ?_ _))⟩
/-- A fraction is returned, and the mark tells whether it is right. -/
def FrRet (b o : Nat) (r : Option (Int × Int)) (w : World) (e : Ending) (w' : World) : Prop := ∃ (d : Int × Int) (g' : Bool), e = .returned (.agg #[.int .i64 d.1, .int .i64 d.2]) ∧ Tr r d g' ∧ Fl b o w g' w'
theorem dot_any (w : World) (b o : Nat) (g : Bool) (xs ys : List (Int × Int)) (v v' : Value) (h : Lst shFr w xs v) (h' : Lst shFr w ys v') (hx : ∀ d ∈ xs, inF d) (hy : ∀ d ∈ ys, inF d) (hl : xs.length ≤ ys.length) (hb : xs.length ≤ 1000000)
    (hc0 : w.cell? ⟨b, o, none⟩ = some (.bool g)) (hf : w.frozen? ⟨b, o, none⟩ = false) :
    Calls Try.prog 125 #[.pointer (some ⟨b, o, none⟩), v, v'] w fun e w' => FrRet b o (guardO g (dotO xs ys)) w e w' := by
  obtain ⟨A, cap, rfl, hc, hm, _, hel⟩ := lstFraction h
  obtain ⟨A', cap', rfl, hc', hm', _, hel'⟩ := lstFraction h'
  unfold maxLen at hm hm'
  clear h h'
  have ha : b < w.heap.size := World.block_lt_of_cell? _ _ hc0
  have H1 := Lib.hid hel
  have H2 := Lib.hid hel'
  have HX := Lib.hid hx
  have HY := Lib.hid hy
  clear hel hel' hx hy
  go_enter Try.func125, Try.ntmps125
  (go_wp2_with fail; refine Calls.mono (zero_any _) ?_; rintro e0 w1 ⟨rfl, hb⟩; obtain ⟨X0, m0, rfl⟩ := plsOf hb; clear hb)
  go_wp2_with fail
  have zb : b ≠ w.heap.size := by omega
  have zb2 : b ≠ w.heap.size + 1 + X0.size := by omega
  go_loopw [13] (fun i wr => ∃ (k : Nat) (d : Int × Int) (g' : Bool), k ≤ xs.length ∧ i = .int .i64 k ∧ Tr (guardO g (dotO (xs.take k) (ys.take k))) d g' ∧ wr.heap[w.heap.size + 1 + X0.size]? = some (.cells #[.int .i64 d.1, .int .i64 d.2] 23 (0, 0)) ∧ wr.heap[w.heap.size]? = some (.cells #[.int .i64 0, .int .i64 0] 23 (0, 0)) ∧ Fl b o w g' wr) (fun i _ => xs.length - (intOf i).toNat)
  case atStart =>
    refine ⟨0, (0, 1), g, Nat.zero_le _, rfl, ?_, (by repeat (first | with_reducible assumption | with_reducible refine pls_block _ _ ?_ | with_reducible apply blkset2 | with_reducible apply blkset1 | ((with_reducible refine blksetN ?_ ?_ _); (focus (simp <;> omega))) | with_reducible exact blknew _ _ | ((with_reducible refine blknew' _ _ _ ?_); (simp <;> omega)) | with_reducible refine blkal ?_ _)), (by repeat (first | with_reducible assumption | with_reducible refine pls_block _ _ ?_ | with_reducible apply blkset2 | with_reducible apply blkset1 | ((with_reducible refine blksetN ?_ ?_ _); (focus (simp <;> omega))) | with_reducible exact blknew _ _ | ((with_reducible refine blknew' _ _ _ ?_); (simp <;> omega)) | with_reducible refine blkal ?_ _)), (Fl.start hc0).below (by (try with_reducible refine bsz ?_); repeat (first | with_reducible exact Below.refl _ _ | ((with_reducible refine bpre ?_); (try simp only [Array.append_assoc]); repeat (first | with_reducible exact Pre.refl _ | with_reducible exact Pre.base _ _ | with_reducible refine Pre.cons _ ?_)) | with_reducible assumption | ((with_reducible refine bsetr ?_); rfl) | with_reducible refine Below.setCell ?_ (by simp <;> omega) _ | with_reducible refine bpl ?_ _ _ | with_reducible refine bal ?_ _ | with_reducible refine bdrew1 ?_ | with_reducible refine bdrew ?_ _))⟩
    cases g
    · exact Tr.zero
    · exact ⟨zero_in, fun h => (by cases h), fun _ => rfl⟩
  case round =>
    obtain ⟨k, d, g', hk, rfl, ht, b1, b2, hB⟩ := hrel
    have HT := Lib.hid ht
    have hdI := ht.1
    clear ht
    have s0 := hB.flag hc0
    have f0 : wr.frozen? ⟨b, o, none⟩ = false := (hB.frozen ha).trans hf
    obtain ⟨s1, s2, f1, f2⟩ := blk2 b1
    obtain ⟨s3, s4, f3, f4⟩ := blk2 b2
    have z0 : b < wr.heap.size := World.block_lt_of_cell? _ _ s0
    have z1 := blklt b1
    have z2 := blklt b2
    have B1 := Lib.hid b1
    have B2 := Lib.hid b2
    clear b1 b2
    by_cases hlt : k < xs.length
    · obtain ⟨bl, off, rfl, hel⟩ := H1.out (by omega)
      obtain ⟨bl', off', rfl, hel'⟩ := H2.out (by omega)
      clear H1 H2
      obtain ⟨x, hx, hok, c0, c1⟩ := hel k hlt
      obtain ⟨y, hy, hok', c0', c1'⟩ := hel' k (by omega)
      clear hel hel'
      have hmem := HX.out x (List.mem_of_getElem? hx)
      have hmem' := HY.out y (List.mem_of_getElem? hy)
      have hx := Lib.hid hx
      have hy := Lib.hid hy
      have z3 : bl < w.heap.size := World.block_lt_of_cell? _ _ c0
      have z4 : bl' < w.heap.size := World.block_lt_of_cell? _ _ c0'
      have z5 := hB.size
      replace c0 := hB.keep hc0 (by simp) c0
      replace c1 := hB.keep hc0 (by simp) c1
      replace c0' := hB.keep hc0 (by simp) c0'
      replace c1' := hB.keep hc0 (by simp) c1'
      clear hc0 hf
      have n0 : ∀ (W : World) (u : Value), (W.setCell ⟨b, o, none⟩ u).cell? ⟨bl', off' + k * 2, none⟩ = W.cell? ⟨bl', off' + k * 2, none⟩ := fun W u => World.cell?_setCell_other W _ _ u (fun e => by rw [e, c0'] at s0; cases s0)
      have n1 : ∀ (W : World) (u : Value), (W.setCell ⟨b, o, none⟩ u).cell? ⟨bl', off' + k * 2 + 1, none⟩ = W.cell? ⟨bl', off' + k * 2 + 1, none⟩ := fun W u => World.cell?_setCell_other W _ _ u (fun e => by rw [e, c1'] at s0; cases s0)
      have z6 : bl' < wr.heap.size := by omega
      have z7 : k < ys.length := by omega
      go_wp2_with fail
      go_region_law (first | (go_simp; go_at_call 74; refine Calls.mono (kmul_any _ _ g' x y _ (by first | omega | (simp <;> omega)) (by first | assumption | simp [go_sem, *]) (by first | assumption | simp [go_sem, *]) hmem hmem') ?_; rintro e w1 ⟨rfl, hb⟩; obtain ⟨X, m, rfl⟩ := plsOfS hb; clear hb) | (go_simp; go_at_call 77; refine Calls.mono (kadd_any _ _ (g' || noB (mulO x y)) d (kD (mulO x y)) _ (by first | omega | (simp <;> omega)) (by first | assumption | simp [go_sem, *]) (by first | assumption | simp [go_sem, *]) hdI (kmulI hmem hmem')) ?_; rintro e w1 ⟨rfl, hb⟩; obtain ⟨X, m, rfl⟩ := plsOfS hb; clear hb))
      all_goals (go_wp2_with fail)
      all_goals (
        go_roundw
        case rel =>
          have b1 := B1.out
          have b2 := B2.out
          have hG := hB.both (g' || noB (mulO x y) || noB (addO d (kD (mulO x y))))
          refine ⟨k + 1, kD (addO d (kD (mulO x y))), (g' || noB (mulO x y)) || noB (addO d (kD (mulO x y))), by omega, by go_num, by rw [dotO_take hx.out hy.out]; exact HT.out.dotIf hmem hmem', (by repeat (first | with_reducible assumption | with_reducible refine pls_block _ _ ?_ | with_reducible apply blkset2 | with_reducible apply blkset1 | ((with_reducible refine blksetN ?_ ?_ _); (focus (simp <;> omega))) | with_reducible exact blknew _ _ | ((with_reducible refine blknew' _ _ _ ?_); (simp <;> omega)) | with_reducible refine blkal ?_ _)), (by repeat (first | with_reducible assumption | with_reducible refine pls_block _ _ ?_ | with_reducible apply blkset2 | with_reducible apply blkset1 | ((with_reducible refine blksetN ?_ ?_ _); (focus (simp <;> omega))) | with_reducible exact blknew _ _ | ((with_reducible refine blknew' _ _ _ ?_); (simp <;> omega)) | with_reducible refine blkal ?_ _)), ?_⟩
          unfold Fl
          exact (by (try with_reducible refine bsz ?_); repeat (first | with_reducible exact Below.refl _ _ | ((with_reducible refine bpre ?_); (try simp only [Array.append_assoc]); repeat (first | with_reducible exact Pre.refl _ | with_reducible exact Pre.base _ _ | with_reducible refine Pre.cons _ ?_)) | with_reducible assumption | ((with_reducible refine bsetr ?_); rfl) | with_reducible refine Below.setCell ?_ (by simp <;> omega) _ | with_reducible refine bpl ?_ _ _ | with_reducible refine bal ?_ _ | with_reducible refine bdrew1 ?_ | with_reducible refine bdrew ?_ _))
        case measure => simp [intOf]; omega)
    · have e : k = xs.length := by omega
      subst e
      have HT2 : Tr (guardO g (dotO xs ys)) d g' := by
        have := HT.out
        rw [List.take_length] at this
        rwa [dotO_len xs ys] at this
      have hq := hB.raw
      go_wp2_with fail
      exact bodyPost_ret (v := .agg #[.int .i64 d.1, .int .i64 d.2]) (by simp [results, Try.results125, go_sem, *]) rfl ⟨d, g', rfl, HT2, by unfold Fl; exact (by (try with_reducible refine bsz ?_); repeat (first | with_reducible exact Below.refl _ _ | ((with_reducible refine bpre ?_); (try simp only [Array.append_assoc]); repeat (first | with_reducible exact Pre.refl _ | with_reducible exact Pre.base _ _ | with_reducible refine Pre.cons _ ?_)) | with_reducible assumption | ((with_reducible refine bsetr ?_); rfl) | with_reducible refine Below.setCell ?_ (by simp <;> omega) _ | with_reducible refine bpl ?_ _ _ | with_reducible refine bal ?_ _ | with_reducible refine bdrew1 ?_ | with_reducible refine bdrew ?_ _))⟩
theorem DotOf_any (w : World) (xs ys : List (Int × Int)) (v v' : Value) (h : Lst shFr w xs v) (h' : Lst shFr w ys v') :
    Calls Try.prog 53 #[v, v'] w fun e w' => e = .returned (.tuple #[.agg #[.int .i64 (cP (dotC xs ys) (dotO xs ys)), .int .i64 (cQ (dotC xs ys) (dotO xs ys))], .int .i64 (cC (dotC xs ys) (dotO xs ys))]) ∧ Below w.heap.size w w' := by
  obtain ⟨A, cap, rfl, hc, hm⟩ := formFraction h
  obtain ⟨A', cap', rfl, hc', hm'⟩ := formFraction h'
  cases hv : listOk xs
  · have e1 : dotC xs ys = 1 := by simp [dotC, hv]
    rw [e1]
    go_enter Try.func53, Try.ntmps53
    go_wp2_with (first | (go_at_call 117; refine Calls.mono (validList_any _ xs _ (h.below (by (try with_reducible refine bsz ?_); repeat (first | with_reducible exact Below.refl _ _ | ((with_reducible refine bpre ?_); (try simp only [Array.append_assoc]); repeat (first | with_reducible exact Pre.refl _ | with_reducible exact Pre.base _ _ | with_reducible refine Pre.cons _ ?_)) | with_reducible assumption | ((with_reducible refine bsetr ?_); rfl) | with_reducible refine Below.setCell ?_ (by simp <;> omega) _ | with_reducible refine bpl ?_ _ _ | with_reducible refine bal ?_ _ | with_reducible refine bdrew1 ?_ | with_reducible refine bdrew ?_ _)))) ?_; rintro e w1 ⟨rfl, hb⟩; obtain ⟨X, m, rfl⟩ := plsOf hb; clear hb))
    exact bodyPost_ret (v := .tuple #[.agg #[.int .i64 0, .int .i64 0], .int .i64 1]) (by simp [results, Try.results53, go_sem]) rfl ⟨rfl, (by (try with_reducible refine bsz ?_); repeat (first | with_reducible exact Below.refl _ _ | ((with_reducible refine bpre ?_); (try simp only [Array.append_assoc]); repeat (first | with_reducible exact Pre.refl _ | with_reducible exact Pre.base _ _ | with_reducible refine Pre.cons _ ?_)) | with_reducible assumption | ((with_reducible refine bsetr ?_); rfl) | with_reducible refine Below.setCell ?_ (by simp <;> omega) _ | with_reducible refine bpl ?_ _ _ | with_reducible refine bal ?_ _ | with_reducible refine bdrew1 ?_ | with_reducible refine bdrew ?_ _))⟩
  · cases hv' : listOk ys
    · have e1 : dotC xs ys = 1 := by simp [dotC, hv']
      rw [e1]
      go_enter Try.func53, Try.ntmps53
      (go_wp2_with fail; refine Calls.mono (validList_any _ xs _ (h.below (by (try with_reducible refine bsz ?_); repeat (first | with_reducible exact Below.refl _ _ | ((with_reducible refine bpre ?_); (try simp only [Array.append_assoc]); repeat (first | with_reducible exact Pre.refl _ | with_reducible exact Pre.base _ _ | with_reducible refine Pre.cons _ ?_)) | with_reducible assumption | ((with_reducible refine bsetr ?_); rfl) | with_reducible refine Below.setCell ?_ (by simp <;> omega) _ | with_reducible refine bpl ?_ _ _ | with_reducible refine bal ?_ _ | with_reducible refine bdrew1 ?_ | with_reducible refine bdrew ?_ _)))) ?_; rintro e0 w1 ⟨rfl, hb⟩; obtain ⟨X0, m0, rfl⟩ := plsOf hb; clear hb)
      go_wp2_with (first | (go_at_call 117; refine Calls.mono (validList_any _ ys _ (h'.below (by (try with_reducible refine bsz ?_); repeat (first | with_reducible exact Below.refl _ _ | ((with_reducible refine bpre ?_); (try simp only [Array.append_assoc]); repeat (first | with_reducible exact Pre.refl _ | with_reducible exact Pre.base _ _ | with_reducible refine Pre.cons _ ?_)) | with_reducible assumption | ((with_reducible refine bsetr ?_); rfl) | with_reducible refine Below.setCell ?_ (by simp <;> omega) _ | with_reducible refine bpl ?_ _ _ | with_reducible refine bal ?_ _ | with_reducible refine bdrew1 ?_ | with_reducible refine bdrew ?_ _)))) ?_; rintro e w1 ⟨rfl, hb⟩; obtain ⟨X, m, rfl⟩ := plsOf hb; clear hb))
      exact bodyPost_ret (v := .tuple #[.agg #[.int .i64 0, .int .i64 0], .int .i64 1]) (by simp [results, Try.results53, go_sem]) rfl ⟨rfl, (by (try with_reducible refine bsz ?_); repeat (first | with_reducible exact Below.refl _ _ | ((with_reducible refine bpre ?_); (try simp only [Array.append_assoc]); repeat (first | with_reducible exact Pre.refl _ | with_reducible exact Pre.base _ _ | with_reducible refine Pre.cons _ ?_)) | with_reducible assumption | ((with_reducible refine bsetr ?_); rfl) | with_reducible refine Below.setCell ?_ (by simp <;> omega) _ | with_reducible refine bpl ?_ _ _ | with_reducible refine bal ?_ _ | with_reducible refine bdrew1 ?_ | with_reducible refine bdrew ?_ _))⟩
    · by_cases hl : xs.length = ys.length
      · have e1 : dotC xs ys = 0 := by simp [dotC, hv, hv', hl]
        rw [e1, cP_0, cQ_0, cC_0]
        have hl1 : ((xs.length : Int) != (ys.length : Int)) = false := by simp [hl]
        have hb := (listOk_iff.1 hv).1
        have HL := Lib.hid hl
        clear hl
        go_enter Try.func53, Try.ntmps53
        (go_wp2_with fail; refine Calls.mono (validList_any _ xs _ (h.below (by (try with_reducible refine bsz ?_); repeat (first | with_reducible exact Below.refl _ _ | ((with_reducible refine bpre ?_); (try simp only [Array.append_assoc]); repeat (first | with_reducible exact Pre.refl _ | with_reducible exact Pre.base _ _ | with_reducible refine Pre.cons _ ?_)) | with_reducible assumption | ((with_reducible refine bsetr ?_); rfl) | with_reducible refine Below.setCell ?_ (by simp <;> omega) _ | with_reducible refine bpl ?_ _ _ | with_reducible refine bal ?_ _ | with_reducible refine bdrew1 ?_ | with_reducible refine bdrew ?_ _)))) ?_; rintro e0 w1 ⟨rfl, hb⟩; obtain ⟨X0, m0, rfl⟩ := plsOf hb; clear hb)
        (go_wp2_with fail; refine Calls.mono (validList_any _ ys _ (h'.below (by (try with_reducible refine bsz ?_); repeat (first | with_reducible exact Below.refl _ _ | ((with_reducible refine bpre ?_); (try simp only [Array.append_assoc]); repeat (first | with_reducible exact Pre.refl _ | with_reducible exact Pre.base _ _ | with_reducible refine Pre.cons _ ?_)) | with_reducible assumption | ((with_reducible refine bsetr ?_); rfl) | with_reducible refine Below.setCell ?_ (by simp <;> omega) _ | with_reducible refine bpl ?_ _ _ | with_reducible refine bal ?_ _ | with_reducible refine bdrew1 ?_ | with_reducible refine bdrew ?_ _)))) ?_; rintro e0 w1 ⟨rfl, hb⟩; obtain ⟨X1, m1, rfl⟩ := plsOf hb; clear hb)
        go_wp2_with fail
        refine Calls.mono (dot_any _ _ _ false xs ys _ _ (h.below (by (try with_reducible refine bsz ?_); repeat (first | with_reducible exact Below.refl _ _ | ((with_reducible refine bpre ?_); (try simp only [Array.append_assoc]); repeat (first | with_reducible exact Pre.refl _ | with_reducible exact Pre.base _ _ | with_reducible refine Pre.cons _ ?_)) | with_reducible assumption | ((with_reducible refine bsetr ?_); rfl) | with_reducible refine Below.setCell ?_ (by simp <;> omega) _ | with_reducible refine bpl ?_ _ _ | with_reducible refine bal ?_ _ | with_reducible refine bdrew1 ?_ | with_reducible refine bdrew ?_ _))) (h'.below (by (try with_reducible refine bsz ?_); repeat (first | with_reducible exact Below.refl _ _ | ((with_reducible refine bpre ?_); (try simp only [Array.append_assoc]); repeat (first | with_reducible exact Pre.refl _ | with_reducible exact Pre.base _ _ | with_reducible refine Pre.cons _ ?_)) | with_reducible assumption | ((with_reducible refine bsetr ?_); rfl) | with_reducible refine Below.setCell ?_ (by simp <;> omega) _ | with_reducible refine bpl ?_ _ _ | with_reducible refine bal ?_ _ | with_reducible refine bdrew1 ?_ | with_reducible refine bdrew ?_ _))) (listOk_in hv) (listOk_in hv') (Nat.le_of_eq HL.out) (by omega) (by first | assumption | simp [go_sem, *]) (by first | assumption | simp [go_sem, *])) ?_
        rintro e0 w1 ⟨d, g', rfl, hT, hF⟩
        obtain ⟨X2, m2, rfl⟩ := plsOf hF.raw
        have hT : Tr (dotO xs ys) d g' := hT
        have HT := Lib.hid hT
        clear hF hT
        go_wp2_with (first | (go_at_call 67; refine Calls.mono (ktold_any _ _ g' d (dotO xs ys) _ (by first | omega | (simp <;> omega)) (by first | assumption | simp [go_sem, *]) HT.out) ?_; rintro e w1 ⟨rfl, hb⟩; obtain ⟨X, m, rfl⟩ := plsOf hb; clear hb))
        exact bodyPost_ret (v := .tuple #[.agg #[.int .i64 (rD (dotO xs ys)).1, .int .i64 (rD (dotO xs ys)).2], .int .i64 (rC (dotO xs ys))]) (by simp [results, Try.results53, go_sem, *]) rfl ⟨rfl, (by (try with_reducible refine bsz ?_); repeat (first | with_reducible exact Below.refl _ _ | ((with_reducible refine bpre ?_); (try simp only [Array.append_assoc]); repeat (first | with_reducible exact Pre.refl _ | with_reducible exact Pre.base _ _ | with_reducible refine Pre.cons _ ?_)) | with_reducible assumption | ((with_reducible refine bsetr ?_); rfl) | with_reducible refine Below.setCell ?_ (by simp <;> omega) _ | with_reducible refine bpl ?_ _ _ | with_reducible refine bal ?_ _ | with_reducible refine bdrew1 ?_ | with_reducible refine bdrew ?_ _))⟩
      · have e1 : dotC xs ys = 2 := by simp [dotC, hv, hv', hl]
        rw [e1]
        have hl1 : ((xs.length : Int) != (ys.length : Int)) = true := by simp; omega
        clear hl
        go_enter Try.func53, Try.ntmps53
        (go_wp2_with fail; refine Calls.mono (validList_any _ xs _ (h.below (by (try with_reducible refine bsz ?_); repeat (first | with_reducible exact Below.refl _ _ | ((with_reducible refine bpre ?_); (try simp only [Array.append_assoc]); repeat (first | with_reducible exact Pre.refl _ | with_reducible exact Pre.base _ _ | with_reducible refine Pre.cons _ ?_)) | with_reducible assumption | ((with_reducible refine bsetr ?_); rfl) | with_reducible refine Below.setCell ?_ (by simp <;> omega) _ | with_reducible refine bpl ?_ _ _ | with_reducible refine bal ?_ _ | with_reducible refine bdrew1 ?_ | with_reducible refine bdrew ?_ _)))) ?_; rintro e0 w1 ⟨rfl, hb⟩; obtain ⟨X0, m0, rfl⟩ := plsOf hb; clear hb)
        (go_wp2_with fail; refine Calls.mono (validList_any _ ys _ (h'.below (by (try with_reducible refine bsz ?_); repeat (first | with_reducible exact Below.refl _ _ | ((with_reducible refine bpre ?_); (try simp only [Array.append_assoc]); repeat (first | with_reducible exact Pre.refl _ | with_reducible exact Pre.base _ _ | with_reducible refine Pre.cons _ ?_)) | with_reducible assumption | ((with_reducible refine bsetr ?_); rfl) | with_reducible refine Below.setCell ?_ (by simp <;> omega) _ | with_reducible refine bpl ?_ _ _ | with_reducible refine bal ?_ _ | with_reducible refine bdrew1 ?_ | with_reducible refine bdrew ?_ _)))) ?_; rintro e0 w1 ⟨rfl, hb⟩; obtain ⟨X1, m1, rfl⟩ := plsOf hb; clear hb)
        go_wp2_with fail
        exact bodyPost_ret (v := .tuple #[.agg #[.int .i64 0, .int .i64 0], .int .i64 2]) (by simp [results, Try.results53, go_sem]) rfl ⟨rfl, (by (try with_reducible refine bsz ?_); repeat (first | with_reducible exact Below.refl _ _ | ((with_reducible refine bpre ?_); (try simp only [Array.append_assoc]); repeat (first | with_reducible exact Pre.refl _ | with_reducible exact Pre.base _ _ | with_reducible refine Pre.cons _ ?_)) | with_reducible assumption | ((with_reducible refine bsetr ?_); rfl) | with_reducible refine Below.setCell ?_ (by simp <;> omega) _ | with_reducible refine bpl ?_ _ _ | with_reducible refine bal ?_ _ | with_reducible refine bdrew1 ?_ | with_reducible refine bdrew ?_ _))⟩
end Go.Proofs.Ytnajolfiikamcaa
