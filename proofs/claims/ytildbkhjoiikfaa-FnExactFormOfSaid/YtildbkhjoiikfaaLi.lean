/- Lists of fractions, impl: validList, SumOfFractions, dot, DotOf. -/
import Derived.Test.YtildbkhjoiikfaaFk
import Derived.Test.YtildbkhjoiikfaaIxFraction
import Derived.Deep.AppendLies
import Derived.Deep.RegionLaw
namespace Go.Proofs.Ytildbkhjoiikfaa
open Go.ChangeShapes Go.WideShapes Go.ChangeAt Go.RowKit
set_option linter.unusedVariables false
set_option linter.unusedSimpArgs false
attribute [local irreducible] Calls
def badF (d : Int × Int) : Bool := !frOk d.1 d.2
theorem badFraction_any (d : Int × Int) (w : World) (hd : okFr d) : Calls Try.prog 148 #[.agg #[.int .i64 d.1, .int .i64 d.2]] w fun e w' => e = .returned (.bool (badF d)) ∧ Below w.heap.size w w' := by
  obtain ⟨i1, i2⟩ := i64_wf hd.1
  obtain ⟨i3, i4⟩ := i64_wf hd.2
  go_enter Try.func148, Try.ntmps148
  go_wp2_with (first | (go_at_call 136; refine Calls.mono (valid_any _ _ _ i1 i2 i3 i4) ?_; rintro e w1 ⟨rfl, hb⟩; obtain ⟨X, m, rfl⟩ := plsOf hb; clear hb))
  exact bodyPost_ret (v := .bool (!frOk d.1 d.2)) (by simp [results, Try.results148, go_sem]) rfl ⟨rfl, (by (try with_reducible refine bsz ?_); repeat (first | with_reducible exact Below.refl _ _ | ((with_reducible refine bpre ?_); (try simp only [Array.append_assoc]); repeat (first | with_reducible exact Pre.refl _ | with_reducible exact Pre.base _ _ | with_reducible refine Pre.cons _ ?_)) | with_reducible assumption | ((with_reducible refine bsetr ?_); rfl) | with_reducible refine Below.setCell ?_ (by simp <;> omega) _ | with_reducible refine bpl ?_ _ _ | with_reducible refine bal ?_ _ | with_reducible refine bdrew1 ?_ | with_reducible refine bdrew ?_ _))⟩
theorem listOk_bad {xs : List (Int × Int)} : listOk xs = (decide (xs.length ≤ 256) && !anyB badF xs) := by
  unfold listOk anyB badF
  rw [List.all_eq_not_any_not]
theorem validList_any (w : World) (xs : List (Int × Int)) (v : Value) (h : Lst shFr w xs v) : Calls Try.prog 88 #[v] w fun e w' => e = .returned (.bool (listOk xs)) ∧ Below w.heap.size w w' := by
  have eg : ∀ args w, (callFunc 148 args).run Try.prog w = .ok (.enter 148 args) w := enters_of Try.func148 (by kernel_rfl) rfl
  obtain ⟨A, cap, rfl, hc, hm⟩ := formFraction h
  unfold maxLen at hm
  have hok := Lib.hid (oks_of flatFr h)
  by_cases hl : xs.length ≤ 256
  · have hr : listOk xs = !anyB badF xs := by rw [listOk_bad]; simp [hl]
    have hl' : ((xs.length : Nat) : Int) ≤ 256 := by omega
    go_enter Try.func88, Try.ntmps88
    go_wp2_with (first | (go_at_call 147; refine Calls.mono (hasFraction_any _ xs _ 148 #[] badF (h.below (by (try with_reducible refine bsz ?_); repeat (first | with_reducible exact Below.refl _ _ | ((with_reducible refine bpre ?_); (try simp only [Array.append_assoc]); repeat (first | with_reducible exact Pre.refl _ | with_reducible exact Pre.base _ _ | with_reducible refine Pre.cons _ ?_)) | with_reducible assumption | ((with_reducible refine bsetr ?_); rfl) | with_reducible refine Below.setCell ?_ (by simp <;> omega) _ | with_reducible refine bpl ?_ _ _ | with_reducible refine bal ?_ _ | with_reducible refine bdrew1 ?_ | with_reducible refine bdrew ?_ _))) (by omega) eg (fun W d _ hd => badFraction_any d W (hok.out d hd))) ?_; rintro e w1 ⟨rfl, hb⟩; obtain ⟨X, m, rfl⟩ := plsOf hb; clear hb))
    exact bodyPost_ret (v := .bool (!anyB badF xs)) (by simp [results, Try.results88, go_sem]) rfl ⟨by rw [hr], (by (try with_reducible refine bsz ?_); repeat (first | with_reducible exact Below.refl _ _ | ((with_reducible refine bpre ?_); (try simp only [Array.append_assoc]); repeat (first | with_reducible exact Pre.refl _ | with_reducible exact Pre.base _ _ | with_reducible refine Pre.cons _ ?_)) | with_reducible assumption | ((with_reducible refine bsetr ?_); rfl) | with_reducible refine Below.setCell ?_ (by simp <;> omega) _ | with_reducible refine bpl ?_ _ _ | with_reducible refine bal ?_ _ | with_reducible refine bdrew1 ?_ | with_reducible refine bdrew ?_ _))⟩
  · have hr : listOk xs = false := by rw [listOk_bad]; simp [hl]
    have hl' : 256 < ((xs.length : Nat) : Int) := by omega
    go_enter Try.func88, Try.ntmps88
    go_wp2
    exact bodyPost_ret (v := .bool false) (by simp [results, Try.results88, go_sem]) rfl ⟨by simp [hr], (by (try with_reducible refine bsz ?_); repeat (first | with_reducible exact Below.refl _ _ | ((with_reducible refine bpre ?_); (try simp only [Array.append_assoc]); repeat (first | with_reducible exact Pre.refl _ | with_reducible exact Pre.base _ _ | with_reducible refine Pre.cons _ ?_)) | with_reducible assumption | ((with_reducible refine bsetr ?_); rfl) | with_reducible refine Below.setCell ?_ (by simp <;> omega) _ | with_reducible refine bpl ?_ _ _ | with_reducible refine bal ?_ _ | with_reducible refine bdrew1 ?_ | with_reducible refine bdrew ?_ _))⟩
/-- A fraction is returned, and the mark tells whether it is right. -/
def FrRet (b o : Nat) (r : Option (Int × Int)) (w : World) (e : Ending) (w' : World) : Prop := ∃ (d : Int × Int) (g' : Bool), e = .returned (.agg #[.int .i64 d.1, .int .i64 d.2]) ∧ Tr r d g' ∧ Fl b o w g' w'
theorem dot_any (w : World) (b o : Nat) (g : Bool) (xs ys : List (Int × Int)) (v v' : Value) (h : Lst shFr w xs v) (h' : Lst shFr w ys v') (hx : ∀ d ∈ xs, inF d) (hy : ∀ d ∈ ys, inF d) (hl : xs.length ≤ ys.length) (hb : xs.length ≤ 1000000)
    (hc0 : w.cell? ⟨b, o, none⟩ = some (.bool g)) (hf : w.frozen? ⟨b, o, none⟩ = false) :
    Calls Try.prog 92 #[.pointer (some ⟨b, o, none⟩), v, v'] w fun e w' => FrRet b o (guardO g (dotO xs ys)) w e w' := by
  obtain ⟨A, cap, rfl, hc, hm, _, hel⟩ := lstFraction h
  obtain ⟨A', cap', rfl, hc', hm', _, hel'⟩ := lstFraction h'
  unfold maxLen at hm hm'
  clear h h'
  have ha : b < w.heap.size := World.block_lt_of_cell? _ _ hc0
  have H1 := Lib.hid hel
  have H2 := Lib.hid hel'
  have HX := Lib.hid hx
  have HY := Lib.hid hy
  clear hel hel' hx hy
  go_enter Try.func92, Try.ntmps92
  (go_wp2_with fail; refine Calls.mono (zero_any _) ?_; rintro e0 w1 ⟨rfl, hb⟩; obtain ⟨X0, m0, rfl⟩ := plsOf hb; clear hb)
  go_wp2_with fail
  have zb : b ≠ w.heap.size := by omega
  have zb2 : b ≠ w.heap.size + 1 + X0.size := by omega
  go_loopw [13] (fun i wr => ∃ (k : Nat) (d : Int × Int) (g' : Bool), k ≤ xs.length ∧ i = .int .i64 k ∧ Tr (guardO g (dotO (xs.take k) (ys.take k))) d g' ∧ wr.heap[w.heap.size + 1 + X0.size]? = some (.cells #[.int .i64 d.1, .int .i64 d.2] 46 (0, 0)) ∧ wr.heap[w.heap.size]? = some (.cells #[.int .i64 0, .int .i64 0] 46 (0, 0)) ∧ Fl b o w g' wr) (fun i _ => xs.length - (intOf i).toNat)
  case atStart =>
    refine ⟨0, (0, 1), g, Nat.zero_le _, rfl, ?_, (by repeat (first | with_reducible assumption | with_reducible refine pls_block _ _ ?_ | with_reducible apply blkset2 | with_reducible apply blkset1 | ((with_reducible refine blksetN ?_ ?_ _); (focus (simp <;> omega))) | with_reducible exact blknew _ _ | ((with_reducible refine blknew' _ _ _ ?_); (simp <;> omega)) | with_reducible refine blkal ?_ _)), (by repeat (first | with_reducible assumption | with_reducible refine pls_block _ _ ?_ | with_reducible apply blkset2 | with_reducible apply blkset1 | ((with_reducible refine blksetN ?_ ?_ _); (focus (simp <;> omega))) | with_reducible exact blknew _ _ | ((with_reducible refine blknew' _ _ _ ?_); (simp <;> omega)) | with_reducible refine blkal ?_ _)), (Fl.start hc0).below (by (try with_reducible refine bsz ?_); repeat (first | with_reducible exact Below.refl _ _ | ((with_reducible refine bpre ?_); (try simp only [Array.append_assoc]); repeat (first | with_reducible exact Pre.refl _ | with_reducible exact Pre.base _ _ | with_reducible refine Pre.cons _ ?_)) | with_reducible assumption | ((with_reducible refine bsetr ?_); rfl) | with_reducible refine Below.setCell ?_ (by simp <;> omega) _ | with_reducible refine bpl ?_ _ _ | with_reducible refine bal ?_ _ | with_reducible refine bdrew1 ?_ | with_reducible refine bdrew ?_ _))⟩
    cases g
    · exact Tr.zero
    · exact ⟨zero_in, fun h => (by cases h), fun _ => rfl⟩
  case round =>
    obtain ⟨k, d, g', hk, rfl, ht, b1, b2, hB⟩ := hrel
    have HT := Lib.hid ht
    have hdI := ht.1
    clear ht
    have s0 := hB.flag hc0
    have f0 : wr.frozen? ⟨b, o, none⟩ = false := (hB.frozen ha).trans hf
    obtain ⟨s1, s2, f1, f2⟩ := blk2 b1
    obtain ⟨s3, s4, f3, f4⟩ := blk2 b2
    have z0 : b < wr.heap.size := World.block_lt_of_cell? _ _ s0
    have z1 := blklt b1
    have z2 := blklt b2
    have B1 := Lib.hid b1
    have B2 := Lib.hid b2
    clear b1 b2
    by_cases hlt : k < xs.length
    · obtain ⟨bl, off, rfl, hel⟩ := H1.out (by omega)
      obtain ⟨bl', off', rfl, hel'⟩ := H2.out (by omega)
      clear H1 H2
      obtain ⟨x, hx, hok, c0, c1⟩ := hel k hlt
      obtain ⟨y, hy, hok', c0', c1'⟩ := hel' k (by omega)
      clear hel hel'
      have hmem := HX.out x (List.mem_of_getElem? hx)
      have hmem' := HY.out y (List.mem_of_getElem? hy)
      have hx := Lib.hid hx
      have hy := Lib.hid hy
      have z3 : bl < w.heap.size := World.block_lt_of_cell? _ _ c0
      have z4 : bl' < w.heap.size := World.block_lt_of_cell? _ _ c0'
      have z5 := hB.size
      replace c0 := hB.keep hc0 (by simp) c0
      replace c1 := hB.keep hc0 (by simp) c1
      replace c0' := hB.keep hc0 (by simp) c0'
      replace c1' := hB.keep hc0 (by simp) c1'
      clear hc0 hf
      have n0 : ∀ (W : World) (u : Value), (W.setCell ⟨b, o, none⟩ u).cell? ⟨bl', off' + k * 2, none⟩ = W.cell? ⟨bl', off' + k * 2, none⟩ := fun W u => World.cell?_setCell_other W _ _ u (fun e => by rw [e, c0'] at s0; cases s0)
      have n1 : ∀ (W : World) (u : Value), (W.setCell ⟨b, o, none⟩ u).cell? ⟨bl', off' + k * 2 + 1, none⟩ = W.cell? ⟨bl', off' + k * 2 + 1, none⟩ := fun W u => World.cell?_setCell_other W _ _ u (fun e => by rw [e, c1'] at s0; cases s0)
      have z6 : bl' < wr.heap.size := by omega
      have z7 : k < ys.length := by omega
      go_wp2_with fail
      go_region_law (first | (go_simp; go_at_call 91; refine Calls.mono (kmul_any _ _ g' x y _ (by first | omega | (simp <;> omega)) (by first | assumption | simp [go_sem, *]) (by first | assumption | simp [go_sem, *]) hmem hmem') ?_; rintro e w1 ⟨rfl, hb⟩; obtain ⟨X, m, rfl⟩ := plsOfS hb; clear hb) | (go_simp; go_at_call 90; refine Calls.mono (kadd_any _ _ (g' || noB (mulO x y)) d (kD (mulO x y)) _ (by first | omega | (simp <;> omega)) (by first | assumption | simp [go_sem, *]) (by first | assumption | simp [go_sem, *]) hdI (kmulI hmem hmem')) ?_; rintro e w1 ⟨rfl, hb⟩; obtain ⟨X, m, rfl⟩ := plsOfS hb; clear hb))
      all_goals (go_wp2_with fail)
      all_goals (
        go_roundw
        case rel =>
          have b1 := B1.out
          have b2 := B2.out
          have hG := hB.both (g' || noB (mulO x y) || noB (addO d (kD (mulO x y))))
          refine ⟨k + 1, kD (addO d (kD (mulO x y))), (g' || noB (mulO x y)) || noB (addO d (kD (mulO x y))), by omega, by go_num, by rw [dotO_take hx.out hy.out]; exact HT.out.dotIf hmem hmem', (by repeat (first | with_reducible assumption | with_reducible refine pls_block _ _ ?_ | with_reducible apply blkset2 | with_reducible apply blkset1 | ((with_reducible refine blksetN ?_ ?_ _); (focus (simp <;> omega))) | with_reducible exact blknew _ _ | ((with_reducible refine blknew' _ _ _ ?_); (simp <;> omega)) | with_reducible refine blkal ?_ _)), (by repeat (first | with_reducible assumption | with_reducible refine pls_block _ _ ?_ | with_reducible apply blkset2 | with_reducible apply blkset1 | ((with_reducible refine blksetN ?_ ?_ _); (focus (simp <;> omega))) | with_reducible exact blknew _ _ | ((with_reducible refine blknew' _ _ _ ?_); (simp <;> omega)) | with_reducible refine blkal ?_ _)), ?_⟩
          unfold Fl
          exact (by (try with_reducible refine bsz ?_); repeat (first | with_reducible exact Below.refl _ _ | ((with_reducible refine bpre ?_); (try simp only [Array.append_assoc]); repeat (first | with_reducible exact Pre.refl _ | with_reducible exact Pre.base _ _ | with_reducible refine Pre.cons _ ?_)) | with_reducible assumption | ((with_reducible refine bsetr ?_); rfl) | with_reducible refine Below.setCell ?_ (by simp <;> omega) _ | with_reducible refine bpl ?_ _ _ | with_reducible refine bal ?_ _ | with_reducible refine bdrew1 ?_ | with_reducible refine bdrew ?_ _))
        case measure => simp [intOf]; omega)
    · have e : k = xs.length := by omega
      subst e
      have HT2 : Tr (guardO g (dotO xs ys)) d g' := by
        have := HT.out
        rw [List.take_length] at this
        rwa [dotO_len xs ys] at this
      have hq := hB.raw
      go_wp2_with fail
      exact bodyPost_ret (v := .agg #[.int .i64 d.1, .int .i64 d.2]) (by simp [results, Try.results92, go_sem, *]) rfl ⟨d, g', rfl, HT2, by unfold Fl; exact (by (try with_reducible refine bsz ?_); repeat (first | with_reducible exact Below.refl _ _ | ((with_reducible refine bpre ?_); (try simp only [Array.append_assoc]); repeat (first | with_reducible exact Pre.refl _ | with_reducible exact Pre.base _ _ | with_reducible refine Pre.cons _ ?_)) | with_reducible assumption | ((with_reducible refine bsetr ?_); rfl) | with_reducible refine Below.setCell ?_ (by simp <;> omega) _ | with_reducible refine bpl ?_ _ _ | with_reducible refine bal ?_ _ | with_reducible refine bdrew1 ?_ | with_reducible refine bdrew ?_ _))⟩
end Go.Proofs.Ytildbkhjoiikfaa
