import Derived.Deep.AppendLies
import Derived.Deep.RegionLaw
import Derived.Test.YtekchdgpaemofaaGreatYyFk
import Derived.Test.YtekchdgpaemofaaGreatYyIx
namespace Go.Proofs.YtekchdgpaemofaaGreat
open Go.ChangeShapes Go.WideShapes Go.ChangeAt Go.RowKit
set_option linter.unusedVariables false
set_option linter.unusedSimpArgs false
attribute [local irreducible] Calls
def badF (d : Int × Int) : Bool := !frOk d.1 d.2
theorem badFraction_any (d : Int × Int) (w : World) (hd : okFr d) : Calls Tryz.prog 151 #[.agg #[.int .i64 d.1, .int .i64 d.2]] w fun e w' => e = .returned (.bool (badF d)) ∧ Below w.heap.size w w' := by
  obtain ⟨i1, i2⟩ := i64_wf hd.1
  obtain ⟨i3, i4⟩ := i64_wf hd.2
  go_enter Tryz.func151, Tryz.ntmps151
  go_wp2_with (first | (go_at_call 219; refine Calls.mono (valid_any _ _ _ i1 i2 i3 i4) ?_; rintro e w1 ⟨rfl, hb⟩; obtain ⟨X, m, rfl⟩ := plsOf hb; clear hb))
  exact bodyPost_ret (v := .bool (!frOk d.1 d.2)) (by simp [results, Tryz.results151, go_sem]) rfl ⟨rfl, belA⟩
theorem listOk_bad {xs : List (Int × Int)} : listOk xs = (decide (xs.length ≤ 256) && !anyB badF xs) := by
  unfold listOk anyB badF
  rw [List.all_eq_not_any_not]
theorem validList_any (w : World) (xs : List (Int × Int)) (v : Value) (h : Lst shFr w xs v) : Calls Tryz.prog 137 #[v] w fun e w' => e = .returned (.bool (listOk xs)) ∧ Below w.heap.size w w' := by
  have eg : ∀ args w, (callFunc 151 args).run Tryz.prog w = .ok (.enter 151 args) w := enters_of Tryz.func151 (by kernel_rfl) rfl
  obtain ⟨A, cap, rfl, hc, hm⟩ := formFraction h
  unfold maxLen at hm
  have hok := Lib.hid (oks_of flatFr h)
  by_cases hl : xs.length ≤ 256
  · have hr : listOk xs = !anyB badF xs := by rw [listOk_bad]; simp [hl]
    have hl' : ((xs.length : Nat) : Int) ≤ 256 := by omega
    go_enter Tryz.func137, Tryz.ntmps137
    go_wp2_with (first | (go_at_call 110; refine Calls.mono (hasFraction_any _ xs _ 151 #[] badF (h.below belA) (by omega) eg (fun W d _ hd => badFraction_any d W (hok.out d hd))) ?_; rintro e w1 ⟨rfl, hb⟩; obtain ⟨X, m, rfl⟩ := plsOf hb; clear hb))
    exact bodyPost_ret (v := .bool (!anyB badF xs)) (by simp [results, Tryz.results137, go_sem]) rfl ⟨by rw [hr], belA⟩
  · have hr : listOk xs = false := by rw [listOk_bad]; simp [hl]
    have hl' : 256 < ((xs.length : Nat) : Int) := by omega
    go_enter Tryz.func137, Tryz.ntmps137
    go_wp2
    exact bodyPost_ret (v := .bool false) (by simp [results, Tryz.results137, go_sem]) rfl ⟨by simp [hr], belA⟩
def FrRet (b o : Nat) (r : Option (Int × Int)) (w : World) (e : Ending) (w' : World) : Prop := ∃ (d : Int × Int) (g' : Bool), e = .returned (.agg #[.int .i64 d.1, .int .i64 d.2]) ∧ Tr r d g' ∧ Fl b o w g' w'
theorem dot_any (w : World) (b o : Nat) (g : Bool) (xs ys : List (Int × Int)) (v v' : Value) (h : Lst shFr w xs v) (h' : Lst shFr w ys v') (hx : ∀ d ∈ xs, inF d) (hy : ∀ d ∈ ys, inF d) (hl : xs.length ≤ ys.length) (hb : xs.length ≤ 1000000)
    (hc0 : w.cell? ⟨b, o, none⟩ = some (.bool g)) (hf : w.frozen? ⟨b, o, none⟩ = false) :
    Calls Tryz.prog 171 #[.pointer (some ⟨b, o, none⟩), v, v'] w fun e w' => FrRet b o (guardO g (dotO xs ys)) w e w' := by
  obtain ⟨A, cap, rfl, hc, hm, _, hel⟩ := lstFraction h
  obtain ⟨A', cap', rfl, hc', hm', _, hel'⟩ := lstFraction h'
  unfold maxLen at hm hm'
  clear h h'
  have ha : b < w.heap.size := World.block_lt_of_cell? _ _ hc0
  have H1 := Lib.hid hel
  have H2 := Lib.hid hel'
  have HX := Lib.hid hx
  have HY := Lib.hid hy
  clear hel hel' hx hy
  go_enter Tryz.func171, Tryz.ntmps171
  (go_wp2_with fail; refine Calls.mono (zero_any _) ?_; rintro e0 w1 ⟨rfl, hb⟩; obtain ⟨X0, m0, rfl⟩ := plsOf hb; clear hb)
  go_wp2_with fail
  have zb : b ≠ w.heap.size := by omega
  have zb2 : b ≠ w.heap.size + 1 + X0.size := by omega
  go_loopw [13] (fun i wr => ∃ (k : Nat) (d : Int × Int) (g' : Bool), k ≤ xs.length ∧ i = .int .i64 k ∧ Tr (guardO g (dotO (xs.take k) (ys.take k))) d g' ∧ wr.heap[w.heap.size + 1 + X0.size]? = some (.cells #[.int .i64 d.1, .int .i64 d.2] 54 (0, 0)) ∧ wr.heap[w.heap.size]? = some (.cells #[.int .i64 0, .int .i64 0] 54 (0, 0)) ∧ Fl b o w g' wr) (fun i _ => xs.length - (intOf i).toNat)
  case atStart =>
    refine ⟨0, (0, 1), g, Nat.zero_le _, rfl, ?_, blkA, blkA, (Fl.start hc0).below belA⟩
    cases g
    · exact Tr.zero
    · exact ⟨zero_in, fun h => (by cases h), fun _ => rfl⟩
  case round =>
    obtain ⟨k, d, g', hk, rfl, ht, b1, b2, hB⟩ := hrel
    have HT := Lib.hid ht
    have hdI := ht.1
    clear ht
    have s0 := hB.flag hc0
    have f0 : wr.frozen? ⟨b, o, none⟩ = false := (hB.frozen ha).trans hf
    obtain ⟨s1, s2, f1, f2⟩ := blk2 b1
    obtain ⟨s3, s4, f3, f4⟩ := blk2 b2
    have z0 : b < wr.heap.size := World.block_lt_of_cell? _ _ s0
    have z1 := blklt b1
    have z2 := blklt b2
    have B1 := Lib.hid b1
    have B2 := Lib.hid b2
    clear b1 b2
    by_cases hlt : k < xs.length
    · obtain ⟨bl, off, rfl, hel⟩ := H1.out (by omega)
      obtain ⟨bl', off', rfl, hel'⟩ := H2.out (by omega)
      clear H1 H2
      obtain ⟨x, hx, hok, c0, c1⟩ := hel k hlt
      obtain ⟨y, hy, hok', c0', c1'⟩ := hel' k (by omega)
      clear hel hel'
      have hmem := HX.out x (List.mem_of_getElem? hx)
      have hmem' := HY.out y (List.mem_of_getElem? hy)
      have hx := Lib.hid hx
      have hy := Lib.hid hy
      have z3 : bl < w.heap.size := World.block_lt_of_cell? _ _ c0
      have z4 : bl' < w.heap.size := World.block_lt_of_cell? _ _ c0'
      have z5 := hB.size
      replace c0 := hB.keep hc0 (by simp) c0
      replace c1 := hB.keep hc0 (by simp) c1
      replace c0' := hB.keep hc0 (by simp) c0'
      replace c1' := hB.keep hc0 (by simp) c1'
      clear hc0 hf
      have n0 : ∀ (W : World) (u : Value), (W.setCell ⟨b, o, none⟩ u).cell? ⟨bl', off' + k * 2, none⟩ = W.cell? ⟨bl', off' + k * 2, none⟩ := fun W u => World.cell?_setCell_other W _ _ u (fun e => by rw [e, c0'] at s0; cases s0)
      have n1 : ∀ (W : World) (u : Value), (W.setCell ⟨b, o, none⟩ u).cell? ⟨bl', off' + k * 2 + 1, none⟩ = W.cell? ⟨bl', off' + k * 2 + 1, none⟩ := fun W u => World.cell?_setCell_other W _ _ u (fun e => by rw [e, c1'] at s0; cases s0)
      have z6 : bl' < wr.heap.size := by omega
      have z7 : k < ys.length := by omega
      go_wp2_with fail
      go_region_law (first | (go_simp; go_at_call 149; refine Calls.mono (kmul_any _ _ g' x y _ (by first | omega | (simp <;> omega)) (by first | assumption | simp [go_sem, *]) (by first | assumption | simp [go_sem, *]) hmem hmem') ?_; rintro e w1 ⟨rfl, hb⟩; obtain ⟨X, m, rfl⟩ := plsOfS hb; clear hb) | (go_simp; go_at_call 148; refine Calls.mono (kadd_any _ _ (g' || noB (mulO x y)) d (kD (mulO x y)) _ (by first | omega | (simp <;> omega)) (by first | assumption | simp [go_sem, *]) (by first | assumption | simp [go_sem, *]) hdI (kmulI hmem hmem')) ?_; rintro e w1 ⟨rfl, hb⟩; obtain ⟨X, m, rfl⟩ := plsOfS hb; clear hb))
      all_goals (go_wp2_with fail)
      all_goals (
        go_roundw
        case rel =>
          have b1 := B1.out
          have b2 := B2.out
          have hG := hB.both (g' || noB (mulO x y) || noB (addO d (kD (mulO x y))))
          refine ⟨k + 1, kD (addO d (kD (mulO x y))), (g' || noB (mulO x y)) || noB (addO d (kD (mulO x y))), by omega, by go_num, by rw [dotO_take hx.out hy.out]; exact HT.out.dotIf hmem hmem', blkA, blkA, ?_⟩
          unfold Fl
          exact belA
        case measure => simp [intOf]; omega)
    · have e : k = xs.length := by omega
      subst e
      have HT2 : Tr (guardO g (dotO xs ys)) d g' := by
        have := HT.out
        rw [List.take_length] at this
        rwa [dotO_len xs ys] at this
      have hq := hB.raw
      go_wp2_with fail
      exact bodyPost_ret (v := .agg #[.int .i64 d.1, .int .i64 d.2]) (by simp [results, Tryz.results171, go_sem, *]) rfl ⟨d, g', rfl, HT2, by unfold Fl; exact belA⟩
end Go.Proofs.YtekchdgpaemofaaGreat
