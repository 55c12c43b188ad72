import Derived.BigGuardPart
import Derived.Deep.RegionHeld3
import Derived.Test.YtekchdgpaemofaaGreatYyFk
import Derived.Test.YtekchdgpaemofaaGreatYySl
namespace Go.Proofs.YtekchdgpaemofaaGreat
open Go.ChangeShapes Go.WideShapes Go.ChangeAt Go.RowKit
set_option linter.unusedVariables false
set_option linter.unusedSimpArgs false
attribute [local irreducible] Calls
theorem sZero_any (w : World) : Calls Tryz.prog 127 #[] w fun e w' => e = .returned (.agg #[.int .i64 0, .int .i64 1]) ∧ Below w.heap.size w w' := by
  go_enter Tryz.func127, Tryz.ntmps127
  go_wp2
  exact bodyPost_ret (v := .agg #[.int .i64 0, .int .i64 1]) (by simp [results, Tryz.results127, go_sem]) rfl ⟨rfl, belA⟩
set_option maxHeartbeats 1000000 in
theorem sDot_any (w : World) (xs ys : List (Int × Int)) (v v' : Value) (h : Lst shFr w xs v) (h' : Lst shFr w ys v') (hx : ∀ d ∈ xs, inF d) (hy : ∀ d ∈ ys, inF d) (hl : xs.length ≤ ys.length) :
    Calls Tryz.prog 169 #[v, v'] w fun e w' => e = .returned (.tuple #[.agg #[.int .i64 (rD (dotO xs ys)).1, .int .i64 (rD (dotO xs ys)).2], .int .i64 (rC (dotO xs ys))]) ∧ Below w.heap.size w w' := by
  obtain ⟨A, cap, rfl, hc, hm, _, hel⟩ := lstFraction h
  obtain ⟨A', cap', rfl, hc', hm', _, hel'⟩ := lstFraction h'
  unfold maxLen at hm hm'
  clear h h'
  have H1 := Lib.hid hel
  have H2 := Lib.hid hel'
  have HX := Lib.hid hx
  have HY := Lib.hid hy
  clear hel hel' hx hy
  go_enter Tryz.func169, Tryz.ntmps169
  (go_wp2_with fail; refine Calls.mono (sZero_any _) ?_; rintro e0 w1 ⟨rfl, hb⟩; obtain ⟨X0, m0, rfl⟩ := plsOf hb; clear hb)
  go_wp2_with fail
  go_loopw [7] (fun i wr => ∃ (k : Nat) (d : Int × Int), k ≤ xs.length ∧ i = .int .i64 k ∧ dotO (xs.take k) (ys.take k) = some d ∧ inF d ∧ wr.heap[w.heap.size + 1 + X0.size]? = some (.cells #[.int .i64 d.1, .int .i64 d.2] 54 (0, 0)) ∧ wr.heap[w.heap.size]? = some (.cells #[.int .i64 0, .int .i64 0] 54 (0, 0)) ∧ Below w.heap.size w wr) (fun i _ => xs.length - (intOf i).toNat)
  case atStart => exact ⟨0, (0, 1), Nat.zero_le _, rfl, rfl, zero_in, blkA, blkA, belA⟩
  case round =>
    obtain ⟨k, d, hk, rfl, ht, hdI, b1, b2, hB⟩ := hrel
    have HT := Lib.hid ht
    clear ht
    obtain ⟨s1, s2, f1, f2⟩ := blk2 b1
    obtain ⟨s3, s4, f3, f4⟩ := blk2 b2
    have z1 := blklt b1
    have z2 := blklt b2
    have B1 := Lib.hid b1
    have B2 := Lib.hid b2
    clear b1 b2
    by_cases hlt : k < xs.length
    · obtain ⟨bl, off, rfl, hel⟩ := H1.out (by omega)
      obtain ⟨bl', off', rfl, hel'⟩ := H2.out (by omega)
      clear H1 H2
      have hlt2 : k < ys.length := by omega
      obtain ⟨x, hx, hok, c0, c1⟩ := hel k hlt
      obtain ⟨y, hy, hok', e0, e1⟩ := hel' k hlt2
      clear hel hel'
      have hmem := HX.out x (List.mem_of_getElem? hx)
      have hmem' := HY.out y (List.mem_of_getElem? hy)
      have Hx := Lib.hid hx
      have Hy := Lib.hid hy
      clear hx hy
      replace c0 := bkeep hB c0
      replace c1 := bkeep hB c1
      replace e0 := bkeep hB e0
      replace e1 := bkeep hB e1
      have z3 : bl < wr.heap.size := World.block_lt_of_cell? _ _ c0
      have z4 : bl' < wr.heap.size := World.block_lt_of_cell? _ _ e0
      have HN : Hid (dotO (xs.take (k + 1)) (ys.take (k + 1)) = dotS (some d) x y) := Lib.hid (by rw [dotO_take Hx.out Hy.out, HT.out])
      cases hm : mulO x y with
      | none =>
        have hr : Hid (dotO xs ys = none) := Lib.hid (dotO_none (k := k + 1) (by rw [HN.out]; unfold dotS; rw [hm]; rfl))
        go_wp2_with fail
        go_region_held3 (fun w' => w'.cell? ⟨bl, off + k * 2, none⟩ = some (.int .i64 x.1) ∧ w'.cell? ⟨bl, off + k * 2 + 1, none⟩ = some (.int .i64 x.2) ∧ w'.cell? ⟨bl', off' + k * 2, none⟩ = some (.int .i64 y.1) ∧ w'.cell? ⟨bl', off' + k * 2 + 1, none⟩ = some (.int .i64 y.2)) (simp [*, go_sem]) (first | (go_at_call 128; refine Calls.mono (rmul_any x y _ hmem hmem') ?_; rintro e w1 ⟨rfl, hb⟩; obtain ⟨X, m, rfl⟩ := plsOf hb; clear hb))
        all_goals (go_wp2_with fail)
        all_goals exact bodyPost_ret (v := .tuple #[.agg #[.int .i64 0, .int .i64 0], .int .i64 3]) (by simp [results, Tryz.results169, go_sem, *]) rfl ⟨by rw [hr.out]; rfl, belA⟩
      | some mm =>
        have hmI := mulO_in hmem.2.2.1 hmem'.2.2.1 hm
        cases hz : addO d mm with
        | none =>
          have hr : Hid (dotO xs ys = none) := Lib.hid (dotO_none (k := k + 1) (by rw [HN.out]; unfold dotS; rw [hm]; exact hz))
          go_wp2_with fail
          go_region_held3 (fun w' => w'.cell? ⟨bl, off + k * 2, none⟩ = some (.int .i64 x.1) ∧ w'.cell? ⟨bl, off + k * 2 + 1, none⟩ = some (.int .i64 x.2) ∧ w'.cell? ⟨bl', off' + k * 2, none⟩ = some (.int .i64 y.1) ∧ w'.cell? ⟨bl', off' + k * 2 + 1, none⟩ = some (.int .i64 y.2)) (simp [*, go_sem]) (first | (go_at_call 128; refine Calls.mono (rmul_any x y _ hmem hmem') ?_; rintro e w1 ⟨rfl, hb⟩; obtain ⟨X, m, rfl⟩ := plsOf hb; clear hb))
          all_goals (go_wp2_with (first | (go_at_call 130; refine Calls.mono (radd_any d mm _ hdI hmI) ?_; rintro e w1 ⟨rfl, hb⟩; obtain ⟨X, m, rfl⟩ := plsOf hb; clear hb)))
          all_goals exact bodyPost_ret (v := .tuple #[.agg #[.int .i64 0, .int .i64 0], .int .i64 3]) (by simp [results, Tryz.results169, go_sem, *]) rfl ⟨by rw [hr.out]; rfl, belA⟩
        | some z =>
          have hzI := addO_in hdI.2.2.1 hmI.2.2.1 hz
          have hr : Hid (dotO (xs.take (k + 1)) (ys.take (k + 1)) = some z) := Lib.hid (by rw [HN.out]; unfold dotS; rw [hm]; exact hz)
          go_wp2_with fail
          go_region_held3 (fun w' => w'.cell? ⟨bl, off + k * 2, none⟩ = some (.int .i64 x.1) ∧ w'.cell? ⟨bl, off + k * 2 + 1, none⟩ = some (.int .i64 x.2) ∧ w'.cell? ⟨bl', off' + k * 2, none⟩ = some (.int .i64 y.1) ∧ w'.cell? ⟨bl', off' + k * 2 + 1, none⟩ = some (.int .i64 y.2)) (simp [*, go_sem]) (first | (go_at_call 128; refine Calls.mono (rmul_any x y _ hmem hmem') ?_; rintro e w1 ⟨rfl, hb⟩; obtain ⟨X, m, rfl⟩ := plsOf hb; clear hb))
          all_goals (go_wp2_with (first | (go_at_call 130; refine Calls.mono (radd_any d mm _ hdI hmI) ?_; rintro e w1 ⟨rfl, hb⟩; obtain ⟨X, m, rfl⟩ := plsOf hb; clear hb)))
          all_goals (
            go_roundw
            case rel =>
              have b1 := B1.out
              have b2 := B2.out
              exact ⟨k + 1, z, by omega, by go_num, hr.out, hzI, blkA, blkA, belA⟩
            case measure => simp [intOf]; omega)
    · have e : k = xs.length := by omega
      subst e
      have hr : Hid (dotO xs ys = some d) := Lib.hid (by have := HT.out; rwa [List.take_length, dotO_len] at this)
      go_wp2_with fail
      exact bodyPost_ret (v := .tuple #[.agg #[.int .i64 d.1, .int .i64 d.2], .int .i64 0]) (by simp [results, Tryz.results169, go_sem, *]) rfl ⟨by rw [hr.out]; rfl, belA⟩
end Go.Proofs.YtekchdgpaemofaaGreat
