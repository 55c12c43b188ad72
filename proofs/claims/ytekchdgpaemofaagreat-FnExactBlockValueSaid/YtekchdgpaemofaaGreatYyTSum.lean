import Derived.BigGuardPart
import Derived.Deep.RegionHeld3
import Derived.Test.YtekchdgpaemofaaGreatProg
import Derived.Test.YtekchdgpaemofaaGreatYySl
namespace Go.Proofs.YtekchdgpaemofaaGreat
open Go.ChangeShapes Go.WideShapes Go.ChangeAt Go.RowKit
set_option linter.unusedVariables false
set_option linter.unusedSimpArgs false

theorem toGraph_any (x0 x1 : Int) (w : World) :
    Calls Tryz.prog 24 #[.agg #[.int .i64 x0, .int .u32 x1]] w fun e w' => e = .returned (.agg #[.int .i64 x0, .int .u32 x1]) ∧ Below w.heap.size w w' := by
  go_enter Tryz.func24, Tryz.ntmps24
  go_wp2
  exact bodyPost_ret (v := .agg #[.int .i64 x0, .int .u32 x1]) (by simp [results, Tryz.results24, go_sem]) rfl ⟨rfl, belA⟩
theorem eqGraph_same (x0 x1 : Int) (w : World) :
    Calls Tryz.prog 72 #[.agg #[.int .i64 x0, .int .u32 x1], .agg #[.int .i64 x0, .int .u32 x1]] w fun e w' => e = .returned (.bool true) ∧ Below w.heap.size w w' := by
  have h0 : (x0 != x0) = false := by simp
  have h1 : (x1 != x1) = false := by simp
  go_enter Tryz.func72, Tryz.ntmps72
  go_wp2
  go_ret
  exact ⟨rfl, belA⟩
end Go.Proofs.YtekchdgpaemofaaGreat

/- The laws' copies and equality of impl.Flag. -/
namespace Go.Proofs.YtekchdgpaemofaaGreat
open Go.ChangeShapes Go.WideShapes Go.ChangeAt Go.RowKit
set_option linter.unusedVariables false
set_option linter.unusedSimpArgs false

theorem toFlag_any (x0 x1 x2 : Int) (w : World) :
    Calls Tryz.prog 62 #[.agg #[.int .i64 x0, .int .i64 x1, .int .u32 x2]] w fun e w' => e = .returned (.agg #[.int .i64 x0, .int .i64 x1, .int .u32 x2]) ∧ Below w.heap.size w w' := by
  go_enter Tryz.func62, Tryz.ntmps62
  go_wp2_with (first | (go_at_call 24; refine Calls.mono (toGraph_any _ _ _) ?_; rintro e w1 ⟨rfl, hb⟩; obtain ⟨X, m, rfl⟩ := plsOf hb; clear hb))
  exact bodyPost_ret (v := .agg #[.int .i64 x0, .int .i64 x1, .int .u32 x2]) (by simp [results, Tryz.results62, go_sem]) rfl ⟨rfl, belA⟩
theorem eqFlag_same (x0 x1 x2 : Int) (w : World) :
    Calls Tryz.prog 74 #[.agg #[.int .i64 x0, .int .i64 x1, .int .u32 x2], .agg #[.int .i64 x0, .int .i64 x1, .int .u32 x2]] w fun e w' => e = .returned (.bool true) ∧ Below w.heap.size w w' := by
  have h0 : (x0 != x0) = false := by simp
  go_enter Tryz.func74, Tryz.ntmps74
  go_wp2_with (first | (go_at_call 72; refine Calls.mono (eqGraph_same _ _ _) ?_; rintro e w1 ⟨rfl, hb⟩; obtain ⟨X, m, rfl⟩ := plsOf hb; clear hb))
  go_ret
  exact ⟨rfl, belA⟩
theorem toFlagS_any (w : World) (xs : List (Int × (Int × Int))) (v : Value) (h : Lst shFlag w xs v) (hb : xs.length ≤ 1048576) :
    Calls Tryz.prog 13 #[v] w fun e w' => ∃ A cap F, e = .returned (.slice A xs.length cap) ∧ Own shFlag w.heap.size w' xs (.slice A xs.length cap) F ∧ Below w.heap.size w w' := by
  obtain ⟨A, cap, rfl, hc, hm, hoks, hel⟩ := lstFlag h
  clear h
  have hoks := Lib.hid hoks
  obtain ⟨cur, hcur, hmk⟩ := mk_slice (P := Tryz.prog) Tryz.underlying34 (sz := 3) (bytes := 24) (e := 104) (by kernel_rfl) xs.length (by omega) (by omega)
  have hel' := Lib.hid hel; clear hel
  go_enter Tryz.func13, Tryz.ntmps13
  go_wp2
  go_loopw [4] (fun i wr => ∃ (k : Nat), k ≤ xs.length ∧ i = .int .i64 k ∧ Part wr w.heap.size 104 (xs.length * 3) ((xs.take k).flatMap encFlag) ∧ Below w.heap.size w wr) (fun i _ => xs.length - (intOf i).toNat)
  case atStart => exact ⟨0, Nat.zero_le _, rfl, Part.new hcur, belA⟩
  case round =>
    clear hmk hcur
    obtain ⟨k, hk, rfl, hg, hB⟩ := hrel
    by_cases hlt : k < xs.length
    · obtain ⟨bl, off, rfl, hel⟩ := hel'.out (by omega)
      clear hel'
      obtain ⟨d, hd, hok, c0, c1, c2⟩ := hel k hlt
      clear hel
      replace c0 := bkeep hB c0
      replace c1 := bkeep hB c1
      replace c2 := bkeep hB c2
      obtain ⟨⟨u0, e0⟩, f0⟩ := hg.cell (p := k * 3) (by omega)
      obtain ⟨⟨u1, e1⟩, f1⟩ := hg.cell (p := k * 3 + 1) (by omega)
      obtain ⟨⟨u2, e2⟩, f2⟩ := hg.cell (p := k * 3 + 2) (by omega)
      have hz := hg.lt
      have hd := Lib.hid hd
      go_wp2_with (first | (go_at_call 62; refine Calls.mono (toFlag_any _ _ _ _) ?_; rintro e w1 ⟨rfl, hb⟩; obtain ⟨X, m, rfl⟩ := plsOf hb; clear hb))
      go_roundw
      case rel =>
        have hL : ((xs.take k).flatMap encFlag).length = k * 3 := (flatMap_len (n := 3) (fun _ => rfl) _).trans (by rw [take_len hk])
        refine ⟨k + 1, by omega, by go_num, ?_, belA⟩
        rw [flatMap_take encFlag hd.out]
        have p0 := hg
        have l0 := hL
        have p1 := Part.push p0 (p := k * 3) l0.symm (by omega) (.int .i64 d.1)
        have l1 := len1 l0 (.int .i64 d.1)
        have p2 := Part.push p1 (p := k * 3 + 1) l1.symm (by omega) (.int .i64 d.2.1)
        have l2 := len1 l1 (.int .i64 d.2.1)
        have p3 := Part.push p2 (p := k * 3 + 2) l2.symm (by omega) (.int .u32 d.2.2)
        have l3 := len1 l2 (.int .u32 d.2.2)
        exact (p3.eq (by simp)).pls _ _
      case measure => simp [intOf]; omega
    · have e : k = xs.length := by omega
      subst e
      rw [List.take_length] at hg
      go_wp2
      exact bodyPost_ret (v := .slice (some ⟨w.heap.size, 0, none⟩) xs.length xs.length) (by simp [results, Tryz.results13, go_sem]) rfl ⟨_, _, _, rfl, hg.own (s := shFlag) flatFlag (fun _ => rfl) (Nat.le_refl _) (Nat.le_trans hc hm) (Nat.le_refl _) hoks.out (Nat.le_refl _), belA⟩
theorem eqFlagS_same (w : World) (xs : List (Int × (Int × Int))) (v v' : Value) (h : Lst shFlag w xs v) (h' : Lst shFlag w xs v') (hb : xs.length ≤ 9223372036854775806) :
    Calls Tryz.prog 17 #[v, v'] w fun e w' => e = .returned (.bool true) ∧ Below w.heap.size w w' := by
  obtain ⟨A, cap, rfl, hc, hm, _, hel⟩ := lstFlag h
  obtain ⟨A', cap', rfl, hc', hm', _, hel'⟩ := lstFlag h'
  clear h h'
  have H1 := Lib.hid hel
  have H2 := Lib.hid hel'
  clear hel hel'
  go_enter Tryz.func17, Tryz.ntmps17
  go_wp2
  go_loopw [5] (fun i wr => ∃ (k : Nat), k ≤ xs.length ∧ i = .int .i64 k ∧ Below w.heap.size w wr) (fun i _ => xs.length - (intOf i).toNat)
  case atStart => exact ⟨0, Nat.zero_le _, rfl, belA⟩
  case round =>
    obtain ⟨k, hk, rfl, hB⟩ := hrel
    by_cases hlt : k < xs.length
    · obtain ⟨bl, off, rfl, hel⟩ := H1.out (by omega)
      obtain ⟨bl', off', rfl, hel'⟩ := H2.out (by omega)
      clear H1 H2
      obtain ⟨d, hd, hok, c0, c1, c2⟩ := hel k hlt
      obtain ⟨d', hd', _, e0, e1, e2⟩ := hel' k hlt
      rw [hd] at hd'
      cases hd'
      clear hel hel' hd
      replace c0 := bkeep hB c0
      replace e0 := bkeep hB e0
      replace c1 := bkeep hB c1
      replace e1 := bkeep hB e1
      replace c2 := bkeep hB c2
      replace e2 := bkeep hB e2
      have z1 : bl < wr.heap.size := World.block_lt_of_cell? _ _ c0
      have z2 : bl' < wr.heap.size := World.block_lt_of_cell? _ _ e0
      go_wp2
      go_region_held3 (fun w' => w'.cell? ⟨bl, off + k * 3, none⟩ = some (.int .i64 d.1) ∧ w'.cell? ⟨bl, off + k * 3 + 1, none⟩ = some (.int .i64 d.2.1) ∧ w'.cell? ⟨bl, off + k * 3 + 2, none⟩ = some (.int .u32 d.2.2) ∧ w'.cell? ⟨bl', off' + k * 3, none⟩ = some (.int .i64 d.1) ∧ w'.cell? ⟨bl', off' + k * 3 + 1, none⟩ = some (.int .i64 d.2.1) ∧ w'.cell? ⟨bl', off' + k * 3 + 2, none⟩ = some (.int .u32 d.2.2)) (simp [*, go_sem]) (first | (go_at_call 74; refine Calls.mono (eqFlag_same _ _ _ _) ?_; rintro e w1 ⟨rfl, hb⟩; obtain ⟨X, m, rfl⟩ := plsOf hb; clear hb))
      all_goals (go_wp2_with fail)
      go_roundw
      case rel => exact ⟨k + 1, by omega, by go_num, belA⟩
      case measure => simp [intOf]; omega
    · go_wp2
      go_ret
      exact ⟨rfl, belA⟩
theorem szFlagS_any (n cap : Nat) (A : Option Addr) (left : Int) (w : World) (h1 : -1 ≤ left) (h2 : left ≤ 1048576) (hn : n ≤ cap) (hm : cap ≤ maxLen) :
    Calls Tryz.prog 10 #[.slice A n cap, .int .i64 left] w fun e w' => e = .returned (.int .i64 (szI left n)) ∧ w = w' := by
  unfold maxLen at hm
  by_cases hl : left - (n : Int) < 0
  · have hx : szI left n = -1 := if_pos hl
    rw [hx]
    go_enter Tryz.func10, Tryz.ntmps10
    go_wp2
    go_ret
    exact ⟨rfl, rfl⟩
  · have hx : szI left n = left - n := if_neg hl
    rw [hx]
    go_enter Tryz.func10, Tryz.ntmps10
    go_wp2
    go_ret
    exact ⟨rfl, rfl⟩
end Go.Proofs.YtekchdgpaemofaaGreat

/- The laws' copies and equality of impl.Fraction. -/
namespace Go.Proofs.YtekchdgpaemofaaGreat
open Go.ChangeShapes Go.WideShapes Go.ChangeAt Go.RowKit
set_option linter.unusedVariables false
set_option linter.unusedSimpArgs false

theorem toFraction_any (x0 x1 : Int) (w : World) :
    Calls Tryz.prog 100 #[.agg #[.int .i64 x0, .int .i64 x1]] w fun e w' => e = .returned (.agg #[.int .i64 x0, .int .i64 x1]) ∧ Below w.heap.size w w' := by
  go_enter Tryz.func100, Tryz.ntmps100
  go_wp2
  exact bodyPost_ret (v := .agg #[.int .i64 x0, .int .i64 x1]) (by simp [results, Tryz.results100, go_sem]) rfl ⟨rfl, belA⟩
theorem eqFraction_same (x0 x1 : Int) (w : World) :
    Calls Tryz.prog 31 #[.agg #[.int .i64 x0, .int .i64 x1], .agg #[.int .i64 x0, .int .i64 x1]] w fun e w' => e = .returned (.bool true) ∧ Below w.heap.size w w' := by
  have h0 : (x0 != x0) = false := by simp
  have h1 : (x1 != x1) = false := by simp
  go_enter Tryz.func31, Tryz.ntmps31
  go_wp2
  go_ret
  exact ⟨rfl, belA⟩
theorem toFractionS_any (w : World) (xs : List (Int × Int)) (v : Value) (h : Lst shFr w xs v) (hb : xs.length ≤ 1048576) :
    Calls Tryz.prog 63 #[v] w fun e w' => ∃ A cap F, e = .returned (.slice A xs.length cap) ∧ Own shFr w.heap.size w' xs (.slice A xs.length cap) F ∧ Below w.heap.size w w' := by
  obtain ⟨A, cap, rfl, hc, hm, hoks, hel⟩ := lstFraction h
  clear h
  have hoks := Lib.hid hoks
  obtain ⟨cur, hcur, hmk⟩ := mk_slice (P := Tryz.prog) Tryz.underlying94 (sz := 2) (bytes := 16) (e := 54) (by kernel_rfl) xs.length (by omega) (by omega)
  have hel' := Lib.hid hel; clear hel
  go_enter Tryz.func63, Tryz.ntmps63
  go_wp2
  go_loopw [4] (fun i wr => ∃ (k : Nat), k ≤ xs.length ∧ i = .int .i64 k ∧ Part wr w.heap.size 54 (xs.length * 2) ((xs.take k).flatMap encFr) ∧ Below w.heap.size w wr) (fun i _ => xs.length - (intOf i).toNat)
  case atStart => exact ⟨0, Nat.zero_le _, rfl, Part.new hcur, belA⟩
  case round =>
    clear hmk hcur
    obtain ⟨k, hk, rfl, hg, hB⟩ := hrel
    by_cases hlt : k < xs.length
    · obtain ⟨bl, off, rfl, hel⟩ := hel'.out (by omega)
      clear hel'
      obtain ⟨d, hd, hok, c0, c1⟩ := hel k hlt
      clear hel
      replace c0 := bkeep hB c0
      replace c1 := bkeep hB c1
      obtain ⟨⟨u0, e0⟩, f0⟩ := hg.cell (p := k * 2) (by omega)
      obtain ⟨⟨u1, e1⟩, f1⟩ := hg.cell (p := k * 2 + 1) (by omega)
      have hz := hg.lt
      have hd := Lib.hid hd
      go_wp2_with (first | (go_at_call 100; refine Calls.mono (toFraction_any _ _ _) ?_; rintro e w1 ⟨rfl, hb⟩; obtain ⟨X, m, rfl⟩ := plsOf hb; clear hb))
      go_roundw
      case rel =>
        have hL : ((xs.take k).flatMap encFr).length = k * 2 := (flatMap_len (n := 2) (fun _ => rfl) _).trans (by rw [take_len hk])
        refine ⟨k + 1, by omega, by go_num, ?_, belA⟩
        rw [flatMap_take encFr hd.out]
        have p0 := hg
        have l0 := hL
        have p1 := Part.push p0 (p := k * 2) l0.symm (by omega) (.int .i64 d.1)
        have l1 := len1 l0 (.int .i64 d.1)
        have p2 := Part.push p1 (p := k * 2 + 1) l1.symm (by omega) (.int .i64 d.2)
        have l2 := len1 l1 (.int .i64 d.2)
        exact (p2.eq (by simp)).pls _ _
      case measure => simp [intOf]; omega
    · have e : k = xs.length := by omega
      subst e
      rw [List.take_length] at hg
      go_wp2
      exact bodyPost_ret (v := .slice (some ⟨w.heap.size, 0, none⟩) xs.length xs.length) (by simp [results, Tryz.results63, go_sem]) rfl ⟨_, _, _, rfl, hg.own (s := shFr) flatFr (fun _ => rfl) (Nat.le_refl _) (Nat.le_trans hc hm) (Nat.le_refl _) hoks.out (Nat.le_refl _), belA⟩
theorem eqFractionS_same (w : World) (xs : List (Int × Int)) (v v' : Value) (h : Lst shFr w xs v) (h' : Lst shFr w xs v') (hb : xs.length ≤ 9223372036854775806) :
    Calls Tryz.prog 50 #[v, v'] w fun e w' => e = .returned (.bool true) ∧ Below w.heap.size w w' := by
  obtain ⟨A, cap, rfl, hc, hm, _, hel⟩ := lstFraction h
  obtain ⟨A', cap', rfl, hc', hm', _, hel'⟩ := lstFraction h'
  clear h h'
  have H1 := Lib.hid hel
  have H2 := Lib.hid hel'
  clear hel hel'
  go_enter Tryz.func50, Tryz.ntmps50
  go_wp2
  go_loopw [5] (fun i wr => ∃ (k : Nat), k ≤ xs.length ∧ i = .int .i64 k ∧ Below w.heap.size w wr) (fun i _ => xs.length - (intOf i).toNat)
  case atStart => exact ⟨0, Nat.zero_le _, rfl, belA⟩
  case round =>
    obtain ⟨k, hk, rfl, hB⟩ := hrel
    by_cases hlt : k < xs.length
    · obtain ⟨bl, off, rfl, hel⟩ := H1.out (by omega)
      obtain ⟨bl', off', rfl, hel'⟩ := H2.out (by omega)
      clear H1 H2
      obtain ⟨d, hd, hok, c0, c1⟩ := hel k hlt
      obtain ⟨d', hd', _, e0, e1⟩ := hel' k hlt
      rw [hd] at hd'
      cases hd'
      clear hel hel' hd
      replace c0 := bkeep hB c0
      replace e0 := bkeep hB e0
      replace c1 := bkeep hB c1
      replace e1 := bkeep hB e1
      have z1 : bl < wr.heap.size := World.block_lt_of_cell? _ _ c0
      have z2 : bl' < wr.heap.size := World.block_lt_of_cell? _ _ e0
      go_wp2
      go_region_held3 (fun w' => w'.cell? ⟨bl, off + k * 2, none⟩ = some (.int .i64 d.1) ∧ w'.cell? ⟨bl, off + k * 2 + 1, none⟩ = some (.int .i64 d.2) ∧ w'.cell? ⟨bl', off' + k * 2, none⟩ = some (.int .i64 d.1) ∧ w'.cell? ⟨bl', off' + k * 2 + 1, none⟩ = some (.int .i64 d.2)) (simp [*, go_sem]) (first | (go_at_call 31; refine Calls.mono (eqFraction_same _ _ _) ?_; rintro e w1 ⟨rfl, hb⟩; obtain ⟨X, m, rfl⟩ := plsOf hb; clear hb))
      all_goals (go_wp2_with fail)
      go_roundw
      case rel => exact ⟨k + 1, by omega, by go_num, belA⟩
      case measure => simp [intOf]; omega
    · go_wp2
      go_ret
      exact ⟨rfl, belA⟩
theorem szFractionS_any (n cap : Nat) (A : Option Addr) (left : Int) (w : World) (h1 : -1 ≤ left) (h2 : left ≤ 1048576) (hn : n ≤ cap) (hm : cap ≤ maxLen) :
    Calls Tryz.prog 53 #[.slice A n cap, .int .i64 left] w fun e w' => e = .returned (.int .i64 (szI left n)) ∧ w = w' := by
  unfold maxLen at hm
  by_cases hl : left - (n : Int) < 0
  · have hx : szI left n = -1 := if_pos hl
    rw [hx]
    go_enter Tryz.func53, Tryz.ntmps53
    go_wp2
    go_ret
    exact ⟨rfl, rfl⟩
  · have hx : szI left n = left - n := if_neg hl
    rw [hx]
    go_enter Tryz.func53, Tryz.ntmps53
    go_wp2
    go_ret
    exact ⟨rfl, rfl⟩
end Go.Proofs.YtekchdgpaemofaaGreat

/- The laws' copies and equality of impl.Term. -/
namespace Go.Proofs.YtekchdgpaemofaaGreat
open Go.ChangeShapes Go.WideShapes Go.ChangeAt Go.RowKit
set_option linter.unusedVariables false
set_option linter.unusedSimpArgs false

end Go.Proofs.YtekchdgpaemofaaGreat

/- The laws' copies and equality of impl.FlagSum. -/
namespace Go.Proofs.YtekchdgpaemofaaGreat
open Go.ChangeShapes Go.WideShapes Go.ChangeAt Go.RowKit
set_option linter.unusedVariables false
set_option linter.unusedSimpArgs false

end Go.Proofs.YtekchdgpaemofaaGreat
