/- Several texts in one (TGraph TFlag TFraction TTerm TSum). -/
import Derived.Test.YtpcjinbbgnmchaaGreatProg
import Derived.Test.YtpcjinbbgnmchaaGreatSl
import Derived.BigGuardPart
import Derived.Deep.RegionHeld3
/- The laws' copies and equality of impl.Graph. -/
namespace Go.Proofs.YtpcjinbbgnmchaaGreat
open Go.ChangeShapes Go.WideShapes Go.ChangeAt Go.RowKit
set_option linter.unusedVariables false
set_option linter.unusedSimpArgs false

theorem toGraph_any (x0 x1 : Int) (w : World) :
    Calls Tryz.prog 33 #[.agg #[.int .i64 x0, .int .u32 x1]] w fun e w' => e = .returned (.agg #[.int .i64 x0, .int .u32 x1]) ∧ Below w.heap.size w w' := by
  go_enter Tryz.func33, Tryz.ntmps33
  go_wp2
  exact bodyPost_ret (v := .agg #[.int .i64 x0, .int .u32 x1]) (by simp [results, Tryz.results33, go_sem]) rfl ⟨rfl, belA⟩
theorem eqGraph_same (x0 x1 : Int) (w : World) :
    Calls Tryz.prog 38 #[.agg #[.int .i64 x0, .int .u32 x1], .agg #[.int .i64 x0, .int .u32 x1]] w fun e w' => e = .returned (.bool true) ∧ Below w.heap.size w w' := by
  have h0 : (x0 != x0) = false := by simp
  have h1 : (x1 != x1) = false := by simp
  go_enter Tryz.func38, Tryz.ntmps38
  go_wp2
  go_ret
  exact ⟨rfl, belA⟩
theorem toGraphS_any (w : World) (xs : List (Int × Int)) (v : Value) (h : Lst shGr w xs v) (hb : xs.length ≤ 1048576) :
    Calls Tryz.prog 55 #[v] w fun e w' => ∃ A cap F, e = .returned (.slice A xs.length cap) ∧ Own shGr w.heap.size w' xs (.slice A xs.length cap) F ∧ Below w.heap.size w w' := by
  obtain ⟨A, cap, rfl, hc, hm, hoks, hel⟩ := lstGraph h
  clear h
  have hoks := Lib.hid hoks
  obtain ⟨cur, hcur, hmk⟩ := mk_slice (P := Tryz.prog) Tryz.underlying52 (sz := 2) (bytes := 16) (e := 31) (by kernel_rfl) xs.length (by omega) (by omega)
  have hel' := Lib.hid hel; clear hel
  go_enter Tryz.func55, Tryz.ntmps55
  go_wp2
  go_loopw [4] (fun i wr => ∃ (k : Nat), k ≤ xs.length ∧ i = .int .i64 k ∧ Part wr w.heap.size 31 (xs.length * 2) ((xs.take k).flatMap encGr) ∧ Below w.heap.size w wr) (fun i _ => xs.length - (intOf i).toNat)
  case atStart => exact ⟨0, Nat.zero_le _, rfl, Part.new hcur, belA⟩
  case round =>
    clear hmk hcur
    obtain ⟨k, hk, rfl, hg, hB⟩ := hrel
    by_cases hlt : k < xs.length
    · obtain ⟨bl, off, rfl, hel⟩ := hel'.out (by omega)
      clear hel'
      obtain ⟨d, hd, hok, c0, c1⟩ := hel k hlt
      clear hel
      replace c0 := bkeep hB c0
      replace c1 := bkeep hB c1
      obtain ⟨⟨u0, e0⟩, f0⟩ := hg.cell (p := k * 2) (by omega)
      obtain ⟨⟨u1, e1⟩, f1⟩ := hg.cell (p := k * 2 + 1) (by omega)
      have hz := hg.lt
      have hd := Lib.hid hd
      go_wp2_with (first | (go_at_call 33; refine Calls.mono (toGraph_any _ _ _) ?_; rintro e w1 ⟨rfl, hb⟩; obtain ⟨X, m, rfl⟩ := plsOf hb; clear hb))
      go_roundw
      case rel =>
        have hL : ((xs.take k).flatMap encGr).length = k * 2 := (flatMap_len (n := 2) (fun _ => rfl) _).trans (by rw [take_len hk])
        refine ⟨k + 1, by omega, by go_num, ?_, belA⟩
        rw [flatMap_take encGr hd.out]
        have p0 := hg
        have l0 := hL
        have p1 := Part.push p0 (p := k * 2) l0.symm (by omega) (.int .i64 d.1)
        have l1 := len1 l0 (.int .i64 d.1)
        have p2 := Part.push p1 (p := k * 2 + 1) l1.symm (by omega) (.int .u32 d.2)
        have l2 := len1 l1 (.int .u32 d.2)
        exact (p2.eq (by simp)).pls _ _
      case measure => simp [intOf]; omega
    · have e : k = xs.length := by omega
      subst e
      rw [List.take_length] at hg
      go_wp2
      exact bodyPost_ret (v := .slice (some ⟨w.heap.size, 0, none⟩) xs.length xs.length) (by simp [results, Tryz.results55, go_sem]) rfl ⟨_, _, _, rfl, hg.own (s := shGr) flatGr (fun _ => rfl) (Nat.le_refl _) (Nat.le_trans hc hm) (Nat.le_refl _) hoks.out (Nat.le_refl _), belA⟩
theorem eqGraphS_same (w : World) (xs : List (Int × Int)) (v v' : Value) (h : Lst shGr w xs v) (h' : Lst shGr w xs v') (hb : xs.length ≤ 9223372036854775806) :
    Calls Tryz.prog 64 #[v, v'] w fun e w' => e = .returned (.bool true) ∧ Below w.heap.size w w' := by
  obtain ⟨A, cap, rfl, hc, hm, _, hel⟩ := lstGraph h
  obtain ⟨A', cap', rfl, hc', hm', _, hel'⟩ := lstGraph h'
  clear h h'
  have H1 := Lib.hid hel
  have H2 := Lib.hid hel'
  clear hel hel'
  go_enter Tryz.func64, Tryz.ntmps64
  go_wp2
  go_loopw [5] (fun i wr => ∃ (k : Nat), k ≤ xs.length ∧ i = .int .i64 k ∧ Below w.heap.size w wr) (fun i _ => xs.length - (intOf i).toNat)
  case atStart => exact ⟨0, Nat.zero_le _, rfl, belA⟩
  case round =>
    obtain ⟨k, hk, rfl, hB⟩ := hrel
    by_cases hlt : k < xs.length
    · obtain ⟨bl, off, rfl, hel⟩ := H1.out (by omega)
      obtain ⟨bl', off', rfl, hel'⟩ := H2.out (by omega)
      clear H1 H2
      obtain ⟨d, hd, hok, c0, c1⟩ := hel k hlt
      obtain ⟨d', hd', _, e0, e1⟩ := hel' k hlt
      rw [hd] at hd'
      cases hd'
      clear hel hel' hd
      replace c0 := bkeep hB c0
      replace e0 := bkeep hB e0
      replace c1 := bkeep hB c1
      replace e1 := bkeep hB e1
      have z1 : bl < wr.heap.size := World.block_lt_of_cell? _ _ c0
      have z2 : bl' < wr.heap.size := World.block_lt_of_cell? _ _ e0
      go_wp2
      go_region_held3 (fun w' => w'.cell? ⟨bl, off + k * 2, none⟩ = some (.int .i64 d.1) ∧ w'.cell? ⟨bl, off + k * 2 + 1, none⟩ = some (.int .u32 d.2) ∧ w'.cell? ⟨bl', off' + k * 2, none⟩ = some (.int .i64 d.1) ∧ w'.cell? ⟨bl', off' + k * 2 + 1, none⟩ = some (.int .u32 d.2)) (simp [*, go_sem]) (first | (go_at_call 38; refine Calls.mono (eqGraph_same _ _ _) ?_; rintro e w1 ⟨rfl, hb⟩; obtain ⟨X, m, rfl⟩ := plsOf hb; clear hb))
      all_goals (go_wp2_with fail)
      go_roundw
      case rel => exact ⟨k + 1, by omega, by go_num, belA⟩
      case measure => simp [intOf]; omega
    · go_wp2
      go_ret
      exact ⟨rfl, belA⟩
theorem szGraphS_any (n cap : Nat) (A : Option Addr) (left : Int) (w : World) (h1 : -1 ≤ left) (h2 : left ≤ 1048576) (hn : n ≤ cap) (hm : cap ≤ maxLen) :
    Calls Tryz.prog 52 #[.slice A n cap, .int .i64 left] w fun e w' => e = .returned (.int .i64 (szI left n)) ∧ w = w' := by
  unfold maxLen at hm
  by_cases hl : left - (n : Int) < 0
  · have hx : szI left n = -1 := if_pos hl
    rw [hx]
    go_enter Tryz.func52, Tryz.ntmps52
    go_wp2
    go_ret
    exact ⟨rfl, rfl⟩
  · have hx : szI left n = left - n := if_neg hl
    rw [hx]
    go_enter Tryz.func52, Tryz.ntmps52
    go_wp2
    go_ret
    exact ⟨rfl, rfl⟩
end Go.Proofs.YtpcjinbbgnmchaaGreat

/- The laws' copies and equality of impl.Flag. -/
namespace Go.Proofs.YtpcjinbbgnmchaaGreat
open Go.ChangeShapes Go.WideShapes Go.ChangeAt Go.RowKit
set_option linter.unusedVariables false
set_option linter.unusedSimpArgs false

theorem toFlag_any (x0 x1 x2 : Int) (w : World) :
    Calls Tryz.prog 148 #[.agg #[.int .i64 x0, .int .i64 x1, .int .u32 x2]] w fun e w' => e = .returned (.agg #[.int .i64 x0, .int .i64 x1, .int .u32 x2]) ∧ Below w.heap.size w w' := by
  go_enter Tryz.func148, Tryz.ntmps148
  go_wp2_with (first | (go_at_call 33; refine Calls.mono (toGraph_any _ _ _) ?_; rintro e w1 ⟨rfl, hb⟩; obtain ⟨X, m, rfl⟩ := plsOf hb; clear hb))
  exact bodyPost_ret (v := .agg #[.int .i64 x0, .int .i64 x1, .int .u32 x2]) (by simp [results, Tryz.results148, go_sem]) rfl ⟨rfl, belA⟩
theorem eqFlag_same (x0 x1 x2 : Int) (w : World) :
    Calls Tryz.prog 155 #[.agg #[.int .i64 x0, .int .i64 x1, .int .u32 x2], .agg #[.int .i64 x0, .int .i64 x1, .int .u32 x2]] w fun e w' => e = .returned (.bool true) ∧ Below w.heap.size w w' := by
  have h0 : (x0 != x0) = false := by simp
  go_enter Tryz.func155, Tryz.ntmps155
  go_wp2_with (first | (go_at_call 38; refine Calls.mono (eqGraph_same _ _ _) ?_; rintro e w1 ⟨rfl, hb⟩; obtain ⟨X, m, rfl⟩ := plsOf hb; clear hb))
  go_ret
  exact ⟨rfl, belA⟩
theorem toFlagS_any (w : World) (xs : List (Int × (Int × Int))) (v : Value) (h : Lst shFlag w xs v) (hb : xs.length ≤ 1048576) :
    Calls Tryz.prog 178 #[v] w fun e w' => ∃ A cap F, e = .returned (.slice A xs.length cap) ∧ Own shFlag w.heap.size w' xs (.slice A xs.length cap) F ∧ Below w.heap.size w w' := by
  obtain ⟨A, cap, rfl, hc, hm, hoks, hel⟩ := lstFlag h
  clear h
  have hoks := Lib.hid hoks
  obtain ⟨cur, hcur, hmk⟩ := mk_slice (P := Tryz.prog) Tryz.underlying102 (sz := 3) (bytes := 24) (e := 81) (by kernel_rfl) xs.length (by omega) (by omega)
  have hel' := Lib.hid hel; clear hel
  go_enter Tryz.func178, Tryz.ntmps178
  go_wp2
  go_loopw [4] (fun i wr => ∃ (k : Nat), k ≤ xs.length ∧ i = .int .i64 k ∧ Part wr w.heap.size 81 (xs.length * 3) ((xs.take k).flatMap encFlag) ∧ Below w.heap.size w wr) (fun i _ => xs.length - (intOf i).toNat)
  case atStart => exact ⟨0, Nat.zero_le _, rfl, Part.new hcur, belA⟩
  case round =>
    clear hmk hcur
    obtain ⟨k, hk, rfl, hg, hB⟩ := hrel
    by_cases hlt : k < xs.length
    · obtain ⟨bl, off, rfl, hel⟩ := hel'.out (by omega)
      clear hel'
      obtain ⟨d, hd, hok, c0, c1, c2⟩ := hel k hlt
      clear hel
      replace c0 := bkeep hB c0
      replace c1 := bkeep hB c1
      replace c2 := bkeep hB c2
      obtain ⟨⟨u0, e0⟩, f0⟩ := hg.cell (p := k * 3) (by omega)
      obtain ⟨⟨u1, e1⟩, f1⟩ := hg.cell (p := k * 3 + 1) (by omega)
      obtain ⟨⟨u2, e2⟩, f2⟩ := hg.cell (p := k * 3 + 2) (by omega)
      have hz := hg.lt
      have hd := Lib.hid hd
      go_wp2_with (first | (go_at_call 148; refine Calls.mono (toFlag_any _ _ _ _) ?_; rintro e w1 ⟨rfl, hb⟩; obtain ⟨X, m, rfl⟩ := plsOf hb; clear hb))
      go_roundw
      case rel =>
        have hL : ((xs.take k).flatMap encFlag).length = k * 3 := (flatMap_len (n := 3) (fun _ => rfl) _).trans (by rw [take_len hk])
        refine ⟨k + 1, by omega, by go_num, ?_, belA⟩
        rw [flatMap_take encFlag hd.out]
        have p0 := hg
        have l0 := hL
        have p1 := Part.push p0 (p := k * 3) l0.symm (by omega) (.int .i64 d.1)
        have l1 := len1 l0 (.int .i64 d.1)
        have p2 := Part.push p1 (p := k * 3 + 1) l1.symm (by omega) (.int .i64 d.2.1)
        have l2 := len1 l1 (.int .i64 d.2.1)
        have p3 := Part.push p2 (p := k * 3 + 2) l2.symm (by omega) (.int .u32 d.2.2)
        have l3 := len1 l2 (.int .u32 d.2.2)
        exact (p3.eq (by simp)).pls _ _
      case measure => simp [intOf]; omega
    · have e : k = xs.length := by omega
      subst e
      rw [List.take_length] at hg
      go_wp2
      exact bodyPost_ret (v := .slice (some ⟨w.heap.size, 0, none⟩) xs.length xs.length) (by simp [results, Tryz.results178, go_sem]) rfl ⟨_, _, _, rfl, hg.own (s := shFlag) flatFlag (fun _ => rfl) (Nat.le_refl _) (Nat.le_trans hc hm) (Nat.le_refl _) hoks.out (Nat.le_refl _), belA⟩
theorem eqFlagS_same (w : World) (xs : List (Int × (Int × Int))) (v v' : Value) (h : Lst shFlag w xs v) (h' : Lst shFlag w xs v') (hb : xs.length ≤ 9223372036854775806) :
    Calls Tryz.prog 184 #[v, v'] w fun e w' => e = .returned (.bool true) ∧ Below w.heap.size w w' := by
  obtain ⟨A, cap, rfl, hc, hm, _, hel⟩ := lstFlag h
  obtain ⟨A', cap', rfl, hc', hm', _, hel'⟩ := lstFlag h'
  clear h h'
  have H1 := Lib.hid hel
  have H2 := Lib.hid hel'
  clear hel hel'
  go_enter Tryz.func184, Tryz.ntmps184
  go_wp2
  go_loopw [5] (fun i wr => ∃ (k : Nat), k ≤ xs.length ∧ i = .int .i64 k ∧ Below w.heap.size w wr) (fun i _ => xs.length - (intOf i).toNat)
  case atStart => exact ⟨0, Nat.zero_le _, rfl, belA⟩
  case round =>
    obtain ⟨k, hk, rfl, hB⟩ := hrel
    by_cases hlt : k < xs.length
    · obtain ⟨bl, off, rfl, hel⟩ := H1.out (by omega)
      obtain ⟨bl', off', rfl, hel'⟩ := H2.out (by omega)
      clear H1 H2
      obtain ⟨d, hd, hok, c0, c1, c2⟩ := hel k hlt
      obtain ⟨d', hd', _, e0, e1, e2⟩ := hel' k hlt
      rw [hd] at hd'
      cases hd'
      clear hel hel' hd
      replace c0 := bkeep hB c0
      replace e0 := bkeep hB e0
      replace c1 := bkeep hB c1
      replace e1 := bkeep hB e1
      replace c2 := bkeep hB c2
      replace e2 := bkeep hB e2
      have z1 : bl < wr.heap.size := World.block_lt_of_cell? _ _ c0
      have z2 : bl' < wr.heap.size := World.block_lt_of_cell? _ _ e0
      go_wp2
      go_region_held3 (fun w' => w'.cell? ⟨bl, off + k * 3, none⟩ = some (.int .i64 d.1) ∧ w'.cell? ⟨bl, off + k * 3 + 1, none⟩ = some (.int .i64 d.2.1) ∧ w'.cell? ⟨bl, off + k * 3 + 2, none⟩ = some (.int .u32 d.2.2) ∧ w'.cell? ⟨bl', off' + k * 3, none⟩ = some (.int .i64 d.1) ∧ w'.cell? ⟨bl', off' + k * 3 + 1, none⟩ = some (.int .i64 d.2.1) ∧ w'.cell? ⟨bl', off' + k * 3 + 2, none⟩ = some (.int .u32 d.2.2)) (simp [*, go_sem]) (first | (go_at_call 155; refine Calls.mono (eqFlag_same _ _ _ _) ?_; rintro e w1 ⟨rfl, hb⟩; obtain ⟨X, m, rfl⟩ := plsOf hb; clear hb))
      all_goals (go_wp2_with fail)
      go_roundw
      case rel => exact ⟨k + 1, by omega, by go_num, belA⟩
      case measure => simp [intOf]; omega
    · go_wp2
      go_ret
      exact ⟨rfl, belA⟩
theorem szFlagS_any (n cap : Nat) (A : Option Addr) (left : Int) (w : World) (h1 : -1 ≤ left) (h2 : left ≤ 1048576) (hn : n ≤ cap) (hm : cap ≤ maxLen) :
    Calls Tryz.prog 175 #[.slice A n cap, .int .i64 left] w fun e w' => e = .returned (.int .i64 (szI left n)) ∧ w = w' := by
  unfold maxLen at hm
  by_cases hl : left - (n : Int) < 0
  · have hx : szI left n = -1 := if_pos hl
    rw [hx]
    go_enter Tryz.func175, Tryz.ntmps175
    go_wp2
    go_ret
    exact ⟨rfl, rfl⟩
  · have hx : szI left n = left - n := if_neg hl
    rw [hx]
    go_enter Tryz.func175, Tryz.ntmps175
    go_wp2
    go_ret
    exact ⟨rfl, rfl⟩
end Go.Proofs.YtpcjinbbgnmchaaGreat

/- The laws' copies and equality of impl.Fraction. -/
namespace Go.Proofs.YtpcjinbbgnmchaaGreat
open Go.ChangeShapes Go.WideShapes Go.ChangeAt Go.RowKit
set_option linter.unusedVariables false
set_option linter.unusedSimpArgs false

theorem toFraction_any (x0 x1 : Int) (w : World) :
    Calls Tryz.prog 56 #[.agg #[.int .i64 x0, .int .i64 x1]] w fun e w' => e = .returned (.agg #[.int .i64 x0, .int .i64 x1]) ∧ Below w.heap.size w w' := by
  go_enter Tryz.func56, Tryz.ntmps56
  go_wp2
  exact bodyPost_ret (v := .agg #[.int .i64 x0, .int .i64 x1]) (by simp [results, Tryz.results56, go_sem]) rfl ⟨rfl, belA⟩
theorem eqFraction_same (x0 x1 : Int) (w : World) :
    Calls Tryz.prog 65 #[.agg #[.int .i64 x0, .int .i64 x1], .agg #[.int .i64 x0, .int .i64 x1]] w fun e w' => e = .returned (.bool true) ∧ Below w.heap.size w w' := by
  have h0 : (x0 != x0) = false := by simp
  have h1 : (x1 != x1) = false := by simp
  go_enter Tryz.func65, Tryz.ntmps65
  go_wp2
  go_ret
  exact ⟨rfl, belA⟩
theorem toFractionS_any (w : World) (xs : List (Int × Int)) (v : Value) (h : Lst shFr w xs v) (hb : xs.length ≤ 1048576) :
    Calls Tryz.prog 216 #[v] w fun e w' => ∃ A cap F, e = .returned (.slice A xs.length cap) ∧ Own shFr w.heap.size w' xs (.slice A xs.length cap) F ∧ Below w.heap.size w w' := by
  obtain ⟨A, cap, rfl, hc, hm, hoks, hel⟩ := lstFraction h
  clear h
  have hoks := Lib.hid hoks
  obtain ⟨cur, hcur, hmk⟩ := mk_slice (P := Tryz.prog) Tryz.underlying238 (sz := 2) (bytes := 16) (e := 53) (by kernel_rfl) xs.length (by omega) (by omega)
  have hel' := Lib.hid hel; clear hel
  go_enter Tryz.func216, Tryz.ntmps216
  go_wp2
  go_loopw [4] (fun i wr => ∃ (k : Nat), k ≤ xs.length ∧ i = .int .i64 k ∧ Part wr w.heap.size 53 (xs.length * 2) ((xs.take k).flatMap encFr) ∧ Below w.heap.size w wr) (fun i _ => xs.length - (intOf i).toNat)
  case atStart => exact ⟨0, Nat.zero_le _, rfl, Part.new hcur, belA⟩
  case round =>
    clear hmk hcur
    obtain ⟨k, hk, rfl, hg, hB⟩ := hrel
    by_cases hlt : k < xs.length
    · obtain ⟨bl, off, rfl, hel⟩ := hel'.out (by omega)
      clear hel'
      obtain ⟨d, hd, hok, c0, c1⟩ := hel k hlt
      clear hel
      replace c0 := bkeep hB c0
      replace c1 := bkeep hB c1
      obtain ⟨⟨u0, e0⟩, f0⟩ := hg.cell (p := k * 2) (by omega)
      obtain ⟨⟨u1, e1⟩, f1⟩ := hg.cell (p := k * 2 + 1) (by omega)
      have hz := hg.lt
      have hd := Lib.hid hd
      go_wp2_with (first | (go_at_call 56; refine Calls.mono (toFraction_any _ _ _) ?_; rintro e w1 ⟨rfl, hb⟩; obtain ⟨X, m, rfl⟩ := plsOf hb; clear hb))
      go_roundw
      case rel =>
        have hL : ((xs.take k).flatMap encFr).length = k * 2 := (flatMap_len (n := 2) (fun _ => rfl) _).trans (by rw [take_len hk])
        refine ⟨k + 1, by omega, by go_num, ?_, belA⟩
        rw [flatMap_take encFr hd.out]
        have p0 := hg
        have l0 := hL
        have p1 := Part.push p0 (p := k * 2) l0.symm (by omega) (.int .i64 d.1)
        have l1 := len1 l0 (.int .i64 d.1)
        have p2 := Part.push p1 (p := k * 2 + 1) l1.symm (by omega) (.int .i64 d.2)
        have l2 := len1 l1 (.int .i64 d.2)
        exact (p2.eq (by simp)).pls _ _
      case measure => simp [intOf]; omega
    · have e : k = xs.length := by omega
      subst e
      rw [List.take_length] at hg
      go_wp2
      exact bodyPost_ret (v := .slice (some ⟨w.heap.size, 0, none⟩) xs.length xs.length) (by simp [results, Tryz.results216, go_sem]) rfl ⟨_, _, _, rfl, hg.own (s := shFr) flatFr (fun _ => rfl) (Nat.le_refl _) (Nat.le_trans hc hm) (Nat.le_refl _) hoks.out (Nat.le_refl _), belA⟩
theorem eqFractionS_same (w : World) (xs : List (Int × Int)) (v v' : Value) (h : Lst shFr w xs v) (h' : Lst shFr w xs v') (hb : xs.length ≤ 9223372036854775806) :
    Calls Tryz.prog 224 #[v, v'] w fun e w' => e = .returned (.bool true) ∧ Below w.heap.size w w' := by
  obtain ⟨A, cap, rfl, hc, hm, _, hel⟩ := lstFraction h
  obtain ⟨A', cap', rfl, hc', hm', _, hel'⟩ := lstFraction h'
  clear h h'
  have H1 := Lib.hid hel
  have H2 := Lib.hid hel'
  clear hel hel'
  go_enter Tryz.func224, Tryz.ntmps224
  go_wp2
  go_loopw [5] (fun i wr => ∃ (k : Nat), k ≤ xs.length ∧ i = .int .i64 k ∧ Below w.heap.size w wr) (fun i _ => xs.length - (intOf i).toNat)
  case atStart => exact ⟨0, Nat.zero_le _, rfl, belA⟩
  case round =>
    obtain ⟨k, hk, rfl, hB⟩ := hrel
    by_cases hlt : k < xs.length
    · obtain ⟨bl, off, rfl, hel⟩ := H1.out (by omega)
      obtain ⟨bl', off', rfl, hel'⟩ := H2.out (by omega)
      clear H1 H2
      obtain ⟨d, hd, hok, c0, c1⟩ := hel k hlt
      obtain ⟨d', hd', _, e0, e1⟩ := hel' k hlt
      rw [hd] at hd'
      cases hd'
      clear hel hel' hd
      replace c0 := bkeep hB c0
      replace e0 := bkeep hB e0
      replace c1 := bkeep hB c1
      replace e1 := bkeep hB e1
      have z1 : bl < wr.heap.size := World.block_lt_of_cell? _ _ c0
      have z2 : bl' < wr.heap.size := World.block_lt_of_cell? _ _ e0
      go_wp2
      go_region_held3 (fun w' => w'.cell? ⟨bl, off + k * 2, none⟩ = some (.int .i64 d.1) ∧ w'.cell? ⟨bl, off + k * 2 + 1, none⟩ = some (.int .i64 d.2) ∧ w'.cell? ⟨bl', off' + k * 2, none⟩ = some (.int .i64 d.1) ∧ w'.cell? ⟨bl', off' + k * 2 + 1, none⟩ = some (.int .i64 d.2)) (simp [*, go_sem]) (first | (go_at_call 65; refine Calls.mono (eqFraction_same _ _ _) ?_; rintro e w1 ⟨rfl, hb⟩; obtain ⟨X, m, rfl⟩ := plsOf hb; clear hb))
      all_goals (go_wp2_with fail)
      go_roundw
      case rel => exact ⟨k + 1, by omega, by go_num, belA⟩
      case measure => simp [intOf]; omega
    · go_wp2
      go_ret
      exact ⟨rfl, belA⟩
theorem szFractionS_any (n cap : Nat) (A : Option Addr) (left : Int) (w : World) (h1 : -1 ≤ left) (h2 : left ≤ 1048576) (hn : n ≤ cap) (hm : cap ≤ maxLen) :
    Calls Tryz.prog 213 #[.slice A n cap, .int .i64 left] w fun e w' => e = .returned (.int .i64 (szI left n)) ∧ w = w' := by
  unfold maxLen at hm
  by_cases hl : left - (n : Int) < 0
  · have hx : szI left n = -1 := if_pos hl
    rw [hx]
    go_enter Tryz.func213, Tryz.ntmps213
    go_wp2
    go_ret
    exact ⟨rfl, rfl⟩
  · have hx : szI left n = left - n := if_neg hl
    rw [hx]
    go_enter Tryz.func213, Tryz.ntmps213
    go_wp2
    go_ret
    exact ⟨rfl, rfl⟩
end Go.Proofs.YtpcjinbbgnmchaaGreat

/- The laws' copies and equality of impl.Term. -/
namespace Go.Proofs.YtpcjinbbgnmchaaGreat
open Go.ChangeShapes Go.WideShapes Go.ChangeAt Go.RowKit
set_option linter.unusedVariables false
set_option linter.unusedSimpArgs false

theorem toTerm_any (x0 x1 x2 x3 x4 : Int) (w : World) :
    Calls Tryz.prog 82 #[.agg #[.int .i64 x0, .int .i64 x1, .int .u32 x2, .int .i64 x3, .int .i64 x4]] w fun e w' => e = .returned (.agg #[.int .i64 x0, .int .i64 x1, .int .u32 x2, .int .i64 x3, .int .i64 x4]) ∧ Below w.heap.size w w' := by
  go_enter Tryz.func82, Tryz.ntmps82
  go_wp2_with (first | (go_at_call 148; refine Calls.mono (toFlag_any _ _ _ _) ?_; rintro e w1 ⟨rfl, hb⟩; obtain ⟨X, m, rfl⟩ := plsOf hb; clear hb) | (go_at_call 56; refine Calls.mono (toFraction_any _ _ _) ?_; rintro e w1 ⟨rfl, hb⟩; obtain ⟨X, m, rfl⟩ := plsOf hb; clear hb))
  exact bodyPost_ret (v := .agg #[.int .i64 x0, .int .i64 x1, .int .u32 x2, .int .i64 x3, .int .i64 x4]) (by simp [results, Tryz.results82, go_sem]) rfl ⟨rfl, belA⟩
theorem eqTerm_same (x0 x1 x2 x3 x4 : Int) (w : World) :
    Calls Tryz.prog 93 #[.agg #[.int .i64 x0, .int .i64 x1, .int .u32 x2, .int .i64 x3, .int .i64 x4], .agg #[.int .i64 x0, .int .i64 x1, .int .u32 x2, .int .i64 x3, .int .i64 x4]] w fun e w' => e = .returned (.bool true) ∧ Below w.heap.size w w' := by
  go_enter Tryz.func93, Tryz.ntmps93
  go_wp2_with (first | (go_at_call 155; refine Calls.mono (eqFlag_same _ _ _ _) ?_; rintro e w1 ⟨rfl, hb⟩; obtain ⟨X, m, rfl⟩ := plsOf hb; clear hb) | (go_at_call 65; refine Calls.mono (eqFraction_same _ _ _) ?_; rintro e w1 ⟨rfl, hb⟩; obtain ⟨X, m, rfl⟩ := plsOf hb; clear hb))
  go_ret
  exact ⟨rfl, belA⟩
theorem toTermS_any (w : World) (xs : List ((Int × (Int × Int)) × (Int × Int))) (v : Value) (h : Lst shTerm w xs v) (hb : xs.length ≤ 1048576) :
    Calls Tryz.prog 34 #[v] w fun e w' => ∃ A cap F, e = .returned (.slice A xs.length cap) ∧ Own shTerm w.heap.size w' xs (.slice A xs.length cap) F ∧ Below w.heap.size w w' := by
  obtain ⟨A, cap, rfl, hc, hm, hoks, hel⟩ := lstTerm h
  clear h
  have hoks := Lib.hid hoks
  obtain ⟨cur, hcur, hmk⟩ := mk_slice (P := Tryz.prog) Tryz.underlying32 (sz := 5) (bytes := 40) (e := 84) (by kernel_rfl) xs.length (by omega) (by omega)
  have hel' := Lib.hid hel; clear hel
  go_enter Tryz.func34, Tryz.ntmps34
  go_wp2
  go_loopw [4] (fun i wr => ∃ (k : Nat), k ≤ xs.length ∧ i = .int .i64 k ∧ Part wr w.heap.size 84 (xs.length * 5) ((xs.take k).flatMap encTerm) ∧ Below w.heap.size w wr) (fun i _ => xs.length - (intOf i).toNat)
  case atStart => exact ⟨0, Nat.zero_le _, rfl, Part.new hcur, belA⟩
  case round =>
    clear hmk hcur
    obtain ⟨k, hk, rfl, hg, hB⟩ := hrel
    by_cases hlt : k < xs.length
    · obtain ⟨bl, off, rfl, hel⟩ := hel'.out (by omega)
      clear hel'
      obtain ⟨d, hd, hok, c0, c1, c2, c3, c4⟩ := hel k hlt
      clear hel
      replace c0 := bkeep hB c0
      replace c1 := bkeep hB c1
      replace c2 := bkeep hB c2
      replace c3 := bkeep hB c3
      replace c4 := bkeep hB c4
      obtain ⟨⟨u0, e0⟩, f0⟩ := hg.cell (p := k * 5) (by omega)
      obtain ⟨⟨u1, e1⟩, f1⟩ := hg.cell (p := k * 5 + 1) (by omega)
      obtain ⟨⟨u2, e2⟩, f2⟩ := hg.cell (p := k * 5 + 2) (by omega)
      obtain ⟨⟨u3, e3⟩, f3⟩ := hg.cell (p := k * 5 + 3) (by omega)
      obtain ⟨⟨u4, e4⟩, f4⟩ := hg.cell (p := k * 5 + 4) (by omega)
      have hz := hg.lt
      have hd := Lib.hid hd
      go_wp2_with (first | (go_at_call 82; refine Calls.mono (toTerm_any _ _ _ _ _ _) ?_; rintro e w1 ⟨rfl, hb⟩; obtain ⟨X, m, rfl⟩ := plsOf hb; clear hb))
      go_roundw
      case rel =>
        have hL : ((xs.take k).flatMap encTerm).length = k * 5 := (flatMap_len (n := 5) (fun _ => rfl) _).trans (by rw [take_len hk])
        refine ⟨k + 1, by omega, by go_num, ?_, belA⟩
        rw [flatMap_take encTerm hd.out]
        have p0 := hg
        have l0 := hL
        have p1 := Part.push p0 (p := k * 5) l0.symm (by omega) (.int .i64 d.1.1)
        have l1 := len1 l0 (.int .i64 d.1.1)
        have p2 := Part.push p1 (p := k * 5 + 1) l1.symm (by omega) (.int .i64 d.1.2.1)
        have l2 := len1 l1 (.int .i64 d.1.2.1)
        have p3 := Part.push p2 (p := k * 5 + 2) l2.symm (by omega) (.int .u32 d.1.2.2)
        have l3 := len1 l2 (.int .u32 d.1.2.2)
        have p4 := Part.push p3 (p := k * 5 + 3) l3.symm (by omega) (.int .i64 d.2.1)
        have l4 := len1 l3 (.int .i64 d.2.1)
        have p5 := Part.push p4 (p := k * 5 + 4) l4.symm (by omega) (.int .i64 d.2.2)
        have l5 := len1 l4 (.int .i64 d.2.2)
        exact (p5.eq (by simp)).pls _ _
      case measure => simp [intOf]; omega
    · have e : k = xs.length := by omega
      subst e
      rw [List.take_length] at hg
      go_wp2
      exact bodyPost_ret (v := .slice (some ⟨w.heap.size, 0, none⟩) xs.length xs.length) (by simp [results, Tryz.results34, go_sem]) rfl ⟨_, _, _, rfl, hg.own (s := shTerm) flatTerm (fun _ => rfl) (Nat.le_refl _) (Nat.le_trans hc hm) (Nat.le_refl _) hoks.out (Nat.le_refl _), belA⟩
theorem eqTermS_same (w : World) (xs : List ((Int × (Int × Int)) × (Int × Int))) (v v' : Value) (h : Lst shTerm w xs v) (h' : Lst shTerm w xs v') (hb : xs.length ≤ 9223372036854775806) :
    Calls Tryz.prog 39 #[v, v'] w fun e w' => e = .returned (.bool true) ∧ Below w.heap.size w w' := by
  obtain ⟨A, cap, rfl, hc, hm, _, hel⟩ := lstTerm h
  obtain ⟨A', cap', rfl, hc', hm', _, hel'⟩ := lstTerm h'
  clear h h'
  have H1 := Lib.hid hel
  have H2 := Lib.hid hel'
  clear hel hel'
  go_enter Tryz.func39, Tryz.ntmps39
  go_wp2
  go_loopw [5] (fun i wr => ∃ (k : Nat), k ≤ xs.length ∧ i = .int .i64 k ∧ Below w.heap.size w wr) (fun i _ => xs.length - (intOf i).toNat)
  case atStart => exact ⟨0, Nat.zero_le _, rfl, belA⟩
  case round =>
    obtain ⟨k, hk, rfl, hB⟩ := hrel
    by_cases hlt : k < xs.length
    · obtain ⟨bl, off, rfl, hel⟩ := H1.out (by omega)
      obtain ⟨bl', off', rfl, hel'⟩ := H2.out (by omega)
      clear H1 H2
      obtain ⟨d, hd, hok, c0, c1, c2, c3, c4⟩ := hel k hlt
      obtain ⟨d', hd', _, e0, e1, e2, e3, e4⟩ := hel' k hlt
      rw [hd] at hd'
      cases hd'
      clear hel hel' hd
      replace c0 := bkeep hB c0
      replace e0 := bkeep hB e0
      replace c1 := bkeep hB c1
      replace e1 := bkeep hB e1
      replace c2 := bkeep hB c2
      replace e2 := bkeep hB e2
      replace c3 := bkeep hB c3
      replace e3 := bkeep hB e3
      replace c4 := bkeep hB c4
      replace e4 := bkeep hB e4
      have z1 : bl < wr.heap.size := World.block_lt_of_cell? _ _ c0
      have z2 : bl' < wr.heap.size := World.block_lt_of_cell? _ _ e0
      go_wp2
      go_region_held3 (fun w' => w'.cell? ⟨bl, off + k * 5, none⟩ = some (.int .i64 d.1.1) ∧ w'.cell? ⟨bl, off + k * 5 + 1, none⟩ = some (.int .i64 d.1.2.1) ∧ w'.cell? ⟨bl, off + k * 5 + 2, none⟩ = some (.int .u32 d.1.2.2) ∧ w'.cell? ⟨bl, off + k * 5 + 3, none⟩ = some (.int .i64 d.2.1) ∧ w'.cell? ⟨bl, off + k * 5 + 4, none⟩ = some (.int .i64 d.2.2) ∧ w'.cell? ⟨bl', off' + k * 5, none⟩ = some (.int .i64 d.1.1) ∧ w'.cell? ⟨bl', off' + k * 5 + 1, none⟩ = some (.int .i64 d.1.2.1) ∧ w'.cell? ⟨bl', off' + k * 5 + 2, none⟩ = some (.int .u32 d.1.2.2) ∧ w'.cell? ⟨bl', off' + k * 5 + 3, none⟩ = some (.int .i64 d.2.1) ∧ w'.cell? ⟨bl', off' + k * 5 + 4, none⟩ = some (.int .i64 d.2.2)) (simp [*, go_sem]) (first | (go_at_call 93; refine Calls.mono (eqTerm_same _ _ _ _ _ _) ?_; rintro e w1 ⟨rfl, hb⟩; obtain ⟨X, m, rfl⟩ := plsOf hb; clear hb))
      all_goals (go_wp2_with fail)
      go_roundw
      case rel => exact ⟨k + 1, by omega, by go_num, belA⟩
      case measure => simp [intOf]; omega
    · go_wp2
      go_ret
      exact ⟨rfl, belA⟩
theorem szTermS_any (n cap : Nat) (A : Option Addr) (left : Int) (w : World) (h1 : -1 ≤ left) (h2 : left ≤ 1048576) (hn : n ≤ cap) (hm : cap ≤ maxLen) :
    Calls Tryz.prog 29 #[.slice A n cap, .int .i64 left] w fun e w' => e = .returned (.int .i64 (szI left n)) ∧ w = w' := by
  unfold maxLen at hm
  by_cases hl : left - (n : Int) < 0
  · have hx : szI left n = -1 := if_pos hl
    rw [hx]
    go_enter Tryz.func29, Tryz.ntmps29
    go_wp2
    go_ret
    exact ⟨rfl, rfl⟩
  · have hx : szI left n = left - n := if_neg hl
    rw [hx]
    go_enter Tryz.func29, Tryz.ntmps29
    go_wp2
    go_ret
    exact ⟨rfl, rfl⟩
end Go.Proofs.YtpcjinbbgnmchaaGreat

/- The laws' copies and equality of impl.FlagSum. -/
namespace Go.Proofs.YtpcjinbbgnmchaaGreat
open Go.ChangeShapes Go.WideShapes Go.ChangeAt Go.RowKit
set_option linter.unusedVariables false
set_option linter.unusedSimpArgs false

theorem toFlagSum_any (w : World) (n e s : Int) (xs : List ((Int × (Int × Int)) × (Int × Int))) (v : Value) (h : Lst shTerm w xs v) (hb : xs.length ≤ 1048576) :
    Calls Tryz.prog 10 #[.agg #[.int .i64 n, .int .u32 e, .int .i64 s, v]] w fun e0 w' => ∃ A cap F, e0 = .returned (.agg #[.int .i64 n, .int .u32 e, .int .i64 s, .slice A xs.length cap]) ∧ Own shTerm w.heap.size w' xs (.slice A xs.length cap) F ∧ Below w.heap.size w w' := by
  obtain ⟨A0, cap0, rfl, _, _⟩ := formTerm h
  go_enter Tryz.func10, Tryz.ntmps10
  go_wp2_with (first | (go_at_call 33; refine Calls.mono (toGraph_any _ _ _) ?_; rintro e w1 ⟨rfl, hb⟩; obtain ⟨X, m, rfl⟩ := plsOf hb; clear hb) | (fail))
  refine (toTermS_any _ xs _ (h.below belA) hb).mono ?_
  rintro e0 w1 ⟨A, cap, F, rfl, hO, hb1⟩
  obtain ⟨X, m, rfl⟩ := plsOf hb1
  clear hb1
  rw [pls_pls] at hO
  go_wp2
  exact bodyPost_ret (v := .agg #[.int .i64 n, .int .u32 e, .int .i64 s, .slice A xs.length cap]) (by simp [results, Tryz.results10, go_sem]) rfl ⟨_, _, _, rfl, hO.at (by simp) (by simp [World.setCell]) (by simp; omega), belA⟩
theorem eqFlagSum_same (w : World) (n e s : Int) (xs : List ((Int × (Int × Int)) × (Int × Int))) (v v' : Value) (h : Lst shTerm w xs v) (h' : Lst shTerm w xs v') (hb : xs.length ≤ 9223372036854775806) :
    Calls Tryz.prog 12 #[.agg #[.int .i64 n, .int .u32 e, .int .i64 s, v], .agg #[.int .i64 n, .int .u32 e, .int .i64 s, v']] w fun e0 w' => e0 = .returned (.bool true) ∧ Below w.heap.size w w' := by
  have h1 : (s != s) = false := by simp
  go_enter Tryz.func12, Tryz.ntmps12
  go_wp2_with (first | (go_at_call 38; refine Calls.mono (eqGraph_same _ _ _) ?_; rintro e w1 ⟨rfl, hb⟩; obtain ⟨X, m, rfl⟩ := plsOf hb; clear hb) | (go_at_call 39; refine Calls.mono (eqTermS_same _ xs v v' (h.below belA) (h'.below belA) hb) ?_; rintro e w1 ⟨rfl, hb⟩; obtain ⟨X, m, rfl⟩ := plsOf hb; clear hb))
  go_ret
  exact ⟨rfl, belA⟩
theorem szFlagSum_any (w : World) (n e s : Int) (xs : List ((Int × (Int × Int)) × (Int × Int))) (v : Value) (left : Int) (h : Lst shTerm w xs v) (h1 : -1 ≤ left) (h2 : left ≤ 1048576) :
    Calls Tryz.prog 8 #[.agg #[.int .i64 n, .int .u32 e, .int .i64 s, v], .int .i64 left] w fun e0 w' => e0 = .returned (.int .i64 (szI left xs.length)) ∧ Below w.heap.size w w' := by
  obtain ⟨A, cap, rfl, hc, hm⟩ := formTerm h
  clear h
  by_cases hs : szI left xs.length < 0
  · have hx : szI left xs.length = -1 := by unfold szI at hs ⊢; split at hs <;> omega
    go_enter Tryz.func8, Tryz.ntmps8
    go_wp2_with (first | (go_at_call 29; refine Calls.mono (szTermS_any _ _ _ _ _ h1 h2 hc hm) ?_; rintro e w1 ⟨rfl, rfl⟩))
    exact bodyPost_ret (v := .int .i64 (-1)) (by simp [results, Tryz.results8, go_sem]) rfl ⟨by rw [hx], belA⟩
  · go_enter Tryz.func8, Tryz.ntmps8
    go_wp2_with (first | (go_at_call 29; refine Calls.mono (szTermS_any _ _ _ _ _ h1 h2 hc hm) ?_; rintro e w1 ⟨rfl, rfl⟩))
    exact bodyPost_ret (v := .int .i64 (szI left xs.length)) (by simp [results, Tryz.results8, go_sem]) rfl ⟨rfl, belA⟩
end Go.Proofs.YtpcjinbbgnmchaaGreat
