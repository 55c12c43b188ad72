/- Several texts in one (TGraph TFlag TFraction TTerm TSum). -/
import Derived.Test.YtekchdgpaemofaaProg
import Derived.Test.YtekchdgpaemofaaSl
import Derived.BigGuardPart
import Derived.Deep.RegionHeld3
/- The laws' copies and equality of impl.Graph. -/
namespace Go.Proofs.Ytekchdgpaemofaa
open Go.ChangeShapes Go.WideShapes Go.ChangeAt Go.RowKit
set_option linter.unusedVariables false
set_option linter.unusedSimpArgs false

theorem toGraph_any (x0 x1 : Int) (w : World) :
    Calls Try.prog 60 #[.agg #[.int .i64 x0, .int .u32 x1]] w fun e w' => e = .returned (.agg #[.int .i64 x0, .int .u32 x1]) ∧ Below w.heap.size w w' := by
  go_enter Try.func60, Try.ntmps60
  go_wp2
  exact bodyPost_ret (v := .agg #[.int .i64 x0, .int .u32 x1]) (by simp [results, Try.results60, go_sem]) rfl ⟨rfl, belA⟩
theorem eqGraph_same (x0 x1 : Int) (w : World) :
    Calls Try.prog 69 #[.agg #[.int .i64 x0, .int .u32 x1], .agg #[.int .i64 x0, .int .u32 x1]] w fun e w' => e = .returned (.bool true) ∧ Below w.heap.size w w' := by
  have h0 : (x0 != x0) = false := by simp
  have h1 : (x1 != x1) = false := by simp
  go_enter Try.func69, Try.ntmps69
  go_wp2
  go_ret
  exact ⟨rfl, belA⟩
theorem toGraphS_any (w : World) (xs : List (Int × Int)) (v : Value) (h : Lst shGr w xs v) (hb : xs.length ≤ 1048576) :
    Calls Try.prog 36 #[v] w fun e w' => ∃ A cap F, e = .returned (.slice A xs.length cap) ∧ Own shGr w.heap.size w' xs (.slice A xs.length cap) F ∧ Below w.heap.size w w' := by
  obtain ⟨A, cap, rfl, hc, hm, hoks, hel⟩ := lstGraph h
  clear h
  have hoks := Lib.hid hoks
  obtain ⟨cur, hcur, hmk⟩ := mk_slice (P := Try.prog) Try.underlying67 (sz := 2) (bytes := 16) (e := 63) (by kernel_rfl) xs.length (by omega) (by omega)
  have hel' := Lib.hid hel; clear hel
  go_enter Try.func36, Try.ntmps36
  go_wp2
  go_loopw [4] (fun i wr => ∃ (k : Nat), k ≤ xs.length ∧ i = .int .i64 k ∧ Part wr w.heap.size 63 (xs.length * 2) ((xs.take k).flatMap encGr) ∧ Below w.heap.size w wr) (fun i _ => xs.length - (intOf i).toNat)
  case atStart => exact ⟨0, Nat.zero_le _, rfl, Part.new hcur, belA⟩
  case round =>
    clear hmk hcur
    obtain ⟨k, hk, rfl, hg, hB⟩ := hrel
    by_cases hlt : k < xs.length
    · obtain ⟨bl, off, rfl, hel⟩ := hel'.out (by omega)
      clear hel'
      obtain ⟨d, hd, hok, c0, c1⟩ := hel k hlt
      clear hel
      replace c0 := bkeep hB c0
      replace c1 := bkeep hB c1
      obtain ⟨⟨u0, e0⟩, f0⟩ := hg.cell (p := k * 2) (by omega)
      obtain ⟨⟨u1, e1⟩, f1⟩ := hg.cell (p := k * 2 + 1) (by omega)
      have hz := hg.lt
      have hd := Lib.hid hd
      go_wp2_with (first | (go_at_call 60; refine Calls.mono (toGraph_any _ _ _) ?_; rintro e w1 ⟨rfl, hb⟩; obtain ⟨X, m, rfl⟩ := plsOf hb; clear hb))
      go_roundw
      case rel =>
        have hL : ((xs.take k).flatMap encGr).length = k * 2 := (flatMap_len (n := 2) (fun _ => rfl) _).trans (by rw [take_len hk])
        refine ⟨k + 1, by omega, by go_num, ?_, belA⟩
        rw [flatMap_take encGr hd.out]
        have p0 := hg
        have l0 := hL
        have p1 := Part.push p0 (p := k * 2) l0.symm (by omega) (.int .i64 d.1)
        have l1 := len1 l0 (.int .i64 d.1)
        have p2 := Part.push p1 (p := k * 2 + 1) l1.symm (by omega) (.int .u32 d.2)
        have l2 := len1 l1 (.int .u32 d.2)
        exact (p2.eq (by simp)).pls _ _
      case measure => simp [intOf]; omega
    · have e : k = xs.length := by omega
      subst e
      rw [List.take_length] at hg
      go_wp2
      exact bodyPost_ret (v := .slice (some ⟨w.heap.size, 0, none⟩) xs.length xs.length) (by simp [results, Try.results36, go_sem]) rfl ⟨_, _, _, rfl, hg.own (s := shGr) flatGr (fun _ => rfl) (Nat.le_refl _) (Nat.le_trans hc hm) (Nat.le_refl _) hoks.out (Nat.le_refl _), belA⟩
theorem eqGraphS_same (w : World) (xs : List (Int × Int)) (v v' : Value) (h : Lst shGr w xs v) (h' : Lst shGr w xs v') (hb : xs.length ≤ 9223372036854775806) :
    Calls Try.prog 38 #[v, v'] w fun e w' => e = .returned (.bool true) ∧ Below w.heap.size w w' := by
  obtain ⟨A, cap, rfl, hc, hm, _, hel⟩ := lstGraph h
  obtain ⟨A', cap', rfl, hc', hm', _, hel'⟩ := lstGraph h'
  clear h h'
  have H1 := Lib.hid hel
  have H2 := Lib.hid hel'
  clear hel hel'
  go_enter Try.func38, Try.ntmps38
  go_wp2
  go_loopw [5] (fun i wr => ∃ (k : Nat), k ≤ xs.length ∧ i = .int .i64 k ∧ Below w.heap.size w wr) (fun i _ => xs.length - (intOf i).toNat)
  case atStart => exact ⟨0, Nat.zero_le _, rfl, belA⟩
  case round =>
    obtain ⟨k, hk, rfl, hB⟩ := hrel
    by_cases hlt : k < xs.length
    · obtain ⟨bl, off, rfl, hel⟩ := H1.out (by omega)
      obtain ⟨bl', off', rfl, hel'⟩ := H2.out (by omega)
      clear H1 H2
      obtain ⟨d, hd, hok, c0, c1⟩ := hel k hlt
      obtain ⟨d', hd', _, e0, e1⟩ := hel' k hlt
      rw [hd] at hd'
      cases hd'
      clear hel hel' hd
      replace c0 := bkeep hB c0
      replace e0 := bkeep hB e0
      replace c1 := bkeep hB c1
      replace e1 := bkeep hB e1
      have z1 : bl < wr.heap.size := World.block_lt_of_cell? _ _ c0
      have z2 : bl' < wr.heap.size := World.block_lt_of_cell? _ _ e0
      go_wp2
      go_region_held3 (fun w' => w'.cell? ⟨bl, off + k * 2, none⟩ = some (.int .i64 d.1) ∧ w'.cell? ⟨bl, off + k * 2 + 1, none⟩ = some (.int .u32 d.2) ∧ w'.cell? ⟨bl', off' + k * 2, none⟩ = some (.int .i64 d.1) ∧ w'.cell? ⟨bl', off' + k * 2 + 1, none⟩ = some (.int .u32 d.2)) (simp [*, go_sem]) (first | (go_at_call 69; refine Calls.mono (eqGraph_same _ _ _) ?_; rintro e w1 ⟨rfl, hb⟩; obtain ⟨X, m, rfl⟩ := plsOf hb; clear hb))
      all_goals (go_wp2_with fail)
      go_roundw
      case rel => exact ⟨k + 1, by omega, by go_num, belA⟩
      case measure => simp [intOf]; omega
    · go_wp2
      go_ret
      exact ⟨rfl, belA⟩
theorem szGraphS_any (n cap : Nat) (A : Option Addr) (left : Int) (w : World) (h1 : -1 ≤ left) (h2 : left ≤ 1048576) (hn : n ≤ cap) (hm : cap ≤ maxLen) :
    Calls Try.prog 33 #[.slice A n cap, .int .i64 left] w fun e w' => e = .returned (.int .i64 (szI left n)) ∧ w = w' := by
  unfold maxLen at hm
  by_cases hl : left - (n : Int) < 0
  · have hx : szI left n = -1 := if_pos hl
    rw [hx]
    go_enter Try.func33, Try.ntmps33
    go_wp2
    go_ret
    exact ⟨rfl, rfl⟩
  · have hx : szI left n = left - n := if_neg hl
    rw [hx]
    go_enter Try.func33, Try.ntmps33
    go_wp2
    go_ret
    exact ⟨rfl, rfl⟩
end Go.Proofs.Ytekchdgpaemofaa

/- The laws' copies and equality of impl.Flag. -/
namespace Go.Proofs.Ytekchdgpaemofaa
open Go.ChangeShapes Go.WideShapes Go.ChangeAt Go.RowKit
set_option linter.unusedVariables false
set_option linter.unusedSimpArgs false

theorem toFlag_any (x0 x1 x2 : Int) (w : World) :
    Calls Try.prog 35 #[.agg #[.int .i64 x0, .int .i64 x1, .int .u32 x2]] w fun e w' => e = .returned (.agg #[.int .i64 x0, .int .i64 x1, .int .u32 x2]) ∧ Below w.heap.size w w' := by
  go_enter Try.func35, Try.ntmps35
  go_wp2_with (first | (go_at_call 60; refine Calls.mono (toGraph_any _ _ _) ?_; rintro e w1 ⟨rfl, hb⟩; obtain ⟨X, m, rfl⟩ := plsOf hb; clear hb))
  exact bodyPost_ret (v := .agg #[.int .i64 x0, .int .i64 x1, .int .u32 x2]) (by simp [results, Try.results35, go_sem]) rfl ⟨rfl, belA⟩
theorem eqFlag_same (x0 x1 x2 : Int) (w : World) :
    Calls Try.prog 54 #[.agg #[.int .i64 x0, .int .i64 x1, .int .u32 x2], .agg #[.int .i64 x0, .int .i64 x1, .int .u32 x2]] w fun e w' => e = .returned (.bool true) ∧ Below w.heap.size w w' := by
  have h0 : (x0 != x0) = false := by simp
  go_enter Try.func54, Try.ntmps54
  go_wp2_with (first | (go_at_call 69; refine Calls.mono (eqGraph_same _ _ _) ?_; rintro e w1 ⟨rfl, hb⟩; obtain ⟨X, m, rfl⟩ := plsOf hb; clear hb))
  go_ret
  exact ⟨rfl, belA⟩
theorem toFlagS_any (w : World) (xs : List (Int × (Int × Int))) (v : Value) (h : Lst shFlag w xs v) (hb : xs.length ≤ 1048576) :
    Calls Try.prog 25 #[v] w fun e w' => ∃ A cap F, e = .returned (.slice A xs.length cap) ∧ Own shFlag w.heap.size w' xs (.slice A xs.length cap) F ∧ Below w.heap.size w w' := by
  obtain ⟨A, cap, rfl, hc, hm, hoks, hel⟩ := lstFlag h
  clear h
  have hoks := Lib.hid hoks
  obtain ⟨cur, hcur, hmk⟩ := mk_slice (P := Try.prog) Try.underlying42 (sz := 3) (bytes := 24) (e := 65) (by kernel_rfl) xs.length (by omega) (by omega)
  have hel' := Lib.hid hel; clear hel
  go_enter Try.func25, Try.ntmps25
  go_wp2
  go_loopw [4] (fun i wr => ∃ (k : Nat), k ≤ xs.length ∧ i = .int .i64 k ∧ Part wr w.heap.size 65 (xs.length * 3) ((xs.take k).flatMap encFlag) ∧ Below w.heap.size w wr) (fun i _ => xs.length - (intOf i).toNat)
  case atStart => exact ⟨0, Nat.zero_le _, rfl, Part.new hcur, belA⟩
  case round =>
    clear hmk hcur
    obtain ⟨k, hk, rfl, hg, hB⟩ := hrel
    by_cases hlt : k < xs.length
    · obtain ⟨bl, off, rfl, hel⟩ := hel'.out (by omega)
      clear hel'
      obtain ⟨d, hd, hok, c0, c1, c2⟩ := hel k hlt
      clear hel
      replace c0 := bkeep hB c0
      replace c1 := bkeep hB c1
      replace c2 := bkeep hB c2
      obtain ⟨⟨u0, e0⟩, f0⟩ := hg.cell (p := k * 3) (by omega)
      obtain ⟨⟨u1, e1⟩, f1⟩ := hg.cell (p := k * 3 + 1) (by omega)
      obtain ⟨⟨u2, e2⟩, f2⟩ := hg.cell (p := k * 3 + 2) (by omega)
      have hz := hg.lt
      have hd := Lib.hid hd
      go_wp2_with (first | (go_at_call 35; refine Calls.mono (toFlag_any _ _ _ _) ?_; rintro e w1 ⟨rfl, hb⟩; obtain ⟨X, m, rfl⟩ := plsOf hb; clear hb))
      go_roundw
      case rel =>
        have hL : ((xs.take k).flatMap encFlag).length = k * 3 := (flatMap_len (n := 3) (fun _ => rfl) _).trans (by rw [take_len hk])
        refine ⟨k + 1, by omega, by go_num, ?_, belA⟩
        rw [flatMap_take encFlag hd.out]
        have p0 := hg
        have l0 := hL
        have p1 := Part.push p0 (p := k * 3) l0.symm (by omega) (.int .i64 d.1)
        have l1 := len1 l0 (.int .i64 d.1)
        have p2 := Part.push p1 (p := k * 3 + 1) l1.symm (by omega) (.int .i64 d.2.1)
        have l2 := len1 l1 (.int .i64 d.2.1)
        have p3 := Part.push p2 (p := k * 3 + 2) l2.symm (by omega) (.int .u32 d.2.2)
        have l3 := len1 l2 (.int .u32 d.2.2)
        exact (p3.eq (by simp)).pls _ _
      case measure => simp [intOf]; omega
    · have e : k = xs.length := by omega
      subst e
      rw [List.take_length] at hg
      go_wp2
      exact bodyPost_ret (v := .slice (some ⟨w.heap.size, 0, none⟩) xs.length xs.length) (by simp [results, Try.results25, go_sem]) rfl ⟨_, _, _, rfl, hg.own (s := shFlag) flatFlag (fun _ => rfl) (Nat.le_refl _) (Nat.le_trans hc hm) (Nat.le_refl _) hoks.out (Nat.le_refl _), belA⟩
theorem eqFlagS_same (w : World) (xs : List (Int × (Int × Int))) (v v' : Value) (h : Lst shFlag w xs v) (h' : Lst shFlag w xs v') (hb : xs.length ≤ 9223372036854775806) :
    Calls Try.prog 29 #[v, v'] w fun e w' => e = .returned (.bool true) ∧ Below w.heap.size w w' := by
  obtain ⟨A, cap, rfl, hc, hm, _, hel⟩ := lstFlag h
  obtain ⟨A', cap', rfl, hc', hm', _, hel'⟩ := lstFlag h'
  clear h h'
  have H1 := Lib.hid hel
  have H2 := Lib.hid hel'
  clear hel hel'
  go_enter Try.func29, Try.ntmps29
  go_wp2
  go_loopw [5] (fun i wr => ∃ (k : Nat), k ≤ xs.length ∧ i = .int .i64 k ∧ Below w.heap.size w wr) (fun i _ => xs.length - (intOf i).toNat)
  case atStart => exact ⟨0, Nat.zero_le _, rfl, belA⟩
  case round =>
    obtain ⟨k, hk, rfl, hB⟩ := hrel
    by_cases hlt : k < xs.length
    · obtain ⟨bl, off, rfl, hel⟩ := H1.out (by omega)
      obtain ⟨bl', off', rfl, hel'⟩ := H2.out (by omega)
      clear H1 H2
      obtain ⟨d, hd, hok, c0, c1, c2⟩ := hel k hlt
      obtain ⟨d', hd', _, e0, e1, e2⟩ := hel' k hlt
      rw [hd] at hd'
      cases hd'
      clear hel hel' hd
      replace c0 := bkeep hB c0
      replace e0 := bkeep hB e0
      replace c1 := bkeep hB c1
      replace e1 := bkeep hB e1
      replace c2 := bkeep hB c2
      replace e2 := bkeep hB e2
      have z1 : bl < wr.heap.size := World.block_lt_of_cell? _ _ c0
      have z2 : bl' < wr.heap.size := World.block_lt_of_cell? _ _ e0
      go_wp2
      go_region_held3 (fun w' => w'.cell? ⟨bl, off + k * 3, none⟩ = some (.int .i64 d.1) ∧ w'.cell? ⟨bl, off + k * 3 + 1, none⟩ = some (.int .i64 d.2.1) ∧ w'.cell? ⟨bl, off + k * 3 + 2, none⟩ = some (.int .u32 d.2.2) ∧ w'.cell? ⟨bl', off' + k * 3, none⟩ = some (.int .i64 d.1) ∧ w'.cell? ⟨bl', off' + k * 3 + 1, none⟩ = some (.int .i64 d.2.1) ∧ w'.cell? ⟨bl', off' + k * 3 + 2, none⟩ = some (.int .u32 d.2.2)) (simp [*, go_sem]) (first | (go_at_call 54; refine Calls.mono (eqFlag_same _ _ _ _) ?_; rintro e w1 ⟨rfl, hb⟩; obtain ⟨X, m, rfl⟩ := plsOf hb; clear hb))
      all_goals (go_wp2_with fail)
      go_roundw
      case rel => exact ⟨k + 1, by omega, by go_num, belA⟩
      case measure => simp [intOf]; omega
    · go_wp2
      go_ret
      exact ⟨rfl, belA⟩
theorem szFlagS_any (n cap : Nat) (A : Option Addr) (left : Int) (w : World) (h1 : -1 ≤ left) (h2 : left ≤ 1048576) (hn : n ≤ cap) (hm : cap ≤ maxLen) :
    Calls Try.prog 22 #[.slice A n cap, .int .i64 left] w fun e w' => e = .returned (.int .i64 (szI left n)) ∧ w = w' := by
  unfold maxLen at hm
  by_cases hl : left - (n : Int) < 0
  · have hx : szI left n = -1 := if_pos hl
    rw [hx]
    go_enter Try.func22, Try.ntmps22
    go_wp2
    go_ret
    exact ⟨rfl, rfl⟩
  · have hx : szI left n = left - n := if_neg hl
    rw [hx]
    go_enter Try.func22, Try.ntmps22
    go_wp2
    go_ret
    exact ⟨rfl, rfl⟩
end Go.Proofs.Ytekchdgpaemofaa

/- The laws' copies and equality of impl.Fraction. -/
namespace Go.Proofs.Ytekchdgpaemofaa
open Go.ChangeShapes Go.WideShapes Go.ChangeAt Go.RowKit
set_option linter.unusedVariables false
set_option linter.unusedSimpArgs false

theorem toFraction_any (x0 x1 : Int) (w : World) :
    Calls Try.prog 49 #[.agg #[.int .i64 x0, .int .i64 x1]] w fun e w' => e = .returned (.agg #[.int .i64 x0, .int .i64 x1]) ∧ Below w.heap.size w w' := by
  go_enter Try.func49, Try.ntmps49
  go_wp2
  exact bodyPost_ret (v := .agg #[.int .i64 x0, .int .i64 x1]) (by simp [results, Try.results49, go_sem]) rfl ⟨rfl, belA⟩
theorem eqFraction_same (x0 x1 : Int) (w : World) :
    Calls Try.prog 45 #[.agg #[.int .i64 x0, .int .i64 x1], .agg #[.int .i64 x0, .int .i64 x1]] w fun e w' => e = .returned (.bool true) ∧ Below w.heap.size w w' := by
  have h0 : (x0 != x0) = false := by simp
  have h1 : (x1 != x1) = false := by simp
  go_enter Try.func45, Try.ntmps45
  go_wp2
  go_ret
  exact ⟨rfl, belA⟩
theorem toFractionS_any (w : World) (xs : List (Int × Int)) (v : Value) (h : Lst shFr w xs v) (hb : xs.length ≤ 1048576) :
    Calls Try.prog 26 #[v] w fun e w' => ∃ A cap F, e = .returned (.slice A xs.length cap) ∧ Own shFr w.heap.size w' xs (.slice A xs.length cap) F ∧ Below w.heap.size w w' := by
  obtain ⟨A, cap, rfl, hc, hm, hoks, hel⟩ := lstFraction h
  clear h
  have hoks := Lib.hid hoks
  obtain ⟨cur, hcur, hmk⟩ := mk_slice (P := Try.prog) Try.underlying32 (sz := 2) (bytes := 16) (e := 79) (by kernel_rfl) xs.length (by omega) (by omega)
  have hel' := Lib.hid hel; clear hel
  go_enter Try.func26, Try.ntmps26
  go_wp2
  go_loopw [4] (fun i wr => ∃ (k : Nat), k ≤ xs.length ∧ i = .int .i64 k ∧ Part wr w.heap.size 79 (xs.length * 2) ((xs.take k).flatMap encFr) ∧ Below w.heap.size w wr) (fun i _ => xs.length - (intOf i).toNat)
  case atStart => exact ⟨0, Nat.zero_le _, rfl, Part.new hcur, belA⟩
  case round =>
    clear hmk hcur
    obtain ⟨k, hk, rfl, hg, hB⟩ := hrel
    by_cases hlt : k < xs.length
    · obtain ⟨bl, off, rfl, hel⟩ := hel'.out (by omega)
      clear hel'
      obtain ⟨d, hd, hok, c0, c1⟩ := hel k hlt
      clear hel
      replace c0 := bkeep hB c0
      replace c1 := bkeep hB c1
      obtain ⟨⟨u0, e0⟩, f0⟩ := hg.cell (p := k * 2) (by omega)
      obtain ⟨⟨u1, e1⟩, f1⟩ := hg.cell (p := k * 2 + 1) (by omega)
      have hz := hg.lt
      have hd := Lib.hid hd
      go_wp2_with (first | (go_at_call 49; refine Calls.mono (toFraction_any _ _ _) ?_; rintro e w1 ⟨rfl, hb⟩; obtain ⟨X, m, rfl⟩ := plsOf hb; clear hb))
      go_roundw
      case rel =>
        have hL : ((xs.take k).flatMap encFr).length = k * 2 := (flatMap_len (n := 2) (fun _ => rfl) _).trans (by rw [take_len hk])
        refine ⟨k + 1, by omega, by go_num, ?_, belA⟩
        rw [flatMap_take encFr hd.out]
        have p0 := hg
        have l0 := hL
        have p1 := Part.push p0 (p := k * 2) l0.symm (by omega) (.int .i64 d.1)
        have l1 := len1 l0 (.int .i64 d.1)
        have p2 := Part.push p1 (p := k * 2 + 1) l1.symm (by omega) (.int .i64 d.2)
        have l2 := len1 l1 (.int .i64 d.2)
        exact (p2.eq (by simp)).pls _ _
      case measure => simp [intOf]; omega
    · have e : k = xs.length := by omega
      subst e
      rw [List.take_length] at hg
      go_wp2
      exact bodyPost_ret (v := .slice (some ⟨w.heap.size, 0, none⟩) xs.length xs.length) (by simp [results, Try.results26, go_sem]) rfl ⟨_, _, _, rfl, hg.own (s := shFr) flatFr (fun _ => rfl) (Nat.le_refl _) (Nat.le_trans hc hm) (Nat.le_refl _) hoks.out (Nat.le_refl _), belA⟩
theorem eqFractionS_same (w : World) (xs : List (Int × Int)) (v v' : Value) (h : Lst shFr w xs v) (h' : Lst shFr w xs v') (hb : xs.length ≤ 9223372036854775806) :
    Calls Try.prog 17 #[v, v'] w fun e w' => e = .returned (.bool true) ∧ Below w.heap.size w w' := by
  obtain ⟨A, cap, rfl, hc, hm, _, hel⟩ := lstFraction h
  obtain ⟨A', cap', rfl, hc', hm', _, hel'⟩ := lstFraction h'
  clear h h'
  have H1 := Lib.hid hel
  have H2 := Lib.hid hel'
  clear hel hel'
  go_enter Try.func17, Try.ntmps17
  go_wp2
  go_loopw [5] (fun i wr => ∃ (k : Nat), k ≤ xs.length ∧ i = .int .i64 k ∧ Below w.heap.size w wr) (fun i _ => xs.length - (intOf i).toNat)
  case atStart => exact ⟨0, Nat.zero_le _, rfl, belA⟩
  case round =>
    obtain ⟨k, hk, rfl, hB⟩ := hrel
    by_cases hlt : k < xs.length
    · obtain ⟨bl, off, rfl, hel⟩ := H1.out (by omega)
      obtain ⟨bl', off', rfl, hel'⟩ := H2.out (by omega)
      clear H1 H2
      obtain ⟨d, hd, hok, c0, c1⟩ := hel k hlt
      obtain ⟨d', hd', _, e0, e1⟩ := hel' k hlt
      rw [hd] at hd'
      cases hd'
      clear hel hel' hd
      replace c0 := bkeep hB c0
      replace e0 := bkeep hB e0
      replace c1 := bkeep hB c1
      replace e1 := bkeep hB e1
      have z1 : bl < wr.heap.size := World.block_lt_of_cell? _ _ c0
      have z2 : bl' < wr.heap.size := World.block_lt_of_cell? _ _ e0
      go_wp2
      go_region_held3 (fun w' => w'.cell? ⟨bl, off + k * 2, none⟩ = some (.int .i64 d.1) ∧ w'.cell? ⟨bl, off + k * 2 + 1, none⟩ = some (.int .i64 d.2) ∧ w'.cell? ⟨bl', off' + k * 2, none⟩ = some (.int .i64 d.1) ∧ w'.cell? ⟨bl', off' + k * 2 + 1, none⟩ = some (.int .i64 d.2)) (simp [*, go_sem]) (first | (go_at_call 45; refine Calls.mono (eqFraction_same _ _ _) ?_; rintro e w1 ⟨rfl, hb⟩; obtain ⟨X, m, rfl⟩ := plsOf hb; clear hb))
      all_goals (go_wp2_with fail)
      go_roundw
      case rel => exact ⟨k + 1, by omega, by go_num, belA⟩
      case measure => simp [intOf]; omega
    · go_wp2
      go_ret
      exact ⟨rfl, belA⟩
theorem szFractionS_any (n cap : Nat) (A : Option Addr) (left : Int) (w : World) (h1 : -1 ≤ left) (h2 : left ≤ 1048576) (hn : n ≤ cap) (hm : cap ≤ maxLen) :
    Calls Try.prog 23 #[.slice A n cap, .int .i64 left] w fun e w' => e = .returned (.int .i64 (szI left n)) ∧ w = w' := by
  unfold maxLen at hm
  by_cases hl : left - (n : Int) < 0
  · have hx : szI left n = -1 := if_pos hl
    rw [hx]
    go_enter Try.func23, Try.ntmps23
    go_wp2
    go_ret
    exact ⟨rfl, rfl⟩
  · have hx : szI left n = left - n := if_neg hl
    rw [hx]
    go_enter Try.func23, Try.ntmps23
    go_wp2
    go_ret
    exact ⟨rfl, rfl⟩
end Go.Proofs.Ytekchdgpaemofaa

/- The laws' copies and equality of impl.Term. -/
namespace Go.Proofs.Ytekchdgpaemofaa
open Go.ChangeShapes Go.WideShapes Go.ChangeAt Go.RowKit
set_option linter.unusedVariables false
set_option linter.unusedSimpArgs false

end Go.Proofs.Ytekchdgpaemofaa

/- The laws' copies and equality of impl.FlagSum. -/
namespace Go.Proofs.Ytekchdgpaemofaa
open Go.ChangeShapes Go.WideShapes Go.ChangeAt Go.RowKit
set_option linter.unusedVariables false
set_option linter.unusedSimpArgs false

end Go.Proofs.Ytekchdgpaemofaa
