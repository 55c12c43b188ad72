import Derived.Test.YtekchdgpaemofaaGreatYySl
import Derived.Test.YtekchdgpaemofaaGreatYyTSum
namespace Go.Proofs.YtekchdgpaemofaaGreat
open Go.RowKit
abbrev Blk := List (Int × (Int × Int)) × List (List (Int × Int))
def szBl (left : Int) (b : Blk) : Int := szSS (szI left b.1.length) b.2
theorem szSS_le {α : Type} {xss : List (List α)} {left : Int} (h : -1 ≤ left) : szSS left xss ≤ left := by
  unfold szSS
  split
  · omega
  · have := szRun_bd xss (left - xss.length) (by omega); omega
theorem szBl_bd {b : Blk} {l : Int} (h : -1 ≤ l) : -1 ≤ szBl l b ∧ szBl l b ≤ l ∧ (¬ szBl l b < 0 → (b.1.length : Int) ≤ l ∧ (b.2.length : Int) + lenSS b.2 ≤ l) := by
  have h1 : -1 ≤ szI l b.1.length ∧ szI l b.1.length ≤ l := by unfold szI; split <;> omega
  have h2 := szSS_le (xss := b.2) h1.1
  have h3 : -1 ≤ szSS (szI l b.1.length) b.2 := by
    unfold szSS
    split
    · omega
    · have := szRun_bd b.2 (szI l b.1.length - b.2.length) (by omega); omega
  refine ⟨h3, Int.le_trans h2 h1.2, fun hn => ?_⟩
  have h4 := szSS_pos (xss := b.2) (left := szI l b.1.length) hn
  have h5 : (b.1.length : Int) ≤ l := by unfold szI at h4; split at h4 <;> omega
  exact ⟨h5, by omega⟩
end Go.Proofs.YtekchdgpaemofaaGreat

namespace Go.Proofs.YtekchdgpaemofaaGreat
open Go.ChangeShapes Go.WideShapes Go.ChangeAt Go.RowKit
set_option linter.unusedVariables false
set_option linter.unusedSimpArgs false
attribute [local irreducible] Calls

theorem toFractionSS_any (w : World) (xss : List (List (Int × Int))) (v : Value) (h : Lst (shL shFr) w xss v) (hb : xss.length + lenSS xss ≤ 1048576) :
    Calls Tryz.prog 14 #[v] w fun e w' => ∃ A cap F, e = .returned (.slice A xss.length cap) ∧ Own (shL shFr) w.heap.size w' xss (.slice A xss.length cap) F ∧ Below w.heap.size w w' := by
  obtain ⟨A0, cap0, rfl, hc, hm, hel⟩ := lstFrSS h
  clear h
  obtain ⟨cur, hcur, hmk⟩ := mk_slice (P := Tryz.prog) Tryz.underlying36 (sz := 1) (bytes := 24) (e := 94) (by kernel_rfl) xss.length (by omega) (by omega)
  have hel' := Lib.hid hel; clear hel
  go_enter Tryz.func14, Tryz.ntmps14
  go_wp2
  go_loopw [4] (fun i wr => ∃ (k : Nat), k ≤ xss.length ∧ i = .int .i64 k ∧ RowsP (shL shFr) w.heap.size wr w.heap.size 94 (xss.length * 1) (xss.take k) ∧ Below w.heap.size w wr) (fun i _ => xss.length - (intOf i).toNat)
  case atStart => exact ⟨0, Nat.zero_le _, rfl, RowsP.new hcur, belA⟩
  case round =>
    clear hmk hcur
    obtain ⟨k, hk, rfl, hg, hB⟩ := hrel
    by_cases hlt : k < xss.length
    · obtain ⟨bl, off, rfl, hel⟩ := hel'.out (by omega)
      clear hel'
      obtain ⟨xs, vi, hd, hL, c0⟩ := hel k hlt
      clear hel
      replace c0 := bkeep hB c0
      have hL1 : Lst shFr wr xs vi := hL.below hB
      have hl1 : xs.length ≤ 1048576 := by have := lenSS_mem (List.mem_of_getElem? hd); omega
      obtain ⟨⟨u0, e0⟩, f0⟩ := hg.cell (p := k) (by omega)
      have hz := hg.lt
      have hd := Lib.hid hd
      have hg := Lib.hid hg
      clear hL
      go_wp2_with (first | (go_at_call 63; refine Calls.mono (toFractionS_any _ xs vi (hL1.below belA) hl1) ?_; rintro e w1 ⟨A, cap, F, rfl, hO, hb⟩; obtain ⟨X, m, rfl⟩ := plsOf hb; clear hb; (try simp only [pls_pls, drew_pls, drewN_pls, pls_drew, pls_drewN] at hO); have hL := Own.lst hO))
      go_roundw
      case rel =>
        exact ⟨k + 1, by omega, by go_num, hg.out.step hd.out hO.1 hO.2.1 hO.2.2 (Nat.mul_one k).symm (by omega), belA⟩
      case measure => simp [intOf]; omega
    · have e : k = xss.length := by omega
      subst e
      obtain ⟨F, hO⟩ := hg.all (n := xss.length) (Nat.le_refl _) (Nat.le_trans hc hm) (Nat.le_refl _)
      go_wp2
      exact bodyPost_ret (v := .slice (some ⟨w.heap.size, 0, none⟩) xss.length xss.length) (by simp [results, Tryz.results14, go_sem]) rfl ⟨_, _, rfl, ⟨_, hO⟩, belA⟩
theorem eqFractionSS_same (w : World) (xss : List (List (Int × Int))) (v v' : Value) (h : Lst (shL shFr) w xss v) (h' : Lst (shL shFr) w xss v') (hb : xss.length + lenSS xss ≤ 1048576) :
    Calls Tryz.prog 18 #[v, v'] w fun e w' => e = .returned (.bool true) ∧ Below w.heap.size w w' := by
  obtain ⟨A, cap, rfl, hc, hm, hel⟩ := lstFrSS h
  obtain ⟨A', cap', rfl, hc', hm', hel'⟩ := lstFrSS h'
  clear h h'
  have H1 := Lib.hid hel
  have H2 := Lib.hid hel'
  clear hel hel'
  go_enter Tryz.func18, Tryz.ntmps18
  go_wp2
  go_loopw [5] (fun i wr => ∃ (k : Nat), k ≤ xss.length ∧ i = .int .i64 k ∧ Below w.heap.size w wr) (fun i _ => xss.length - (intOf i).toNat)
  case atStart => exact ⟨0, Nat.zero_le _, rfl, belA⟩
  case round =>
    obtain ⟨k, hk, rfl, hB⟩ := hrel
    by_cases hlt : k < xss.length
    · obtain ⟨bl, off, rfl, hel⟩ := H1.out (by omega)
      obtain ⟨bl', off', rfl, hel'⟩ := H2.out (by omega)
      clear H1 H2
      obtain ⟨xs, vi, hd, hL, c0⟩ := hel k hlt
      obtain ⟨xs', vi', hd', hL', e0⟩ := hel' k hlt
      rw [hd] at hd'
      cases hd'
      clear hel hel'
      have hl1 : xs.length ≤ 9223372036854775806 := by have := lenSS_mem (List.mem_of_getElem? hd); omega
      clear hd
      replace c0 := bkeep hB c0
      replace e0 := bkeep hB e0
      have hL1 := hL.below hB
      have hL2 := hL'.below hB
      clear hL hL'
      have z1 : bl < wr.heap.size := World.block_lt_of_cell? _ _ c0
      have z2 : bl' < wr.heap.size := World.block_lt_of_cell? _ _ e0
      go_wp2
      go_region_held3 (fun w' => w'.cell? ⟨bl, off + k, none⟩ = some vi ∧ w'.cell? ⟨bl', off' + k, none⟩ = some vi') (simp [*, go_sem]) (first | (go_at_call 50; refine Calls.mono (eqFractionS_same _ xs vi vi' (hL1.below belA) (hL2.below belA) hl1) ?_; rintro e w1 ⟨rfl, hb⟩; obtain ⟨X, m, rfl⟩ := plsOf hb; clear hb))
      all_goals (go_wp2_with fail)
      go_roundw
      case rel => exact ⟨k + 1, by omega, by go_num, belA⟩
      case measure => simp [intOf]; omega
    · go_wp2
      go_ret
      exact ⟨rfl, belA⟩
theorem szFractionSS_any (w : World) (xss : List (List (Int × Int))) (v : Value) (left : Int) (h : Lst (shL shFr) w xss v) (h1 : -1 ≤ left) (h2 : left ≤ 1048576) :
    Calls Tryz.prog 11 #[v, .int .i64 left] w fun e w' => e = .returned (.int .i64 (szSS left xss)) ∧ Below w.heap.size w w' := by
  obtain ⟨A, cap, rfl, hc, hm, hel⟩ := lstFrSS h
  unfold maxLen at hm
  clear h
  have H1 := Lib.hid hel
  clear hel
  by_cases hl : left - (xss.length : Int) < 0
  · have hx : szSS left xss = -1 := if_pos hl
    go_enter Tryz.func11, Tryz.ntmps11
    go_wp2
    exact bodyPost_ret (v := .int .i64 (-1)) (by simp [results, Tryz.results11, go_sem]) rfl ⟨by rw [hx], belA⟩
  · have hx : szSS left xss = szRun (left - xss.length) xss := if_neg hl
    have hx := Lib.hid hx
    go_enter Tryz.func11, Tryz.ntmps11
    go_wp2
    go_loopw [1, 5] (fun a i wr => ∃ (k : Nat) (l : Int), k ≤ xss.length ∧ i = .int .i64 k ∧ a = .int .i64 l ∧ 0 ≤ l ∧ l ≤ 1048576 ∧ szRun l (xss.drop k) = szSS left xss ∧ Below w.heap.size w wr) (fun _ i _ => xss.length - (intOf i).toNat)
    case atStart => exact ⟨0, left - xss.length, Nat.zero_le _, rfl, rfl, by omega, by omega, by rw [List.drop_zero, hx.out], belA⟩
    case round =>
      obtain ⟨k, l, hk, rfl, rfl, hl0, hl1, hr, hB⟩ := hrel
      have hr := Lib.hid hr
      by_cases hlt : k < xss.length
      · obtain ⟨bl, off, rfl, hel⟩ := H1.out (by omega)
        clear H1
        obtain ⟨xs, vi, hd, hL, c0⟩ := hel k hlt
        clear hel
        replace c0 := bkeep hB c0
        obtain ⟨A1, cap1, rfl, hc1, hm1⟩ := formFraction hL
        clear hL
        have hs : szRun l (xss.drop k) = if szI l xs.length < 0 then -1 else szRun (szI l xs.length) (xss.drop (k + 1)) := by
          obtain ⟨hk2, e⟩ := List.getElem?_eq_some_iff.1 hd
          rw [List.drop_eq_getElem_cons hk2, e]
          unfold szI
          rw [szRun]
          split <;> rename_i hh
          · simp [hh]
          · simp [hh]
        have hs := Lib.hid hs
        have hd := Lib.hid hd
        have hz1 := szI_bd (left := l) (n := xs.length) (by omega) (by omega) (by omega)
        by_cases hn : szI l xs.length < 0
        · go_wp2_with (first | (go_at_call 53; refine Calls.mono (szFractionS_any _ _ _ _ _ (by omega) (by omega) hc1 hm1) ?_; rintro e w1 ⟨rfl, rfl⟩))
          exact bodyPost_ret (v := .int .i64 (-1)) (by simp [results, Tryz.results11, go_sem]) rfl ⟨by rw [← hr.out, hs.out, if_pos hn], belA⟩
        · go_wp2_with (first | (go_at_call 53; refine Calls.mono (szFractionS_any _ _ _ _ _ (by omega) (by omega) hc1 hm1) ?_; rintro e w1 ⟨rfl, rfl⟩))
          go_roundw
          case rel => exact ⟨k + 1, szI l xs.length, by omega, by go_num, rfl, by omega, by omega, by rw [← hr.out, hs.out, if_neg (by omega)], belA⟩
          case measure => simp [intOf]; omega
      · have e : k = xss.length := by omega
        subst e
        go_wp2
        exact bodyPost_ret (v := .int .i64 l) (by simp [results, Tryz.results11, go_sem]) rfl ⟨by rw [← hr.out, List.drop_length]; rfl, belA⟩
end Go.Proofs.YtekchdgpaemofaaGreat
