import Derived.Test.YtekchdgpaemofaaGreatYySl
import Derived.Test.YtekchdgpaemofaaGreatYyTSum
namespace Go.Proofs.YtekchdgpaemofaaGreat
open Go.ChangeShapes Go.WideShapes Go.ChangeAt Go.RowKit
set_option linter.unusedVariables false
set_option linter.unusedSimpArgs false
attribute [local irreducible] Calls

theorem eqFractionSS_same (w : World) (xss : List (List (Int × Int))) (v v' : Value) (h : Lst (shL shFr) w xss v) (h' : Lst (shL shFr) w xss v') (hb : xss.length + lenSS xss ≤ 1048576) :
    Calls Tryz.prog 18 #[v, v'] w fun e w' => e = .returned (.bool true) ∧ Below w.heap.size w w' := by
  obtain ⟨A, cap, rfl, hc, hm, hel⟩ := lstFrSS h
  obtain ⟨A', cap', rfl, hc', hm', hel'⟩ := lstFrSS h'
  clear h h'
  have H1 := Lib.hid hel
  have H2 := Lib.hid hel'
  clear hel hel'
  go_enter Tryz.func18, Tryz.ntmps18
  go_wp2
  go_loopw [5] (fun i wr => ∃ (k : Nat), k ≤ xss.length ∧ i = .int .i64 k ∧ Below w.heap.size w wr) (fun i _ => xss.length - (intOf i).toNat)
  case atStart => exact ⟨0, Nat.zero_le _, rfl, belA⟩
  case round =>
    obtain ⟨k, hk, rfl, hB⟩ := hrel
    by_cases hlt : k < xss.length
    · obtain ⟨bl, off, rfl, hel⟩ := H1.out (by omega)
      obtain ⟨bl', off', rfl, hel'⟩ := H2.out (by omega)
      clear H1 H2
      obtain ⟨xs, vi, hd, hL, c0⟩ := hel k hlt
      obtain ⟨xs', vi', hd', hL', e0⟩ := hel' k hlt
      rw [hd] at hd'
      cases hd'
      clear hel hel'
      have hl1 : xs.length ≤ 9223372036854775806 := by have := lenSS_mem (List.mem_of_getElem? hd); omega
      clear hd
      replace c0 := bkeep hB c0
      replace e0 := bkeep hB e0
      have hL1 := hL.below hB
      have hL2 := hL'.below hB
      clear hL hL'
      have z1 : bl < wr.heap.size := World.block_lt_of_cell? _ _ c0
      have z2 : bl' < wr.heap.size := World.block_lt_of_cell? _ _ e0
      go_wp2
      go_region_held3 (fun w' => w'.cell? ⟨bl, off + k, none⟩ = some vi ∧ w'.cell? ⟨bl', off' + k, none⟩ = some vi') (simp [*, go_sem]) (first | (go_at_call 50; refine Calls.mono (eqFractionS_same _ xs vi vi' (hL1.below belA) (hL2.below belA) hl1) ?_; rintro e w1 ⟨rfl, hb⟩; obtain ⟨X, m, rfl⟩ := plsOf hb; clear hb))
      all_goals (go_wp2_with fail)
      go_roundw
      case rel => exact ⟨k + 1, by omega, by go_num, belA⟩
      case measure => simp [intOf]; omega
    · go_wp2
      go_ret
      exact ⟨rfl, belA⟩
end Go.Proofs.YtekchdgpaemofaaGreat
