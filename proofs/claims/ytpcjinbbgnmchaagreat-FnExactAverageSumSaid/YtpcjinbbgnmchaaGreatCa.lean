/- slices.Grow and slices.Concat at terms. -/
import Derived.Test.YtpcjinbbgnmchaaGreatIw
namespace Go.Proofs.YtpcjinbbgnmchaaGreat
open Go.ChangeShapes Go.WideShapes Go.RowKit
set_option linter.unusedVariables false
set_option linter.unusedSimpArgs false
attribute [local irreducible] Calls
theorem growTerm_any (w : World) (n : Nat) (hn : n ≤ 1048576) : Calls Tryz.prog 117 #[.slice none 0 0, .int .i64 n] w fun e w' => ∃ v', e = .returned v' ∧ TmA w.heap.size w' v' [] ∧ Below w.heap.size w w' := by
  rcases Nat.eq_zero_or_pos n with rfl | hp
  · go_enter Tryz.func117, Tryz.ntmps117
    go_wp2_with fail
    exact bodyPost_ret (v := .slice none 0 0) (by simp [results, Tryz.results117, go_sem]) rfl ⟨_, rfl, TmA.nil, Below.refl _ _⟩
  · obtain ⟨gc, cu, h1, h2, h3, _, happ⟩ := run_append_room (v := .slice none 0 0) w none 0 0 [] rfl ⟨fun _ => rfl, fun a h => by cases h⟩ n hp (by omega) (by omega) 32
    rw [Nat.zero_add] at happ h1
    obtain ⟨W0, hW0⟩ : ∃ W0, W0 = w.drew.alloc (.cells cu 84) := ⟨_, rfl⟩
    obtain ⟨G, hG⟩ : ∃ G, G = w.heap.size := ⟨_, rfl⟩
    rw [← hW0, ← hG] at happ
    have hfin : TmA w.heap.size W0 (.slice (some ⟨G, 0, none⟩) 0 gc) [] ∧ Below w.heap.size w W0 := by
      refine ⟨⟨⟨rfl, .inr ⟨G, gc, cu, rfl, by omega, ?_, Nat.zero_le _, h2, h3, rfl⟩⟩, fun d hd => by cases hd⟩, ?_⟩
      · rw [hW0, hG]; exact blknew w.drew _
      · rw [hW0]; exact bal (bdrew1 (Below.refl _ w)) _
    have HF := Lib.hid hfin
    have HAP := Lib.hid happ
    have hp8 : (0 : Int) < (n : Int) := by omega
    have hnn : ¬ (n : Int) < 0 := by omega
    have hgc : (0 : Int) ≤ (gc : Int) := by omega
    clear hfin happ hW0 hG h1 h2 h3
    go_enter Tryz.func117, Tryz.ntmps117
    go_wp2_with (at_builtin; refine wpList_app_t _ rfl _ _ 32 3 rfl _ _ rfl rfl HAP.out ?_)
    exact bodyPost_ret (v := .slice (some ⟨G, 0, none⟩) 0 gc) (by simp [results, Tryz.results117, go_sem]) rfl ⟨_, rfl, HF.out.1, HF.out.2⟩
/-- What stands at a place of two, or behind them. -/
def ccS (a b : Nat) (k : Nat) : Int := if k = 0 then 0 else if k = 1 then (a : Int) else ((a + b : Nat) : Int)
def ccL (T U : List Trm) (k : Nat) : List Trm := if k = 0 then [] else if k = 1 then T else T ++ U
set_option maxHeartbeats 2000000 in
theorem concatTerm_any (w : World) (bb : Nat) (T U : List Trm) (u1 u2 : Value) (hb : w.heap[bb]? = some (.cells #[u1, u2] 32 (0, 0))) (hT : Lst shTerm w T u1) (hU : Lst shTerm w U u2) (h1 : T.length ≤ 64) (h2 : U.length ≤ 64) :
    Calls Tryz.prog 51 #[.slice (some ⟨bb, 0, none⟩) 2 2] w fun e w' => ∃ v', e = .returned v' ∧ Lst shTerm w' (T ++ U) v' ∧ Below w.heap.size w w' := by
  obtain ⟨A, cap, rfl, _, _⟩ := formTerm hT
  obtain ⟨A', cap', rfl, _, _⟩ := formTerm hU
  obtain ⟨N, hN⟩ : ∃ N : Nat, Hid (T.length = N) := ⟨_, Lib.hid rfl⟩
  obtain ⟨M, hM⟩ : ∃ M : Nat, Hid (U.length = M) := ⟨_, Lib.hid rfl⟩
  rw [hN.out] at hb h1
  rw [hM.out] at hb h2
  have HT : Hid (Lst shTerm w T (.slice A N cap)) := Lib.hid (by rw [← hN.out]; exact hT)
  have HU : Hid (Lst shTerm w U (.slice A' M cap')) := Lib.hid (by rw [← hM.out]; exact hU)
  obtain ⟨c0, c1⟩ := blkc2 hb
  have yb := blklt hb
  have KB := Lib.hid hb
  clear hT hU hb
  go_enter Tryz.func51, Tryz.ntmps51
  go_wp2_with fail
  go_loopw [3, 11] (fun z i wr => ∃ (k : Nat), k ≤ 2 ∧ i = .int .i64 k ∧ z = .int .i64 (ccS N M k) ∧ w = wr) (fun z i _ => 2 - (intOf i).toNat)
  case atStart => exact ⟨0, by omega, rfl, rfl, rfl⟩
  case round =>
    obtain ⟨k, hk, rfl, rfl, rfl⟩ := hrel
    have hk3 : k = 0 ∨ k = 1 ∨ k = 2 := by omega
    rcases hk3 with rfl | rfl | rfl
    · show _
      simp only [show ccS N M 0 = 0 from rfl]
      have hw : IntKind.i64.wrap ((N : Int)) = (N : Int) := by rw [IntKind.wrap_i64]; omega
      have hnn : ¬ (N : Int) < 0 := by omega
      go_wp2_with fail
      go_roundw
      case rel => exact ⟨1, by omega, by go_num, by first | trivial | rfl, by first | trivial | rfl⟩
      case measure => simp [intOf]
    · simp only [show ccS N M 1 = (N : Int) from rfl]
      have hw : IntKind.i64.wrap ((N : Int) + (M : Int)) = ((N + M : Nat) : Int) := by rw [IntKind.wrap_i64]; omega
      have hnn : ¬ ((N + M : Nat) : Int) < 0 := by omega
      go_wp2_with fail
      go_roundw
      case rel => exact ⟨2, by omega, by go_num, by first | trivial | rfl, by first | trivial | rfl⟩
      case measure => simp [intOf]
    · obtain ⟨Z, hZ, hZ2⟩ : ∃ Z : Nat, ccS N M 2 = (Z : Int) ∧ Z ≤ 1048576 := ⟨N + M, rfl, by omega⟩
      rw [hZ]
      clear hZ
      go_wp2_with fail
      refine Calls.mono (growTerm_any _ Z hZ2) ?_
      rintro e0 w1 ⟨v1, rfl, hA1, hb1⟩
      have HA1 := Lib.hid hA1
      have KB1 := Lib.hid (bblk hb1 yb KB.out)
      have HB1 := Lib.hid hb1
      clear hA1 hb1 c0 c1
      go_wp2_with fail
      go_loopw [6, 27] (fun v i wr => ∃ (k : Nat), k ≤ 2 ∧ i = .int .i64 k ∧ Hid (TmA w.heap.size wr v (ccL T U k)) ∧ Below w.heap.size w wr) (fun v i _ => 2 - (intOf i).toNat)
      case atStart => exact ⟨0, by omega, rfl, HA1, HB1.out⟩
      case round =>
        obtain ⟨k, hk, rfl, hAk, hB⟩ := hrel
        obtain ⟨W0, rfl⟩ : ∃ x, x = wr := ⟨_, rfl⟩
        obtain ⟨c0, c1⟩ := blkc2 (bblk hB yb KB.out)
        have yb0 : bb < W0.heap.size := by have := hB.size; omega
        obtain ⟨Ak, capk, _, rfl, _⟩ := hAk.out.own
        obtain ⟨nk, hnk⟩ : ∃ nk, (ccL T U k).length = nk := ⟨_, rfl⟩
        rw [hnk] at hAk ⊢
        have hk3 : k = 0 ∨ k = 1 ∨ k = 2 := by omega
        rcases hk3 with rfl | rfl | rfl
        · have HTW := Lib.hid (HT.out.below hB)
          clear hnk
          go_wp2_with (at_builtin; refine wpList_append_terms _ (B := w.heap.size) (L := []) (M := T) hAk.out HTW.out (by rw [hN.out]; simp; omega) hB.size rfl (.tmp 31) (.tmp 32) rfl rfl rfl ?_; intro v3 w3 hA3 hb3 hg3 hq3; have HA3 := Lib.hid hA3; have HB3 := Lib.hid (hB.trans hb3); clear hA3 hb3 hg3 hq3)
          go_roundw
          case rel => exact ⟨1, by omega, by go_num, HA3, HB3.out⟩
          case measure => simp [intOf]
        · have HUW := Lib.hid (HU.out.below hB)
          clear hnk
          go_wp2_with (at_builtin; refine wpList_append_terms _ (B := w.heap.size) (L := T) (M := U) hAk.out HUW.out (by rw [hN.out, hM.out]; omega) hB.size rfl (.tmp 31) (.tmp 32) rfl rfl rfl ?_; intro v3 w3 hA3 hb3 hg3 hq3; have HA3 := Lib.hid hA3; have HB3 := Lib.hid (hB.trans hb3); clear hA3 hb3 hg3 hq3)
          go_roundw
          case rel => exact ⟨2, by omega, by go_num, HA3, HB3.out⟩
          case measure => simp [intOf]
        · have HL := Lib.hid hAk.out.lst
          clear hAk hnk
          go_wp2_with fail
          exact bodyPost_ret (v := .slice Ak nk capk) (by simp [results, Tryz.results51, go_sem]) rfl ⟨_, rfl, HL.out, hB⟩
end Go.Proofs.YtpcjinbbgnmchaaGreat
