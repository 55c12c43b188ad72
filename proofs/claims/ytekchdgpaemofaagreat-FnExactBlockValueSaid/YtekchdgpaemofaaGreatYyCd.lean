import Derived.IntWalk
import Derived.Test.YtekchdgpaemofaaGreatYyVb
import Derived.Test.YtekchdgpaemofaaGreatYyVq
import Derived.Test.YtekchdgpaemofaaGreatYySl
import Derived.Test.YtekchdgpaemofaaGreatYyVt
import Derived.Test.YtekchdgpaemofaaGreatYyGx
import Derived.Test.YtekchdgpaemofaaGreatYyIx
namespace Go.Proofs.YtekchdgpaemofaaGreat
open Go.ChangeShapes Go.WideShapes Go.RowKit
set_option linter.unusedVariables false
set_option linter.unusedSimpArgs false
attribute [local irreducible] Calls
def roomB (fs : List Flg) : Int := 2 * (hdF fs).2.1 - (hdF fs).1
theorem blk_hd {fs : List Flg} {mt : List (List (Int × Int))} (h : blkOk fs mt = true) : 1 ≤ fs.length ∧ flV (hdF fs) = true := by
  unfold blkOk at h
  rw [Bool.and_eq_true, Bool.and_eq_true, decide_eq_true_eq] at h
  obtain ⟨h1, h2, _⟩ := (famC_0 fs).1 h.1.1
  refine ⟨h1.1, ?_⟩
  cases fs with
  | nil => simp at h1
  | cons d fs => exact flagsB_iff.1 h2 d (List.mem_cons_self ..)
theorem room_any (w : World) (fs : List Flg) (v u : Value) (h : Lst shFlag w fs v) (hn : 1 ≤ fs.length) (hv : flV (hdF fs) = true) (hu : ∃ A n c, u = .slice A n c) : Calls Tryz.prog 89 #[.agg #[v, u]] w fun e w' => e = .returned (.int .i64 (roomB fs)) ∧ Below w.heap.size w w' := by
  obtain ⟨A, cap, rfl, hc, hmx, hok, hel⟩ := lstFlag h
  obtain ⟨A2, n2, c2, rfl⟩ := hu
  obtain ⟨bl, off, rfl, hel2⟩ := hel (by omega)
  obtain ⟨d, hd, _, d0, d1, d2⟩ := hel2 0 hn
  have hde : hdF fs = d := by
    cases fs with
    | nil => cases hd
    | cons x fs => simp at hd; exact hd
  rw [hde] at hv
  have hr : Hid (roomB fs = 2 * d.2.1 - d.1) := Lib.hid (by unfold roomB; rw [hde])
  obtain ⟨j1, j2, j3⟩ := (flV_iff d).1 hv
  have zb := World.block_lt_of_cell? _ _ d0
  simp only [Nat.zero_mul, Nat.add_zero] at zb d0 d1
  have hn8 : (0 : Int) < (fs.length : Int) := by omega
  have hn9 : 0 < fs.length := hn
  have hw1 : IntKind.i64.wrap (2 * d.2.1) = 2 * d.2.1 := by rw [IntKind.wrap_i64]; omega
  have hw2 : IntKind.i64.wrap (2 * d.2.1 - d.1) = 2 * d.2.1 - d.1 := by rw [IntKind.wrap_i64]; omega
  clear h hel hel2 hd hde hv
  go_enter Tryz.func89, Tryz.ntmps89
  go_wp2_with fail
  (refine wp_region_held_drew (S := (fun w' => w'.cell? ⟨w.heap.size, 0, none⟩ = some (.slice (some ⟨bl, off, none⟩) fs.length cap) ∧ w'.cell? ⟨bl, off, none⟩ = some (.int .i64 d.1) ∧ w'.cell? ⟨bl, off + 1, none⟩ = some (.int .i64 d.2.1))) (by kernel_rfl) ?_ (fun hHeld => ?_); (focus (simp [*, go_sem])); refine rt 0 (some 3) (v := ?_) rfl rfl ?_ ?_; rotate_left; (focus (intro w' hSw; (try dsimp only at hSw); go_simp; (try with_reducible rfl))); (try simp only [Act.put, nA, nB, nC]); refine rt 1 (some 4) (v := ?_) rfl rfl ?_ ?_; rotate_left; (focus (intro w' hSw; (try dsimp only at hSw); go_simp; (try with_reducible rfl))); (try simp only [Act.put, nA, nB, nC]); refine rt 2 (some 5) (v := ?_) rfl rfl ?_ ?_; rotate_left; (focus (intro w' hSw; (try dsimp only at hSw); go_simp; (try with_reducible rfl))); (try simp only [Act.put, nA, nB, nC]); refine rt 3 (some 6) (v := ?_) rfl rfl ?_ ?_; rotate_left; (focus (intro w' hSw; (try dsimp only at hSw); go_simp; (try with_reducible rfl))); (try simp only [Act.put, nA, nB, nC]); refine rt 4 (some 7) (v := ?_) rfl rfl ?_ ?_; rotate_left; (focus (intro w' hSw; (try dsimp only at hSw); go_simp; (try with_reducible rfl))); (try simp only [Act.put, nA, nB, nC]); refine rt 5 (some 8) (v := ?_) rfl rfl ?_ ?_; rotate_left; (focus (intro w' hSw; (try dsimp only at hSw); go_simp; (try with_reducible rfl))); (try simp only [Act.put, nA, nB, nC]); refine rt 6 (some 9) (v := ?_) rfl rfl ?_ ?_; rotate_left; (focus (intro w' hSw; (try dsimp only at hSw); go_simp; (try with_reducible rfl))); (try simp only [Act.put, nA, nB, nC]); refine rt 7 (some 10) (v := ?_) rfl rfl ?_ ?_; rotate_left; (focus (intro w' hSw; (try dsimp only at hSw); go_simp; (try with_reducible rfl))); (try simp only [Act.put, nA, nB, nC]); refine rt 8 (some 11) (v := ?_) rfl rfl ?_ ?_; rotate_left; (focus (intro w' hSw; (try dsimp only at hSw); go_simp; (try with_reducible rfl))); (try simp only [Act.put, nA, nB, nC]); refine rt 9 (some 12) (v := ?_) rfl rfl ?_ ?_; rotate_left; (focus (intro w' hSw; (try dsimp only at hSw); go_simp; (try with_reducible rfl))); (try simp only [Act.put, nA, nB, nC]); refine rt 10 (some 13) (v := ?_) rfl rfl ?_ ?_; rotate_left; (focus (intro w' hSw; (try dsimp only at hSw); go_simp; (try with_reducible rfl))); (try simp only [Act.put, nA, nB, nC]); refine rt 11 (some 14) (v := ?_) rfl rfl ?_ ?_; rotate_left; (focus (intro w' hSw; (try dsimp only at hSw); go_simp; (try with_reducible rfl))); (try simp only [Act.put, nA, nB, nC]); refine rt 12 (some 15) (v := ?_) rfl rfl ?_ ?_; rotate_left; (focus (intro w' hSw; (try dsimp only at hSw); go_simp; (try with_reducible rfl))); (try simp only [Act.put, nA, nB, nC]); refine rt 13 (some 2) (v := ?_) rfl rfl ?_ ?_; rotate_left; (focus (intro w' hSw; (try dsimp only at hSw); go_simp; (try with_reducible rfl))); (try simp only [Act.put, nA, nB, nC]); refine wpAnyH_done (by kernel_rfl) ?_ _)
  clear hHeld
  go_wp2_with fail
  exact bodyPost_ret (v := .int .i64 (2 * d.2.1 - d.1)) (by simp [results, Tryz.results89, go_sem]) rfl ⟨by rw [hr.out], belA⟩
theorem badBlock_any (w : World) (fs : List Flg) (mt : List (List (Int × Int))) (v u : Value) (h : Lst shFlag w fs v) (hm : Lst (shL shFr) w mt u) (hl : fs.length ≤ 1048576) :
    Calls Tryz.prog 87 #[.agg #[v, u]] w fun e w' => e = .returned (.bool (!blkOk fs mt)) ∧ Below w.heap.size w w' := by
  obtain ⟨A, cap, rfl, hc, hmx, _, _⟩ := lstFlag h
  obtain ⟨A2, cap2, rfl, hc2, hmx2⟩ := formFrSS hm
  have H1 := Lib.hid h
  have H2 := Lib.hid hm
  clear h hm
  go_enter Tryz.func87, Tryz.ntmps87
  go_wp2_with (first | (go_at_call 170; refine Calls.mono (ValidBlock_any _ fs mt _ _ (H1.out.below belA) (H2.out.below belA) hl) ?_; rintro e w1 ⟨rfl, hb⟩; obtain ⟨X, m, rfl⟩ := plsOf hb; clear hb))
  exact bodyPost_ret (v := .bool (!blkOk fs mt)) (by simp [results, Tryz.results87, go_sem]) rfl ⟨rfl, belA⟩
end Go.Proofs.YtekchdgpaemofaaGreat
