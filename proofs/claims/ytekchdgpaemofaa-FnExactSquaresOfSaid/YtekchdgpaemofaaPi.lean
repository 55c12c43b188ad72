/- impl.unit, impl's fault in a column, what is left behind a step. -/
import Derived.Test.YtekchdgpaemofaaPk
import Derived.Test.YtekchdgpaemofaaRk
namespace Go.Proofs.Ytekchdgpaemofaa
open Go.ChangeShapes Go.WideShapes Go.ChangeAt Go.RowKit
set_option linter.unusedVariables false
set_option linter.unusedSimpArgs false
attribute [local irreducible] Calls
theorem oneP_any (w : World) : Calls Try.prog 157 #[] w fun e w' => e = .returned (.agg #[.int .i64 1, .int .i64 1]) ∧ Below w.heap.size w w' := by
  go_enter Try.func157, Try.ntmps157
  go_wp2_with fail
  exact bodyPost_ret (v := .agg #[.int .i64 1, .int .i64 1]) (by simp [results, Try.results157, go_sem]) rfl ⟨rfl, belA⟩
def unT (i j : Nat) : Int × Int := if i = j then (1, 1) else (0, 1)
theorem unit_any (w : World) (i j : Nat) : Calls Try.prog 124 #[.int .i64 i, .int .i64 j] w fun e w' => e = .returned (.agg #[.int .i64 (unT i j).1, .int .i64 (unT i j).2]) ∧ Below w.heap.size w w' := by
  by_cases h : i = j
  · have e1 : ((i : Int) == (j : Int)) = true := by simp [h]
    have hr : Hid (unT i j = (1, 1)) := Lib.hid (by simp [unT, h])
    rw [hr.out]
    clear h
    go_enter Try.func124, Try.ntmps124
    go_wp2_with (first | (go_at_call 157; refine Calls.mono (oneP_any _) ?_; rintro e w1 ⟨rfl, hb⟩; obtain ⟨X, m, rfl⟩ := plsOf hb; clear hb))
    exact bodyPost_ret (v := .agg #[.int .i64 1, .int .i64 1]) (by simp [results, Try.results124, go_sem]) rfl ⟨rfl, belA⟩
  · have e1 : ((i : Int) == (j : Int)) = false := by simp; omega
    have hr : Hid (unT i j = (0, 1)) := Lib.hid (by simp [unT, h])
    rw [hr.out]
    clear h
    go_enter Try.func124, Try.ntmps124
    go_wp2_with (first | (go_at_call 93; refine Calls.mono (zero_any _) ?_; rintro e w1 ⟨rfl, hb⟩; obtain ⟨X, m, rfl⟩ := plsOf hb; clear hb))
    exact bodyPost_ret (v := .agg #[.int .i64 0, .int .i64 1]) (by simp [results, Try.results124, go_sem]) rfl ⟨rfl, belA⟩
theorem pvF_lt {S : Nat → Nat → Int × Int} {n k : Nat} (h : ∀ i, k < i → i < n → (S i k).1 = 0) : rowZ n (pvF S n k) = false := by
  unfold rowZ
  rw [List.any_eq_false]
  intro i hi
  have hi' : i < n := by simpa using hi
  unfold pvF
  by_cases hk : k < i
  · simp [h i hk hi']
  · simp [hk]
theorem pvF_at {S : Nat → Nat → Int × Int} {n k i : Nat} (h1 : k < i) (h2 : i < n) (h : (S i k).1 ≠ 0) : rowZ n (pvF S n k) = true := by
  unfold rowZ
  rw [List.any_eq_true]
  exact ⟨i, by simpa using h2, by simp [pvF, h1, h2, h]⟩
set_option maxHeartbeats 1000000 in
theorem fault_any (w : World) (b n k cap : Nat) (S : Nat → Nat → Int × Int) (A : Option Addr) (hn : n ≤ 8) (hk : k < n) (hc : w.cell? ⟨b, 1, none⟩ = some (.slice A n cap)) (h : Lst (shL shFr) w (matL n n S) (.slice A n cap)) (hS : ∀ i, i < n → ∀ j, j < n → inF (S i j)) :
    Calls Try.prog 78 #[.pointer (some ⟨b, 0, none⟩), .int .i64 k] w fun e w' => ∃ r : Int, e = .returned (.int .i64 r) ∧ decide (0 ≤ r) = rowZ n (pvF S n k) ∧ Below w.heap.size w w' := by
  have HS := Lib.hid hS
  have HL := Lib.hid h
  have y0 := World.block_lt_of_cell? _ _ hc
  simp only at y0
  clear hS h
  go_enter Try.func78, Try.ntmps78
  go_wp2_with fail
  go_loopw [5] (fun i wr => ∃ (l : Nat), k < l ∧ l ≤ n ∧ i = .int .i64 l ∧ Hid (∀ i, k < i → i < l → (S i k).1 = 0) ∧ Below w.heap.size w wr) (fun i _ => n - (intOf i).toNat)
  case atStart => exact ⟨k + 1, by omega, by omega, by go_num, Lib.hid (fun i h1 h2 => absurd h2 (by omega)), belA⟩
  case round =>
    obtain ⟨l, hl0, hl, rfl, hZ, hB⟩ := hrel
    have c1 := bkeep hB hc
    have y1 := World.block_lt_of_cell? _ _ c1
    simp only at y1
    by_cases hlt : l < n
    · have hl8 : (l : Int) < (n : Int) := by omega
      obtain ⟨a1, o1, r1, p1, d1, rfl, k1, k3, za1, zr1, q1, x1, x2⟩ := left_at HL.out hn HS.out (i := l) (j := k) hlt hk
      have q1 := bkeep hB q1
      have x1 := bkeep hB x1
      have x2 := bkeep hB x2
      have hk3 : (k : Int) < (n : Int) := by omega
      by_cases hz : (S l k).1 = 0
      · have hz1 : ((S l k).1 != 0) = false := by simp [hz]
        have HZ := Lib.hid hz
        clear hz
        go_wp2_with fail
        go_roundw
        case rel =>
          refine ⟨l + 1, by omega, by omega, by go_num, Lib.hid fun i h1 h2 => ?_, belA⟩
          rcases Nat.lt_or_ge i l with h3 | h3
          · exact hZ.out i h1 h3
          · have : i = l := by omega
            subst this
            exact HZ.out
        case measure => simp [intOf]; omega
      · have hz1 : ((S l k).1 != 0) = true := by simp [hz]
        have HR := Lib.hid (pvF_at hl0 hlt hz)
        clear hz
        go_wp2_with fail
        exact bodyPost_ret (v := .int .i64 l) (by simp [results, Try.results78, go_sem]) rfl ⟨l, rfl, by rw [HR.out]; simp, belA⟩
    · have e : l = n := by omega
      subst e
      have HR := Lib.hid (pvF_lt hZ.out)
      go_wp2_with fail
      exact bodyPost_ret (v := .int .i64 (-1)) (by simp [results, Try.results78, go_sem]) rfl ⟨-1, rfl, by rw [HR.out]; simp, belA⟩
set_option maxHeartbeats 2000000 in
theorem row1_lit (W : World) (b bk bp br a1 o1 c1 r1 p1 d1 r2 p2 d2 r3 p3 d3 n i j k : Nat) (g : Bool) (U x y : Int × Int) (vP vR : Value) (hi : i < n) (hj : j < n) (hk : k < n) (hn : n ≤ 8) (hki : k < i) (hkj : k < j)
    (hb : W.heap[b]? = some (.cells #[.bool g, .slice (some ⟨a1, o1, none⟩) n c1, vP, vR] 86 (0, 0))) (hbk : W.cell? ⟨bk, 0, none⟩ = some (.int .i64 k)) (hbp : W.cell? ⟨bp, 0, none⟩ = some (.pointer (some ⟨b, 0, none⟩))) (hbr : W.cell? ⟨br, 0, none⟩ = some (.slice (some ⟨r2, p2, none⟩) n d2))
    (k1 : n ≤ c1) (k2 : n ≤ d1) (k3 : n ≤ d2) (k4 : n ≤ d3) (n1 : bk ≠ b) (n2 : bp ≠ b) (n3 : br ≠ b) (n4 : a1 ≠ b) (n5 : r1 ≠ b) (n6 : r2 ≠ b) (n7 : r3 ≠ b)
    (q1 : W.cell? ⟨a1, o1 + i, none⟩ = some (.slice (some ⟨r1, p1, none⟩) n d1)) (q3 : W.cell? ⟨a1, o1 + k, none⟩ = some (.slice (some ⟨r3, p3, none⟩) n d3))
    (x1 : W.cell? ⟨r1, p1 + j * 2, none⟩ = some (.int .i64 x.1)) (x2 : W.cell? ⟨r1, p1 + j * 2 + 1, none⟩ = some (.int .i64 x.2)) (X1 : W.cell? ⟨r2, p2 + i * 2, none⟩ = some (.int .i64 U.1)) (X2 : W.cell? ⟨r2, p2 + i * 2 + 1, none⟩ = some (.int .i64 U.2))
    (y1 : W.cell? ⟨r3, p3 + j * 2, none⟩ = some (.int .i64 y.1)) (y2 : W.cell? ⟨r3, p3 + j * 2 + 1, none⟩ = some (.int .i64 y.2)) (hx : inF x) (hy : inF y) (hX : inF U) :
    Calls Try.prog 126 #[.int .i64 i, .int .i64 j, .pointer (some ⟨bk, 0, none⟩), .pointer (some ⟨bp, 0, none⟩), .pointer (some ⟨br, 0, none⟩)] W fun e0 W' => e0 = .returned (.agg #[.int .i64 (kD (subO x (kD (mulO U y)))).1, .int .i64 (kD (subO x (kD (mulO U y)))).2]) ∧ Below W.heap.size (W.setCell ⟨b, 0, none⟩ (.bool ((g || noB (mulO U y)) || noB (subO x (kD (mulO U y)))))) W' := by
  obtain ⟨⟨b0, b1, b2, b3⟩, f0, f1, f2, f3⟩ := blk4p hb
  have z0 := blklt hb
  have z1 := World.block_lt_of_cell? _ _ hbk
  have z2 := World.block_lt_of_cell? _ _ hbp
  have z3 := World.block_lt_of_cell? _ _ hbr
  have z4 := World.block_lt_of_cell? _ _ q1
  have z5 := World.block_lt_of_cell? _ _ x1
  have z6 := World.block_lt_of_cell? _ _ X1
  have z7 := World.block_lt_of_cell? _ _ y1
  simp only at z1 z2 z3 z4 z5 z6 z7
  have hi' : (i : Int) < (n : Int) := by omega
  have hj' : (j : Int) < (n : Int) := by omega
  have hk' : (k : Int) < (n : Int) := by omega
  have e1 : ¬ (i : Int) ≤ (k : Int) := by omega
  have e2 : ¬ (j : Int) ≤ (k : Int) := by omega
  clear hb b2 b3
  go_enter Try.func126, Try.ntmps126
  go_wp2_with fail
  (refine wp_region_held_drew (S := (fun w' => w'.cell? ⟨bk, 0, none⟩ = some (.int .i64 k) ∧ w'.cell? ⟨bp, 0, none⟩ = some (.pointer (some ⟨b, 0, none⟩)) ∧ w'.cell? ⟨br, 0, none⟩ = some (.slice (some ⟨r2, p2, none⟩) n d2) ∧ w'.cell? ⟨b, 1, none⟩ = some (.slice (some ⟨a1, o1, none⟩) n c1) ∧ w'.cell? ⟨a1, o1 + i, none⟩ = some (.slice (some ⟨r1, p1, none⟩) n d1) ∧ w'.cell? ⟨a1, o1 + k, none⟩ = some (.slice (some ⟨r3, p3, none⟩) n d3) ∧ w'.cell? ⟨r1, p1 + j * 2, none⟩ = some (.int .i64 x.1) ∧ w'.cell? ⟨r1, p1 + j * 2 + 1, none⟩ = some (.int .i64 x.2) ∧ w'.cell? ⟨r2, p2 + i * 2, none⟩ = some (.int .i64 U.1) ∧ w'.cell? ⟨r2, p2 + i * 2 + 1, none⟩ = some (.int .i64 U.2) ∧ w'.cell? ⟨r3, p3 + j * 2, none⟩ = some (.int .i64 y.1) ∧ w'.cell? ⟨r3, p3 + j * 2 + 1, none⟩ = some (.int .i64 y.2))) (by kernel_rfl) ?_ (fun hHeld => ?_); (focus (simp [*, go_sem, World.cell?_setCell_far])); refine rt 0 (some 26) (v := ?_) rfl rfl ?_ ?_; rotate_left; (focus (intro w' hSw; (try dsimp only at hSw); go_simp; (try with_reducible rfl))); (try simp only [Act.put, nA, nB, nC]); refine rt 1 (some 27) (v := ?_) rfl rfl ?_ ?_; rotate_left; (focus (intro w' hSw; (try dsimp only at hSw); go_simp; (try with_reducible rfl))); (try simp only [Act.put, nA, nB, nC]); refine rt 2 (some 28) (v := ?_) rfl rfl ?_ ?_; rotate_left; (focus (intro w' hSw; (try dsimp only at hSw); go_simp; (try with_reducible rfl))); (try simp only [Act.put, nA, nB, nC]); refine rt 3 (some 29) (v := ?_) rfl rfl ?_ ?_; rotate_left; (focus (intro w' hSw; (try dsimp only at hSw); go_simp; (try with_reducible rfl))); (try simp only [Act.put, nA, nB, nC]); refine rt 4 (some 30) (v := ?_) rfl rfl ?_ ?_; rotate_left; (focus (intro w' hSw; (try dsimp only at hSw); go_simp; (try with_reducible rfl))); (try simp only [Act.put, nA, nB, nC]); refine rt 5 (some 31) (v := ?_) rfl rfl ?_ ?_; rotate_left; (focus (intro w' hSw; (try dsimp only at hSw); go_simp; (try with_reducible rfl))); (try simp only [Act.put, nA, nB, nC]); refine rt 6 (some 32) (v := ?_) rfl rfl ?_ ?_; rotate_left; (focus (intro w' hSw; (try dsimp only at hSw); go_simp; (try with_reducible rfl))); (try simp only [Act.put, nA, nB, nC]); refine rt 7 (some 33) (v := ?_) rfl rfl ?_ ?_; rotate_left; (focus (intro w' hSw; (try dsimp only at hSw); go_simp; (try with_reducible rfl))); (try simp only [Act.put, nA, nB, nC]); refine rt 8 (some 34) (v := ?_) rfl rfl ?_ ?_; rotate_left; (focus (intro w' hSw; (try dsimp only at hSw); go_simp; (try with_reducible rfl))); (try simp only [Act.put, nA, nB, nC]); refine rt 9 (some 35) (v := ?_) rfl rfl ?_ ?_; rotate_left; (focus (intro w' hSw; (try dsimp only at hSw); go_simp; (try with_reducible rfl))); (try simp only [Act.put, nA, nB, nC]); refine rt 10 (some 36) (v := ?_) rfl rfl ?_ ?_; rotate_left; (focus (intro w' hSw; (try dsimp only at hSw); go_simp; (try with_reducible rfl))); (try simp only [Act.put, nA, nB, nC]); refine rt 11 (some 37) (v := ?_) rfl rfl ?_ ?_; rotate_left; (focus (intro w' hSw; (try dsimp only at hSw); go_simp; (try with_reducible rfl))); (try simp only [Act.put, nA, nB, nC]); refine rt 12 (some 38) (v := ?_) rfl rfl ?_ ?_; rotate_left; (focus (intro w' hSw; (try dsimp only at hSw); go_simp; (try with_reducible rfl))); (try simp only [Act.put, nA, nB, nC]); refine rt 13 (some 39) (v := ?_) rfl rfl ?_ ?_; rotate_left; (focus (intro w' hSw; (try dsimp only at hSw); go_simp; (try with_reducible rfl))); (try simp only [Act.put, nA, nB, nC]); refine rt 14 (some 40) (v := ?_) rfl rfl ?_ ?_; rotate_left; (focus (intro w' hSw; (try dsimp only at hSw); go_simp; (try with_reducible rfl))); (try simp only [Act.put, nA, nB, nC]); refine rt 15 (some 41) (v := ?_) rfl rfl ?_ ?_; rotate_left; (focus (intro w' hSw; (try dsimp only at hSw); go_simp; (try with_reducible rfl))); (try simp only [Act.put, nA, nB, nC]); refine rt 16 (some 42) (v := ?_) rfl rfl ?_ ?_; rotate_left; (focus (intro w' hSw; (try dsimp only at hSw); go_simp; (try with_reducible rfl))); (try simp only [Act.put, nA, nB, nC]); refine rt 17 (some 43) (v := ?_) rfl rfl ?_ ?_; rotate_left; (focus (intro w' hSw; (try dsimp only at hSw); go_simp; (try with_reducible rfl))); (try simp only [Act.put, nA, nB, nC]); refine rt 18 (some 44) (v := ?_) rfl rfl ?_ ?_; rotate_left; (focus (intro w' hSw; (try dsimp only at hSw); go_simp; (try with_reducible rfl))); (try simp only [Act.put, nA, nB, nC]); refine rt 19 (some 45) (v := ?_) rfl rfl ?_ ?_; rotate_left; (focus (intro w' hSw; (try dsimp only at hSw); go_simp; (try with_reducible rfl))); (try simp only [Act.put, nA, nB, nC]); refine rt 20 (some 46) (v := ?_) rfl rfl ?_ ?_; rotate_left; (focus (intro w' hSw; (try dsimp only at hSw); go_simp; (try with_reducible rfl))); (try simp only [Act.put, nA, nB, nC]); refine rt 21 (some 47) (v := ?_) rfl rfl ?_ ?_; rotate_left; (focus (intro w' hSw; (try dsimp only at hSw); go_simp; (try with_reducible rfl))); (try simp only [Act.put, nA, nB, nC]); refine rt 22 (some 48) (v := ?_) rfl rfl ?_ ?_; rotate_left; (focus (intro w' hSw; (try dsimp only at hSw); go_simp; (try with_reducible rfl))); (try simp only [Act.put, nA, nB, nC]); refine rt 23 (some 49) (v := ?_) rfl rfl ?_ ?_; rotate_left; (focus (intro w' hSw; (try dsimp only at hSw); go_simp; (try with_reducible rfl))); (try simp only [Act.put, nA, nB, nC]); refine rt 24 (some 50) (v := ?_) rfl rfl ?_ ?_; rotate_left; (focus (intro w' hSw; (try dsimp only at hSw); go_simp; (try with_reducible rfl))); (try simp only [Act.put, nA, nB, nC]); refine rt 25 (some 51) (v := ?_) rfl rfl ?_ ?_; rotate_left; (focus (intro w' hSw; (try dsimp only at hSw); go_simp; (try with_reducible rfl))); (try simp only [Act.put, nA, nB, nC]); refine rt 26 (some 52) (v := ?_) rfl rfl ?_ ?_; rotate_left; (focus (intro w' hSw; (try dsimp only at hSw); go_simp; (try with_reducible rfl))); (try simp only [Act.put, nA, nB, nC]); refine rt 27 (some 53) (v := ?_) rfl rfl ?_ ?_; rotate_left; (focus (intro w' hSw; (try dsimp only at hSw); go_simp; (try with_reducible rfl))); (try simp only [Act.put, nA, nB, nC]); refine rt 28 (some 54) (v := ?_) rfl rfl ?_ ?_; rotate_left; (focus (intro w' hSw; (try dsimp only at hSw); go_simp; (try with_reducible rfl))); (try simp only [Act.put, nA, nB, nC]); refine rt 29 (some 55) (v := ?_) rfl rfl ?_ ?_; rotate_left; (focus (intro w' hSw; (try dsimp only at hSw); go_simp; (try with_reducible rfl))); (try simp only [Act.put, nA, nB, nC]); refine wpAnyH_ready (rs := [30]) (by kernel_rfl) (by simp) ?_; refine AllReadyH.cons rfl (fun K hK => ?_) AllReadyH.nil; go_simp; (go_at_call 96; refine Calls.mono (kmul_any _ _ g U y _ (by first | omega | (simp <;> omega)) (by first | assumption | simp [go_sem, *]) (by first | assumption | simp [go_sem, *]) hX hy) ?_; rintro e w1 ⟨rfl, hb⟩; obtain ⟨X, m, rfl⟩ := plsOfS hb; clear hb); go_wp2_with fail; refine hK.out _ _ ?_ (fun hHeld => ?_); (focus (simp [*, go_sem, World.cell?_setCell_far])); clear hK K; (try simp only [Act.put, nA, nB, nC]); refine wpAnyH_ready (rs := [31]) (by kernel_rfl) (by simp) ?_; refine AllReadyH.cons rfl (fun K hK => ?_) AllReadyH.nil; go_simp; (go_at_call 127; refine Calls.mono (ksub_any _ _ (g || noB (mulO U y)) x (kD (mulO U y)) _ (by first | omega | (simp <;> omega)) (by first | assumption | simp [go_sem, *]) (by first | assumption | simp [go_sem, *]) hx (kmulI hX hy)) ?_; rintro e w1 ⟨rfl, hb⟩; obtain ⟨X, m, rfl⟩ := plsOfS hb; clear hb); go_wp2_with fail; refine hK.out _ _ ?_ (fun hHeld => ?_); (focus (simp [*, go_sem, World.cell?_setCell_far])); clear hK K; (try simp only [Act.put, nA, nB, nC]); refine wpAnyH_ready (rs := [32]) (by kernel_rfl) (by simp) ?_; refine AllReadyH.cons rfl (fun K hK => ?_) AllReadyH.nil; (try go_simp); refine hK.out _ _ ?_ (fun hHeld => ?_); (focus (simp [*, go_sem, World.cell?_setCell_far])); clear hK K; (try simp only [Act.put, nA, nB, nC]); refine wpAnyH_done (by kernel_rfl) ?_ _)
  clear hHeld
  go_wp2_with fail
  exact bodyPost_ret (v := .agg #[.int .i64 (kD (subO x (kD (mulO U y)))).1, .int .i64 (kD (subO x (kD (mulO U y)))).2]) (by simp [results, Try.results126, go_sem, *]) rfl ⟨rfl, belA⟩
set_option maxHeartbeats 2000000 in
theorem row1_old (W : World) (b bk bp br a1 o1 c1 r1 p1 d1 n i j k : Nat) (g : Bool) (x : Int × Int) (vP vR : Value) (hi : i < n) (hj : j < n) (hk : k < n) (hn : n ≤ 8) (hij : i ≤ k ∨ j ≤ k)
    (hb : W.heap[b]? = some (.cells #[.bool g, .slice (some ⟨a1, o1, none⟩) n c1, vP, vR] 86 (0, 0))) (hbk : W.cell? ⟨bk, 0, none⟩ = some (.int .i64 k)) (hbp : W.cell? ⟨bp, 0, none⟩ = some (.pointer (some ⟨b, 0, none⟩)))
    (k1 : n ≤ c1) (k2 : n ≤ d1) (q1 : W.cell? ⟨a1, o1 + i, none⟩ = some (.slice (some ⟨r1, p1, none⟩) n d1)) (x1 : W.cell? ⟨r1, p1 + j * 2, none⟩ = some (.int .i64 x.1)) (x2 : W.cell? ⟨r1, p1 + j * 2 + 1, none⟩ = some (.int .i64 x.2)) :
    Calls Try.prog 126 #[.int .i64 i, .int .i64 j, .pointer (some ⟨bk, 0, none⟩), .pointer (some ⟨bp, 0, none⟩), .pointer (some ⟨br, 0, none⟩)] W fun e0 W' => e0 = .returned (.agg #[.int .i64 x.1, .int .i64 x.2]) ∧ Below W.heap.size W W' := by
  obtain ⟨⟨b0, b1, b2, b3⟩, f0, f1, f2, f3⟩ := blk4p hb
  have z0 := blklt hb
  have z1 := World.block_lt_of_cell? _ _ hbk
  have z2 := World.block_lt_of_cell? _ _ hbp
  have z4 := World.block_lt_of_cell? _ _ q1
  have z5 := World.block_lt_of_cell? _ _ x1
  simp only at z1 z2 z4 z5
  have hi' : (i : Int) < (n : Int) := by omega
  have hj' : (j : Int) < (n : Int) := by omega
  have hk' : (k : Int) < (n : Int) := by omega
  clear hb b2 b3
  by_cases h1 : i ≤ k
  · have e1 : (i : Int) ≤ (k : Int) := by omega
    go_enter Try.func126, Try.ntmps126
    go_wp2_with fail
    exact bodyPost_ret (v := .agg #[.int .i64 x.1, .int .i64 x.2]) (by simp [results, Try.results126, go_sem, *]) rfl ⟨rfl, belA⟩
  · have e1 : ¬ (i : Int) ≤ (k : Int) := by omega
    have e2 : (j : Int) ≤ (k : Int) := by omega
    go_enter Try.func126, Try.ntmps126
    go_wp2_with fail
    exact bodyPost_ret (v := .agg #[.int .i64 x.1, .int .i64 x.2]) (by simp [results, Try.results126, go_sem, *]) rfl ⟨rfl, belA⟩
end Go.Proofs.Ytekchdgpaemofaa
