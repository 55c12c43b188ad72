/- spec.l02Less: what is left behind a step. -/
import Derived.Test.YtekchdgpaemofaaPk
import Derived.Test.YtekchdgpaemofaaRk
import Derived.Test.YtekchdgpaemofaaSli
import Derived.Deep.CutRange
namespace Go.Proofs.Ytekchdgpaemofaa
open Go.ChangeShapes Go.WideShapes Go.ChangeAt Go.RowKit
set_option linter.unusedVariables false
set_option linter.unusedSimpArgs false
attribute [local irreducible] Calls
/-- Filled up to a place. -/
def pwU (S : Nat → Nat → Int × Int) (k i j a b : Nat) : Int × Int := if k < a ∧ k < b ∧ (a < i ∨ (a = i ∧ b < j)) then pvD S k a b else (0, 1)
theorem pwU_start (S : Nat → Nat → Int × Int) (k : Nat) : pwU S k (k + 1) 0 = fun _ _ => (0, 1) := by
  funext a b
  unfold pwU
  rw [if_neg (by omega)]
theorem pwU_row (S : Nat → Nat → Int × Int) (k i : Nat) : pwU S k i 0 = pwU S k i (k + 1) := by
  funext a b
  unfold pwU
  by_cases h : k < a ∧ k < b ∧ a < i
  · rw [if_pos (by omega), if_pos (by omega)]
  · rw [if_neg (by omega), if_neg (by omega)]
theorem pwU_step (S : Nat → Nat → Int × Int) {k i j : Nat} (hi : k < i) (hj : k < j) : (fun a b => if a = i ∧ b = j then pvD S k i j else pwU S k i j a b) = pwU S k i (j + 1) := by
  funext a b
  unfold pwU
  by_cases h1 : a = i ∧ b = j
  · obtain ⟨rfl, rfl⟩ := h1
    rw [if_pos ⟨rfl, rfl⟩, if_pos (by omega)]
  · rw [if_neg h1]
    by_cases h2 : k < a ∧ k < b ∧ (a < i ∨ (a = i ∧ b < j))
    · rw [if_pos h2, if_pos (by omega)]
    · rw [if_neg h2, if_neg (by omega)]
theorem pwU_next (S : Nat → Nat → Int × Int) (k i n : Nat) : matL n n (pwU S k i n) = matL n n (pwU S k (i + 1) 0) := matL_congr fun a ha b hb => by
  unfold pwU
  by_cases h : k < a ∧ k < b ∧ a < i + 1
  · rw [if_pos (by omega), if_pos (by omega)]
  · rw [if_neg (by omega), if_neg (by omega)]
theorem pwU_end (S : Nat → Nat → Int × Int) (k n : Nat) : matL n n (pwU S k n 0) = matL n n (pwY S k) := matL_congr fun a ha b hb => by
  unfold pwU pwY
  by_cases h : a ≤ k ∨ b ≤ k
  · rw [if_neg (by omega), if_pos h]
  · rw [if_pos (by omega), if_neg h]
theorem pvYz_f {S : Nat → Nat → Int × Int} {n k : Nat} (h : ∀ a, k < a → a < n → ∀ b, k < b → b < n → pvDz S k a b = false) : matZ n n (pvYz S k) = false := matZ_f fun a ha b hb => by
  unfold pvYz
  by_cases h1 : a ≤ k ∨ b ≤ k
  · rw [if_pos h1]
  · rw [if_neg h1]; exact h a (by omega) ha b (by omega) hb
theorem pvYz_t {S : Nat → Nat → Int × Int} {n k a b : Nat} (h1 : k < a) (h2 : a < n) (h3 : k < b) (h4 : b < n) (h : pvDz S k a b = true) : matZ n n (pvYz S k) = true := matZ_t h2 h4 (by unfold pvYz; rw [if_neg (by omega)]; exact h)
def LessRet (w : World) (n : Nat) (S : Nat → Nat → Int × Int) (k : Nat) (vS : Value) (e : Ending) (w' : World) : Prop :=
  Below w.heap.size w w' ∧ ((matZ n n (pvYz S k) = true ∧ e = .returned (.tuple #[vS, .int .i64 3])) ∨ (matZ n n (pvYz S k) = false ∧ ∃ A cap F, e = .returned (.tuple #[.slice A n cap, .int .i64 0]) ∧ Own (shL shFr) w.heap.size w' (matL n n (pwY S k)) (.slice A n cap) F))
set_option maxHeartbeats 4000000 in
theorem l02Less_any (w : World) (n k cap co : Nat) (S : Nat → Nat → Int × Int) (A Ao : Option Addr) (hn : n ≤ 8) (hk : k < n) (hS : ∀ i, i < n → ∀ j, j < n → inF (S i j)) (hL : Lst (shL shFr) w (matL n n S) (.slice A n cap)) (hR : Lst shFr w (rowL n (pvX S k)) (.slice Ao n co)) :
    Calls Try.prog 74 #[.slice A n cap, .slice Ao n co, .int .i64 k] w (LessRet w n S k (.slice A n cap)) := by
  have HS := Lib.hid hS
  have HL := Lib.hid hL
  have HX := Lib.hid (fun i (hi : i < n) => pvX_in hS hk hi)
  have HEL : Hid (0 < n → ∃ r2 p2, Ao = some ⟨r2, p2, none⟩ ∧ n ≤ co ∧ ∀ i, i < n → w.cell? ⟨r2, p2 + i * 2, none⟩ = some (.int .i64 (pvX S k i).1) ∧ w.cell? ⟨r2, p2 + i * 2 + 1, none⟩ = some (.int .i64 (pvX S k i).2)) := Lib.hid (by
    obtain ⟨A0, c0, e9, hc0, _, _, hel⟩ := lstFraction hR
    injection e9 with e9 _ e11
    subst e9
    subst e11
    rw [rowL_len] at hc0 hel
    intro hp
    obtain ⟨r2, p2, rfl, hel2⟩ := hel hp
    refine ⟨r2, p2, rfl, hc0, fun i hi => ?_⟩
    obtain ⟨d, hd0, _, z1, z2⟩ := hel2 i hi
    have hdd : d = pvX S k i := by
      unfold rowL at hd0
      rw [List.getElem?_map, List.getElem?_range hi] at hd0
      exact (Option.some.inj hd0).symm
    subst hdd
    exact ⟨z1, z2⟩)
  obtain ⟨r2, p2, rfl, hco, hel2⟩ := HEL.out (by omega)
  have HEL2 := Lib.hid hel2
  clear hS hL hR hel2 HEL
  go_enter Try.func74, Try.ntmps74
  go_wp2_with fail
  refine Calls.mono (l02Empty_any _ n (by omega)) ?_
  rintro e0 w1 ⟨A2, cap2, F2, rfl, hO2, hb⟩
  have HB1 := Lib.hid (show Below w.heap.size w w1 from Below.trans belA (hb.mono (by first | omega | (simp <;> omega))))
  have hO2 := Lib.hid (hO2.move (B' := w.heap.size) (by simp) (fun _ _ _ => rfl))
  clear hb
  go_wp2_with fail
  go_loopw [9] (fun i wr => ∃ (a : Nat), k < a ∧ a ≤ n ∧ i = .int .i64 a ∧ Hid (Own (shL shFr) w.heap.size wr (matL n n (pwU S k a 0)) (.slice A2 n cap2) F2) ∧ Hid (∀ a', k < a' → a' < a → ∀ b, k < b → b < n → pvDz S k a' b = false) ∧ Below w.heap.size w wr) (fun i _ => n - (intOf i).toNat)
  case atStart => exact ⟨k + 1, by omega, by omega, by go_num, Lib.hid (by rw [pwU_start]; exact hO2.out), Lib.hid (fun a h1 h2 => absurd h2 (by omega)), HB1.out⟩
  case round =>
    obtain ⟨a, ha0, ha, rfl, hO, hZ, hB⟩ := hrel
    clear hO2
    by_cases hlt : a < n
    · have hk8 : (a : Int) < (n : Int) := by omega
      go_wp2_with fail
      go_loopw [10] (fun j wr => ∃ (l : Nat), k < l ∧ l ≤ n ∧ j = .int .i64 l ∧ Hid (Own (shL shFr) w.heap.size wr (matL n n (pwU S k a l)) (.slice A2 n cap2) F2) ∧ Hid (∀ b, k < b → b < l → pvDz S k a b = false) ∧ Below w.heap.size w wr) (fun j _ => n - (intOf j).toNat)
      case atStart => exact ⟨k + 1, by omega, by omega, by go_num, Lib.hid (by rw [← pwU_row]; exact hO.out), Lib.hid (fun b h1 h2 => absurd h2 (by omega)), belA⟩
      case round =>
        obtain ⟨l, hl0, hll, rfl, hOl, hZl, hBl⟩ := hrel
        obtain ⟨W0, rfl⟩ : ∃ x, x = wr := ⟨_, rfl⟩
        have hzB := hBl.size
        by_cases hlt2 : l < n
        · have hl8 : (l : Int) < (n : Int) := by omega
          have hkn : (k : Int) < (n : Int) := by omega
          obtain ⟨a1, o1, r3, p3, d3, rfl, k1, k4, za1, zr3, q3, y1, y2⟩ := left_at HL.out hn HS.out (i := k) (j := l) hk hlt2
          obtain ⟨a1', o1', r1, p1, d1, e9, _, k5, _, zr1, q1, x1, x2⟩ := left_at HL.out hn HS.out (i := a) (j := l) hlt hlt2
          obtain ⟨rfl, rfl⟩ : a1 = a1' ∧ o1 = o1' := by injection e9 with e9; injection e9 with e9 e10; exact ⟨e9, e10⟩
          obtain ⟨z1, z2⟩ := HEL2.out a hlt
          have zr2 := World.block_lt_of_cell? _ _ z1
          simp only at zr2
          have q3 := bkeep hBl q3
          have y1 := bkeep hBl y1
          have y2 := bkeep hBl y2
          have q1 := bkeep hBl q1
          have x1 := bkeep hBl x1
          have x2 := bkeep hBl x2
          have z1 := bkeep hBl z1
          have z2 := bkeep hBl z2
          have zb1 : a1 < W0.heap.size := by omega
          have zb2 : r2 < W0.heap.size := by omega
          have zb3 : r3 < W0.heap.size := by omega
          have zb4 : r1 < W0.heap.size := by omega
          obtain ⟨X, hX⟩ : ∃ X, Hid (pvX S k a = X) := ⟨_, Lib.hid rfl⟩
          obtain ⟨Y, hY⟩ : ∃ Y, Hid (S k l = Y) := ⟨_, Lib.hid rfl⟩
          obtain ⟨U, hU⟩ : ∃ U, Hid (S a l = U) := ⟨_, Lib.hid rfl⟩
          have HXI : Hid (inF X) := Lib.hid (by rw [← hX.out]; exact HX.out a hlt)
          have HYI : Hid (inF Y) := Lib.hid (by rw [← hY.out]; exact HS.out k hk l hlt2)
          have HUI : Hid (inF U) := Lib.hid (by rw [← hU.out]; exact HS.out a hlt l hlt2)
          rw [hX.out] at z1 z2
          rw [hY.out] at y1 y2
          rw [hU.out] at x1 x2
          have HDZ : Hid (pvDz S k a l = (noB (mulO X Y) || noB (subO U (kD (mulO X Y))))) := Lib.hid (by unfold pvDz; rw [hX.out, hY.out, hU.out])
          have HDD : Hid (pvD S k a l = kD (subO U (kD (mulO X Y)))) := Lib.hid (by unfold pvD; rw [hX.out, hY.out, hU.out])
          obtain ⟨R, hRr⟩ : ∃ R, Hid (rD (mulO X Y) = R) := ⟨_, Lib.hid rfl⟩
          obtain ⟨RC, hRC⟩ : ∃ RC, Hid (rC (mulO X Y) = RC) := ⟨_, Lib.hid rfl⟩
          have HMUL : Hid (∀ V, Calls Try.prog 119 #[.agg #[.int .i64 X.1, .int .i64 X.2], .agg #[.int .i64 Y.1, .int .i64 Y.2]] V fun r w' => r = .returned (.tuple #[.agg #[.int .i64 R.1, .int .i64 R.2], .int .i64 RC]) ∧ Below V.heap.size V w') := Lib.hid fun V => by
            have := rmul_any X Y V HXI.out HYI.out
            rw [hRr.out, hRC.out] at this
            exact this
          clear e9
          have HK8 : Hid (∀ V w' : World, Below V.heap.size V w' → (fun w' => w'.cell? ⟨r2, p2 + a * 2, none⟩ = some (.int .i64 X.1) ∧ w'.cell? ⟨r2, p2 + a * 2 + 1, none⟩ = some (.int .i64 X.2) ∧ w'.cell? ⟨a1, o1 + k, none⟩ = some (.slice (some ⟨r3, p3, none⟩) n d3) ∧ w'.cell? ⟨r3, p3 + l * 2, none⟩ = some (.int .i64 Y.1) ∧ w'.cell? ⟨r3, p3 + l * 2 + 1, none⟩ = some (.int .i64 Y.2)) V → (fun w' => w'.cell? ⟨r2, p2 + a * 2, none⟩ = some (.int .i64 X.1) ∧ w'.cell? ⟨r2, p2 + a * 2 + 1, none⟩ = some (.int .i64 X.2) ∧ w'.cell? ⟨a1, o1 + k, none⟩ = some (.slice (some ⟨r3, p3, none⟩) n d3) ∧ w'.cell? ⟨r3, p3 + l * 2, none⟩ = some (.int .i64 Y.1) ∧ w'.cell? ⟨r3, p3 + l * 2 + 1, none⟩ = some (.int .i64 Y.2)) w') := Lib.hid fun V w' hb h => by
            simp only at h ⊢
            exact ⟨bkeep hb h.1, bkeep hb h.2.1, bkeep hb h.2.2.1, bkeep hb h.2.2.2.1, bkeep hb h.2.2.2.2⟩
          go_upto_region 9 with fail
          go_cut [11, 12] from 34 to 48 (fun s8 s9 wx => ∃ g8 : Nat, s8 = .pointer (some ⟨g8, 0, none⟩) ∧ s9 = .int .i64 RC ∧ wx.heap[g8]? = some (.cells #[.int .i64 R.1, .int .i64 R.2] 79 (0, 0)) ∧ Below W0.heap.size W0 wx ∧ W0.heap.size ≤ g8)
          case first =>
            (refine wp_region_held_drew (S := (fun w' => w'.cell? ⟨r2, p2 + a * 2, none⟩ = some (.int .i64 X.1) ∧ w'.cell? ⟨r2, p2 + a * 2 + 1, none⟩ = some (.int .i64 X.2) ∧ w'.cell? ⟨a1, o1 + k, none⟩ = some (.slice (some ⟨r3, p3, none⟩) n d3) ∧ w'.cell? ⟨r3, p3 + l * 2, none⟩ = some (.int .i64 Y.1) ∧ w'.cell? ⟨r3, p3 + l * 2 + 1, none⟩ = some (.int .i64 Y.2))) (by kernel_rfl) ?_ (fun hHeld => ?_); (focus (first | exact hS | exact HK8.out _ _ (bal (Below.refl _ _) _) hHeld | (simp [*, go_sem]; done) | fail)); refine rt 0 (some 35) (v := ?_) rfl rfl ?_ ?_; rotate_left; (focus (intro w' hSw; (try dsimp only at hSw); go_simp; (try with_reducible rfl))); (try simp only [Act.put, nA, nB, nC]); refine rt 1 (some 36) (v := ?_) rfl rfl ?_ ?_; rotate_left; (focus (intro w' hSw; (try dsimp only at hSw); go_simp; (try with_reducible rfl))); (try simp only [Act.put, nA, nB, nC]); refine rt 2 (some 37) (v := ?_) rfl rfl ?_ ?_; rotate_left; (focus (intro w' hSw; (try dsimp only at hSw); go_simp; (try with_reducible rfl))); (try simp only [Act.put, nA, nB, nC]); refine rt 3 (some 38) (v := ?_) rfl rfl ?_ ?_; rotate_left; (focus (intro w' hSw; (try dsimp only at hSw); go_simp; (try with_reducible rfl))); (try simp only [Act.put, nA, nB, nC]); refine rt 4 (some 39) (v := ?_) rfl rfl ?_ ?_; rotate_left; (focus (intro w' hSw; (try dsimp only at hSw); go_simp; (try with_reducible rfl))); (try simp only [Act.put, nA, nB, nC]); refine rt 5 (some 40) (v := ?_) rfl rfl ?_ ?_; rotate_left; (focus (intro w' hSw; (try dsimp only at hSw); go_simp; (try with_reducible rfl))); (try simp only [Act.put, nA, nB, nC]); refine rt 6 (some 41) (v := ?_) rfl rfl ?_ ?_; rotate_left; (focus (intro w' hSw; (try dsimp only at hSw); go_simp; (try with_reducible rfl))); (try simp only [Act.put, nA, nB, nC]); refine rt 7 (some 42) (v := ?_) rfl rfl ?_ ?_; rotate_left; (focus (intro w' hSw; (try dsimp only at hSw); go_simp; (try with_reducible rfl))); (try simp only [Act.put, nA, nB, nC]); refine rt 8 (some 43) (v := ?_) rfl rfl ?_ ?_; rotate_left; (focus (intro w' hSw; (try dsimp only at hSw); go_simp; (try with_reducible rfl))); (try simp only [Act.put, nA, nB, nC]); refine rt 9 (some 44) (v := ?_) rfl rfl ?_ ?_; rotate_left; (focus (intro w' hSw; (try dsimp only at hSw); go_simp; (try with_reducible rfl))); (try simp only [Act.put, nA, nB, nC]); refine rt 10 (some 45) (v := ?_) rfl rfl ?_ ?_; rotate_left; (focus (intro w' hSw; (try dsimp only at hSw); go_simp; (try with_reducible rfl))); (try simp only [Act.put, nA, nB, nC]); refine wpAnyH_ready (rs := [11, 15]) (by kernel_rfl) (by simp) ?_; refine AllReadyH.cons rfl (fun K hK => ?_) (AllReadyH.cons rfl (fun K hK => ?_) AllReadyH.nil); (focus (go_simp; (go_at_call 119; refine Calls.mono (HMUL.out _) ?_; rintro e0 w4 ⟨rfl, hb⟩; have hS := HK8.out _ _ hb hHeld; have HB4 := Lib.hid (show Below W0.heap.size W0 w4 from Below.trans belA (hb.mono (by first | omega | (simp <;> omega)))); (try (have kz := bblk hb (blklt kp) kp; clear kp; have kp := kz; clear kz; obtain ⟨pz0, pz1, pf0, pf1⟩ := blk2 kp; have pzz := blklt kp)); have hz4 := HB4.out.size; have y40 : r2 < w4.heap.size := (by omega); have y41 : a1 < w4.heap.size := (by omega); have y42 : r3 < w4.heap.size := (by omega); clear hb); go_wp2_with fail; refine hK.out _ _ ?_ (fun hHeld => ?_); (focus (first | exact hS | exact HK8.out _ _ (bal (Below.refl _ _) _) hHeld | (simp [*, go_sem]; done) | fail)); clear hK K; (try simp only [Act.put, nA, nB, nC]); refine rt 12 (some 34) (v := ?_) rfl rfl ?_ ?_; rotate_left; (focus (intro w' hSw; (try dsimp only at hSw); go_simp; (try with_reducible rfl))); (try simp only [Act.put, nA, nB, nC]); refine rt 13 (some 47) (v := ?_) rfl rfl ?_ ?_; rotate_left; (focus (intro w' hSw; (try dsimp only at hSw); go_simp; (try with_reducible rfl))); (try simp only [Act.put, nA, nB, nC]); refine rt 14 (some 48) (v := ?_) rfl rfl ?_ ?_; rotate_left; (focus (intro w' hSw; (try dsimp only at hSw); go_simp; (try with_reducible rfl))); (try simp only [Act.put, nA, nB, nC]); refine wpAnyH_ready (rs := [15]) (by kernel_rfl) (by simp) ?_; refine AllReadyH.cons rfl (fun K hK => ?_) AllReadyH.nil; (try go_simp); refine hK.out _ _ ?_ (fun hHeld => ?_); (focus (first | exact hS | exact HK8.out _ _ (bal (Below.refl _ _) _) hHeld | (simp [*, go_sem]; done) | fail)); clear hK K; (try simp only [Act.put, nA, nB, nC]); refine wpAnyH_ready (rs := [16]) (by kernel_rfl) (by simp) ?_; refine AllReadyH.cons rfl (fun K hK => ?_) AllReadyH.nil; (try go_simp); refine hK.out _ _ ?_ (fun hHeld => ?_); (focus (first | exact hS | exact HK8.out _ _ (bal (Below.refl _ _) _) hHeld | (simp [*, go_sem]; done) | fail)); clear hK K; (try simp only [Act.put, nA, nB, nC]); refine rt 17 (some 12) (v := ?_) rfl rfl ?_ ?_; rotate_left; (focus (intro w' hSw; (try dsimp only at hSw); go_simp; (try with_reducible rfl))); (try simp only [Act.put, nA, nB, nC]); refine wpAnyH_done (by kernel_rfl) ?_ _)); rotate_left 1; (focus (((try go_simp); have hS := HK8.out _ _ (bal (Below.refl W0.drew.heap.size W0.drew) (.cells #[.int .i64 0, .int .i64 0] 79)) hHeld; have kp : (W0.drew.alloc (.cells #[.int .i64 0, .int .i64 0] 79)).heap[W0.heap.size]? = _ := blknew W0.drew _; have hnb : W0.heap.size ≤ W0.heap.size := Nat.le_refl _); refine hK.out _ _ ?_ (fun hHeld => ?_); (focus (first | exact hS | exact HK8.out _ _ (bal (Below.refl _ _) _) hHeld | (simp [*, go_sem]; done) | fail)); clear hK K; (try simp only [Act.put, nA, nB, nC]); refine wpAnyH_ready (rs := [11]) (by kernel_rfl) (by simp) ?_; refine AllReadyH.cons rfl (fun K hK => ?_) AllReadyH.nil; go_simp; (go_at_call 119; refine Calls.mono (HMUL.out _) ?_; rintro e0 w4 ⟨rfl, hb⟩; have hS := HK8.out _ _ hb hHeld; have HB4 := Lib.hid (show Below W0.heap.size W0 w4 from Below.trans belA (hb.mono (by first | omega | (simp <;> omega)))); (try (have kz := bblk hb (blklt kp) kp; clear kp; have kp := kz; clear kz; obtain ⟨pz0, pz1, pf0, pf1⟩ := blk2 kp; have pzz := blklt kp)); have hz4 := HB4.out.size; have y40 : r2 < w4.heap.size := (by omega); have y41 : a1 < w4.heap.size := (by omega); have y42 : r3 < w4.heap.size := (by omega); clear hb); go_wp2_with fail; refine hK.out _ _ ?_ (fun hHeld => ?_); (focus (first | exact hS | exact HK8.out _ _ (bal (Below.refl _ _) _) hHeld | (simp [*, go_sem]; done) | fail)); clear hK K; (try simp only [Act.put, nA, nB, nC]); refine rt 12 (some 34) (v := ?_) rfl rfl ?_ ?_; rotate_left; (focus (intro w' hSw; (try dsimp only at hSw); go_simp; (try with_reducible rfl))); (try simp only [Act.put, nA, nB, nC]); refine rt 13 (some 47) (v := ?_) rfl rfl ?_ ?_; rotate_left; (focus (intro w' hSw; (try dsimp only at hSw); go_simp; (try with_reducible rfl))); (try simp only [Act.put, nA, nB, nC]); refine rt 14 (some 48) (v := ?_) rfl rfl ?_ ?_; rotate_left; (focus (intro w' hSw; (try dsimp only at hSw); go_simp; (try with_reducible rfl))); (try simp only [Act.put, nA, nB, nC]); refine wpAnyH_ready (rs := [16]) (by kernel_rfl) (by simp) ?_; refine AllReadyH.cons rfl (fun K hK => ?_) AllReadyH.nil; (try go_simp); refine hK.out _ _ ?_ (fun hHeld => ?_); (focus (first | exact hS | exact HK8.out _ _ (bal (Below.refl _ _) _) hHeld | (simp [*, go_sem]; done) | fail)); clear hK K; (try simp only [Act.put, nA, nB, nC]); refine rt 17 (some 12) (v := ?_) rfl rfl ?_ ?_; rotate_left; (focus (intro w' hSw; (try dsimp only at hSw); go_simp; (try with_reducible rfl))); (try simp only [Act.put, nA, nB, nC]); refine wpAnyH_done (by kernel_rfl) ?_ _)); rotate_left 1)
            all_goals
              clear hHeld
              have hb4 := HB4.out
              go_wp2_with fail
              go_meet
              exact ⟨_, rfl, rfl, blkA, belA, (by first | omega | (simp <;> omega))⟩
          case rest =>
            obtain ⟨g8, rfl, rfl, k8, hBx, hg8⟩ := hcut
            obtain ⟨w5, rfl⟩ : ∃ z, z = wc := ⟨_, rfl⟩
            have HB5 := Lib.hid (hBl.trans (hBx.mono hzB))
            have hz5 := hBx.size
            have zc1 : a1 < w5.heap.size := by omega
            have zc4 : r1 < w5.heap.size := by omega
            obtain ⟨u0, u1⟩ := blkc2 k8
            have y8 := blklt k8
            have q1 := bkeep hBx q1
            have x1 := bkeep hBx x1
            have x2 := bkeep hBx x2
            have HOL5 := Lib.hid (hOl.out.below (Nat.le_refl _) hBx)
            have HBX := Lib.hid hBx
            clear k8 hBx
            cases hm : mulO X Y with
            | none =>
              have hR0 : R = (0, 0) := by rw [← hRr.out, hm]; rfl
              have hC0 : RC = 3 := by rw [← hRC.out, hm]; rfl
              have hr : Hid (matZ n n (pvYz S k) = true) := Lib.hid (pvYz_t ha0 hlt hl0 hlt2 (by rw [HDZ.out, hm]; rfl))
              subst hR0
              subst hC0
              clear hm
              go_wp2_with fail
              exact bodyPost_ret (v := .tuple #[.slice (some ⟨a1, o1, none⟩) n cap, .int .i64 3]) (by simp [results, Try.results74, go_sem]) rfl ⟨HB5.out, .inl ⟨hr.out, rfl⟩⟩
            | some mm =>
              have hR0 : R = mm := by rw [← hRr.out, hm]; rfl
              have hC0 : RC = 0 := by rw [← hRC.out, hm]; rfl
              have hmi : Hid (inF mm) := Lib.hid (mulO_in HXI.out.2.2.1 HYI.out.2.2.1 hm)
              have HDZ2 : Hid (pvDz S k a l = noB (subO U mm)) := Lib.hid (by rw [HDZ.out, hm]; rfl)
              have HDD2 : Hid (pvD S k a l = kD (subO U mm)) := Lib.hid (by rw [HDD.out, hm]; rfl)
              subst hR0
              subst hC0
              clear hm
              obtain ⟨R2, hR2⟩ : ∃ R2, Hid (rD (subO U R) = R2) := ⟨_, Lib.hid rfl⟩
              obtain ⟨RC2, hRC2⟩ : ∃ RC2, Hid (rC (subO U R) = RC2) := ⟨_, Lib.hid rfl⟩
              have HSUB : Hid (∀ V, Calls Try.prog 120 #[.agg #[.int .i64 U.1, .int .i64 U.2], .agg #[.int .i64 R.1, .int .i64 R.2]] V fun r w' => r = .returned (.tuple #[.agg #[.int .i64 R2.1, .int .i64 R2.2], .int .i64 RC2]) ∧ Below V.heap.size V w') := Lib.hid fun V => by
                have := rsub_any U R V HUI.out hmi.out
                rw [hR2.out, hRC2.out] at this
                exact this
              have HK11 : Hid (∀ V w' : World, Below V.heap.size V w' → (fun w' => w'.cell? ⟨a1, o1 + a, none⟩ = some (.slice (some ⟨r1, p1, none⟩) n d1) ∧ w'.cell? ⟨r1, p1 + l * 2, none⟩ = some (.int .i64 U.1) ∧ w'.cell? ⟨r1, p1 + l * 2 + 1, none⟩ = some (.int .i64 U.2) ∧ w'.cell? ⟨g8, 0, none⟩ = some (.int .i64 R.1) ∧ w'.cell? ⟨g8, 1, none⟩ = some (.int .i64 R.2)) V → (fun w' => w'.cell? ⟨a1, o1 + a, none⟩ = some (.slice (some ⟨r1, p1, none⟩) n d1) ∧ w'.cell? ⟨r1, p1 + l * 2, none⟩ = some (.int .i64 U.1) ∧ w'.cell? ⟨r1, p1 + l * 2 + 1, none⟩ = some (.int .i64 U.2) ∧ w'.cell? ⟨g8, 0, none⟩ = some (.int .i64 R.1) ∧ w'.cell? ⟨g8, 1, none⟩ = some (.int .i64 R.2)) w') := Lib.hid fun V w' hb h => by
                simp only at h ⊢
                exact ⟨bkeep hb h.1, bkeep hb h.2.1, bkeep hb h.2.2.1, bkeep hb h.2.2.2.1, bkeep hb h.2.2.2.2⟩
              go_upto_region 12 with fail
              go_cut [13, 14] from 53 to 64 (fun s8 s9 wx => ∃ g13 : Nat, s8 = .pointer (some ⟨g13, 0, none⟩) ∧ s9 = .int .i64 RC2 ∧ wx.heap[g13]? = some (.cells #[.int .i64 R2.1, .int .i64 R2.2] 79 (0, 0)) ∧ Below w5.heap.size w5 wx ∧ w5.heap.size ≤ g13)
              case first =>
                (refine wp_region_held_drew (S := (fun w' => w'.cell? ⟨a1, o1 + a, none⟩ = some (.slice (some ⟨r1, p1, none⟩) n d1) ∧ w'.cell? ⟨r1, p1 + l * 2, none⟩ = some (.int .i64 U.1) ∧ w'.cell? ⟨r1, p1 + l * 2 + 1, none⟩ = some (.int .i64 U.2) ∧ w'.cell? ⟨g8, 0, none⟩ = some (.int .i64 R.1) ∧ w'.cell? ⟨g8, 1, none⟩ = some (.int .i64 R.2))) (by kernel_rfl) ?_ (fun hHeld => ?_); (focus (first | exact hS | exact HK11.out _ _ (bal (Below.refl _ _) _) hHeld | (simp [*, go_sem]; done) | fail)); refine rt 0 (some 54) (v := ?_) rfl rfl ?_ ?_; rotate_left; (focus (intro w' hSw; (try dsimp only at hSw); go_simp; (try with_reducible rfl))); (try simp only [Act.put, nA, nB, nC]); refine rt 1 (some 55) (v := ?_) rfl rfl ?_ ?_; rotate_left; (focus (intro w' hSw; (try dsimp only at hSw); go_simp; (try with_reducible rfl))); (try simp only [Act.put, nA, nB, nC]); refine rt 2 (some 56) (v := ?_) rfl rfl ?_ ?_; rotate_left; (focus (intro w' hSw; (try dsimp only at hSw); go_simp; (try with_reducible rfl))); (try simp only [Act.put, nA, nB, nC]); refine rt 3 (some 57) (v := ?_) rfl rfl ?_ ?_; rotate_left; (focus (intro w' hSw; (try dsimp only at hSw); go_simp; (try with_reducible rfl))); (try simp only [Act.put, nA, nB, nC]); refine rt 4 (some 58) (v := ?_) rfl rfl ?_ ?_; rotate_left; (focus (intro w' hSw; (try dsimp only at hSw); go_simp; (try with_reducible rfl))); (try simp only [Act.put, nA, nB, nC]); refine rt 5 (some 59) (v := ?_) rfl rfl ?_ ?_; rotate_left; (focus (intro w' hSw; (try dsimp only at hSw); go_simp; (try with_reducible rfl))); (try simp only [Act.put, nA, nB, nC]); refine rt 6 (some 60) (v := ?_) rfl rfl ?_ ?_; rotate_left; (focus (intro w' hSw; (try dsimp only at hSw); go_simp; (try with_reducible rfl))); (try simp only [Act.put, nA, nB, nC]); refine rt 7 (some 61) (v := ?_) rfl rfl ?_ ?_; rotate_left; (focus (intro w' hSw; (try dsimp only at hSw); go_simp; (try with_reducible rfl))); (try simp only [Act.put, nA, nB, nC]); refine wpAnyH_ready (rs := [8, 12]) (by kernel_rfl) (by simp) ?_; refine AllReadyH.cons rfl (fun K hK => ?_) (AllReadyH.cons rfl (fun K hK => ?_) AllReadyH.nil); (focus (go_simp; (go_at_call 120; refine Calls.mono (HSUB.out _) ?_; rintro e0 w4 ⟨rfl, hb⟩; have hS := HK11.out _ _ hb hHeld; have HB4 := Lib.hid (show Below w5.heap.size w5 w4 from Below.trans belA (hb.mono (by first | omega | (simp <;> omega)))); (try (have kz := bblk hb (blklt kp) kp; clear kp; have kp := kz; clear kz; obtain ⟨pz0, pz1, pf0, pf1⟩ := blk2 kp; have pzz := blklt kp)); have hz4 := HB4.out.size; have y40 : a1 < w4.heap.size := (by omega); have y41 : r1 < w4.heap.size := (by omega); have y42 : g8 < w4.heap.size := (by omega); clear hb); go_wp2_with fail; refine hK.out _ _ ?_ (fun hHeld => ?_); (focus (first | exact hS | exact HK11.out _ _ (bal (Below.refl _ _) _) hHeld | (simp [*, go_sem]; done) | fail)); clear hK K; (try simp only [Act.put, nA, nB, nC]); refine rt 9 (some 53) (v := ?_) rfl rfl ?_ ?_; rotate_left; (focus (intro w' hSw; (try dsimp only at hSw); go_simp; (try with_reducible rfl))); (try simp only [Act.put, nA, nB, nC]); refine rt 10 (some 63) (v := ?_) rfl rfl ?_ ?_; rotate_left; (focus (intro w' hSw; (try dsimp only at hSw); go_simp; (try with_reducible rfl))); (try simp only [Act.put, nA, nB, nC]); refine rt 11 (some 64) (v := ?_) rfl rfl ?_ ?_; rotate_left; (focus (intro w' hSw; (try dsimp only at hSw); go_simp; (try with_reducible rfl))); (try simp only [Act.put, nA, nB, nC]); refine wpAnyH_ready (rs := [12]) (by kernel_rfl) (by simp) ?_; refine AllReadyH.cons rfl (fun K hK => ?_) AllReadyH.nil; (try go_simp); refine hK.out _ _ ?_ (fun hHeld => ?_); (focus (first | exact hS | exact HK11.out _ _ (bal (Below.refl _ _) _) hHeld | (simp [*, go_sem]; done) | fail)); clear hK K; (try simp only [Act.put, nA, nB, nC]); refine wpAnyH_ready (rs := [13]) (by kernel_rfl) (by simp) ?_; refine AllReadyH.cons rfl (fun K hK => ?_) AllReadyH.nil; (try go_simp); refine hK.out _ _ ?_ (fun hHeld => ?_); (focus (first | exact hS | exact HK11.out _ _ (bal (Below.refl _ _) _) hHeld | (simp [*, go_sem]; done) | fail)); clear hK K; (try simp only [Act.put, nA, nB, nC]); refine rt 14 (some 14) (v := ?_) rfl rfl ?_ ?_; rotate_left; (focus (intro w' hSw; (try dsimp only at hSw); go_simp; (try with_reducible rfl))); (try simp only [Act.put, nA, nB, nC]); refine wpAnyH_done (by kernel_rfl) ?_ _)); rotate_left 1; (focus (((try go_simp); have hS := HK11.out _ _ (bal (Below.refl w5.drew.heap.size w5.drew) (.cells #[.int .i64 0, .int .i64 0] 79)) hHeld; have kp : (w5.drew.alloc (.cells #[.int .i64 0, .int .i64 0] 79)).heap[w5.heap.size]? = _ := blknew w5.drew _; have hnb : w5.heap.size ≤ w5.heap.size := Nat.le_refl _); refine hK.out _ _ ?_ (fun hHeld => ?_); (focus (first | exact hS | exact HK11.out _ _ (bal (Below.refl _ _) _) hHeld | (simp [*, go_sem]; done) | fail)); clear hK K; (try simp only [Act.put, nA, nB, nC]); refine wpAnyH_ready (rs := [8]) (by kernel_rfl) (by simp) ?_; refine AllReadyH.cons rfl (fun K hK => ?_) AllReadyH.nil; go_simp; (go_at_call 120; refine Calls.mono (HSUB.out _) ?_; rintro e0 w4 ⟨rfl, hb⟩; have hS := HK11.out _ _ hb hHeld; have HB4 := Lib.hid (show Below w5.heap.size w5 w4 from Below.trans belA (hb.mono (by first | omega | (simp <;> omega)))); (try (have kz := bblk hb (blklt kp) kp; clear kp; have kp := kz; clear kz; obtain ⟨pz0, pz1, pf0, pf1⟩ := blk2 kp; have pzz := blklt kp)); have hz4 := HB4.out.size; have y40 : a1 < w4.heap.size := (by omega); have y41 : r1 < w4.heap.size := (by omega); have y42 : g8 < w4.heap.size := (by omega); clear hb); go_wp2_with fail; refine hK.out _ _ ?_ (fun hHeld => ?_); (focus (first | exact hS | exact HK11.out _ _ (bal (Below.refl _ _) _) hHeld | (simp [*, go_sem]; done) | fail)); clear hK K; (try simp only [Act.put, nA, nB, nC]); refine rt 9 (some 53) (v := ?_) rfl rfl ?_ ?_; rotate_left; (focus (intro w' hSw; (try dsimp only at hSw); go_simp; (try with_reducible rfl))); (try simp only [Act.put, nA, nB, nC]); refine rt 10 (some 63) (v := ?_) rfl rfl ?_ ?_; rotate_left; (focus (intro w' hSw; (try dsimp only at hSw); go_simp; (try with_reducible rfl))); (try simp only [Act.put, nA, nB, nC]); refine rt 11 (some 64) (v := ?_) rfl rfl ?_ ?_; rotate_left; (focus (intro w' hSw; (try dsimp only at hSw); go_simp; (try with_reducible rfl))); (try simp only [Act.put, nA, nB, nC]); refine wpAnyH_ready (rs := [13]) (by kernel_rfl) (by simp) ?_; refine AllReadyH.cons rfl (fun K hK => ?_) AllReadyH.nil; (try go_simp); refine hK.out _ _ ?_ (fun hHeld => ?_); (focus (first | exact hS | exact HK11.out _ _ (bal (Below.refl _ _) _) hHeld | (simp [*, go_sem]; done) | fail)); clear hK K; (try simp only [Act.put, nA, nB, nC]); refine rt 14 (some 14) (v := ?_) rfl rfl ?_ ?_; rotate_left; (focus (intro w' hSw; (try dsimp only at hSw); go_simp; (try with_reducible rfl))); (try simp only [Act.put, nA, nB, nC]); refine wpAnyH_done (by kernel_rfl) ?_ _)); rotate_left 1)
                all_goals
                  clear hHeld
                  have hb4 := HB4.out
                  go_wp2_with fail
                  go_meet
                  exact ⟨_, rfl, rfl, blkA, belA, (by first | omega | (simp <;> omega))⟩
              case rest =>
                obtain ⟨g13, rfl, rfl, k13, hBx, hg13⟩ := hcut
                obtain ⟨w6, rfl⟩ : ∃ z, z = wc := ⟨_, rfl⟩
                have hz6 := hBx.size
                have HB6 := Lib.hid (HB5.out.trans (hBx.mono (by omega)))
                obtain ⟨v0, v1⟩ := blkc2 k13
                have y13 := blklt k13
                have HOL6 := Lib.hid (HOL5.out.below (Nat.le_refl _) hBx)
                clear k13 hBx
                cases hm : subO U R with
                | none =>
                  have hR0 : R2 = (0, 0) := by rw [← hR2.out, hm]; rfl
                  have hC0 : RC2 = 3 := by rw [← hRC2.out, hm]; rfl
                  have hr : Hid (matZ n n (pvYz S k) = true) := Lib.hid (pvYz_t ha0 hlt hl0 hlt2 (by rw [HDZ2.out, hm]; rfl))
                  subst hR0
                  subst hC0
                  clear hm
                  go_wp2_with fail
                  exact bodyPost_ret (v := .tuple #[.slice (some ⟨a1, o1, none⟩) n cap, .int .i64 3]) (by simp [results, Try.results74, go_sem]) rfl ⟨HB6.out, .inl ⟨hr.out, rfl⟩⟩
                | some zz =>
                  have hR0 : R2 = zz := by rw [← hR2.out, hm]; rfl
                  have hC0 : RC2 = 0 := by rw [← hRC2.out, hm]; rfl
                  have hzi : Hid (inF zz) := Lib.hid (subO_in HUI.out.2.2.1 hmi.out.2.2.1 hm)
                  have HDZ3 : Hid (pvDz S k a l = false) := Lib.hid (by rw [HDZ2.out, hm]; rfl)
                  have HDD3 : Hid (pvD S k a l = zz) := Lib.hid (by rw [HDD2.out, hm]; rfl)
                  subst hR0
                  subst hC0
                  clear hm
                  obtain ⟨g2, g3, cap4, rfl, hcap, hcap4, hg2, hg3, hge, hgn, c0, f3, f4, ⟨v3, e3⟩, ⟨v4, e4⟩, hput⟩ := mat_store HOL6.out hlt hlt2
                  have hput := Lib.hid hput
                  have hl9 : (l : Int) < (n : Int) := hl8
                  go_wp2_with fail
                  (refine last_region (S := (fun w' => w'.cell? ⟨g2, a, none⟩ = some (.slice (some ⟨g3, 0, none⟩) n cap4) ∧ w'.cell? ⟨g13, 0, none⟩ = some (.int .i64 R2.1) ∧ w'.cell? ⟨g13, 1, none⟩ = some (.int .i64 R2.2))) 7 (by kernel_rfl) ?_ (fun hHeld => ?_); (focus (first | exact hS | (simp [*, go_sem]; done) | fail)); refine last_take 0 (some 69) (v := ?_) rfl (by kernel_rfl) (by kernel_rfl) (by kernel_rfl) (by kernel_rfl) (by decide) (by kernel_rfl) (fun _ _ _ h => h) (Or.inl ⟨by kernel_rfl, ?_⟩) (by assumption) ?_; rotate_left; (focus (intro w' hSw; (try dsimp only at hSw); go_simp; (try with_reducible rfl))); (try simp only [Act.put, nA, nB, nC]); refine last_take 1 (some 70) (v := ?_) rfl (by kernel_rfl) (by kernel_rfl) (by kernel_rfl) (by kernel_rfl) (by decide) (by kernel_rfl) (fun _ _ _ h => h) (Or.inl ⟨by kernel_rfl, ?_⟩) (by assumption) ?_; rotate_left; (focus (intro w' hSw; (try dsimp only at hSw); go_simp; (try with_reducible rfl))); (try simp only [Act.put, nA, nB, nC]); refine last_take 2 (some 71) (v := ?_) rfl (by kernel_rfl) (by kernel_rfl) (by kernel_rfl) (by kernel_rfl) (by decide) (by kernel_rfl) (fun _ _ _ h => h) (Or.inl ⟨by kernel_rfl, ?_⟩) (by assumption) ?_; rotate_left; (focus (intro w' hSw; (try dsimp only at hSw); go_simp; (try with_reducible rfl))); (try simp only [Act.put, nA, nB, nC]); refine last_take 3 (some 72) (v := ?_) rfl (by kernel_rfl) (by kernel_rfl) (by kernel_rfl) (by kernel_rfl) (by decide) (by kernel_rfl) (fun _ _ _ h => h) (Or.inl ⟨by kernel_rfl, ?_⟩) (by assumption) ?_; rotate_left; (focus (intro w' hSw; (try dsimp only at hSw); go_simp; (try with_reducible rfl))); (try simp only [Act.put, nA, nB, nC]); refine last_take 4 (some 73) (v := ?_) rfl (by kernel_rfl) (by kernel_rfl) (by kernel_rfl) (by kernel_rfl) (by decide) (by kernel_rfl) (fun _ _ _ h => h) (Or.inl ⟨by kernel_rfl, ?_⟩) (by assumption) ?_; rotate_left; (focus (intro w' hSw; (try dsimp only at hSw); go_simp; (try with_reducible rfl))); (try simp only [Act.put, nA, nB, nC]); refine last_take 5 (some 74) (v := ?_) rfl (by kernel_rfl) (by kernel_rfl) (by kernel_rfl) (by kernel_rfl) (by decide) (by kernel_rfl) (fun _ _ _ h => h) (Or.inl ⟨by kernel_rfl, ?_⟩) (by assumption) ?_; rotate_left; (focus (intro w' hSw; (try dsimp only at hSw); go_simp; (try with_reducible rfl))); (try simp only [Act.put, nA, nB, nC]); refine last_take 6 (some 75) (v := ?_) rfl (by kernel_rfl) (by kernel_rfl) (by kernel_rfl) (by kernel_rfl) (by decide) (by kernel_rfl) (fun _ _ _ h => h) (Or.inl ⟨by kernel_rfl, ?_⟩) (by assumption) ?_; rotate_left; (focus (intro w' hSw; (try dsimp only at hSw); go_simp; (try with_reducible rfl))); (try simp only [Act.put, nA, nB, nC]); refine last_end (by kernel_rfl) rfl (fun K hK => ?_); (try go_simp); refine hK.out _ _ ?_; clear hK K hHeld; (try simp only [Act.put, nA, nB, nC]); refine last_done (by kernel_rfl) ?_ _)
                  go_wp2_with fail
                  go_roundw
                  case rel =>
                    refine ⟨l + 1, by omega, by omega, by go_num, Lib.hid ?_, Lib.hid (fun b h1 h2 => ?_), ?_⟩
                    · rw [← pwU_step S ha0 hl0, HDD3.out]
                      exact hput.out R2 _ (inF_ok hzi.out) (bsz2 (by repeat (first | exact Below.refl _ _ | refine bpl ?_ _ _ | refine bal ?_ _ | refine bdrew1 ?_ | refine bdrew ?_ _)))
                    · rcases Nat.lt_or_ge b l with h3 | h3
                      · exact hZl.out b h1 h3
                      · have : b = l := by omega
                        subst this
                        exact HDZ3.out
                    · have hb6 := HB6.out
                      exact belA
                  case measure => simp [intOf]; omega
        · have e : l = n := by omega
          subst e
          go_wp2_with fail
          go_roundw
          case rel =>
            refine ⟨a + 1, by omega, by omega, by go_num, Lib.hid (by rw [← pwU_next]; exact hOl.out), Lib.hid (fun a' h1 h2 b h3 h4 => ?_), belA⟩
            rcases Nat.lt_or_ge a' a with h5 | h5
            · exact hZ.out a' h1 h5 b h3 h4
            · have : a' = a := by omega
              subst this
              exact hZl.out b h3 h4
          case measure => simp [intOf]; omega
    · have e : a = n := by omega
      subst e
      have hr : Hid (matZ a a (pvYz S k) = false) := Lib.hid (pvYz_f fun a' h1 h2 b h3 h4 => hZ.out a' h1 h2 b h3 h4)
      have hO2 : Hid (Own (shL shFr) w.heap.size wr (matL a a (pwY S k)) (.slice A2 a cap2) F2) := Lib.hid (by rw [← pwU_end]; exact hO.out)
      go_wp2_with fail
      exact bodyPost_ret (v := .tuple #[.slice A2 a cap2, .int .i64 0]) (by simp [results, Try.results74, go_sem]) rfl ⟨belA, .inr ⟨hr.out, A2, cap2, F2, rfl, hO2.out⟩⟩
end Go.Proofs.Ytekchdgpaemofaa
