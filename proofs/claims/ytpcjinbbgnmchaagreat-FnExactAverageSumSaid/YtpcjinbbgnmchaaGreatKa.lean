/- How often labels make a flag of its graph: impl.Flag.labelings, impl.Flag.factor. -/
import Derived.Test.YtpcjinbbgnmchaaGreatBc
import Derived.Test.YtpcjinbbgnmchaaGreatBa
import Derived.Test.YtpcjinbbgnmchaaGreatAk
import Derived.Test.YtpcjinbbgnmchaaGreatDc
namespace Go.Proofs.YtpcjinbbgnmchaaGreat
open Go.ChangeShapes Go.WideShapes Go.RowKit
set_option linter.unusedVariables false
set_option linter.unusedSimpArgs false
attribute [local irreducible] Calls
/-- Whether a list of labels makes the flag; one more; how many. -/
def lbP (k n : Nat) (e : Int) (L : List Int) : Bool := leastI n k (onE e (L ++ rstI L n)) == leastI n k e
def lbS (k n : Nat) (e : Int) (c : Int) (L : List Int) : Int := if lbP k n e L then wrap64 (c + 1) else c
def lbN (k n : Nat) (e : Int) : Int := ((lsts n k []).filter (lbP k n e)).length
theorem lbS_fold {P : List Int → Bool} : ∀ (Ls : List (List Int)) (c : Int), 0 ≤ c → c + Ls.length ≤ 4611686018427387904 → Ls.foldl (fun c L => if P L then wrap64 (c + 1) else c) c = c + (Ls.filter P).length := by
  intro Ls
  induction Ls with
  | nil => intro c _ _; simp
  | cons L Ls ih =>
    intro c h0 h1
    rw [List.length_cons] at h1
    rw [List.foldl_cons, List.filter_cons]
    cases hP : P L
    · rw [if_neg (by simp), if_neg (by simp)]
      exact ih c h0 (by omega)
    · rw [if_pos rfl, if_pos rfl, show wrap64 (c + 1) = c + 1 from by unfold wrap64; omega, ih (c + 1) (by omega) (by omega), List.length_cons]
      omega
theorem lists_sixty : ∀ n ≤ 5, ∀ k ≤ 3, decide ((lsts n k []).length ≤ 60) = true := by decide +kernel
theorem lists_le {n k : Nat} (hn : n ≤ 5) (hk : k ≤ 3) : (lsts n k []).length ≤ 60 := of_decide_eq_true (lists_sixty n hn k hk)
theorem lbN_fold {k n : Nat} (hn : n ≤ 5) (hk : k ≤ 3) (e : Int) : (lsts n k []).foldl (lbS k n e) 0 = lbN k n e := by
  have h := lbS_fold (P := lbP k n e) (lsts n k []) 0 (Int.le_refl _) (by have := lists_le hn hk; omega)
  rw [Int.zero_add] at h
  exact h
theorem lbN_bd {k n : Nat} (hn : n ≤ 5) (hk : k ≤ 3) (e : Int) : 0 ≤ lbN k n e ∧ lbN k n e ≤ 60 := by
  unfold lbN
  have h1 := List.length_filter_le (lbP k n e) (lsts n k [])
  have h2 := lists_le hn hk
  omega
set_option maxHeartbeats 2000000 in
theorem labelings1 (W : World) (bf bm k n : Nat) (e c : Int) (L : List Int) (v : Value) (hok : VL (L ++ rstI L n) ∧ (L ++ rstI L n).length = n ∧ L.length = k) (hn : n ≤ 5) (hk : k ≤ 3) (hkn : k ≤ n) (he : 0 ≤ e ∧ e < limN n)
    (hf : W.heap[bf]? = some (.cells #[.int .i64 k, .int .i64 n, .int .u32 e] 81 (0, 0))) (hm : W.heap[bm]? = some (.cells #[.int .i64 c] 2 (0, 0))) (hne : bf ≠ bm) (hv : Lst (shI .i64) W L v) :
    Calls Tryz.prog 191 #[v, .pointer (some ⟨bf, 0, none⟩), .pointer (some ⟨bm, 0, none⟩)] W fun e0 W' => e0 = .returned (.bool false) ∧ W'.heap[bm]? = some (.cells #[.int .i64 (lbS k n e c L)] 2 (0, 0)) ∧ Chg [bm] W W' := by
  obtain ⟨hV, hl, hlk⟩ := hok
  obtain ⟨E, hE⟩ : ∃ E, Hid (onE e (L ++ rstI L n) = E) := ⟨_, Lib.hid rfl⟩
  have hE2 := onE_lt e (L := L ++ rstI L n) (by omega)
  rw [hE.out, hl] at hE2
  have hlim : limN n ≤ 1024 := by
    have : n = 0 ∨ n = 1 ∨ n = 2 ∨ n = 3 ∨ n = 4 ∨ n = 5 := by omega
    rcases this with rfl | rfl | rfl | rfl | rfl | rfl <;> decide
  have hok3 : ∀ x : Int, 0 ≤ x → x < limN n → okFlag ((k : Int), ((n : Int), x)) ∧ flV ((k : Int), ((n : Int), x)) = true := fun x h1 h2 => by
    refine ⟨⟨?_, ?_, ?_⟩, (flV_iff _).2 ⟨⟨by show (0 : Int) ≤ (k : Int); omega, by show (k : Int) ≤ 3; omega⟩, ⟨by show (0 : Int) ≤ (n : Int); omega, by show (n : Int) ≤ 5; omega⟩, by show (k : Int) ≤ (n : Int); omega, h2⟩⟩
    · simp [okI, Lit.wf, IntKind.min, IntKind.max, IntKind.signed, IntKind.bits]; omega
    · simp [okI, Lit.wf, IntKind.min, IntKind.max, IntKind.signed, IntKind.bits]; omega
    · simp [okI, Lit.wf, IntKind.min, IntKind.max, IntKind.signed, IntKind.bits]; omega
  have HFO : Hid (∀ w', Below W.heap.size W w' → Calls Tryz.prog 192 #[.agg #[.int .i64 n, .int .u32 e], v] w' fun r w'' => r = .returned (.agg #[.int .i64 k, .int .i64 n, .int .u32 E]) ∧ Below w'.heap.size w' w'') := Lib.hid fun w' hb => by
    have := flagOf_any w' n e L v (hv.below hb) hn (by omega) hV
    rw [hl, hlk, hE.out] at this
    exact this
  have HAL : Hid (∀ w', Calls Tryz.prog 106 #[.agg #[.int .i64 k, .int .i64 n, .int .u32 E], .agg #[.int .i64 k, .int .i64 n, .int .u32 e]] w' fun r w'' => r = .returned (.bool (lbP k n e L)) ∧ Below w'.heap.size w' w'') := Lib.hid fun w' => by
    have h := falike_any w' ((k : Int), ((n : Int), E)) ((k : Int), ((n : Int), e)) (hok3 E hE2.1 hE2.2).2 (hok3 e he.1 he.2).2 (hok3 E hE2.1 hE2.2).1 (hok3 e he.1 he.2).1 rfl
    rw [show fAlike ((k : Int), ((n : Int), E)) ((k : Int), ((n : Int), e)) = lbP k n e L from by
      unfold fAlike lbP leastF
      rw [hE.out]
      simp] at h
    exact h
  obtain ⟨A, cap, rfl, _, _⟩ := lstI hv
  rw [hlk] at HFO ⊢
  obtain ⟨f0, f1, f2⟩ := blkc3 hf
  have m0 := blkc1 hm
  have yf := blklt hf
  have ym := blklt hm
  have KM := Lib.hid hm
  clear hv hf hm hok3 hE2 hlim he hV hl hlk
  have HKP : Hid (∀ V V' : World, Below V.heap.size V V' → (fun w' => w'.cell? ⟨bf, 0, none⟩ = some (.int .i64 k) ∧ w'.cell? ⟨bf, 1, none⟩ = some (.int .i64 n) ∧ w'.cell? ⟨bf, 2, none⟩ = some (.int .u32 e)) V → (fun w' => w'.cell? ⟨bf, 0, none⟩ = some (.int .i64 k) ∧ w'.cell? ⟨bf, 1, none⟩ = some (.int .i64 n) ∧ w'.cell? ⟨bf, 2, none⟩ = some (.int .u32 e)) V') := Lib.hid fun V V' hb h => ⟨bkeep hb h.1, bkeep hb h.2.1, bkeep hb h.2.2⟩
  obtain ⟨P, hP⟩ : ∃ P, Hid (lbP k n e L = P) := ⟨_, Lib.hid rfl⟩
  rw [hP.out] at HAL
  have hst : Hid (lbS k n e c L = if P then wrap64 (c + 1) else c) := Lib.hid (by unfold lbS; rw [hP.out])
  rw [hst.out]
  cases P
  · go_enter Tryz.func191, Tryz.ntmps191
    go_wp2_with fail
    (refine wp_region_held_drew (S := (fun w' => w'.cell? ⟨bf, 0, none⟩ = some (.int .i64 k) ∧ w'.cell? ⟨bf, 1, none⟩ = some (.int .i64 n) ∧ w'.cell? ⟨bf, 2, none⟩ = some (.int .u32 e))) (by kernel_rfl) ?_ (fun hHeld => ?_); (focus (first | exact hS | (simp [*, go_sem]; done) | fail)); refine rt 0 (some 5) (v := ?_) rfl rfl ?_ ?_; rotate_left; (focus (intro w' hSw; (try dsimp only at hSw); go_simp; (try with_reducible rfl))); (try simp only [Act.put, nA, nB, nC]); refine rt 1 (some 6) (v := ?_) rfl rfl ?_ ?_; rotate_left; (focus (intro w' hSw; (try dsimp only at hSw); go_simp; (try with_reducible rfl))); (try simp only [Act.put, nA, nB, nC]); refine rt 2 (some 7) (v := ?_) rfl rfl ?_ ?_; rotate_left; (focus (intro w' hSw; (try dsimp only at hSw); go_simp; (try with_reducible rfl))); (try simp only [Act.put, nA, nB, nC]); refine rt 4 (some 9) (v := ?_) rfl rfl ?_ ?_; rotate_left; (focus (intro w' hSw; (try dsimp only at hSw); go_simp; (try with_reducible rfl))); (try simp only [Act.put, nA, nB, nC]); refine wpAnyH_ready (rs := [3]) (by kernel_rfl) (by simp) ?_; refine AllReadyH.cons rfl (fun K hK => ?_) AllReadyH.nil; go_simp; (go_at_call 192; refine Calls.mono (HFO.out _ belA) ?_; rintro e0 w1 ⟨rfl, hb⟩; have hS := HKP.out _ _ hb hHeld; have HB1 := Lib.hid (show Below W.heap.size W w1 from Below.trans belA (hb.mono (by first | omega | (simp <;> omega)))); clear hb); go_wp2_with fail; refine hK.out _ _ ?_ (fun hHeld => ?_); (focus (first | exact hS | (simp [*, go_sem]; done) | fail)); clear hK K; (try simp only [Act.put, nA, nB, nC]); refine wpAnyH_ready (rs := [5]) (by kernel_rfl) (by simp) ?_; refine AllReadyH.cons rfl (fun K hK => ?_) AllReadyH.nil; go_simp; (go_at_call 106; refine Calls.mono (HAL.out _) ?_; rintro e0 w2 ⟨rfl, hb⟩; have hS := HKP.out _ _ hb hHeld; have HB2 := Lib.hid (HB1.out.trans (hb.mono HB1.out.size)); clear hb); go_wp2_with fail; refine hK.out _ _ ?_ (fun hHeld => ?_); (focus (first | exact hS | (simp [*, go_sem]; done) | fail)); clear hK K; (try simp only [Act.put, nA, nB, nC]); refine wpAnyH_done (by kernel_rfl) ?_ _)
    clear hHeld
    go_wp2_with fail
    refine bodyPost_ret (v := .bool false) (by simp [results, Tryz.results191, go_sem]) rfl ⟨rfl, bblk HB2.out ym KM.out, Chg.of HB2.out _⟩
  · go_enter Tryz.func191, Tryz.ntmps191
    go_wp2_with fail
    (refine wp_region_held_drew (S := (fun w' => w'.cell? ⟨bf, 0, none⟩ = some (.int .i64 k) ∧ w'.cell? ⟨bf, 1, none⟩ = some (.int .i64 n) ∧ w'.cell? ⟨bf, 2, none⟩ = some (.int .u32 e))) (by kernel_rfl) ?_ (fun hHeld => ?_); (focus (first | exact hS | (simp [*, go_sem]; done) | fail)); refine rt 0 (some 5) (v := ?_) rfl rfl ?_ ?_; rotate_left; (focus (intro w' hSw; (try dsimp only at hSw); go_simp; (try with_reducible rfl))); (try simp only [Act.put, nA, nB, nC]); refine rt 1 (some 6) (v := ?_) rfl rfl ?_ ?_; rotate_left; (focus (intro w' hSw; (try dsimp only at hSw); go_simp; (try with_reducible rfl))); (try simp only [Act.put, nA, nB, nC]); refine rt 2 (some 7) (v := ?_) rfl rfl ?_ ?_; rotate_left; (focus (intro w' hSw; (try dsimp only at hSw); go_simp; (try with_reducible rfl))); (try simp only [Act.put, nA, nB, nC]); refine rt 4 (some 9) (v := ?_) rfl rfl ?_ ?_; rotate_left; (focus (intro w' hSw; (try dsimp only at hSw); go_simp; (try with_reducible rfl))); (try simp only [Act.put, nA, nB, nC]); refine wpAnyH_ready (rs := [3]) (by kernel_rfl) (by simp) ?_; refine AllReadyH.cons rfl (fun K hK => ?_) AllReadyH.nil; go_simp; (go_at_call 192; refine Calls.mono (HFO.out _ belA) ?_; rintro e0 w1 ⟨rfl, hb⟩; have hS := HKP.out _ _ hb hHeld; have HB1 := Lib.hid (show Below W.heap.size W w1 from Below.trans belA (hb.mono (by first | omega | (simp <;> omega)))); clear hb); go_wp2_with fail; refine hK.out _ _ ?_ (fun hHeld => ?_); (focus (first | exact hS | (simp [*, go_sem]; done) | fail)); clear hK K; (try simp only [Act.put, nA, nB, nC]); refine wpAnyH_ready (rs := [5]) (by kernel_rfl) (by simp) ?_; refine AllReadyH.cons rfl (fun K hK => ?_) AllReadyH.nil; go_simp; (go_at_call 106; refine Calls.mono (HAL.out _) ?_; rintro e0 w2 ⟨rfl, hb⟩; have hS := HKP.out _ _ hb hHeld; have HB2 := Lib.hid (HB1.out.trans (hb.mono HB1.out.size)); clear hb); go_wp2_with fail; refine hK.out _ _ ?_ (fun hHeld => ?_); (focus (first | exact hS | (simp [*, go_sem]; done) | fail)); clear hK K; (try simp only [Act.put, nA, nB, nC]); refine wpAnyH_done (by kernel_rfl) ?_ _)
    clear hHeld hS m0
    have KM2 := Lib.hid (bblk HB2.out ym KM.out)
    obtain ⟨m0, mf⟩ := blk1 KM2.out
    have ym2 := blklt KM2.out
    go_wp2_with fail
    refine bodyPost_ret (v := .bool false) (by simp [results, Tryz.results191, go_sem]) rfl ⟨rfl, blkset0 KM2.out 0 _, ?_⟩
    exact Chg.set (Chg.of HB2.out _) (by show bm ∈ [bm]; simp) _
set_option maxHeartbeats 2000000 in
theorem labelings_any (w : World) (k n : Nat) (e : Int) (hn : n ≤ 5) (hk : k ≤ 3) (hkn : k ≤ n) (he : 0 ≤ e ∧ e < limN n) :
    Calls Tryz.prog 132 #[.agg #[.int .i64 k, .int .i64 n, .int .u32 e]] w fun r w' => r = .returned (.int .i64 (lbN k n e)) ∧ Below w.heap.size w w' := by
  have eg : ∀ args w, (callFunc 191 args).run Tryz.prog w = .ok (.enter 191 args) w := fun args w => enters_of Tryz.func191 (by kernel_rfl) rfl args w
  have HH : Hands 191 #[.pointer (some ⟨w.heap.size, 0, none⟩), .pointer (some ⟨w.heap.size + 1, 0, none⟩)] (w.heap.size + 2) [w.heap.size + 1]
      (fun (c : Int) (W : World) => W.heap[w.heap.size]? = some (.cells #[.int .i64 k, .int .i64 n, .int .u32 e] 81 (0, 0)) ∧ W.heap[w.heap.size + 1]? = some (.cells #[.int .i64 c] 2 (0, 0)))
      (fun _ => false) (lbS k n e) (fun L => L ∈ lsts n k []) :=
    { enters := eg
      keep := fun s W W' h hb => ⟨bblk hb (blklt h.1) h.1, bblk hb (blklt h.2) h.2⟩
      call := fun c W L v h hI hB hv => by
        have hL := lists_vl hn hk (by rw [lists_eq hn hk]; exact h)
        refine (labelings1 W _ _ k n e c L v hL hn hk hkn he hI.1 hI.2 (by omega) hv).mono ?_
        rintro e0 W' ⟨rfl, h1, hc⟩
        exact ⟨rfl, ⟨hc.blk (by simp) hI.1, h1⟩, hc⟩
      lt := by simp }
  have HHH := Lib.hid HH
  have hN := Lib.hid (lbN_fold hn hk e)
  clear HH eg he
  go_enter Tryz.func132, Tryz.ntmps132
  go_wp2_with fail
  refine Calls.mono (listed_any HHH.out n k (by omega) (by omega) k [] _ _ (0 : Int) (by simp) AppI.none (by simp) ⟨blkA, blkA⟩ (fun L h => h)) ?_
  rw [handed_no, hN.out]
  rintro e0 w2 ⟨rfl, ⟨j0, jo⟩, hC2⟩
  have HB2 : Hid (Below w.heap.size w w2) := Lib.hid (Below.trans (B := w.heap.size) belA (hC2.below (by simp) (by simp; omega)))
  have o0 := blkc1 jo
  have yo := blklt jo
  clear j0 jo hC2
  go_wp2_with fail
  refine bodyPost_ret (v := .int .i64 (lbN k n e)) (by simp [results, Tryz.results132, go_sem]) rfl ⟨rfl, HB2.out⟩
/-- The average factor of a flag. -/
def fcF (k n : Nat) (e : Int) : Int × Int := (lowP (lbN k n e) (lisI n k), lowQ (lbN k n e) (lisI n k))
theorem lisI_bds : ∀ n : Nat, n ≤ 5 → ∀ k : Nat, k ≤ 3 → (decide (n < k) || (decide (1 ≤ lisI ((n : Nat) : Int) k) && decide (lisI ((n : Nat) : Int) k ≤ 60))) = true := by decide +kernel
theorem lisI_bdk {k n : Nat} (hn : n ≤ 5) (hk : k ≤ 3) (hkn : k ≤ n) : 1 ≤ lisI n k ∧ lisI n k ≤ 60 := by
  have h := lisI_bds n hn k hk
  simp only [Bool.or_eq_true, Bool.and_eq_true, decide_eq_true_eq] at h
  omega
theorem ratio_sixty : ∀ p < 61, ∀ q < 61, (q = 0) || (smallB (lowP ((p : Nat) : Int) ((q : Nat) : Int)) (lowQ ((p : Nat) : Int) ((q : Nat) : Int)) && decide (-1000 ≤ lowP ((p : Nat) : Int) ((q : Nat) : Int)) && decide (lowP ((p : Nat) : Int) ((q : Nat) : Int) ≤ 1000) && decide (1 ≤ lowQ ((p : Nat) : Int) ((q : Nat) : Int)) && decide (lowQ ((p : Nat) : Int) ((q : Nat) : Int) ≤ 1000)) = true := by decide +kernel
theorem ratio_bd {p q : Int} (hp : 0 ≤ p ∧ p ≤ 60) (hq : 1 ≤ q ∧ q ≤ 60) : smallB (lowP p q) (lowQ p q) = true ∧ inF (lowP p q, lowQ p q) := by
  have h := ratio_sixty p.toNat (by omega) q.toNat (by omega)
  rw [show ((p.toNat : Nat) : Int) = p by omega, show ((q.toNat : Nat) : Int) = q by omega] at h
  simp only [show q.toNat ≠ 0 by omega, decide_false, Bool.false_or, Bool.and_eq_true, decide_eq_true_eq] at h
  obtain ⟨⟨⟨⟨h1, h2⟩, h3⟩, h4⟩, h5⟩ := h
  exact ⟨h1, by show -1000000000 ≤ lowP p q; omega, by show lowP p q ≤ 1000000000; omega, by show 1 ≤ lowQ p q; omega, by show lowQ p q ≤ 1000000000; omega⟩
theorem fcF_in {k n : Nat} (hn : n ≤ 5) (hk : k ≤ 3) (hkn : k ≤ n) (e : Int) : inF (fcF k n e) := (ratio_bd (lbN_bd hn hk e) (lisI_bdk hn hk hkn)).2
set_option maxHeartbeats 2000000 in
theorem factor_any (w : World) (k n : Nat) (e : Int) (hn : n ≤ 5) (hk : k ≤ 3) (hkn : k ≤ n) (he : 0 ≤ e ∧ e < limN n) :
    Calls Tryz.prog 69 #[.agg #[.int .i64 k, .int .i64 n, .int .u32 e]] w fun r w' => r = .returned (.agg #[.int .i64 (fcF k n e).1, .int .i64 (fcF k n e).2]) ∧ Below w.heap.size w w' := by
  have HLB := Lib.hid (fun W => labelings_any W k n e hn hk hkn he)
  have HLI := Lib.hid (fun W => lists_any W n k hn hkn)
  have hb1 := lbN_bd hn hk e
  have hb2 := lisI_bdk hn hk hkn
  obtain ⟨X, hX⟩ : ∃ X, Hid (lowP (lbN k n e) (lisI n k) = X) := ⟨_, Lib.hid rfl⟩
  obtain ⟨Y, hY⟩ : ∃ Y, Hid (lowQ (lbN k n e) (lisI n k) = Y) := ⟨_, Lib.hid rfl⟩
  have hr : Hid (fcF k n e = (X, Y)) := Lib.hid (by unfold fcF; rw [hX.out, hY.out])
  rw [hr.out]
  obtain ⟨C, hC⟩ : ∃ C, lbN k n e = C := ⟨_, rfl⟩
  obtain ⟨Q, hQ⟩ : ∃ Q, lisI n k = Q := ⟨_, rfl⟩
  rw [hC] at HLB hb1 hX hY
  rw [hQ] at HLI hb2 hX hY
  clear hC hQ he hr
  have HLO : Hid (∀ W, Calls Tryz.prog 100 #[.int .i64 C, .int .i64 Q] W fun e w' => e = .returned (.agg #[.int .i64 X, .int .i64 Y]) ∧ Below W.heap.size W w') := Lib.hid fun W => by
    have h := lowest_any C Q W (by omega) (by omega) (by omega) (by omega) (by omega)
    rw [hX.out, hY.out] at h
    exact h
  go_enter Tryz.func69, Tryz.ntmps69
  go_wp2_with fail
  (refine wp_region_held_drew (S := (fun w' => w'.cell? ⟨w.heap.size, 0, none⟩ = some (.int .i64 k) ∧ w'.cell? ⟨w.heap.size, 1, none⟩ = some (.int .i64 n) ∧ w'.cell? ⟨w.heap.size, 2, none⟩ = some (.int .u32 e))) (by kernel_rfl) ?_ (fun hHeld => ?_); (focus (first | (simp [*, go_sem]; done) | fail)); refine rt 0 (some 3) (v := ?_) rfl rfl ?_ ?_; rotate_left; (focus (intro w' hSw; (try dsimp only at hSw); go_simp; (try with_reducible rfl))); (try simp only [Act.put, nA, nB, nC]); refine rt 2 (some 5) (v := ?_) rfl rfl ?_ ?_; rotate_left; (focus (intro w' hSw; (try dsimp only at hSw); go_simp; (try with_reducible rfl))); (try simp only [Act.put, nA, nB, nC]); refine rt 3 (some 6) (v := ?_) rfl rfl ?_ ?_; rotate_left; (focus (intro w' hSw; (try dsimp only at hSw); go_simp; (try with_reducible rfl))); (try simp only [Act.put, nA, nB, nC]); refine rt 4 (some 7) (v := ?_) rfl rfl ?_ ?_; rotate_left; (focus (intro w' hSw; (try dsimp only at hSw); go_simp; (try with_reducible rfl))); (try simp only [Act.put, nA, nB, nC]); refine rt 5 (some 8) (v := ?_) rfl rfl ?_ ?_; rotate_left; (focus (intro w' hSw; (try dsimp only at hSw); go_simp; (try with_reducible rfl))); (try simp only [Act.put, nA, nB, nC]); refine rt 6 (some 9) (v := ?_) rfl rfl ?_ ?_; rotate_left; (focus (intro w' hSw; (try dsimp only at hSw); go_simp; (try with_reducible rfl))); (try simp only [Act.put, nA, nB, nC]); refine wpAnyH_ready (rs := [1]) (by kernel_rfl) (by simp) ?_; refine AllReadyH.cons rfl (fun K hK => ?_) AllReadyH.nil; go_simp; (go_at_call 132; refine Calls.mono (HLB.out _) ?_; rintro e w1 ⟨rfl, hb⟩; obtain ⟨X1, m1, rfl⟩ := plsOf hb; clear hb); go_wp2_with fail; refine hK.out _ _ ?_ (fun hHeld => ?_); (focus (first | (simp [*, go_sem]; done) | fail)); clear hK K; (try simp only [Act.put, nA, nB, nC]); refine wpAnyH_ready (rs := [7]) (by kernel_rfl) (by simp) ?_; refine AllReadyH.cons rfl (fun K hK => ?_) AllReadyH.nil; go_simp; (go_at_call 133; refine Calls.mono (HLI.out _) ?_; rintro e w1 ⟨rfl, hb⟩; obtain ⟨X2, m2, rfl⟩ := plsOf hb; clear hb); go_wp2_with fail; refine hK.out _ _ ?_ (fun hHeld => ?_); (focus (first | (simp [*, go_sem]; done) | fail)); clear hK K; (try simp only [Act.put, nA, nB, nC]); refine wpAnyH_ready (rs := [8]) (by kernel_rfl) (by simp) ?_; refine AllReadyH.cons rfl (fun K hK => ?_) AllReadyH.nil; go_simp; (go_at_call 100; refine Calls.mono (HLO.out _) ?_; rintro e w1 ⟨rfl, hb⟩; obtain ⟨X3, m3, rfl⟩ := plsOf hb; clear hb); go_wp2_with fail; refine hK.out _ _ ?_ (fun hHeld => ?_); (focus (first | (simp [*, go_sem]; done) | fail)); clear hK K; (try simp only [Act.put, nA, nB, nC]); refine wpAnyH_ready (rs := [9]) (by kernel_rfl) (by simp) ?_; refine AllReadyH.cons rfl (fun K hK => ?_) AllReadyH.nil; (try go_simp); refine hK.out _ _ ?_ (fun hHeld => ?_); (focus (first | (simp [*, go_sem]; done) | fail)); clear hK K; (try simp only [Act.put, nA, nB, nC]); refine wpAnyH_done (by kernel_rfl) ?_ _)
  clear hHeld
  go_wp2_with fail
  exact bodyPost_ret (v := .agg #[.int .i64 X, .int .i64 Y]) (by simp [results, Tryz.results69, go_sem, *]) rfl ⟨rfl, belA⟩
end Go.Proofs.YtpcjinbbgnmchaaGreat
