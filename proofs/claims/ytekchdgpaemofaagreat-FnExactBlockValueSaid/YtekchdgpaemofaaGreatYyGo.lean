import Derived.Laws.BitsAllLaws
import Derived.Test.YtekchdgpaemofaaGreatYyGm
import Derived.Test.YtekchdgpaemofaaGreatYyGl
namespace Go.Proofs.YtekchdgpaemofaaGreat
open Go.ChangeShapes Go.WideShapes Go.RowKit
set_option linter.unusedVariables false
set_option linter.unusedSimpArgs false
attribute [local irreducible] Calls
@[go_sem] theorem field_gr0 (x y : Int) (w : World) : (Instr.field 28 (.agg #[.int .i64 x, .int .u32 y]) 0).run Tryz.prog w = .ok (.int .i64 x) w := by kernel_rfl
@[go_sem] theorem field_gr1 (x y : Int) (w : World) : (Instr.field 28 (.agg #[.int .i64 x, .int .u32 y]) 1).run Tryz.prog w = .ok (.int .u32 y) w := by kernel_rfl
@[go_sem] theorem field_flag0 (k x y : Int) (w : World) : (Instr.field 104 (.agg #[.int .i64 k, .int .i64 x, .int .u32 y]) 0).run Tryz.prog w = .ok (.int .i64 k) w := by kernel_rfl
@[go_sem] theorem field_flag1 (k x y : Int) (w : World) : (Instr.field 104 (.agg #[.int .i64 k, .int .i64 x, .int .u32 y]) 1).run Tryz.prog w = .ok (.agg #[.int .i64 x, .int .u32 y]) w := by kernel_rfl
theorem typeOf_any (w : World) (k : Nat) (n e : Int) (hk : k ≤ 5) : Calls Tryz.prog 67 #[.agg #[.int .i64 k, .int .i64 n, .int .u32 e]] w fun e0 w' => e0 = .returned (.agg #[.int .i64 k, .int .u32 (onE e (seqI k))]) ∧ Below w.heap.size w w' := by
  go_enter Tryz.func67, Tryz.ntmps67
  go_wp2_with fail
  (refine wp_region_held_drew (S := (fun w' => w'.cell? ⟨w.heap.size, 0, none⟩ = some (.int .i64 k) ∧ w'.cell? ⟨w.heap.size, 1, none⟩ = some (.int .i64 n) ∧ w'.cell? ⟨w.heap.size, 2, none⟩ = some (.int .u32 e))) (by kernel_rfl) ?_ (fun hHeld => ?_); (focus (simp [*, go_sem])); refine rt 0 (some 3) (v := ?_) rfl rfl ?_ ?_; rotate_left; (focus (intro w' hSw; (try dsimp only at hSw); go_simp; (try with_reducible rfl))); (try simp only [Act.put, nA, nB, nC]); refine rt 1 (some 4) (v := ?_) rfl rfl ?_ ?_; rotate_left; (focus (intro w' hSw; (try dsimp only at hSw); go_simp; (try with_reducible rfl))); (try simp only [Act.put, nA, nB, nC]); refine rt 2 (some 5) (v := ?_) rfl rfl ?_ ?_; rotate_left; (focus (intro w' hSw; (try dsimp only at hSw); go_simp; (try with_reducible rfl))); (try simp only [Act.put, nA, nB, nC]); refine rt 3 (some 6) (v := ?_) rfl rfl ?_ ?_; rotate_left; (focus (intro w' hSw; (try dsimp only at hSw); go_simp; (try with_reducible rfl))); (try simp only [Act.put, nA, nB, nC]); refine wpAnyH_ready (rs := [4]) (by kernel_rfl) (by simp) ?_; refine AllReadyH.cons rfl (fun K hK => ?_) AllReadyH.nil; go_simp; (go_at_call 141; refine Calls.mono (first_any _ k (by omega)) ?_; rintro e0 w1 ⟨v7, rfl, hA7, hb⟩; obtain ⟨X7, m7, rfl⟩ := plsOf hb; clear hb; (try simp only [pls_pls, drew_pls, drewN_pls, pls_drew, pls_drewN] at hA7); have hA7 := Lib.hid hA7); go_wp2_with fail; refine hK.out _ _ ?_ (fun hHeld => ?_); (focus (simp [*, go_sem])); clear hK K; (try simp only [Act.put, nA, nB, nC]); refine wpAnyH_ready (rs := [5]) (by kernel_rfl) (by simp) ?_; refine AllReadyH.cons rfl (fun K hK => ?_) AllReadyH.nil; go_simp; (go_at_call 140; refine Calls.mono (on_any _ n e (seqI k) _ (hA7.out.lst.below belA) (VL_seq hk)) ?_; rw [seqI_len]; rintro e0 w1 ⟨rfl, hb⟩; obtain ⟨X8, m8, rfl⟩ := plsOf hb; clear hb); go_wp2_with fail; refine hK.out _ _ ?_ (fun hHeld => ?_); (focus (simp [*, go_sem])); clear hK K; (try simp only [Act.put, nA, nB, nC]); refine wpAnyH_ready (rs := [6]) (by kernel_rfl) (by simp) ?_; refine AllReadyH.cons rfl (fun K hK => ?_) AllReadyH.nil; (try go_simp); refine hK.out _ _ ?_ (fun hHeld => ?_); (focus (simp [*, go_sem])); clear hK K; (try simp only [Act.put, nA, nB, nC]); refine wpAnyH_done (by kernel_rfl) ?_ _)
  clear hHeld
  go_wp2_with fail
  exact bodyPost_ret (v := .agg #[.int .i64 k, .int .u32 (onE e (seqI k))]) (by simp [results, Tryz.results67, go_sem, *]) rfl ⟨rfl, belA⟩
theorem orders_any {σ : Type} {f : FuncId} {caps : Array Value} {B : Nat} {F : List Nat} {I : σ → World → Prop} {stop : List Int → Bool} {step : σ → List Int → σ} {ok : List Int → Prop} (H : Hands f caps B F I stop step ok) (n q : Nat) (e : Int) (hn : n ≤ 100) (hq : q ≤ n) (w : World) (s : σ) (hB : B ≤ w.heap.size) (hI : I s w) (hok : ∀ L' ∈ lsts n (n - q) (seqI q), ok L') :
    Calls Tryz.prog 263 #[.agg #[.int .i64 n, .int .u32 e], .int .i64 q, .func (.func f) #[] caps] w (HRet F I w (handed stop step (lsts n (n - q) (seqI q)) s)) := by
  have HH := Lib.hid H
  have HI := Lib.hid hI
  have HO := Lib.hid hok
  clear H hI hok
  go_enter Tryz.func263, Tryz.ntmps263
  go_wp2_with fail
  (refine wp_region_held_drew (S := (fun w' => w'.cell? ⟨w.heap.size, 0, none⟩ = some (.int .i64 n) ∧ w'.cell? ⟨w.heap.size, 1, none⟩ = some (.int .u32 e))) (by kernel_rfl) ?_ (fun hHeld => ?_); (focus (simp [*, go_sem])); refine rt 0 (some 7) (v := ?_) rfl rfl ?_ ?_; rotate_left; (focus (intro w' hSw; (try dsimp only at hSw); go_simp; (try with_reducible rfl))); (try simp only [Act.put, nA, nB, nC]); refine rt 1 (some 8) (v := ?_) rfl rfl ?_ ?_; rotate_left; (focus (intro w' hSw; (try dsimp only at hSw); go_simp; (try with_reducible rfl))); (try simp only [Act.put, nA, nB, nC]); refine rt 2 (some 9) (v := ?_) rfl rfl ?_ ?_; rotate_left; (focus (intro w' hSw; (try dsimp only at hSw); go_simp; (try with_reducible rfl))); (try simp only [Act.put, nA, nB, nC]); refine rt 3 (some 10) (v := ?_) rfl rfl ?_ ?_; rotate_left; (focus (intro w' hSw; (try dsimp only at hSw); go_simp; (try with_reducible rfl))); (try simp only [Act.put, nA, nB, nC]); refine rt 4 (some 11) (v := ?_) rfl rfl ?_ ?_; rotate_left; (focus (intro w' hSw; (try dsimp only at hSw); go_simp; (try with_reducible rfl))); (try simp only [Act.put, nA, nB, nC]); refine rt 6 (some 13) (v := ?_) rfl rfl ?_ ?_; rotate_left; (focus (intro w' hSw; (try dsimp only at hSw); go_simp; (try with_reducible rfl))); (try simp only [Act.put, nA, nB, nC]); refine wpAnyH_ready (rs := [5]) (by kernel_rfl) (by simp) ?_; refine AllReadyH.cons rfl (fun K hK => ?_) AllReadyH.nil; go_simp; (go_at_call 141; refine Calls.mono (first_any _ q (by omega)) ?_; rintro e0 w1 ⟨v7, rfl, hA7, hb⟩; obtain ⟨X7, m7, rfl⟩ := plsOf hb; clear hb; (try simp only [pls_pls, drew_pls, drewN_pls, pls_drew, pls_drewN] at hA7); have hA7 := Lib.hid hA7); go_wp2_with fail; refine hK.out _ _ ?_ (fun hHeld => ?_); (focus (simp [*, go_sem])); clear hK K; (try simp only [Act.put, nA, nB, nC]); refine wpAnyH_ready (rs := [7]) (by kernel_rfl) (by simp) ?_; refine AllReadyH.cons rfl (fun K hK => ?_) AllReadyH.nil; go_simp; (go_at_call 245; refine Calls.mono (listed_any HH.out n n hn hn (n - q) (seqI q) _ _ s (by rw [seqI_len]; omega) (((hA7.out.mono (B' := B) (by simp; omega))).below belA) (by simp; omega) (HH.out.keep _ _ _ HI.out belA) HO.out) ?_; rintro e0 w1 ⟨rfl, hI3, hC3⟩; have hk0 : w1.heap[w.heap.size]? = some (.cells #[.int .i64 n, .int .u32 e] 28 (0, 0)) := (hC3.2.2.2.2 _ (by simp <;> omega) (fun h => by have := HH.out.lt _ h; omega)).trans blkA; obtain ⟨s0, s1, _, _⟩ := blk2 hk0; clear hk0; have hI3 := Lib.hid hI3; have hC3 : Hid (Chg F w w1) := Lib.hid ((Chg.of belA F).trans hC3)); go_wp2_with fail; refine hK.out _ _ ?_ (fun hHeld => ?_); (focus (simp [*, go_sem])); clear hK K; (try simp only [Act.put, nA, nB, nC]); refine rt 8 (some 6) (v := ?_) rfl rfl ?_ ?_; rotate_left; (focus (intro w' hSw; (try dsimp only at hSw); go_simp; (try with_reducible rfl))); (try simp only [Act.put, nA, nB, nC]); refine wpAnyH_done (by kernel_rfl) ?_ _)
  clear hHeld
  go_wp2_with fail
  refine bodyPost_ret (v := .bool (handed stop step (lsts n (n - q) (seqI q)) s).1) (by simp [results, Tryz.results263, go_sem]) rfl ⟨rfl, hI3.out, hC3.out⟩
def leastI (n q : Nat) (e : Int) : Int := (handed (fun _ => false) (fun b L => lessE (onE e L) b) (lsts n (n - q) (seqI q)) e).2
end Go.Proofs.YtekchdgpaemofaaGreat

/- The two ways through all orders are one list; both ways to the least graph are one. -/
namespace Go.Proofs.YtekchdgpaemofaaGreat
set_option linter.unusedVariables false
set_option linter.unusedSimpArgs false
def ordsR (k m : Nat) : Nat → List Int → List (List Int)
  | 0, _ => []
  | f + 1, o => ordL k o :: (if (nxI m o o.length).isSome then ordsR k m f (nextL m o) else [])
theorem leastR_ords (e : Int) (k m : Nat) (f : Nat) (o : List Int) (b : Int) : leastR e k m f o b = (handed (fun _ => false) (fun b L => lessE (onE e L) b) (ordsR k m f o) b).2 := by
  induction f generalizing o b with
  | zero => rfl
  | succ f ih =>
    simp only [leastR, ordsR, handed, Bool.false_eq_true, if_false]
    split
    · rw [ih]
    · rfl
def ordsB : Bool := (List.range 6).all fun k => (List.range (6 - k)).all fun m => decide (ordsR k m 130 (seqI m) = lsts (k + m) m (seqI k)) && runOk k m 130 (seqI m) && (lsts (k + m) m (seqI k)).all fun L => vlB L && decide (L.length = k + m)
theorem ordsB_t : ordsB = true := by decide +kernel
theorem ords_all {k m : Nat} (h : k + m ≤ 5) : ordsR k m 130 (seqI m) = lsts (k + m) m (seqI k) ∧ runOk k m 130 (seqI m) = true ∧ ∀ L ∈ lsts (k + m) m (seqI k), VL L ∧ L.length = k + m := by
  have h1 := ordsB_t
  simp only [ordsB, List.all_eq_true, List.mem_range, Bool.and_eq_true, decide_eq_true_eq] at h1
  obtain ⟨⟨h2, h3⟩, h4⟩ := h1 k (by omega) m (by omega)
  exact ⟨h2, h3, fun L hL => ⟨VL.of (h4 L hL).1, (h4 L hL).2⟩⟩
theorem lsts_ok {n q : Nat} (hn : n ≤ 5) (hq : q ≤ n) : ∀ L ∈ lsts n (n - q) (seqI q), VL L ∧ L.length = n := by
  obtain ⟨m, rfl⟩ : ∃ m, n = q + m := ⟨n - q, by omega⟩
  rw [Nat.add_sub_cancel_left]
  exact (ords_all hn).2.2
theorem leastS_eq {n q : Nat} (hn : n ≤ 5) (hq : q ≤ n) (e : Int) : leastS e q (n - q) = leastI n q e := by
  obtain ⟨m, rfl⟩ : ∃ m, n = q + m := ⟨n - q, by omega⟩
  unfold leastS leastI
  rw [Nat.add_sub_cancel_left, leastR_ords, (ords_all hn).1]
end Go.Proofs.YtekchdgpaemofaaGreat

/- Flags: impl.ValidFlag, impl.badFlag, spec.l03Ok. -/
namespace Go.Proofs.YtekchdgpaemofaaGreat
open Go.ChangeShapes Go.WideShapes Go.RowKit
set_option linter.unusedVariables false
set_option linter.unusedSimpArgs false
attribute [local irreducible] Calls
def flOk (k n e : Int) : Bool := grOk n e && inB k 0 3 && decide (k ≤ n)
theorem ValidFlag_any (k n e : Int) (w : World) (he : 0 ≤ e ∧ e ≤ 4294967295) : Calls Tryz.prog 210 #[.agg #[.int .i64 k, .int .i64 n, .int .u32 e]] w fun e0 w' => e0 = .returned (.bool (flOk k n e)) ∧ Below w.heap.size w w' := by
  cases h1 : grOk n e
  · have hr : Hid (flOk k n e = false) := Lib.hid (by simp [flOk, h1])
    have H1 := Lib.hid h1
    clear h1
    go_enter Tryz.func210, Tryz.ntmps210
    go_wp2_with (first | (go_at_call 81; refine Calls.mono ((H1.out ▸ ValidGraph_any n e _ he)) ?_; rintro e w1 ⟨rfl, hb⟩; obtain ⟨X, m, rfl⟩ := plsOf hb; clear hb))
    exact bodyPost_ret (v := .bool false) (by simp [results, Tryz.results210, go_sem]) rfl ⟨by rw [hr.out], belA⟩
  · cases h2 : inB k 0 3
    · have hr : Hid (flOk k n e = false) := Lib.hid (by simp [flOk, h1, h2])
      have H1 := Lib.hid h1
      have H2 := Lib.hid h2
      clear h1 h2
      go_enter Tryz.func210, Tryz.ntmps210
      go_wp2_with (first | (go_at_call 81; refine Calls.mono ((H1.out ▸ ValidGraph_any n e _ he)) ?_; rintro e w1 ⟨rfl, hb⟩; obtain ⟨X, m, rfl⟩ := plsOf hb; clear hb) | (go_at_call 163; refine Calls.mono ((H2.out ▸ in_any k 0 3 _)) ?_; rintro e w1 ⟨rfl, rfl⟩))
      exact bodyPost_ret (v := .bool false) (by simp [results, Tryz.results210, go_sem]) rfl ⟨by rw [hr.out], belA⟩
    · have hr : Hid (flOk k n e = decide (k ≤ n)) := Lib.hid (by simp [flOk, h1, h2])
      have H1 := Lib.hid h1
      have H2 := Lib.hid h2
      clear h1 h2
      go_enter Tryz.func210, Tryz.ntmps210
      go_wp2_with (first | (go_at_call 81; refine Calls.mono ((H1.out ▸ ValidGraph_any n e _ he)) ?_; rintro e w1 ⟨rfl, hb⟩; obtain ⟨X, m, rfl⟩ := plsOf hb; clear hb) | (go_at_call 163; refine Calls.mono ((H2.out ▸ in_any k 0 3 _)) ?_; rintro e w1 ⟨rfl, rfl⟩))
      exact bodyPost_ret (v := .bool (decide (k ≤ n))) (by simp [results, Tryz.results210, go_sem]) rfl ⟨by rw [hr.out], belA⟩
theorem l03Ok_any (k n e : Int) (w : World) (he : 0 ≤ e ∧ e ≤ 4294967295) : Calls Tryz.prog 55 #[.agg #[.int .i64 k, .int .i64 n, .int .u32 e]] w fun e0 w' => e0 = .returned (.bool (flOk k n e)) ∧ Below w.heap.size w w' := by
  cases h1 : grOk n e
  · have hr : Hid (flOk k n e = false) := Lib.hid (by simp [flOk, h1])
    have H1 := Lib.hid h1
    clear h1
    go_enter Tryz.func55, Tryz.ntmps55
    go_wp2_with (first | (go_at_call 77; refine Calls.mono ((H1.out ▸ l01Ok_any n e _ he)) ?_; rintro e w1 ⟨rfl, hb⟩; obtain ⟨X, m, rfl⟩ := plsOf hb; clear hb))
    exact bodyPost_ret (v := .bool false) (by simp [results, Tryz.results55, go_sem]) rfl ⟨by rw [hr.out], belA⟩
  · cases h2 : inB k 0 3
    · have hr : Hid (flOk k n e = false) := Lib.hid (by simp [flOk, h1, h2])
      have H1 := Lib.hid h1
      have H2 := Lib.hid h2
      clear h1 h2
      go_enter Tryz.func55, Tryz.ntmps55
      go_wp2_with (first | (go_at_call 77; refine Calls.mono ((H1.out ▸ l01Ok_any n e _ he)) ?_; rintro e w1 ⟨rfl, hb⟩; obtain ⟨X, m, rfl⟩ := plsOf hb; clear hb) | (go_at_call 120; refine Calls.mono ((H2.out ▸ sin_any k 0 3 _)) ?_; rintro e w1 ⟨rfl, rfl⟩))
      exact bodyPost_ret (v := .bool false) (by simp [results, Tryz.results55, go_sem]) rfl ⟨by rw [hr.out], belA⟩
    · have hr : Hid (flOk k n e = decide (k ≤ n)) := Lib.hid (by simp [flOk, h1, h2])
      have H1 := Lib.hid h1
      have H2 := Lib.hid h2
      clear h1 h2
      go_enter Tryz.func55, Tryz.ntmps55
      go_wp2_with (first | (go_at_call 77; refine Calls.mono ((H1.out ▸ l01Ok_any n e _ he)) ?_; rintro e w1 ⟨rfl, hb⟩; obtain ⟨X, m, rfl⟩ := plsOf hb; clear hb) | (go_at_call 120; refine Calls.mono ((H2.out ▸ sin_any k 0 3 _)) ?_; rintro e w1 ⟨rfl, rfl⟩))
      exact bodyPost_ret (v := .bool (decide (k ≤ n))) (by simp [results, Tryz.results55, go_sem]) rfl ⟨by rw [hr.out], belA⟩
theorem badFlag_any (k n e : Int) (w : World) (he : 0 ≤ e ∧ e ≤ 4294967295) : Calls Tryz.prog 134 #[.agg #[.int .i64 k, .int .i64 n, .int .u32 e]] w fun e0 w' => e0 = .returned (.bool (!flOk k n e)) ∧ Below w.heap.size w w' := by
  go_enter Tryz.func134, Tryz.ntmps134
  go_wp2_with (first | (go_at_call 210; refine Calls.mono (ValidFlag_any _ _ _ _ he) ?_; rintro e w1 ⟨rfl, hb⟩; obtain ⟨X, m, rfl⟩ := plsOf hb; clear hb))
  exact bodyPost_ret (v := .bool (!flOk k n e)) (by simp [results, Tryz.results134, go_sem]) rfl ⟨rfl, belA⟩
theorem flOk_iff (k n e : Int) : flOk k n e = true ↔ grOk n e = true ∧ (0 ≤ k ∧ k ≤ 3) ∧ k ≤ n := by simp [flOk, inB, and_assoc]
end Go.Proofs.YtekchdgpaemofaaGreat

/- Graphs as bits: what a made graph has; graphs on lists of lists. -/
namespace Go.Proofs.YtekchdgpaemofaaGreat
set_option linter.unusedVariables false
set_option linter.unusedSimpArgs false
def tri : Nat → Nat
  | 0 => 0
  | j + 1 => tri j + j
theorem tri_eq (j : Nat) : j * (j - 1) / 2 = tri j := by
  induction j with
  | zero => rfl
  | succ j ih =>
    rw [tri, ← ih]
    cases j with
    | zero => rfl
    | succ k =>
      have : (k + 1 + 1) * (k + 1 + 1 - 1) = (k + 1) * (k + 1 - 1) + (k + 1) * 2 := by
        simp only [Nat.add_sub_cancel]
        rw [← Nat.mul_add, Nat.mul_comm (k + 1 + 1)]
      rw [this, Nat.add_mul_div_right _ _ (by decide)]
theorem tri_mono {i j : Nat} (h : i ≤ j) : tri i ≤ tri j := by
  induction j with
  | zero => rw [Nat.le_zero.1 h]; exact Nat.le_refl _
  | succ j ih =>
    rcases Nat.lt_or_ge j i with h1 | h1
    · rw [show i = j + 1 by omega]; exact Nat.le_refl _
    · rw [tri]; have := ih h1; omega
theorem bitI_nat {i j : Nat} (h : i ≤ j) : bitI (i : Int) (j : Int) = ((2 ^ (tri j + i) : Nat) : Int) := by
  rw [bitI, if_pos (by omega), bitN, Int.toNat_natCast, Int.toNat_natCast, tri_eq]
theorem bitI_comm (i j : Int) : bitI i j = bitI j i := by
  unfold bitI
  by_cases h1 : i ≤ j <;> by_cases h2 : j ≤ i
  · rw [if_pos h1, if_pos h2, show i = j by omega]
  · rw [if_pos h1, if_neg h2]
  · rw [if_neg h1, if_pos h2]
  · omega
theorem hasE_comm (e i j : Int) : hasE e i j = hasE e j i := by rw [hasE, hasE, bitI_comm]
theorem pow_lt {j i : Nat} (hj : j ≤ 4) (hi : i ≤ j) : (2 ^ (tri j + i) : Nat) < 4294967296 := by
  have h1 : tri j + i ≤ 10 := by have := tri_mono hj; have : tri 4 = 6 := rfl; omega
  have := Nat.pow_le_pow_right (n := 2) (by decide) h1
  omega
theorem and_pow (m p : Nat) : ((m &&& 2 ^ p) != 0) = m.testBit p := by
  cases h : m.testBit p
  · have : m &&& 2 ^ p = 0 := Nat.eq_of_testBit_eq fun q => by
      rw [Nat.testBit_and, Nat.testBit_two_pow, Nat.zero_testBit]
      by_cases hq : p = q
      · subst hq; rw [h]; rfl
      · simp [hq]
    rw [this]; rfl
  · rw [bne_iff_ne]
    intro h0
    have : (m &&& 2 ^ p).testBit p = false := by rw [h0]; exact Nat.zero_testBit _
    rw [Nat.testBit_and, h, Nat.testBit_two_pow_self] at this
    cases this
theorem hasE_bit {e : Int} (he : okI .u32 e) {i j : Nat} (hij : i ≤ j) (hj : j ≤ 4) : hasE e i j = e.toNat.testBit (tri j + i) := by
  obtain ⟨h1, h2⟩ := okE he
  have h3 := pow_lt hj hij
  have key : bits .and .u32 e (((2 ^ (tri j + i) : Nat)) : Int) = ((e.toNat &&& 2 ^ (tri j + i) : Nat) : Int) := by
    generalize 2 ^ (tri j + i) = p at h3 ⊢
    rw [u32_and _ _ h1 (by omega) (by omega) (by omega), Int.toNat_natCast]
  rw [hasE, bitI_nat hij, key, ← and_pow]
  rw [Bool.eq_iff_iff, bne_iff_ne, bne_iff_ne]
  omega
theorem setE_bit {e : Int} (he : okI .u32 e) {i j : Nat} (hij : i ≤ j) (hj : j ≤ 4) (q : Nat) : (setE e i j).toNat.testBit q = (e.toNat.testBit q || decide (q = tri j + i)) := by
  obtain ⟨h1, h2⟩ := okE he
  have h3 := pow_lt hj hij
  have key : bits .or .u32 e (((2 ^ (tri j + i) : Nat)) : Int) = ((e.toNat ||| 2 ^ (tri j + i) : Nat) : Int) := by
    generalize 2 ^ (tri j + i) = p at h3 ⊢
    rw [u32_or _ _ h1 (by omega) (by omega) (by omega), Int.toNat_natCast]
  rw [setE, bitI_nat hij, key, Int.toNat_natCast, Nat.testBit_or, Nat.testBit_two_pow]
  congr 1
  rw [Bool.eq_iff_iff]; simp; omega
theorem rowE_bit (P : Nat → Nat → Bool) {j : Nat} (hj : j ≤ 4) {a : Int} (ha : okI .u32 a) (i : Nat) (hi : i ≤ j) (q : Nat) :
    (rowE P j i a).toNat.testBit q = (a.toNat.testBit q || (decide (tri j ≤ q ∧ q < tri j + i) && P (q - tri j) j)) := by
  induction i with
  | zero => simp [rowE]; intro h1 h2; omega
  | succ i ih =>
    have h1 := ih (by omega)
    unfold rowE
    cases hp : P i j
    · rw [if_neg (by simp), h1]
      congr 1
      by_cases hq : q = tri j + i
      · subst hq
        simp [hp]
      · have : decide (tri j ≤ q ∧ q < tri j + i) = decide (tri j ≤ q ∧ q < tri j + (i + 1)) := by rw [decide_eq_decide]; omega
        rw [this]
    · rw [if_pos rfl, setE_bit (rowE_ok P j i ha) (by omega) hj, h1, Bool.or_assoc]
      congr 1
      by_cases hq : q = tri j + i
      · subst hq
        simp [hp]
      · have : decide (tri j ≤ q ∧ q < tri j + i) = decide (tri j ≤ q ∧ q < tri j + (i + 1)) := by rw [decide_eq_decide]; omega
        rw [this]; simp [hq]
theorem madeE_bit (P : Nat → Nat → Bool) (n : Nat) (hn : n ≤ 5) : (∀ i j, i < j → j < n → (madeE P n).toNat.testBit (tri j + i) = P i j) ∧ ∀ q, tri n ≤ q → (madeE P n).toNat.testBit q = false := by
  induction n with
  | zero => exact ⟨fun i j _ h => absurd h (Nat.not_lt_zero j), fun q _ => by simp [madeE]⟩
  | succ n ih =>
    obtain ⟨h1, h2⟩ := ih (by omega)
    simp only [madeE]
    refine ⟨fun i j hij hj => ?_, fun q hq => ?_⟩
    · rw [rowE_bit P (by omega) (madeE_ok P n) n (Nat.le_refl _)]
      rcases Nat.lt_or_ge j n with h | h
      · rw [h1 i j hij h]
        have : tri j + i < tri n := by have := tri_mono (show j + 1 ≤ n from h); rw [tri] at this; omega
        have : decide (tri n ≤ tri j + i ∧ tri j + i < tri n + n) = false := by simp; omega
        rw [this]; simp
      · obtain rfl : j = n := by omega
        rw [h2 _ (by omega)]
        simp [hij]
    · rw [tri] at hq
      rw [rowE_bit P (by omega) (madeE_ok P n) n (Nat.le_refl _), h2 q (by omega)]
      have : decide (tri n ≤ q ∧ q < tri n + n) = false := by simp; omega
      rw [this]; rfl
theorem madeE_has (P : Nat → Nat → Bool) {n : Nat} (hn : n ≤ 5) {i j : Nat} (hij : i < j) (hj : j < n) : hasE (madeE P n) i j = P i j := by
  rw [hasE_bit (madeE_ok P n) (by omega) (by omega)]
  exact (madeE_bit P n hn).1 i j hij hj
theorem limN_nat {n : Nat} (hn : n ≤ 5) : limN n = ((2 ^ tri n : Nat) : Int) := by
  have : n = 0 ∨ n = 1 ∨ n = 2 ∨ n = 3 ∨ n = 4 ∨ n = 5 := by omega
  rcases this with rfl | rfl | rfl | rfl | rfl | rfl <;> decide
theorem madeE_lt (P : Nat → Nat → Bool) {n : Nat} (hn : n ≤ 5) : 0 ≤ madeE P n ∧ madeE P n < limN n := by
  have h0 := okE (madeE_ok P n)
  refine ⟨h0.1, ?_⟩
  rw [limN_nat hn]
  have : (madeE P n).toNat < 2 ^ tri n := Nat.lt_pow_two_of_testBit _ fun q hq => (madeE_bit P n hn).2 q hq
  omega
theorem onE_has {e : Int} {L : List Int} (hl : L.length ≤ 5) {i j : Nat} (hi : i < L.length) (hj : j < L.length) (hne : i ≠ j) : hasE (onE e L) i j = hasE e (gi L i) (gi L j) := by
  rcases Nat.lt_or_ge i j with h | h
  · exact madeE_has _ hl h hj
  · rw [hasE_comm, hasE_comm e]
    exact madeE_has _ hl (by omega) hi
theorem onE_lt (e : Int) {L : List Int} (hl : L.length ≤ 5) : 0 ≤ onE e L ∧ onE e L < limN L.length := madeE_lt _ hl
def compL (L M : List Int) : List Int := M.map fun a => gi L a.toNat
theorem compL_len (L M : List Int) : (compL L M).length = M.length := by simp [compL]
theorem gi_compL (L M : List Int) {i : Nat} (hi : i < M.length) : gi (compL L M) i = gi L (gi M i).toNat := by
  simp [gi, compL, List.getElem?_map, List.getElem?_eq_getElem hi]
theorem onE_onE (e : Int) {L M : List Int} (hL : L.length ≤ 5) (hM : VL M) (hlt : ∀ i, i < M.length → gi M i < L.length) : onE (onE e L) M = onE e (compL L M) := by
  unfold onE
  rw [compL_len]
  refine madeE_congr fun i j hij hj => ?_
  rw [gi_compL L M (by omega), gi_compL L M hj]
  have h1 := hM.2.1 i (by omega)
  have h2 := hM.2.1 j hj
  have h3 := hM.2.2 i j hij hj
  have h4 := hlt i (by omega)
  have h5 := hlt j hj
  have := onE_has (e := e) (L := L) hL (i := (gi M i).toNat) (j := (gi M j).toNat) (by omega) (by omega) (by omega)
  rw [show (((gi M i).toNat : Nat) : Int) = gi M i by omega, show (((gi M j).toNat : Nat) : Int) = gi M j by omega] at this
  exact this
def idB : Bool := (List.range 6).all fun n => (List.range (limN n).toNat).all fun e => decide (onE (e : Int) (seqI n) = (e : Int))
theorem idB_t : idB = true := by decide +kernel
theorem onE_id {n : Nat} (hn : n ≤ 5) {e : Int} (h0 : 0 ≤ e) (he : e < limN n) : onE e (seqI n) = e := by
  have h := idB_t
  simp only [idB, List.all_eq_true, List.mem_range, decide_eq_true_eq] at h
  have := h n (by omega) e.toNat (by omega)
  rwa [show ((e.toNat : Nat) : Int) = e by omega] at this
end Go.Proofs.YtekchdgpaemofaaGreat
