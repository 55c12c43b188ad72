/- Lists of all flags, spec: l03All. -/
import Derived.Test.YtpcjinbbgnmchaaGreatPs
import Derived.Test.YtpcjinbbgnmchaaGreatGo
import Derived.Test.YtpcjinbbgnmchaaGreatFa
namespace Go.Proofs.YtpcjinbbgnmchaaGreat
open Go.ChangeShapes Go.WideShapes Go.RowKit
set_option linter.unusedVariables false
set_option linter.unusedSimpArgs false
attribute [local irreducible] Calls
def spE (tn : Nat) (te : Int) (k : Nat) : Int := bits .or .u32 te ((k * 2 ^ tri tn : Nat) : Int)
def spTo (tn n : Nat) (te : Int) (gs : List (Int × Int)) (k : Nat) : List Int := ((List.range k).map (spE tn te)).filter fun e => (leastI n tn e == e) && freeB n e gs
theorem spTo_t {tn n : Nat} {te : Int} {gs : List (Int × Int)} {k : Nat} (h1 : (leastI n tn (spE tn te k) == spE tn te k) = true) (h2 : freeB n (spE tn te k) gs = true) : spTo tn n te gs (k + 1) = spTo tn n te gs k ++ [spE tn te k] := by
  simp [spTo, List.range_succ, h1, h2, List.filter_cons]
theorem spTo_f1 {tn n : Nat} {te : Int} {gs : List (Int × Int)} {k : Nat} (h1 : (leastI n tn (spE tn te k) == spE tn te k) = false) : spTo tn n te gs (k + 1) = spTo tn n te gs k := by
  simp [spTo, List.range_succ, h1, List.filter_cons]
theorem spTo_f2 {tn n : Nat} {te : Int} {gs : List (Int × Int)} {k : Nat} (h2 : freeB n (spE tn te k) gs = false) : spTo tn n te gs (k + 1) = spTo tn n te gs k := by
  simp [spTo, List.range_succ, h2, List.filter_cons]
theorem spTo_len (tn n : Nat) (te : Int) (gs : List (Int × Int)) (k : Nat) : (spTo tn n te gs k).length ≤ k := by
  have := List.length_filter_le (fun e => (leastI n tn e == e) && freeB n e gs) ((List.range k).map (spE tn te))
  simpa [spTo] using this
theorem flagsL_sp {k n : Nat} (hk : k ≤ 3) (hn : n ≤ 5) (hkn : k ≤ n) {te : Int} (h0 : 0 ≤ te) (hte : te < limN k) (gs : List (Int × Int)) : flagsL k te n gs = spTo k n te gs (2 ^ (tri n - tri k)) := flagsL_ref hk hn hkn h0 hte gs
def sfOf (tn n : Nat) (e : Int) : shFlag.T := ((tn : Int), ((n : Int), e))
theorem flagsF_eq (tn : Nat) (te : Int) (n : Nat) (gs : List (Int × Int)) : (show List shFlag.T from flagsF tn te n gs) = (flagsL tn te n gs).map (sfOf tn n) := rfl
theorem l03Least_e (w : World) (n k : Nat) (e : Int) (hn : n ≤ 5) (hk : k ≤ n) (he : okI .u32 e) :
    Calls Tryz.prog 75 #[.agg #[.int .i64 k, .int .i64 n, .int .u32 e]] w fun e0 w' => e0 = .returned (.agg #[.int .i64 k, .int .i64 n, .int .u32 (leastI n k e)]) ∧ Below w.heap.size w w' := by
  rw [← leastS_eq hn hk]
  exact l03Least_any w k (n - k) n e he (by omega) hn (ords_all (by omega)).2.1
/-- A list of flags is handed out. -/
def FlsRet (B : Nat) (w : World) (L : List shFlag.T) (e : Ending) (w' : World) : Prop := ∃ A cap F, e = .returned (.slice A L.length cap) ∧ Own shFlag B w' L (.slice A L.length cap) F ∧ Below w.heap.size w w'
theorem tri_le {n : Nat} (h : n ≤ 5) : tri n ≤ 10 := by
  have : n = 0 ∨ n = 1 ∨ n = 2 ∨ n = 3 ∨ n = 4 ∨ n = 5 := by omega
  rcases this with rfl | rfl | rfl | rfl | rfl | rfl <;> decide
theorem prN_tri {n : Nat} (h : n ≤ 5) : prN n = (tri n : Int) := by
  have : n = 0 ∨ n = 1 ∨ n = 2 ∨ n = 3 ∨ n = 4 ∨ n = 5 := by omega
  rcases this with rfl | rfl | rfl | rfl | rfl | rfl <;> decide
theorem tri_leqB : ((List.range 6).all fun n => (List.range 6).all fun k => decide (n < k) || decide (tri k ≤ tri n)) = true := by decide +kernel
theorem tri_leq {k n : Nat} (h : n ≤ 5) (hk : k ≤ n) : tri k ≤ tri n := by
  have := tri_leqB
  simp only [List.all_eq_true, List.mem_range] at this
  have := this n (by omega) k (by omega)
  simp at this
  omega
/-- A shift to the left, kept as one word. -/
@[irreducible] def shlW (a : Int) (b : Nat) : Int := wrap64 (a * 2 ^ min b 64)
theorem shl_u64 (t : TypeId) (a : Int) (b : Nat) : binOp .shl t (.int .i64 a) (.int .u64 (b : Int)) = pure (.int .i64 (shlW a b)) := by
  rw [binOp_shl]
  unfold shlW
  have h : ¬ ((b : Int) < 0) := by omega
  simp only [Op.shift, h, if_false, Int.toNat_natCast, IntKind.bits]
  rw [IntKind.wrap_i64]
  unfold wrap64
  rfl
theorem shlW_eq {a : Int} {b : Nat} (hb : b ≤ 10) (h0 : 0 ≤ a) (ha : a ≤ 1024) : shlW a b = ((a.toNat * 2 ^ b : Nat) : Int) := by
  unfold shlW
  rw [Nat.min_eq_left (by omega)]
  have h1 := Nat.pow_le_pow_right (n := 2) (by omega) hb
  have h2 : a.toNat * 2 ^ b ≤ 1024 * 2 ^ 10 := Nat.mul_le_mul (by omega) h1
  have h3 : a * 2 ^ b = ((a.toNat * 2 ^ b : Nat) : Int) := by
    have : a = (a.toNat : Int) := by omega
    rw [this]
    simp
  rw [h3]
  unfold wrap64
  omega
theorem spE_ok {tn : Nat} (te : Int) (k : Nat) (h0 : 0 ≤ te) (h1 : te ≤ 1024) (hk : k ≤ 1024) (hn : tn ≤ 5) : okI .u32 (spE tn te k) := by
  have h2 := Nat.pow_le_pow_right (n := 2) (by omega) (tri_le hn)
  have h3 : k * 2 ^ tri tn ≤ 1024 * 2 ^ 10 := Nat.mul_le_mul hk h2
  unfold spE
  generalize k * 2 ^ tri tn = p at h3 ⊢
  rw [u32_or _ _ h0 (by omega) (by omega) (by omega), Int.toNat_natCast]
  have h4 : te.toNat ||| p < 2 ^ 32 := Nat.or_lt_two_pow (by omega) (by omega)
  simp only [okI, Lit.wf, IntKind.min, IntKind.max, IntKind.signed, IntKind.bits]
  simp
  omega
attribute [local go_sem high] shl_u64
set_option maxHeartbeats 4000000 in
theorem l03All_any (w : World) (tn n : Nat) (te : Int) (gs : List (Int × Int)) (v : Value) (h : Lst shGr w gs v) (htn : tn ≤ 3) (hkn : tn ≤ n) (hn : n ≤ 5) (hl : gs.length ≤ 1048576) (hg : ∀ d ∈ gs, 0 ≤ d.1 ∧ d.1 ≤ 5) (h0 : 0 ≤ te) (hte : te < limN tn) :
    Calls Tryz.prog 146 #[.agg #[.int .i64 tn, .int .u32 te], .int .i64 n, v] w (FlsRet w.heap.size w (flagsF tn te n gs)) := by
  obtain ⟨i1, z1, hi1, hz1, hs1, hb1, hl1⟩ := infoB_spec (P := Tryz.prog) (e := 81) (sz := 3) (bytes := 24) (by kernel_rfl)
  have I1 := Lib.hid hi1
  have Z1 := Lib.hid hz1
  obtain ⟨A, cap, rfl, hcp, hmx⟩ := formGraph h
  have H := Lib.hid h
  have HG := Lib.hid hg
  clear hi1 hz1 h hg
  obtain ⟨lo, hlo, HL, hl3⟩ : ∃ lo : Nat, prN tn = (lo : Int) ∧ Hid (tri tn = lo) ∧ lo ≤ 10 := ⟨tri tn, prN_tri (by omega), Lib.hid rfl, tri_le (by omega)⟩
  obtain ⟨hi, hhi, HH, hh3⟩ : ∃ hi : Nat, prN n = (hi : Int) ∧ Hid (tri n = hi) ∧ hi ≤ 10 := ⟨tri n, prN_tri (by omega), Lib.hid rfl, tri_le (by omega)⟩
  have hlh : lo ≤ hi := by rw [← HL.out, ← HH.out]; exact tri_leq hn hkn
  have PL : Hid (∀ w, Calls Tryz.prog 137 #[.int .i64 tn] w fun e0 w' => e0 = .returned (.int .i64 lo) ∧ w = w') := Lib.hid fun w => by rw [← hlo]; exact l01Bits_any tn w (by omega)
  have PH : Hid (∀ w, Calls Tryz.prog 137 #[.int .i64 n] w fun e0 w' => e0 = .returned (.int .i64 hi) ∧ w = w') := Lib.hid fun w => by rw [← hhi]; exact l01Bits_any n w (by omega)
  clear hlo hhi
  obtain ⟨N, hN, hN2⟩ : ∃ N : Nat, Hid (2 ^ (hi - lo) = N) ∧ N ≤ 1024 := ⟨2 ^ (hi - lo), Lib.hid rfl, by
    have := Nat.pow_le_pow_right (n := 2) (by omega) (show hi - lo ≤ 10 by omega)
    omega⟩
  have hgoal : FlsRet w.heap.size w (flagsF tn te n gs) = FlsRet w.heap.size w ((spTo tn n te gs N).map (sfOf tn n)) := by
    have e := flagsL_sp htn hn hkn h0 hte gs
    rw [HL.out, HH.out, hN.out] at e
    rw [← e]
    exact congrArg (fun l => FlsRet w.heap.size w l) (flagsF_eq tn te n gs)
  rw [hgoal]
  clear hgoal
  obtain ⟨m, hm, hm3⟩ : ∃ m : Nat, (hi : Int) - (lo : Int) = (m : Int) ∧ m ≤ 10 := ⟨hi - lo, by omega, by omega⟩
  have hsub : IntKind.u64.wrap ((hi : Int) - (lo : Int)) = (m : Int) := by rw [hm, IntKind.wrap_u64]; omega
  have hmn : m = hi - lo := by omega
  have hsh : shlW 1 m = (N : Int) := by
    rw [shlW_eq hm3 (by decide) (by decide), hmn, ← hN.out]
    simp
  have HM := Lib.hid hm
  have HU := Lib.hid hsub
  have HV := Lib.hid hsh
  clear hm hlh hmn hm3 hsub hsh
  go_enter Tryz.func146, Tryz.ntmps146
  go_wp2_with (first | (go_at_call 137; refine Calls.mono (PL.out _) ?_; rintro e w1 ⟨rfl, rfl⟩))
  go_loopw [7, 9] (fun o i wr => ∃ (k : Nat), k ≤ N ∧ i = .int .i64 k ∧ wr.heap[w.heap.size]? = some (.cells #[.int .i64 tn, .int .u32 te] 31 (0, 0)) ∧ Hid (AppS shFlag (w.heap.size + 1) 81 wr o ((spTo tn n te gs k).map (sfOf tn n))) ∧ Below w.heap.size w wr) (fun _ i _ => N - (intOf i).toNat)
  case atStart => exact ⟨0, Nat.zero_le _, rfl, blkA, Lib.hid (AppS.new shFlag blkA (by omega)), belA⟩
  case round =>
    obtain ⟨k, hk, rfl, b0, hA, hB⟩ := hrel
    obtain ⟨s0, s1, _, _⟩ := blk2 b0
    have z0 := blklt b0
    have B0 := Lib.hid b0
    clear b0
    by_cases hlt : k < N
    · have hk8 : (k : Int) < (N : Int) := by omega
      obtain ⟨E, HE, HS, HO⟩ : ∃ E : Int, Hid (bits .or .u32 te (shlW k lo % 4294967296) = E) ∧ Hid (spE tn te k = E) ∧ Hid (okI .u32 E) := by
        refine ⟨spE tn te k, Lib.hid ?_, Lib.hid rfl, Lib.hid ?_⟩
        · rw [shlW_eq hl3 (by omega) (by omega), Int.toNat_natCast]
          unfold spE
          rw [HL.out]
          have h1 := Nat.pow_le_pow_right (n := 2) (by omega) hl3
          have h2 : k * 2 ^ lo ≤ 1024 * 2 ^ 10 := Nat.mul_le_mul (by omega) h1
          generalize k * 2 ^ lo = p at h2 ⊢
          rw [show ((p : Nat) : Int) % 4294967296 = (p : Int) by omega]
        · exact spE_ok te k h0 (by have := limN_nat (n := tn) (by omega); have := Nat.pow_le_pow_right (n := 2) (by omega) (tri_le (n := tn) (by omega)); omega) (by omega) (by omega)
      have HF : Hid (∀ W, Below w.heap.size w W → Calls Tryz.prog 196 #[.agg #[.int .i64 n, .int .u32 E], .slice A gs.length cap] W fun e0 w' => e0 = .returned (.bool (freeB n E gs)) ∧ Below W.heap.size W w') := Lib.hid fun W hW => l01Free_any W n E gs _ (H.out.below hW) HO.out hn HG.out
      cases hp : (leastI n tn E == E)
      · have hnx : Hid (spTo tn n te gs (k + 1) = spTo tn n te gs k) := Lib.hid (spTo_f1 (by rw [HS.out]; exact hp))
        have he : Hid (eq3 tn n (leastI n tn E) tn n E = false) := Lib.hid (by simp only [beq_eq_false_iff_ne] at hp; simp [eq3, hp])
        clear hp
        have hsub := HU.out
        have hsh := HV.out
        have hE := HE.out
        go_wp2_with (first | (go_at_call 137; refine Calls.mono (PH.out _) ?_; rintro e w1 ⟨rfl, rfl⟩))
        clear hsub hsh hE
        have he' := he.out
        (refine wp_region_held_drew (S := (fun w' => w'.cell? ⟨wr.heap.size, 0, none⟩ = some (.int .i64 tn) ∧ w'.cell? ⟨wr.heap.size, 1, none⟩ = some (.int .i64 n) ∧ w'.cell? ⟨wr.heap.size, 2, none⟩ = some (.int .u32 E))) (by kernel_rfl) ?_ (fun hHeld => ?_); (focus (simp [*, go_sem])); refine rt 0 (some 38) (v := ?_) rfl rfl ?_ ?_; rotate_left; (focus (intro w' hSw; (try dsimp only at hSw); go_simp; (try with_reducible rfl))); (try simp only [Act.put, nA, nB, nC]); refine rt 2 (some 40) (v := ?_) rfl rfl ?_ ?_; rotate_left; (focus (intro w' hSw; (try dsimp only at hSw); go_simp; (try with_reducible rfl))); (try simp only [Act.put, nA, nB, nC]); refine wpAnyH_ready (rs := [1]) (by kernel_rfl) (by simp) ?_; refine AllReadyH.cons rfl (fun K hK => ?_) AllReadyH.nil; go_simp; (go_at_call 75; refine Calls.mono (l03Least_e _ n tn E hn hkn HO.out) ?_; rintro e w1 ⟨rfl, hb⟩; obtain ⟨X1, m1, rfl⟩ := plsOf hb; clear hb); go_wp2_with fail; refine hK.out _ _ ?_ (fun hHeld => ?_); (focus (simp [*, go_sem])); clear hK K; (try simp only [Act.put, nA, nB, nC]); refine rt 3 (some 41) (v := ?_) rfl rfl ?_ ?_; rotate_left; (focus (intro w' hSw; (try dsimp only at hSw); go_simp; (try with_reducible rfl))); (try simp only [Act.put, nA, nB, nC]); refine rt 4 (some 42) (v := ?_) rfl rfl ?_ ?_; rotate_left; (focus (intro w' hSw; (try dsimp only at hSw); go_simp; (try with_reducible rfl))); (try simp only [Act.put, nA, nB, nC]); refine rg_take 5 (some 43) (v := undef) rfl (by kernel_rfl) (by kernel_rfl) (by kernel_rfl) (by kernel_rfl) (fun _ _ _ h => h) (Or.inr ⟨by kernel_rfl, rfl⟩) (by assumption) ?_; (try simp only [Act.put, nA, nB, nC]); refine rg_take 6 (some 44) (v := undef) rfl (by kernel_rfl) (by kernel_rfl) (by kernel_rfl) (by kernel_rfl) (fun _ _ _ h => h) (Or.inr ⟨by kernel_rfl, rfl⟩) (by assumption) ?_; (try simp only [Act.put, nA, nB, nC]); refine rg_take 7 (some 45) (v := undef) rfl (by kernel_rfl) (by kernel_rfl) (by kernel_rfl) (by kernel_rfl) (fun _ _ _ h => h) (Or.inr ⟨by kernel_rfl, rfl⟩) (by assumption) ?_; (try simp only [Act.put, nA, nB, nC]); refine rg_take 8 (some 46) (v := undef) rfl (by kernel_rfl) (by kernel_rfl) (by kernel_rfl) (by kernel_rfl) (fun _ _ _ h => h) (Or.inr ⟨by kernel_rfl, rfl⟩) (by assumption) ?_; (try simp only [Act.put, nA, nB, nC]); refine rt 9 (some 47) (v := ?_) rfl rfl ?_ ?_; rotate_left; (focus (intro w' hSw; (try dsimp only at hSw); go_simp; (try with_reducible rfl))); (try simp only [Act.put, nA, nB, nC]); refine wpAnyH_done (by kernel_rfl) ?_ _)
        clear hHeld
        go_wp2_with fail
        go_roundw
        case rel => 
          have b0 := B0.out
          exact ⟨k + 1, by omega, by go_num, blkA, Lib.hid (by rw [hnx.out]; exact hA.out.below belA), belA⟩
        case measure => simp [intOf]; omega
      · have he : Hid (eq3 tn n (leastI n tn E) tn n E = true) := Lib.hid (by simp only [beq_iff_eq] at hp; simp [eq3, hp])
        cases hf : freeB n E gs
        · have hnx : Hid (spTo tn n te gs (k + 1) = spTo tn n te gs k) := Lib.hid (spTo_f2 (by rw [HS.out]; exact hf))
          have HQ := Lib.hid hf
          clear hp hf
          have hsub := HU.out
          have hsh := HV.out
          have hE := HE.out
          go_wp2_with (first | (go_at_call 137; refine Calls.mono (PH.out _) ?_; rintro e w1 ⟨rfl, rfl⟩))
          clear hsub hsh hE
          have he' := he.out
          (refine wp_region_held_drew (S := (fun w' => w'.cell? ⟨wr.heap.size, 0, none⟩ = some (.int .i64 tn) ∧ w'.cell? ⟨wr.heap.size, 1, none⟩ = some (.int .i64 n) ∧ w'.cell? ⟨wr.heap.size, 2, none⟩ = some (.int .u32 E))) (by kernel_rfl) ?_ (fun hHeld => ?_); (focus (simp [*, go_sem])); refine rt 0 (some 38) (v := ?_) rfl rfl ?_ ?_; rotate_left; (focus (intro w' hSw; (try dsimp only at hSw); go_simp; (try with_reducible rfl))); (try simp only [Act.put, nA, nB, nC]); refine rt 2 (some 40) (v := ?_) rfl rfl ?_ ?_; rotate_left; (focus (intro w' hSw; (try dsimp only at hSw); go_simp; (try with_reducible rfl))); (try simp only [Act.put, nA, nB, nC]); refine wpAnyH_ready (rs := [1]) (by kernel_rfl) (by simp) ?_; refine AllReadyH.cons rfl (fun K hK => ?_) AllReadyH.nil; go_simp; (go_at_call 75; refine Calls.mono (l03Least_e _ n tn E hn hkn HO.out) ?_; rintro e w1 ⟨rfl, hb⟩; obtain ⟨X1, m1, rfl⟩ := plsOf hb; clear hb); go_wp2_with fail; refine hK.out _ _ ?_ (fun hHeld => ?_); (focus (simp [*, go_sem])); clear hK K; (try simp only [Act.put, nA, nB, nC]); refine rt 3 (some 41) (v := ?_) rfl rfl ?_ ?_; rotate_left; (focus (intro w' hSw; (try dsimp only at hSw); go_simp; (try with_reducible rfl))); (try simp only [Act.put, nA, nB, nC]); refine rt 4 (some 42) (v := ?_) rfl rfl ?_ ?_; rotate_left; (focus (intro w' hSw; (try dsimp only at hSw); go_simp; (try with_reducible rfl))); (try simp only [Act.put, nA, nB, nC]); refine rt 5 (some 43) (v := ?_) rfl rfl ?_ ?_; rotate_left; (focus (intro w' hSw; (try dsimp only at hSw); go_simp; (try with_reducible rfl))); (try simp only [Act.put, nA, nB, nC]); refine rt 6 (some 44) (v := ?_) rfl rfl ?_ ?_; rotate_left; (focus (intro w' hSw; (try dsimp only at hSw); go_simp; (try with_reducible rfl))); (try simp only [Act.put, nA, nB, nC]); refine rt 7 (some 45) (v := ?_) rfl rfl ?_ ?_; rotate_left; (focus (intro w' hSw; (try dsimp only at hSw); go_simp; (try with_reducible rfl))); (try simp only [Act.put, nA, nB, nC]); refine wpAnyH_ready (rs := [8]) (by kernel_rfl) (by simp) ?_; refine AllReadyH.cons rfl (fun K hK => ?_) AllReadyH.nil; go_simp; (go_at_call 196; refine Calls.mono (HF.out _ belA) ?_; rw [HQ.out]; rintro e w1 ⟨rfl, hb⟩; obtain ⟨X, m, rfl⟩ := plsOf hb; clear hb); go_wp2_with fail; refine hK.out _ _ ?_ (fun hHeld => ?_); (focus (simp [*, go_sem])); clear hK K; (try simp only [Act.put, nA, nB, nC]); refine rt 9 (some 47) (v := ?_) rfl rfl ?_ ?_; rotate_left; (focus (intro w' hSw; (try dsimp only at hSw); go_simp; (try with_reducible rfl))); (try simp only [Act.put, nA, nB, nC]); refine wpAnyH_done (by kernel_rfl) ?_ _)
          clear hHeld
          go_wp2_with fail
          go_roundw
          case rel => 
            have b0 := B0.out
            exact ⟨k + 1, by omega, by go_num, blkA, Lib.hid (by rw [hnx.out]; exact hA.out.below belA), belA⟩
          case measure => simp [intOf]; omega
        · have hnx : Hid ((spTo tn n te gs (k + 1)).map (sfOf tn n) = (spTo tn n te gs k).map (sfOf tn n) ++ [sfOf tn n E]) := Lib.hid (by rw [spTo_t (by rw [HS.out]; exact hp) (by rw [HS.out]; exact hf), HS.out, List.map_append]; rfl)
          have HQ := Lib.hid hf
          clear hp hf
          have hsub := HU.out
          have hsh := HV.out
          have hE := HE.out
          go_wp2_with (first | (go_at_call 137; refine Calls.mono (PH.out _) ?_; rintro e w1 ⟨rfl, rfl⟩))
          clear hsub hsh hE
          have he' := he.out
          (refine wp_region_held_drew (S := (fun w' => w'.cell? ⟨wr.heap.size, 0, none⟩ = some (.int .i64 tn) ∧ w'.cell? ⟨wr.heap.size, 1, none⟩ = some (.int .i64 n) ∧ w'.cell? ⟨wr.heap.size, 2, none⟩ = some (.int .u32 E))) (by kernel_rfl) ?_ (fun hHeld => ?_); (focus (simp [*, go_sem])); refine rt 0 (some 38) (v := ?_) rfl rfl ?_ ?_; rotate_left; (focus (intro w' hSw; (try dsimp only at hSw); go_simp; (try with_reducible rfl))); (try simp only [Act.put, nA, nB, nC]); refine rt 2 (some 40) (v := ?_) rfl rfl ?_ ?_; rotate_left; (focus (intro w' hSw; (try dsimp only at hSw); go_simp; (try with_reducible rfl))); (try simp only [Act.put, nA, nB, nC]); refine wpAnyH_ready (rs := [1]) (by kernel_rfl) (by simp) ?_; refine AllReadyH.cons rfl (fun K hK => ?_) AllReadyH.nil; go_simp; (go_at_call 75; refine Calls.mono (l03Least_e _ n tn E hn hkn HO.out) ?_; rintro e w1 ⟨rfl, hb⟩; obtain ⟨X1, m1, rfl⟩ := plsOf hb; clear hb); go_wp2_with fail; refine hK.out _ _ ?_ (fun hHeld => ?_); (focus (simp [*, go_sem])); clear hK K; (try simp only [Act.put, nA, nB, nC]); refine rt 3 (some 41) (v := ?_) rfl rfl ?_ ?_; rotate_left; (focus (intro w' hSw; (try dsimp only at hSw); go_simp; (try with_reducible rfl))); (try simp only [Act.put, nA, nB, nC]); refine rt 4 (some 42) (v := ?_) rfl rfl ?_ ?_; rotate_left; (focus (intro w' hSw; (try dsimp only at hSw); go_simp; (try with_reducible rfl))); (try simp only [Act.put, nA, nB, nC]); refine rt 5 (some 43) (v := ?_) rfl rfl ?_ ?_; rotate_left; (focus (intro w' hSw; (try dsimp only at hSw); go_simp; (try with_reducible rfl))); (try simp only [Act.put, nA, nB, nC]); refine rt 6 (some 44) (v := ?_) rfl rfl ?_ ?_; rotate_left; (focus (intro w' hSw; (try dsimp only at hSw); go_simp; (try with_reducible rfl))); (try simp only [Act.put, nA, nB, nC]); refine rt 7 (some 45) (v := ?_) rfl rfl ?_ ?_; rotate_left; (focus (intro w' hSw; (try dsimp only at hSw); go_simp; (try with_reducible rfl))); (try simp only [Act.put, nA, nB, nC]); refine wpAnyH_ready (rs := [8]) (by kernel_rfl) (by simp) ?_; refine AllReadyH.cons rfl (fun K hK => ?_) AllReadyH.nil; go_simp; (go_at_call 196; refine Calls.mono (HF.out _ belA) ?_; rw [HQ.out]; rintro e w1 ⟨rfl, hb⟩; obtain ⟨X, m, rfl⟩ := plsOf hb; clear hb); go_wp2_with fail; refine hK.out _ _ ?_ (fun hHeld => ?_); (focus (simp [*, go_sem])); clear hK K; (try simp only [Act.put, nA, nB, nC]); refine rt 9 (some 47) (v := ?_) rfl rfl ?_ ?_; rotate_left; (focus (intro w' hSw; (try dsimp only at hSw); go_simp; (try with_reducible rfl))); (try simp only [Act.put, nA, nB, nC]); refine wpAnyH_done (by kernel_rfl) ?_ _)
          clear hHeld he'
          obtain ⟨W0, rfl⟩ : ∃ x, x = wr := ⟨_, rfl⟩
          have hlen := spTo_len tn n te gs k
          have hml : List.length (α := shFlag.T) ((spTo tn n te gs k).map (sfOf tn n)) = (spTo tn n te gs k).length := List.length_map _
          have HML := Lib.hid hml
          have hW : Below W0.heap.size W0 ((pls (W0.alloc (.cells #[.int .i64 tn, .int .i64 n, .int .u32 E] 81)) (X1 ++ X) m).alloc (.cells #[.int .i64 tn, .int .i64 n, .int .u32 E] 81)) := belA
          obtain ⟨L, hown0, hnext⟩ := AppS.flat flatFlag (hA.out.below hW)
          rw [hml] at hown0 hnext
          have HGE := Lib.hid hA.out.ge
          have HW := Lib.hid hW
          have HO2 := Lib.hid hown0
          have HX := Lib.hid hnext
          clear hW hown0 hnext hml
          obtain ⟨K, hKl, HK⟩ : ∃ K : Nat, K ≤ 1024 ∧ Hid ((spTo tn n te gs k).length = K) := ⟨_, by omega, Lib.hid rfl⟩
          rw [HK.out] at HO2 HX
          go_wp2_with (at_builtin; refine wpList_append_lies _ rfl (.tmp 48) (.tmp 50) 102 rfl (w.heap.size + 1) 81 i1 z1 3 24 Tryz.underlying102 I1.out Z1.out hs1 hb1 hl1 (by decide) _ K L rfl HO2.out ⟨_, 0, none⟩ 1 1 [.int .i64 tn, .int .i64 n, .int .u32 E] rfl rfl (World.news_of_block (blknew' _ _ _ (by simp <;> omega))) (by simp [Value.oneCell']) (by decide) (by unfold maxLen; omega) (by omega) (by simp; omega) _ rfl ?_; intro g1 cap2 w2 hown hgrow hat hlt3)
          go_roundw
          case rel =>
            have hN := HX.out (sfOf tn n E) ⟨okN (by omega), okN (by omega), HO.out⟩ g1 cap2 w2 hown hgrow hat
            have hb2 := grown_below (B := w.heap.size + 1) hgrow (fun q hq => (HGE.out q hq).1) (by simp; omega)
            have hW2 := HW.out
            refine ⟨k + 1, by omega, by go_num, bblk hb2 (by omega) (by have b0 := B0.out; exact blkA), Lib.hid (by rw [hnx.out]; exact hN), (bthen hB hW2).trans (hb2.mono (by omega))⟩
          case measure => simp [intOf]; omega
    · have e : k = N := by omega
      subst e
      obtain ⟨A2, cap2, F2, rfl, hO2⟩ := hA.out.own
      have hO2 := Lib.hid (hO2.below (B' := w.heap.size) (by omega) (Below.refl _ _))
      have hml : Hid (List.length (α := shFlag.T) ((spTo tn n te gs k).map (sfOf tn n)) = (spTo tn n te gs k).length) := Lib.hid (List.length_map _)
      clear hA
      have hsub := HU.out
      have hsh := HV.out
      go_wp2_with (first | (go_at_call 137; refine Calls.mono (PH.out _) ?_; rintro e w1 ⟨rfl, rfl⟩))
      refine bodyPost_ret (v := .slice A2 (spTo tn n te gs k).length cap2) (by simp [results, Tryz.results146, go_sem]) rfl ⟨A2, cap2, F2, ?_, ?_, hB⟩
      · exact congrArg (fun l => Ending.returned (.slice A2 l cap2)) hml.out.symm
      · have := hO2.out
        exact this
end Go.Proofs.YtpcjinbbgnmchaaGreat
