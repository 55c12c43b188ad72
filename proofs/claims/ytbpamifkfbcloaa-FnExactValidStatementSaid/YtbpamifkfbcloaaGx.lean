/- Pairs of vertices: impl.bit, impl.Graph.has, spec.l01Bit, spec.l01Joined. -/
import Derived.Test.YtbpamifkfbcloaaGr
import Derived.Test.YtbpamifkfbcloaaSl
import Derived.OpenShut
import Derived.Deep.AppendLies
import Derived.Deep.RegionLaw
namespace Go.Proofs.Ytbpamifkfbcloaa
open Go.ChangeShapes Go.WideShapes Go.RowKit
set_option linter.unusedVariables false
set_option linter.unusedSimpArgs false
attribute [local irreducible] Calls
/-- The bit of a pair. -/
def bitN (i j : Int) : Int := ((2 ^ (j.toNat * (j.toNat - 1) / 2 + i.toNat) : Nat) : Int)
def bitI (i j : Int) : Int := if i ≤ j then bitN i j else bitN j i
theorem small5 {n : Int} (h : 0 ≤ n ∧ n ≤ 4) : n = 0 ∨ n = 1 ∨ n = 2 ∨ n = 3 ∨ n = 4 := by omega
theorem pairs_0 (w : World) : Calls Try.prog 99 #[.int .i64 0] w fun e0 w' => e0 = .returned (.int .i64 0) ∧ w = w' := pairs_any 0 w (by decide)
theorem l01Bits_0 (w : World) : Calls Try.prog 106 #[.int .i64 0] w fun e0 w' => e0 = .returned (.int .i64 0) ∧ w = w' := l01Bits_any 0 w (by decide)
theorem pairs_1 (w : World) : Calls Try.prog 99 #[.int .i64 1] w fun e0 w' => e0 = .returned (.int .i64 0) ∧ w = w' := pairs_any 1 w (by decide)
theorem l01Bits_1 (w : World) : Calls Try.prog 106 #[.int .i64 1] w fun e0 w' => e0 = .returned (.int .i64 0) ∧ w = w' := l01Bits_any 1 w (by decide)
theorem pairs_2 (w : World) : Calls Try.prog 99 #[.int .i64 2] w fun e0 w' => e0 = .returned (.int .i64 1) ∧ w = w' := pairs_any 2 w (by decide)
theorem l01Bits_2 (w : World) : Calls Try.prog 106 #[.int .i64 2] w fun e0 w' => e0 = .returned (.int .i64 1) ∧ w = w' := l01Bits_any 2 w (by decide)
theorem pairs_3 (w : World) : Calls Try.prog 99 #[.int .i64 3] w fun e0 w' => e0 = .returned (.int .i64 3) ∧ w = w' := pairs_any 3 w (by decide)
theorem l01Bits_3 (w : World) : Calls Try.prog 106 #[.int .i64 3] w fun e0 w' => e0 = .returned (.int .i64 3) ∧ w = w' := l01Bits_any 3 w (by decide)
theorem pairs_4 (w : World) : Calls Try.prog 99 #[.int .i64 4] w fun e0 w' => e0 = .returned (.int .i64 6) ∧ w = w' := pairs_any 4 w (by decide)
theorem l01Bits_4 (w : World) : Calls Try.prog 106 #[.int .i64 4] w fun e0 w' => e0 = .returned (.int .i64 6) ∧ w = w' := l01Bits_any 4 w (by decide)
theorem bit_any (i j : Int) (w : World) (hi : 0 ≤ i ∧ i ≤ 4) (hj : 0 ≤ j ∧ j ≤ 4) : Calls Try.prog 127 #[.int .i64 i, .int .i64 j] w fun e0 w' => e0 = .returned (.int .u32 (bitI i j)) ∧ w = w' := by
  rcases small5 hi with rfl | rfl | rfl | rfl | rfl <;> rcases small5 hj with rfl | rfl | rfl | rfl | rfl
  all_goals
    go_enter Try.func127, Try.ntmps127
    go_wp2_with (first | (go_at_call 99; refine Calls.mono (pairs_0 _) ?_; rintro e w1 ⟨rfl, rfl⟩) | (go_at_call 99; refine Calls.mono (pairs_1 _) ?_; rintro e w1 ⟨rfl, rfl⟩) | (go_at_call 99; refine Calls.mono (pairs_2 _) ?_; rintro e w1 ⟨rfl, rfl⟩) | (go_at_call 99; refine Calls.mono (pairs_3 _) ?_; rintro e w1 ⟨rfl, rfl⟩) | (go_at_call 99; refine Calls.mono (pairs_4 _) ?_; rintro e w1 ⟨rfl, rfl⟩))
    go_ret
    exact ⟨rfl, rfl⟩
theorem l01Bit_le (i j : Int) (w : World) (hi : 0 ≤ i ∧ i ≤ 4) (hj : 0 ≤ j ∧ j ≤ 4) (h : i ≤ j) : Calls Try.prog 108 #[.int .i64 i, .int .i64 j] w fun e0 w' => e0 = .returned (.int .u32 (bitN i j)) ∧ w = w' := by
  rcases small5 hi with rfl | rfl | rfl | rfl | rfl <;> rcases small5 hj with rfl | rfl | rfl | rfl | rfl
  all_goals first
    | (exfalso; revert h; decide)
    | (go_enter Try.func108, Try.ntmps108
       go_wp2_with (first | (go_at_call 106; refine Calls.mono (l01Bits_0 _) ?_; rintro e w1 ⟨rfl, rfl⟩) | (go_at_call 106; refine Calls.mono (l01Bits_1 _) ?_; rintro e w1 ⟨rfl, rfl⟩) | (go_at_call 106; refine Calls.mono (l01Bits_2 _) ?_; rintro e w1 ⟨rfl, rfl⟩) | (go_at_call 106; refine Calls.mono (l01Bits_3 _) ?_; rintro e w1 ⟨rfl, rfl⟩) | (go_at_call 106; refine Calls.mono (l01Bits_4 _) ?_; rintro e w1 ⟨rfl, rfl⟩))
       go_ret
       exact ⟨rfl, rfl⟩)
theorem l01Bit_any (i j : Int) (w : World) (hi : 0 ≤ i ∧ i ≤ 4) (hj : 0 ≤ j ∧ j ≤ 4) : Calls Try.prog 108 #[.int .i64 i, .int .i64 j] w fun e0 w' => e0 = .returned (.int .u32 (bitI i j)) ∧ w = w' := by
  by_cases h : i ≤ j
  · rw [show bitI i j = bitN i j from if_pos h]
    exact l01Bit_le i j w hi hj h
  · rw [show bitI i j = bitN j i from if_neg h]
    go_enter Try.func108, Try.ntmps108
    go_wp2_with (first | (go_at_call 108; refine Calls.mono (l01Bit_le _ _ _ hj hi (by omega)) ?_; rintro e w1 ⟨rfl, rfl⟩))
    go_ret
    exact ⟨rfl, rfl⟩
/-- Whether a pair is joined; a pair joined more. -/
def hasE (e i j : Int) : Bool := bits .and .u32 e (bitI i j) != 0
def setE (e i j : Int) : Int := bits .or .u32 e (bitI i j)
theorem has_any (n e i j : Int) (w : World) (hi : 0 ≤ i ∧ i ≤ 4) (hj : 0 ≤ j ∧ j ≤ 4) : Calls Try.prog 112 #[.agg #[.int .i64 n, .int .u32 e], .int .i64 i, .int .i64 j] w fun e0 w' => e0 = .returned (.bool (hasE e i j)) ∧ Below w.heap.size w w' := by
  go_enter Try.func112, Try.ntmps112
  go_wp2_with fail
  go_quiet (first | (go_at_call 127; exact qsv (u := .int .u32 (bitI i j)) (bit_any i j _ hi hj) rfl))
  go_wp2_with fail
  exact bodyPost_ret (v := .bool (bits .and .u32 e (bitI i j) != 0)) (by simp [results, Try.results112, go_sem]) rfl ⟨rfl, (by (try with_reducible refine bsz ?_); repeat (first | with_reducible exact Below.refl _ _ | ((with_reducible refine bpre ?_); (try simp only [Array.append_assoc]); repeat (first | with_reducible exact Pre.refl _ | with_reducible exact Pre.base _ _ | with_reducible refine Pre.cons _ ?_)) | with_reducible assumption | ((with_reducible refine bsetr ?_); rfl) | with_reducible refine Below.setCell ?_ (by simp <;> omega) _ | with_reducible refine bpl ?_ _ _ | with_reducible refine bal ?_ _ | with_reducible refine bdrew1 ?_ | with_reducible refine bdrew ?_ _))⟩
theorem l01Joined_any (n e i j : Int) (w : World) (hi : 0 ≤ i ∧ i ≤ 4) (hj : 0 ≤ j ∧ j ≤ 4) (hij : i ≠ j) : Calls Try.prog 107 #[.agg #[.int .i64 n, .int .u32 e], .int .i64 i, .int .i64 j] w fun e0 w' => e0 = .returned (.bool (hasE e i j)) ∧ Below w.heap.size w w' := by
  have h1 : (i != j) = true := by simpa using hij
  go_enter Try.func107, Try.ntmps107
  go_wp2_with fail
  go_quiet (first | (go_at_call 108; exact qsv (u := .int .u32 (bitI i j)) (l01Bit_any i j _ hi hj) rfl))
  go_wp2_with fail
  exact bodyPost_ret (v := .bool (bits .and .u32 e (bitI i j) != 0)) (by simp [results, Try.results107, go_sem]) rfl ⟨rfl, (by (try with_reducible refine bsz ?_); repeat (first | with_reducible exact Below.refl _ _ | ((with_reducible refine bpre ?_); (try simp only [Array.append_assoc]); repeat (first | with_reducible exact Pre.refl _ | with_reducible exact Pre.base _ _ | with_reducible refine Pre.cons _ ?_)) | with_reducible assumption | ((with_reducible refine bsetr ?_); rfl) | with_reducible refine Below.setCell ?_ (by simp <;> omega) _ | with_reducible refine bpl ?_ _ _ | with_reducible refine bal ?_ _ | with_reducible refine bdrew1 ?_ | with_reducible refine bdrew ?_ _))⟩
/-! Graphs made pair by pair -/
def rowE (P : Nat → Nat → Bool) (j : Nat) : Nat → Int → Int
  | 0, a => a
  | i + 1, a => if P i j then setE (rowE P j i a) i j else rowE P j i a
def madeE (P : Nat → Nat → Bool) : Nat → Int
  | 0 => 0
  | j + 1 => rowE P j j (madeE P j)
theorem okE {e : Int} (h : okI .u32 e) : 0 ≤ e ∧ e ≤ 4294967295 := by simp [okI, Lit.wf] at h; exact h
theorem rowE_ok (P : Nat → Nat → Bool) (j i : Nat) {a : Int} (h : okI .u32 a) : okI .u32 (rowE P j i a) := by
  induction i with
  | zero => exact h
  | succ i ih =>
    unfold rowE
    split
    · exact wf_bits _ _ _ _
    · exact ih
theorem madeE_ok (P : Nat → Nat → Bool) (n : Nat) : okI .u32 (madeE P n) := by
  induction n with
  | zero => exact (by decide : okI .u32 0)
  | succ n ih => exact rowE_ok P n n ih
theorem rowE_congr {P Q : Nat → Nat → Bool} {j : Nat} (h : ∀ i, i < j → P i j = Q i j) (i : Nat) (hi : i ≤ j) (a : Int) : rowE P j i a = rowE Q j i a := by
  induction i with
  | zero => rfl
  | succ i ih => simp only [rowE]; rw [ih (by omega), h i (by omega)]
theorem madeE_congr {P Q : Nat → Nat → Bool} {n : Nat} (h : ∀ i j, i < j → j < n → P i j = Q i j) : madeE P n = madeE Q n := by
  induction n with
  | zero => rfl
  | succ n ih => simp only [madeE]; rw [ih (fun i j h1 h2 => h i j h1 (by omega)), rowE_congr (fun i hi => h i n hi (by omega)) n (Nat.le_refl _)]
theorem blkset21 {w : World} {k : Nat} {t : TypeId} {u v : Value} (h : w.heap[k]? = some (.cells #[u, v] t (0, 0))) (b : Value) : (w.setCell ⟨k, 1, none⟩ b).heap[k]? = some (.cells #[u, b] t (0, 0)) := blkset0 h 1 b
set_option maxHeartbeats 1000000 in
theorem made_any (w : World) (n : Nat) (hn : n ≤ 5) (f : FuncId) (caps : Array Value) (P : Nat → Nat → Bool) (eg : ∀ args w, (callFunc f args).run Try.prog w = .ok (.enter f args) w)
    (hP : ∀ (W : World) (i j : Nat), i < j → j < n → Below w.heap.size w W → Calls Try.prog f (#[.int .i64 i, .int .i64 j] ++ caps) W fun e W' => e = .returned (.bool (P i j)) ∧ Below W.heap.size W W') :
    Calls Try.prog 110 #[.int .i64 n, .func (.func f) #[] caps] w fun e w' => e = .returned (.agg #[.int .i64 n, .int .u32 (madeE P n)]) ∧ Below w.heap.size w w' := by
  have HP := Lib.hid hP
  clear hP
  go_enter Try.func110, Try.ntmps110
  go_wp2_with fail
  go_loopw [11] (fun i wr => ∃ (k : Nat), k ≤ n ∧ i = .int .i64 k ∧ wr.heap[w.heap.size + 1]? = some (.cells #[.int .i64 n, .int .u32 (madeE P k)] 27 (0, 0)) ∧ (∃ u v, wr.heap[w.heap.size]? = some (.cells #[u, v] 27 (0, 0))) ∧ Below w.heap.size w wr) (fun i _ => n - (intOf i).toNat)
  case atStart => exact ⟨0, Nat.zero_le _, rfl, (by rw [show madeE P 0 = 0 from rfl]; exact (by repeat (first | with_reducible assumption | with_reducible refine pls_block _ _ ?_ | with_reducible apply blkset2 | with_reducible apply blkset1 | ((with_reducible refine blksetN ?_ ?_ _); (focus (simp <;> omega))) | with_reducible exact blknew _ _ | ((with_reducible refine blknew' _ _ _ ?_); (simp <;> omega)) | with_reducible refine blkal ?_ _))), ⟨_, _, (by repeat (first | with_reducible assumption | with_reducible refine pls_block _ _ ?_ | with_reducible apply blkset2 | with_reducible apply blkset1 | ((with_reducible refine blksetN ?_ ?_ _); (focus (simp <;> omega))) | with_reducible exact blknew _ _ | ((with_reducible refine blknew' _ _ _ ?_); (simp <;> omega)) | with_reducible refine blkal ?_ _))⟩, (by (try with_reducible refine bsz ?_); repeat (first | with_reducible exact Below.refl _ _ | ((with_reducible refine bpre ?_); (try simp only [Array.append_assoc]); repeat (first | with_reducible exact Pre.refl _ | with_reducible exact Pre.base _ _ | with_reducible refine Pre.cons _ ?_)) | with_reducible assumption | ((with_reducible refine bsetr ?_); rfl) | with_reducible refine Below.setCell ?_ (by simp <;> omega) _ | with_reducible refine bpl ?_ _ _ | with_reducible refine bal ?_ _ | with_reducible refine bdrew1 ?_ | with_reducible refine bdrew ?_ _))⟩
  case round =>
    obtain ⟨k, hk, rfl, b0, ⟨u0, v0, b1⟩, hB⟩ := hrel
    obtain ⟨s0, s1, f0, f1⟩ := blk2 b0
    obtain ⟨s2, s3, f2, f3⟩ := blk2 b1
    have z0 := blklt b0
    have z1 := blklt b1
    by_cases hlt : k < n
    · have hk8 : (k : Int) < 9223372036854775807 := by omega
      have B0 := Lib.hid b0
      have B1 := Lib.hid b1
      clear b0 b1
      go_wp2_with fail
      have b0 := B0.out
      have b1 := B1.out
      have HB := Lib.hid hB
      obtain ⟨W0, rfl⟩ : ∃ x, x = wr := ⟨_, rfl⟩
      go_loopw [15] (fun i wr => ∃ (l : Nat), l ≤ k ∧ i = .int .i64 l ∧ wr.heap[w.heap.size + 1]? = some (.cells #[.int .i64 n, .int .u32 (rowE P k l (madeE P k))] 27 (0, 0)) ∧ wr.heap[w.heap.size]? = some (.cells #[u0, v0] 27 (0, 0)) ∧ Below w.heap.size w wr) (fun i _ => k - (intOf i).toNat)
      case atStart => exact ⟨0, Nat.zero_le _, rfl, b0, b1, hB⟩
      case round =>
        clear s0 s1 s2 s3 f0 f1 f2 f3 z0 z1 b0 b1 B0 B1 hB HB
        obtain ⟨l, hl, rfl, b0, b1, hB⟩ := hrel
        obtain ⟨s0, s1, f0, f1⟩ := blk2 b0
        have z0 := blklt b0
        have z1 := blklt b1
        have B0 := Lib.hid b0
        have B1 := Lib.hid b1
        clear b0 b1
        by_cases hlt2 : l < k
        · have hl8 : (l : Int) < 9223372036854775807 := by omega
          cases hp : P l k
          · have hr : Hid (rowE P k (l + 1) (madeE P k) = rowE P k l (madeE P k)) := Lib.hid (by simp [rowE, hp])
            go_wp2_with fail
            refine Calls.mono (HP.out _ l k hlt2 hlt hB) ?_
            rw [hp]
            rintro e w1 ⟨rfl, hb⟩
            obtain ⟨X, m, rfl⟩ := plsOf hb
            clear hb
            go_wp2_with fail
            go_roundw
            case rel =>
              have b0 := B0.out
              have b1 := B1.out
              exact ⟨l + 1, by omega, by go_num, by rw [hr.out]; exact (by repeat (first | with_reducible assumption | with_reducible refine pls_block _ _ ?_ | with_reducible apply blkset2 | with_reducible apply blkset1 | ((with_reducible refine blksetN ?_ ?_ _); (focus (simp <;> omega))) | with_reducible exact blknew _ _ | ((with_reducible refine blknew' _ _ _ ?_); (simp <;> omega)) | with_reducible refine blkal ?_ _)), (by repeat (first | with_reducible assumption | with_reducible refine pls_block _ _ ?_ | with_reducible apply blkset2 | with_reducible apply blkset1 | ((with_reducible refine blksetN ?_ ?_ _); (focus (simp <;> omega))) | with_reducible exact blknew _ _ | ((with_reducible refine blknew' _ _ _ ?_); (simp <;> omega)) | with_reducible refine blkal ?_ _)), (by (try with_reducible refine bsz ?_); repeat (first | with_reducible exact Below.refl _ _ | ((with_reducible refine bpre ?_); (try simp only [Array.append_assoc]); repeat (first | with_reducible exact Pre.refl _ | with_reducible exact Pre.base _ _ | with_reducible refine Pre.cons _ ?_)) | with_reducible assumption | ((with_reducible refine bsetr ?_); rfl) | with_reducible refine Below.setCell ?_ (by simp <;> omega) _ | with_reducible refine bpl ?_ _ _ | with_reducible refine bal ?_ _ | with_reducible refine bdrew1 ?_ | with_reducible refine bdrew ?_ _))⟩
            case measure => simp [intOf]; omega
          · have hr : Hid (rowE P k (l + 1) (madeE P k) = setE (rowE P k l (madeE P k)) l k) := Lib.hid (by simp [rowE, hp])
            go_wp2_with fail
            refine Calls.mono (HP.out _ l k hlt2 hlt hB) ?_
            rw [hp]
            rintro e w1 ⟨rfl, hb⟩
            obtain ⟨X, m, rfl⟩ := plsOf hb
            clear hb
            go_wp2_with fail
            go_region_law (first | (go_simp; go_at_call 127; refine Calls.mono (bit_any l k _ (by omega) (by omega)) ?_; rintro e w1 ⟨rfl, rfl⟩))
            all_goals (go_wp2_with fail)
            all_goals (
              go_roundw
              case rel =>
                have b0 := B0.out
                have b1 := B1.out
                exact ⟨l + 1, by omega, by go_num, by rw [hr.out]; (repeat (first | with_reducible refine pls_block _ _ ?_ | exact blkset21 b0 _)), (by repeat (first | with_reducible assumption | with_reducible refine pls_block _ _ ?_ | with_reducible apply blkset2 | with_reducible apply blkset1 | ((with_reducible refine blksetN ?_ ?_ _); (focus (simp <;> omega))) | with_reducible exact blknew _ _ | ((with_reducible refine blknew' _ _ _ ?_); (simp <;> omega)) | with_reducible refine blkal ?_ _)), (by (try with_reducible refine bsz ?_); repeat (first | with_reducible exact Below.refl _ _ | ((with_reducible refine bpre ?_); (try simp only [Array.append_assoc]); repeat (first | with_reducible exact Pre.refl _ | with_reducible exact Pre.base _ _ | with_reducible refine Pre.cons _ ?_)) | with_reducible assumption | ((with_reducible refine bsetr ?_); rfl) | with_reducible refine Below.setCell ?_ (by simp <;> omega) _ | with_reducible refine bpl ?_ _ _ | with_reducible refine bal ?_ _ | with_reducible refine bdrew1 ?_ | with_reducible refine bdrew ?_ _))⟩
              case measure => simp [intOf]; omega)
        · have e : l = k := by omega
          subst e
          go_wp2_with fail
          go_roundw
          case rel => exact ⟨l + 1, by omega, by go_num, B0.out, ⟨_, _, B1.out⟩, hB⟩
          case measure => simp [intOf]; omega
    · have e : k = n := by omega
      subst e
      go_wp2_with fail
      exact bodyPost_ret (v := .agg #[.int .i64 k, .int .u32 (madeE P k)]) (by simp [results, Try.results110, go_sem, *]) rfl ⟨rfl, (by (try with_reducible refine bsz ?_); repeat (first | with_reducible exact Below.refl _ _ | ((with_reducible refine bpre ?_); (try simp only [Array.append_assoc]); repeat (first | with_reducible exact Pre.refl _ | with_reducible exact Pre.base _ _ | with_reducible refine Pre.cons _ ?_)) | with_reducible assumption | ((with_reducible refine bsetr ?_); rfl) | with_reducible refine Below.setCell ?_ (by simp <;> omega) _ | with_reducible refine bpl ?_ _ _ | with_reducible refine bal ?_ _ | with_reducible refine bdrew1 ?_ | with_reducible refine bdrew ?_ _))⟩
/-! A list of vertices -/
def gi (L : List Int) (i : Nat) : Int := L[i]?.getD 0
theorem lstI {w : World} {L : List Int} {v : Value} (h : Lst (shI .i64) w L v) : ∃ (A : Option Addr) (cap : Nat), v = .slice A L.length cap ∧ L.length ≤ cap ∧ cap ≤ maxLen ∧
    (0 < L.length → ∃ (bl off : Nat), A = some ⟨bl, off, none⟩ ∧ ∀ i, i < L.length → w.cell? ⟨bl, off + i, none⟩ = some (.int .i64 (gi L i))) := by
  obtain ⟨A, cap, e, hc, hm, hel⟩ := rep_slice h
  refine ⟨A, cap, e, hc, hm, fun hp => ?_⟩
  obtain ⟨bl, off, e2, hel⟩ := hel hp
  refine ⟨bl, off, e2, fun i hi => ?_⟩
  obtain ⟨h1, h2⟩ := flat_el (flat_int .i64) hel hi
  have h3 := h2 0 (by decide)
  simp only [Nat.mul_one, Nat.add_zero] at h3
  rw [h3]
  have e3 : gi L i = L[i] := by simp [gi, List.getElem?_eq_getElem hi]
  rw [e3]; rfl
theorem formI {w : World} {L : List Int} {v : Value} (h : Lst (shI .i64) w L v) : ∃ (A : Option Addr) (cap : Nat), v = .slice A L.length cap ∧ L.length ≤ cap ∧ cap ≤ maxLen := by
  obtain ⟨A, cap, e, hc, hm, _⟩ := lstI h
  exact ⟨A, cap, e, hc, hm⟩
/-- Some vertices, all different. -/
def VL (L : List Int) : Prop := L.length ≤ 5 ∧ (∀ i, i < L.length → 0 ≤ gi L i ∧ gi L i ≤ 4) ∧ ∀ i j, i < j → j < L.length → gi L i ≠ gi L j
def vlB (L : List Int) : Bool := decide (L.length ≤ 5) && (List.range L.length).all fun i => (decide (0 ≤ gi L i) && decide (gi L i ≤ 4)) && (List.range i).all fun j => gi L j != gi L i
theorem VL.of {L : List Int} (h : vlB L = true) : VL L := by
  simp only [vlB, Bool.and_eq_true, decide_eq_true_eq, List.all_eq_true, List.mem_range, bne_iff_ne, ne_eq] at h
  exact ⟨h.1, fun i hi => (h.2 i hi).1, fun i j h1 h2 => (h.2 j h2).2 i h1⟩
/-- The edges of the graph on a list. -/
def onE (e : Int) (L : List Int) : Int := madeE (fun i j => hasE e (gi L i) (gi L j)) L.length
theorem on1 (W : World) (bg bo bl p o n cap i j : Nat) (m e : Int) (L : List Int) (hL : VL L) (hi : i < L.length) (hj : j < L.length) (hc : L.length ≤ cap)
    (h1 : W.cell? ⟨bg, 0, none⟩ = some (.int .i64 m)) (h2 : W.cell? ⟨bg, 1, none⟩ = some (.int .u32 e)) (h3 : W.cell? ⟨bo, 0, none⟩ = some (.slice (some ⟨p, o, none⟩) L.length cap))
    (h4 : W.cell? ⟨p, o + i, none⟩ = some (.int .i64 (gi L i))) (h5 : W.cell? ⟨p, o + j, none⟩ = some (.int .i64 (gi L j))) :
    Calls Try.prog 111 #[.int .i64 i, .int .i64 j, .pointer (some ⟨bg, 0, none⟩), .pointer (some ⟨bo, 0, none⟩)] W fun e0 W' => e0 = .returned (.bool (hasE e (gi L i) (gi L j))) ∧ Below W.heap.size W W' := by
  have z1 := World.block_lt_of_cell? _ _ h1
  have z3 := World.block_lt_of_cell? _ _ h3
  have z4 := World.block_lt_of_cell? _ _ h4
  simp only at z1 z3 z4
  have hi' : (i : Int) < (L.length : Int) := by omega
  have hj' : (j : Int) < (L.length : Int) := by omega
  have hvi := hL.2.1 i hi
  have hvj := hL.2.1 j hj
  clear hL
  go_enter Try.func111, Try.ntmps111
  go_wp2_with fail
  go_region_held3 (fun w' => w'.cell? ⟨bg, 0, none⟩ = some (.int .i64 m) ∧ w'.cell? ⟨bg, 1, none⟩ = some (.int .u32 e) ∧ w'.cell? ⟨bo, 0, none⟩ = some (.slice (some ⟨p, o, none⟩) L.length cap) ∧ w'.cell? ⟨p, o + i, none⟩ = some (.int .i64 (gi L i)) ∧ w'.cell? ⟨p, o + j, none⟩ = some (.int .i64 (gi L j))) (simp [*, go_sem]) (first | (go_at_call 112; refine Calls.mono (has_any m e _ _ _ hvi hvj) ?_; rintro e w1 ⟨rfl, hb⟩; obtain ⟨X, m, rfl⟩ := plsOf hb; clear hb))
  all_goals (go_wp2_with fail)
  all_goals (exact bodyPost_ret (v := .bool (hasE e (gi L i) (gi L j))) (by simp [results, Try.results111, go_sem]) rfl ⟨rfl, (by (try with_reducible refine bsz ?_); repeat (first | with_reducible exact Below.refl _ _ | ((with_reducible refine bpre ?_); (try simp only [Array.append_assoc]); repeat (first | with_reducible exact Pre.refl _ | with_reducible exact Pre.base _ _ | with_reducible refine Pre.cons _ ?_)) | with_reducible assumption | ((with_reducible refine bsetr ?_); rfl) | with_reducible refine Below.setCell ?_ (by simp <;> omega) _ | with_reducible refine bpl ?_ _ _ | with_reducible refine bal ?_ _ | with_reducible refine bdrew1 ?_ | with_reducible refine bdrew ?_ _))⟩)
theorem on_any (w : World) (m e : Int) (L : List Int) (v : Value) (h : Lst (shI .i64) w L v) (hL : VL L) :
    Calls Try.prog 80 #[.agg #[.int .i64 m, .int .u32 e], v] w fun e0 w' => e0 = .returned (.agg #[.int .i64 L.length, .int .u32 (onE e L)]) ∧ Below w.heap.size w w' := by
  have eg : ∀ args w, (callFunc 111 args).run Try.prog w = .ok (.enter 111 args) w := enters_of Try.func111 (by kernel_rfl) rfl
  have EG := Lib.hid eg
  clear eg
  obtain ⟨A, cap, rfl, hc, hm, hel⟩ := lstI h
  have H1 := Lib.hid hel
  have HL := Lib.hid hL
  have hl5 := hL.1
  clear hel hL
  unfold maxLen at hm
  go_enter Try.func80, Try.ntmps80
  go_wp2_with (first | (go_at_call 110; refine Calls.mono (made_any _ L.length hl5 _ _ (fun i j => hasE e (gi L i) (gi L j)) EG.out (fun W i j h1 h2 hB => by obtain ⟨bl, off, rfl, hel⟩ := H1.out (by omega); have h4 := hel i (by omega); have h5 := hel j h2; have zb := World.block_lt_of_cell? _ _ h4; refine on1 W w.heap.size (w.heap.size + 1) bl bl off L.length cap i j m e L HL.out (by omega) h2 hc ?_ ?_ ?_ ?_ ?_ <;> (refine bkeep hB ?_; simp [go_sem, *]))) ?_; rintro e w1 ⟨rfl, hb⟩; obtain ⟨X, m, rfl⟩ := plsOf hb; clear hb))
  exact bodyPost_ret (v := .agg #[.int .i64 L.length, .int .u32 (madeE (fun i j => hasE e (gi L i) (gi L j)) L.length)]) (by simp [results, Try.results80, go_sem]) rfl ⟨rfl, (by (try with_reducible refine bsz ?_); repeat (first | with_reducible exact Below.refl _ _ | ((with_reducible refine bpre ?_); (try simp only [Array.append_assoc]); repeat (first | with_reducible exact Pre.refl _ | with_reducible exact Pre.base _ _ | with_reducible refine Pre.cons _ ?_)) | with_reducible assumption | ((with_reducible refine bsetr ?_); rfl) | with_reducible refine Below.setCell ?_ (by simp <;> omega) _ | with_reducible refine bpl ?_ _ _ | with_reducible refine bal ?_ _ | with_reducible refine bdrew1 ?_ | with_reducible refine bdrew ?_ _))⟩
end Go.Proofs.Ytbpamifkfbcloaa
