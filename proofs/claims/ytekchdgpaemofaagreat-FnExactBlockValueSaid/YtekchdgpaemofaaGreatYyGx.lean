import Derived.BigGuardPart
import Derived.Deep.RegionHeld3
import Derived.OpenShut
import Derived.Deep.AppendLies
import Derived.Deep.RegionLaw
import Derived.OwnWalk
import Derived.Test.YtekchdgpaemofaaGreatYyFr2
import Derived.Test.YtekchdgpaemofaaGreatYySl
namespace Go.Proofs.YtekchdgpaemofaaGreat
open Go.RowKit
set_option linter.unusedVariables false
set_option linter.unusedSimpArgs false
attribute [local irreducible] Calls
def prN (n : Int) : Int := n * (n - 1) / 2
def limN (n : Int) : Int := if n ≤ 1 then 1 else if n = 2 then 2 else if n = 3 then 8 else if n = 4 then 64 else 1024
def grOk (n e : Int) : Bool := inB n 0 5 && decide (e < limN n)
theorem small6 {n : Int} (h : 0 ≤ n ∧ n ≤ 5) : n = 0 ∨ n = 1 ∨ n = 2 ∨ n = 3 ∨ n = 4 ∨ n = 5 := by omega
theorem pairs_any (n : Int) (w : World) (h : 0 ≤ n ∧ n ≤ 5) : Calls Tryz.prog 164 #[.int .i64 n] w fun e0 w' => e0 = .returned (.int .i64 (prN n)) ∧ w = w' := by
  rcases small6 h with rfl | rfl | rfl | rfl | rfl | rfl
  all_goals
    go_enter Tryz.func164, Tryz.ntmps164
    go_wp2
    go_ret
    exact ⟨rfl, rfl⟩
theorem l01Bits_any (n : Int) (w : World) (h : 0 ≤ n ∧ n ≤ 5) : Calls Tryz.prog 156 #[.int .i64 n] w fun e0 w' => e0 = .returned (.int .i64 (prN n)) ∧ w = w' := by
  rcases small6 h with rfl | rfl | rfl | rfl | rfl | rfl
  all_goals
    go_enter Tryz.func156, Tryz.ntmps156
    go_wp2
    go_ret
    exact ⟨rfl, rfl⟩
theorem ValidGraph_any (n e : Int) (w : World) (he : 0 ≤ e ∧ e ≤ 4294967295) : Calls Tryz.prog 81 #[.agg #[.int .i64 n, .int .u32 e]] w fun e0 w' => e0 = .returned (.bool (grOk n e)) ∧ Below w.heap.size w w' := by
  cases h : inB n 0 5
  · have hr : grOk n e = false := by simp [grOk, h]
    go_enter Tryz.func81, Tryz.ntmps81
    go_wp2
    go_quiet ((go_at_call 163; exact qsv (u := .bool false) (in_any _ _ _ _) (by rw [h])))
    go_wp2
    exact bodyPost_ret (v := .bool false) (by simp [results, Tryz.results81, go_sem]) rfl ⟨by rw [hr], belA⟩
  · have h2 := inB_iff.1 h
    rcases small6 h2 with rfl | rfl | rfl | rfl | rfl | rfl
    all_goals
      go_enter Tryz.func81, Tryz.ntmps81
      go_wp2
      go_quiet (first | (go_at_call 163; exact qsv (u := .bool true) (in_any _ _ _ _) (by rw [h])) | (go_at_call 164; first | exact qsv (u := .int .i64 0) (pairs_any _ _ h2) rfl | exact qsv (u := .int .i64 1) (pairs_any _ _ h2) rfl | exact qsv (u := .int .i64 3) (pairs_any _ _ h2) rfl | exact qsv (u := .int .i64 6) (pairs_any _ _ h2) rfl | exact qsv (u := .int .i64 10) (pairs_any _ _ h2) rfl))
      go_wp2
      go_ret
      exact ⟨ret_bool (by rw [Bool.eq_iff_iff]; simp [grOk, limN, inB] <;> omega), belA⟩
theorem l01Ok_any (n e : Int) (w : World) (he : 0 ≤ e ∧ e ≤ 4294967295) : Calls Tryz.prog 77 #[.agg #[.int .i64 n, .int .u32 e]] w fun e0 w' => e0 = .returned (.bool (grOk n e)) ∧ Below w.heap.size w w' := by
  cases h : inB n 0 5
  · have hr : grOk n e = false := by simp [grOk, h]
    go_enter Tryz.func77, Tryz.ntmps77
    go_wp2
    go_quiet ((go_at_call 120; exact qsv (u := .bool false) (sin_any _ _ _ _) (by rw [h])))
    go_wp2
    exact bodyPost_ret (v := .bool false) (by simp [results, Tryz.results77, go_sem]) rfl ⟨by rw [hr], belA⟩
  · have h2 := inB_iff.1 h
    rcases small6 h2 with rfl | rfl | rfl | rfl | rfl | rfl
    all_goals
      go_enter Tryz.func77, Tryz.ntmps77
      go_wp2
      go_quiet (first | (go_at_call 120; exact qsv (u := .bool true) (sin_any _ _ _ _) (by rw [h])) | (go_at_call 156; first | exact qsv (u := .int .i64 0) (l01Bits_any _ _ h2) rfl | exact qsv (u := .int .i64 1) (l01Bits_any _ _ h2) rfl | exact qsv (u := .int .i64 3) (l01Bits_any _ _ h2) rfl | exact qsv (u := .int .i64 6) (l01Bits_any _ _ h2) rfl | exact qsv (u := .int .i64 10) (l01Bits_any _ _ h2) rfl))
      go_wp2
      go_ret
      exact ⟨ret_bool (by rw [Bool.eq_iff_iff]; simp [grOk, limN, inB] <;> omega), belA⟩
theorem badGraph_any (n e : Int) (w : World) (he : 0 ≤ e ∧ e ≤ 4294967295) : Calls Tryz.prog 88 #[.agg #[.int .i64 n, .int .u32 e]] w fun e0 w' => e0 = .returned (.bool (!grOk n e)) ∧ Below w.heap.size w w' := by
  go_enter Tryz.func88, Tryz.ntmps88
  go_wp2_with (first | (go_at_call 81; refine Calls.mono (ValidGraph_any _ _ _ he) ?_; rintro e w1 ⟨rfl, hb⟩; obtain ⟨X, m, rfl⟩ := plsOf hb; clear hb))
  exact bodyPost_ret (v := .bool (!grOk n e)) (by simp [results, Tryz.results88, go_sem]) rfl ⟨rfl, belA⟩
end Go.Proofs.YtekchdgpaemofaaGreat

/- Pairs of vertices: impl.bit, impl.Graph.has, spec.l01Bit, spec.l01Joined. -/
namespace Go.Proofs.YtekchdgpaemofaaGreat
open Go.ChangeShapes Go.WideShapes Go.RowKit
set_option linter.unusedVariables false
set_option linter.unusedSimpArgs false
attribute [local irreducible] Calls
def bitN (i j : Int) : Int := ((2 ^ (j.toNat * (j.toNat - 1) / 2 + i.toNat) : Nat) : Int)
def bitI (i j : Int) : Int := if i ≤ j then bitN i j else bitN j i
theorem small5 {n : Int} (h : 0 ≤ n ∧ n ≤ 4) : n = 0 ∨ n = 1 ∨ n = 2 ∨ n = 3 ∨ n = 4 := by omega
theorem pairs_0 (w : World) : Calls Tryz.prog 164 #[.int .i64 0] w fun e0 w' => e0 = .returned (.int .i64 0) ∧ w = w' := pairs_any 0 w (by decide)
theorem l01Bits_0 (w : World) : Calls Tryz.prog 156 #[.int .i64 0] w fun e0 w' => e0 = .returned (.int .i64 0) ∧ w = w' := l01Bits_any 0 w (by decide)
theorem pairs_1 (w : World) : Calls Tryz.prog 164 #[.int .i64 1] w fun e0 w' => e0 = .returned (.int .i64 0) ∧ w = w' := pairs_any 1 w (by decide)
theorem l01Bits_1 (w : World) : Calls Tryz.prog 156 #[.int .i64 1] w fun e0 w' => e0 = .returned (.int .i64 0) ∧ w = w' := l01Bits_any 1 w (by decide)
theorem pairs_2 (w : World) : Calls Tryz.prog 164 #[.int .i64 2] w fun e0 w' => e0 = .returned (.int .i64 1) ∧ w = w' := pairs_any 2 w (by decide)
theorem l01Bits_2 (w : World) : Calls Tryz.prog 156 #[.int .i64 2] w fun e0 w' => e0 = .returned (.int .i64 1) ∧ w = w' := l01Bits_any 2 w (by decide)
theorem pairs_3 (w : World) : Calls Tryz.prog 164 #[.int .i64 3] w fun e0 w' => e0 = .returned (.int .i64 3) ∧ w = w' := pairs_any 3 w (by decide)
theorem l01Bits_3 (w : World) : Calls Tryz.prog 156 #[.int .i64 3] w fun e0 w' => e0 = .returned (.int .i64 3) ∧ w = w' := l01Bits_any 3 w (by decide)
theorem pairs_4 (w : World) : Calls Tryz.prog 164 #[.int .i64 4] w fun e0 w' => e0 = .returned (.int .i64 6) ∧ w = w' := pairs_any 4 w (by decide)
theorem l01Bits_4 (w : World) : Calls Tryz.prog 156 #[.int .i64 4] w fun e0 w' => e0 = .returned (.int .i64 6) ∧ w = w' := l01Bits_any 4 w (by decide)
theorem bit_any (i j : Int) (w : World) (hi : 0 ≤ i ∧ i ≤ 4) (hj : 0 ≤ j ∧ j ≤ 4) : Calls Tryz.prog 262 #[.int .i64 i, .int .i64 j] w fun e0 w' => e0 = .returned (.int .u32 (bitI i j)) ∧ w = w' := by
  rcases small5 hi with rfl | rfl | rfl | rfl | rfl <;> rcases small5 hj with rfl | rfl | rfl | rfl | rfl
  all_goals
    go_enter Tryz.func262, Tryz.ntmps262
    go_wp2_with (first | (go_at_call 164; refine Calls.mono (pairs_0 _) ?_; rintro e w1 ⟨rfl, rfl⟩) | (go_at_call 164; refine Calls.mono (pairs_1 _) ?_; rintro e w1 ⟨rfl, rfl⟩) | (go_at_call 164; refine Calls.mono (pairs_2 _) ?_; rintro e w1 ⟨rfl, rfl⟩) | (go_at_call 164; refine Calls.mono (pairs_3 _) ?_; rintro e w1 ⟨rfl, rfl⟩) | (go_at_call 164; refine Calls.mono (pairs_4 _) ?_; rintro e w1 ⟨rfl, rfl⟩))
    go_ret
    exact ⟨rfl, rfl⟩
theorem l01Bit_le (i j : Int) (w : World) (hi : 0 ≤ i ∧ i ≤ 4) (hj : 0 ≤ j ∧ j ≤ 4) (h : i ≤ j) : Calls Tryz.prog 199 #[.int .i64 i, .int .i64 j] w fun e0 w' => e0 = .returned (.int .u32 (bitN i j)) ∧ w = w' := by
  rcases small5 hi with rfl | rfl | rfl | rfl | rfl <;> rcases small5 hj with rfl | rfl | rfl | rfl | rfl
  all_goals first
    | (exfalso; revert h; decide)
    | (go_enter Tryz.func199, Tryz.ntmps199
       go_wp2_with (first | (go_at_call 156; refine Calls.mono (l01Bits_0 _) ?_; rintro e w1 ⟨rfl, rfl⟩) | (go_at_call 156; refine Calls.mono (l01Bits_1 _) ?_; rintro e w1 ⟨rfl, rfl⟩) | (go_at_call 156; refine Calls.mono (l01Bits_2 _) ?_; rintro e w1 ⟨rfl, rfl⟩) | (go_at_call 156; refine Calls.mono (l01Bits_3 _) ?_; rintro e w1 ⟨rfl, rfl⟩) | (go_at_call 156; refine Calls.mono (l01Bits_4 _) ?_; rintro e w1 ⟨rfl, rfl⟩))
       go_ret
       exact ⟨rfl, rfl⟩)
theorem l01Bit_any (i j : Int) (w : World) (hi : 0 ≤ i ∧ i ≤ 4) (hj : 0 ≤ j ∧ j ≤ 4) : Calls Tryz.prog 199 #[.int .i64 i, .int .i64 j] w fun e0 w' => e0 = .returned (.int .u32 (bitI i j)) ∧ w = w' := by
  by_cases h : i ≤ j
  · rw [show bitI i j = bitN i j from if_pos h]
    exact l01Bit_le i j w hi hj h
  · rw [show bitI i j = bitN j i from if_neg h]
    go_enter Tryz.func199, Tryz.ntmps199
    go_wp2_with (first | (go_at_call 199; refine Calls.mono (l01Bit_le _ _ _ hj hi (by omega)) ?_; rintro e w1 ⟨rfl, rfl⟩))
    go_ret
    exact ⟨rfl, rfl⟩
def hasE (e i j : Int) : Bool := bits .and .u32 e (bitI i j) != 0
def setE (e i j : Int) : Int := bits .or .u32 e (bitI i j)
theorem has_any (n e i j : Int) (w : World) (hi : 0 ≤ i ∧ i ≤ 4) (hj : 0 ≤ j ∧ j ≤ 4) : Calls Tryz.prog 215 #[.agg #[.int .i64 n, .int .u32 e], .int .i64 i, .int .i64 j] w fun e0 w' => e0 = .returned (.bool (hasE e i j)) ∧ Below w.heap.size w w' := by
  go_enter Tryz.func215, Tryz.ntmps215
  go_wp2_with fail
  go_quiet (first | (go_at_call 262; exact qsv (u := .int .u32 (bitI i j)) (bit_any i j _ hi hj) rfl))
  go_wp2_with fail
  exact bodyPost_ret (v := .bool (bits .and .u32 e (bitI i j) != 0)) (by simp [results, Tryz.results215, go_sem]) rfl ⟨rfl, belA⟩
theorem l01Joined_any (n e i j : Int) (w : World) (hi : 0 ≤ i ∧ i ≤ 4) (hj : 0 ≤ j ∧ j ≤ 4) (hij : i ≠ j) : Calls Tryz.prog 198 #[.agg #[.int .i64 n, .int .u32 e], .int .i64 i, .int .i64 j] w fun e0 w' => e0 = .returned (.bool (hasE e i j)) ∧ Below w.heap.size w w' := by
  have h1 : (i != j) = true := by simpa using hij
  go_enter Tryz.func198, Tryz.ntmps198
  go_wp2_with fail
  go_quiet (first | (go_at_call 199; exact qsv (u := .int .u32 (bitI i j)) (l01Bit_any i j _ hi hj) rfl))
  go_wp2_with fail
  exact bodyPost_ret (v := .bool (bits .and .u32 e (bitI i j) != 0)) (by simp [results, Tryz.results198, go_sem]) rfl ⟨rfl, belA⟩
/-! Graphs made pair by pair -/
def rowE (P : Nat → Nat → Bool) (j : Nat) : Nat → Int → Int
  | 0, a => a
  | i + 1, a => if P i j then setE (rowE P j i a) i j else rowE P j i a
def madeE (P : Nat → Nat → Bool) : Nat → Int
  | 0 => 0
  | j + 1 => rowE P j j (madeE P j)
theorem okE {e : Int} (h : okI .u32 e) : 0 ≤ e ∧ e ≤ 4294967295 := by simp [okI, Lit.wf] at h; exact h
theorem rowE_ok (P : Nat → Nat → Bool) (j i : Nat) {a : Int} (h : okI .u32 a) : okI .u32 (rowE P j i a) := by
  induction i with
  | zero => exact h
  | succ i ih =>
    unfold rowE
    split
    · exact wf_bits _ _ _ _
    · exact ih
theorem madeE_ok (P : Nat → Nat → Bool) (n : Nat) : okI .u32 (madeE P n) := by
  induction n with
  | zero => exact (by decide : okI .u32 0)
  | succ n ih => exact rowE_ok P n n ih
theorem rowE_congr {P Q : Nat → Nat → Bool} {j : Nat} (h : ∀ i, i < j → P i j = Q i j) (i : Nat) (hi : i ≤ j) (a : Int) : rowE P j i a = rowE Q j i a := by
  induction i with
  | zero => rfl
  | succ i ih => simp only [rowE]; rw [ih (by omega), h i (by omega)]
theorem madeE_congr {P Q : Nat → Nat → Bool} {n : Nat} (h : ∀ i j, i < j → j < n → P i j = Q i j) : madeE P n = madeE Q n := by
  induction n with
  | zero => rfl
  | succ n ih => simp only [madeE]; rw [ih (fun i j h1 h2 => h i j h1 (by omega)), rowE_congr (fun i hi => h i n hi (by omega)) n (Nat.le_refl _)]
theorem blkset21 {w : World} {k : Nat} {t : TypeId} {u v : Value} (h : w.heap[k]? = some (.cells #[u, v] t (0, 0))) (b : Value) : (w.setCell ⟨k, 1, none⟩ b).heap[k]? = some (.cells #[u, b] t (0, 0)) := blkset0 h 1 b
set_option maxHeartbeats 1000000 in
theorem made_any (w : World) (n : Nat) (hn : n ≤ 5) (f : FuncId) (caps : Array Value) (P : Nat → Nat → Bool) (eg : ∀ args w, (callFunc f args).run Tryz.prog w = .ok (.enter f args) w)
    (hP : ∀ (W : World) (i j : Nat), i < j → j < n → Below w.heap.size w W → Calls Tryz.prog f (#[.int .i64 i, .int .i64 j] ++ caps) W fun e W' => e = .returned (.bool (P i j)) ∧ Below W.heap.size W W') :
    Calls Tryz.prog 213 #[.int .i64 n, .func (.func f) #[] caps] w fun e w' => e = .returned (.agg #[.int .i64 n, .int .u32 (madeE P n)]) ∧ Below w.heap.size w w' := by
  have HP := Lib.hid hP
  clear hP
  go_enter Tryz.func213, Tryz.ntmps213
  go_wp2_with fail
  go_loopw [11] (fun i wr => ∃ (k : Nat), k ≤ n ∧ i = .int .i64 k ∧ wr.heap[w.heap.size + 1]? = some (.cells #[.int .i64 n, .int .u32 (madeE P k)] 28 (0, 0)) ∧ (∃ u v, wr.heap[w.heap.size]? = some (.cells #[u, v] 28 (0, 0))) ∧ Below w.heap.size w wr) (fun i _ => n - (intOf i).toNat)
  case atStart => exact ⟨0, Nat.zero_le _, rfl, (by rw [show madeE P 0 = 0 from rfl]; exact blkA), ⟨_, _, blkA⟩, belA⟩
  case round =>
    obtain ⟨k, hk, rfl, b0, ⟨u0, v0, b1⟩, hB⟩ := hrel
    obtain ⟨s0, s1, f0, f1⟩ := blk2 b0
    obtain ⟨s2, s3, f2, f3⟩ := blk2 b1
    have z0 := blklt b0
    have z1 := blklt b1
    by_cases hlt : k < n
    · have hk8 : (k : Int) < 9223372036854775807 := by omega
      have B0 := Lib.hid b0
      have B1 := Lib.hid b1
      clear b0 b1
      go_wp2_with fail
      have b0 := B0.out
      have b1 := B1.out
      have HB := Lib.hid hB
      obtain ⟨W0, rfl⟩ : ∃ x, x = wr := ⟨_, rfl⟩
      go_loopw [15] (fun i wr => ∃ (l : Nat), l ≤ k ∧ i = .int .i64 l ∧ wr.heap[w.heap.size + 1]? = some (.cells #[.int .i64 n, .int .u32 (rowE P k l (madeE P k))] 28 (0, 0)) ∧ wr.heap[w.heap.size]? = some (.cells #[u0, v0] 28 (0, 0)) ∧ Below w.heap.size w wr) (fun i _ => k - (intOf i).toNat)
      case atStart => exact ⟨0, Nat.zero_le _, rfl, b0, b1, hB⟩
      case round =>
        clear s0 s1 s2 s3 f0 f1 f2 f3 z0 z1 b0 b1 B0 B1 hB HB
        obtain ⟨l, hl, rfl, b0, b1, hB⟩ := hrel
        obtain ⟨s0, s1, f0, f1⟩ := blk2 b0
        have z0 := blklt b0
        have z1 := blklt b1
        have B0 := Lib.hid b0
        have B1 := Lib.hid b1
        clear b0 b1
        by_cases hlt2 : l < k
        · have hl8 : (l : Int) < 9223372036854775807 := by omega
          cases hp : P l k
          · have hr : Hid (rowE P k (l + 1) (madeE P k) = rowE P k l (madeE P k)) := Lib.hid (by simp [rowE, hp])
            go_wp2_with fail
            refine Calls.mono (HP.out _ l k hlt2 hlt hB) ?_
            rw [hp]
            rintro e w1 ⟨rfl, hb⟩
            obtain ⟨X, m, rfl⟩ := plsOf hb
            clear hb
            go_wp2_with fail
            go_roundw
            case rel =>
              have b0 := B0.out
              have b1 := B1.out
              exact ⟨l + 1, by omega, by go_num, by rw [hr.out]; exact blkA, blkA, belA⟩
            case measure => simp [intOf]; omega
          · have hr : Hid (rowE P k (l + 1) (madeE P k) = setE (rowE P k l (madeE P k)) l k) := Lib.hid (by simp [rowE, hp])
            go_wp2_with fail
            refine Calls.mono (HP.out _ l k hlt2 hlt hB) ?_
            rw [hp]
            rintro e w1 ⟨rfl, hb⟩
            obtain ⟨X, m, rfl⟩ := plsOf hb
            clear hb
            go_wp2_with fail
            go_region_law (first | (go_simp; go_at_call 262; refine Calls.mono (bit_any l k _ (by omega) (by omega)) ?_; rintro e w1 ⟨rfl, rfl⟩))
            all_goals (go_wp2_with fail)
            all_goals (
              go_roundw
              case rel =>
                have b0 := B0.out
                have b1 := B1.out
                exact ⟨l + 1, by omega, by go_num, by rw [hr.out]; (repeat (first | with_reducible refine pls_block _ _ ?_ | exact blkset21 b0 _)), blkA, belA⟩
              case measure => simp [intOf]; omega)
        · have e : l = k := by omega
          subst e
          go_wp2_with fail
          go_roundw
          case rel => exact ⟨l + 1, by omega, by go_num, B0.out, ⟨_, _, B1.out⟩, hB⟩
          case measure => simp [intOf]; omega
    · have e : k = n := by omega
      subst e
      go_wp2_with fail
      exact bodyPost_ret (v := .agg #[.int .i64 k, .int .u32 (madeE P k)]) (by simp [results, Tryz.results213, go_sem, *]) rfl ⟨rfl, belA⟩
/-! A list of vertices -/
def gi (L : List Int) (i : Nat) : Int := L[i]?.getD 0
theorem lstI {w : World} {L : List Int} {v : Value} (h : Lst (shI .i64) w L v) : ∃ (A : Option Addr) (cap : Nat), v = .slice A L.length cap ∧ L.length ≤ cap ∧ cap ≤ maxLen ∧
    (0 < L.length → ∃ (bl off : Nat), A = some ⟨bl, off, none⟩ ∧ ∀ i, i < L.length → w.cell? ⟨bl, off + i, none⟩ = some (.int .i64 (gi L i))) := by
  obtain ⟨A, cap, e, hc, hm, hel⟩ := rep_slice h
  refine ⟨A, cap, e, hc, hm, fun hp => ?_⟩
  obtain ⟨bl, off, e2, hel⟩ := hel hp
  refine ⟨bl, off, e2, fun i hi => ?_⟩
  obtain ⟨h1, h2⟩ := flat_el (flat_int .i64) hel hi
  have h3 := h2 0 (by decide)
  simp only [Nat.mul_one, Nat.add_zero] at h3
  rw [h3]
  have e3 : gi L i = L[i] := by simp [gi, List.getElem?_eq_getElem hi]
  rw [e3]; rfl
theorem formI {w : World} {L : List Int} {v : Value} (h : Lst (shI .i64) w L v) : ∃ (A : Option Addr) (cap : Nat), v = .slice A L.length cap ∧ L.length ≤ cap ∧ cap ≤ maxLen := by
  obtain ⟨A, cap, e, hc, hm, _⟩ := lstI h
  exact ⟨A, cap, e, hc, hm⟩
def VL (L : List Int) : Prop := L.length ≤ 5 ∧ (∀ i, i < L.length → 0 ≤ gi L i ∧ gi L i ≤ 4) ∧ ∀ i j, i < j → j < L.length → gi L i ≠ gi L j
def vlB (L : List Int) : Bool := decide (L.length ≤ 5) && (List.range L.length).all fun i => (decide (0 ≤ gi L i) && decide (gi L i ≤ 4)) && (List.range i).all fun j => gi L j != gi L i
theorem VL.of {L : List Int} (h : vlB L = true) : VL L := by
  simp only [vlB, Bool.and_eq_true, decide_eq_true_eq, List.all_eq_true, List.mem_range, bne_iff_ne, ne_eq] at h
  exact ⟨h.1, fun i hi => (h.2 i hi).1, fun i j h1 h2 => (h.2 j h2).2 i h1⟩
def onE (e : Int) (L : List Int) : Int := madeE (fun i j => hasE e (gi L i) (gi L j)) L.length
theorem on1 (W : World) (bg bo bl p o n cap i j : Nat) (m e : Int) (L : List Int) (hL : VL L) (hi : i < L.length) (hj : j < L.length) (hc : L.length ≤ cap)
    (h1 : W.cell? ⟨bg, 0, none⟩ = some (.int .i64 m)) (h2 : W.cell? ⟨bg, 1, none⟩ = some (.int .u32 e)) (h3 : W.cell? ⟨bo, 0, none⟩ = some (.slice (some ⟨p, o, none⟩) L.length cap))
    (h4 : W.cell? ⟨p, o + i, none⟩ = some (.int .i64 (gi L i))) (h5 : W.cell? ⟨p, o + j, none⟩ = some (.int .i64 (gi L j))) :
    Calls Tryz.prog 214 #[.int .i64 i, .int .i64 j, .pointer (some ⟨bg, 0, none⟩), .pointer (some ⟨bo, 0, none⟩)] W fun e0 W' => e0 = .returned (.bool (hasE e (gi L i) (gi L j))) ∧ Below W.heap.size W W' := by
  have z1 := World.block_lt_of_cell? _ _ h1
  have z3 := World.block_lt_of_cell? _ _ h3
  have z4 := World.block_lt_of_cell? _ _ h4
  simp only at z1 z3 z4
  have hi' : (i : Int) < (L.length : Int) := by omega
  have hj' : (j : Int) < (L.length : Int) := by omega
  have hvi := hL.2.1 i hi
  have hvj := hL.2.1 j hj
  clear hL
  go_enter Tryz.func214, Tryz.ntmps214
  go_wp2_with fail
  go_region_held3 (fun w' => w'.cell? ⟨bg, 0, none⟩ = some (.int .i64 m) ∧ w'.cell? ⟨bg, 1, none⟩ = some (.int .u32 e) ∧ w'.cell? ⟨bo, 0, none⟩ = some (.slice (some ⟨p, o, none⟩) L.length cap) ∧ w'.cell? ⟨p, o + i, none⟩ = some (.int .i64 (gi L i)) ∧ w'.cell? ⟨p, o + j, none⟩ = some (.int .i64 (gi L j))) (simp [*, go_sem]) (first | (go_at_call 215; refine Calls.mono (has_any m e _ _ _ hvi hvj) ?_; rintro e w1 ⟨rfl, hb⟩; obtain ⟨X, m, rfl⟩ := plsOf hb; clear hb))
  all_goals (go_wp2_with fail)
  all_goals (exact bodyPost_ret (v := .bool (hasE e (gi L i) (gi L j))) (by simp [results, Tryz.results214, go_sem]) rfl ⟨rfl, belA⟩)
theorem on_any (w : World) (m e : Int) (L : List Int) (v : Value) (h : Lst (shI .i64) w L v) (hL : VL L) :
    Calls Tryz.prog 140 #[.agg #[.int .i64 m, .int .u32 e], v] w fun e0 w' => e0 = .returned (.agg #[.int .i64 L.length, .int .u32 (onE e L)]) ∧ Below w.heap.size w w' := by
  have eg : ∀ args w, (callFunc 214 args).run Tryz.prog w = .ok (.enter 214 args) w := enters_of Tryz.func214 (by kernel_rfl) rfl
  have EG := Lib.hid eg
  clear eg
  obtain ⟨A, cap, rfl, hc, hm, hel⟩ := lstI h
  have H1 := Lib.hid hel
  have HL := Lib.hid hL
  have hl5 := hL.1
  clear hel hL
  unfold maxLen at hm
  go_enter Tryz.func140, Tryz.ntmps140
  go_wp2_with (first | (go_at_call 213; refine Calls.mono (made_any _ L.length hl5 _ _ (fun i j => hasE e (gi L i) (gi L j)) EG.out (fun W i j h1 h2 hB => by obtain ⟨bl, off, rfl, hel⟩ := H1.out (by omega); have h4 := hel i (by omega); have h5 := hel j h2; have zb := World.block_lt_of_cell? _ _ h4; refine on1 W w.heap.size (w.heap.size + 1) bl bl off L.length cap i j m e L HL.out (by omega) h2 hc ?_ ?_ ?_ ?_ ?_ <;> (refine bkeep hB ?_; simp [go_sem, *]))) ?_; rintro e w1 ⟨rfl, hb⟩; obtain ⟨X, m, rfl⟩ := plsOf hb; clear hb))
  exact bodyPost_ret (v := .agg #[.int .i64 L.length, .int .u32 (madeE (fun i j => hasE e (gi L i) (gi L j)) L.length)]) (by simp [results, Tryz.results140, go_sem]) rfl ⟨rfl, belA⟩
end Go.Proofs.YtekchdgpaemofaaGreat

/- Lists of numbers that grow: impl.first, spec.l01First, spec.l03Order. -/
namespace Go.Proofs.YtekchdgpaemofaaGreat
open Go.ChangeShapes Go.WideShapes Go.RowKit
set_option linter.unusedVariables false
set_option linter.unusedSimpArgs false
attribute [local irreducible] Calls
def AppI (B : Nat) (w : World) (v : Value) (L : List Int) : Prop := w.ownsRow B 2 1 v L.length (L.map fun d => .int .i64 d) ∧ ∀ d ∈ L, okI .i64 d
theorem AppI.new {B : Nat} {w : World} {g : Nat} (hg : w.heap[g]? = some (.cells #[] 2 (0, 0))) (hB : B ≤ g) : AppI B w (.slice (some ⟨g, 0, none⟩) 0 0) [] :=
  ⟨⟨by simp, .inr ⟨g, 0, #[], rfl, hB, hg, Nat.le_refl _, Nat.zero_le _, by simp, by simp⟩⟩, by simp⟩
theorem AppI.move {B : Nat} {w w' : World} {v : Value} {L : List Int} (h : AppI B w v L) (hk : ∀ b, B ≤ b → b < w.heap.size → w'.heap[b]? = w.heap[b]?) : AppI B w' v L := ⟨ownsRow_move h.1 hk, h.2⟩
theorem AppI.below {B : Nat} {w w' : World} {v : Value} {L : List Int} (h : AppI B w v L) (hb : Below w.heap.size w w') : AppI B w' v L := h.move fun b _ hl => hb.block b hl
theorem AppI.mono {B B' : Nat} {w : World} {v : Value} {L : List Int} (h : AppI B w v L) (hB : B' ≤ B) : AppI B' w v L := by
  obtain ⟨⟨h1, h2⟩, h3⟩ := h
  refine ⟨⟨h1, ?_⟩, h3⟩
  rcases h2 with h2 | ⟨g, cap, cur, rfl, hg, r⟩
  · exact .inl h2
  · exact .inr ⟨g, cap, cur, rfl, by omega, r⟩
theorem AppI.form {B : Nat} {w : World} {v : Value} {L : List Int} (h : AppI B w v L) : ∃ A cap, v = .slice A L.length cap := by
  obtain ⟨⟨_, h1⟩, _⟩ := h
  rcases h1 with ⟨rfl, h0⟩ | ⟨g, cap, cur, rfl, _⟩
  · exact ⟨none, 0, by rw [h0]⟩
  · exact ⟨_, _, rfl⟩
theorem AppI.ge {B : Nat} {w : World} {v : Value} {L : List Int} (h : AppI B w v L) : ∀ k, v.ownBlock = some k → B ≤ k ∧ k < w.heap.size := fun k hk => h.1.lt k hk
theorem AppI.own {B : Nat} {w : World} {v : Value} {L : List Int} (h : AppI B w v L) : ∃ F, Own (shI .i64) B w L v F := by
  obtain ⟨⟨_, h1⟩, h2⟩ := h
  rcases h1 with ⟨rfl, h0⟩ | ⟨g, cap, cur, rfl, hg, hh, hc, hm, hs, ht⟩
  · have : L = [] := List.length_eq_zero_iff.1 h0
    subst this
    exact ⟨[], Own.nil _ B w 0 (Nat.zero_le _) none⟩
  · refine ⟨[g], own_of_row (flat_int .i64) (fun _ => rfl) hh hc hm (by show L.length * 1 ≤ cur.size; omega) ?_ h2 hg⟩
    rw [ht]
    clear h2 ht hs hc
    induction L with
    | nil => rfl
    | cons d L ih => rw [List.map_cons, List.flatMap_cons, ih (by simp)]; rfl
theorem AppI.lst {B : Nat} {w : World} {v : Value} {L : List Int} (h : AppI B w v L) : Lst (shI .i64) w L v := by
  obtain ⟨F, h⟩ := h.own
  exact h.lst
theorem AppI.next {B : Nat} {w w1 : World} {v : Value} {L : List Int} {d : Int} (h : AppI B w v L) (hd : okI .i64 d) {g cap : Nat} (ho : w1.ownsRow B 2 1 (.slice (some ⟨g, 0, none⟩) (L.length + 1) cap) (L.length + 1) (L.map (fun d => .int .i64 d) ++ [.int .i64 d])) :
    AppI B w1 (.slice (some ⟨g, 0, none⟩) (L.length + 1) cap) (L ++ [d]) := by
  refine ⟨by rw [List.length_append, List.map_append]; exact ho, fun a ha => ?_⟩
  rcases List.mem_append.1 ha with ha | ha
  · exact h.2 a ha
  · simp at ha; subst ha; exact hd
def seqI (n : Nat) : List Int := (List.range n).map fun (i : Nat) => (i : Int)
theorem seqI_len (n : Nat) : (seqI n).length = n := by simp [seqI]
theorem seqI_succ (n : Nat) : seqI (n + 1) = seqI n ++ [(n : Int)] := by simp [seqI, List.range_succ]
theorem okN {n : Nat} (h : n ≤ 100) : okI .i64 (n : Int) := by simp [okI, Lit.wf, IntKind.min, IntKind.max, IntKind.signed, IntKind.bits]; omega
theorem first_any (w : World) (n : Nat) (hn : n ≤ 100) : Calls Tryz.prog 141 #[.int .i64 n] w fun e w' => ∃ v, e = .returned v ∧ AppI w.heap.size w' v (seqI n) ∧ Below w.heap.size w w' := by
  obtain ⟨i1, z1, hi1, hz1, hs1, hb1, hl1⟩ := infoB_spec (P := Tryz.prog) (e := 2) (sz := 1) (bytes := 8) (by kernel_rfl)
  have I1 := Lib.hid hi1
  have Z1 := Lib.hid hz1
  clear hi1 hz1
  go_enter Tryz.func141, Tryz.ntmps141
  go_wp2_with fail
  go_loopw [3, 7] (fun o i wr => ∃ (k : Nat), k ≤ n ∧ i = .int .i64 k ∧ Hid (AppI w.heap.size wr o (seqI k)) ∧ Below w.heap.size w wr) (fun _ i _ => n - (intOf i).toNat)
  case atStart => exact ⟨0, Nat.zero_le _, rfl, Lib.hid (AppI.new (blknew _ _) (Nat.le_refl _)), belA⟩
  case round =>
    obtain ⟨k, hk, rfl, hA, hB⟩ := hrel
    have hz := hB.size
    by_cases hlt : k < n
    · have hk8 : (k : Int) < 9223372036854775807 := by omega
      have hW := Lib.hid (hA.out.below (w' := wr.alloc (.cells #[.int .i64 k] 2)) ((bal (Below.refl _ _) _)))
      go_wp2_with (at_builtin; refine wpList_append_lies _ rfl (.tmp 10) (.tmp 12) 168 rfl w.heap.size 2 i1 z1 1 8 Tryz.underlying168 I1.out Z1.out hs1 hb1 hl1 (by decide) u3 (seqI k).length _ rfl hW.out.1 ⟨wr.heap.size, 0, none⟩ 1 1 [.int .i64 k] rfl rfl (World.news_of_block (blknew _ _)) (by simp [Value.oneCell']) (by decide) (by rw [seqI_len]; unfold maxLen; omega) (by rw [seqI_len]; omega) (by simp; omega) _ rfl ?_; intro g1 cap1 w2 hown hgrow hat hlt3)
      go_roundw
      case rel =>
        have hN := hW.out.next (okN (n := k) (by omega)) hown
        have hAo := hA.out.ge
        have hb2 := grown_below (B := w.heap.size) hgrow (fun q hq => (hAo q hq).1) (by simp; omega)
        exact ⟨k + 1, by omega, by go_num, Lib.hid (by rw [seqI_succ]; exact hN), (hB.trans ((bal (Below.refl _ _) _).mono (by omega))).trans hb2⟩
      case measure => simp [intOf]; omega
    · have e : k = n := by omega
      subst e
      go_wp2_with fail
      exact bodyPost_ret (v := u3) (by simp [results, Tryz.results141, go_sem]) rfl ⟨u3, rfl, hA.out, hB⟩
theorem l01First_any (w : World) (n : Nat) (hn : n ≤ 100) : Calls Tryz.prog 122 #[.int .i64 n] w fun e w' => ∃ v, e = .returned v ∧ AppI w.heap.size w' v (seqI n) ∧ Below w.heap.size w w' := by
  obtain ⟨i1, z1, hi1, hz1, hs1, hb1, hl1⟩ := infoB_spec (P := Tryz.prog) (e := 2) (sz := 1) (bytes := 8) (by kernel_rfl)
  have I1 := Lib.hid hi1
  have Z1 := Lib.hid hz1
  clear hi1 hz1
  go_enter Tryz.func122, Tryz.ntmps122
  go_wp2_with fail
  go_loopw [3, 4] (fun o i wr => ∃ (k : Nat), k ≤ n ∧ i = .int .i64 k ∧ Hid (AppI w.heap.size wr o (seqI k)) ∧ Below w.heap.size w wr) (fun _ i _ => n - (intOf i).toNat)
  case atStart => exact ⟨0, Nat.zero_le _, rfl, Lib.hid (AppI.new (blknew _ _) (Nat.le_refl _)), belA⟩
  case round =>
    obtain ⟨k, hk, rfl, hA, hB⟩ := hrel
    have hz := hB.size
    by_cases hlt : k < n
    · have hk8 : (k : Int) < 9223372036854775807 := by omega
      have hW := Lib.hid (hA.out.below (w' := wr.alloc (.cells #[.int .i64 k] 2)) ((bal (Below.refl _ _) _)))
      go_wp2_with (at_builtin; refine wpList_append_lies _ rfl (.tmp 11) (.tmp 13) 168 rfl w.heap.size 2 i1 z1 1 8 Tryz.underlying168 I1.out Z1.out hs1 hb1 hl1 (by decide) u3 (seqI k).length _ rfl hW.out.1 ⟨wr.heap.size, 0, none⟩ 1 1 [.int .i64 k] rfl rfl (World.news_of_block (blknew _ _)) (by simp [Value.oneCell']) (by decide) (by rw [seqI_len]; unfold maxLen; omega) (by rw [seqI_len]; omega) (by simp; omega) _ rfl ?_; intro g1 cap1 w2 hown hgrow hat hlt3)
      go_roundw
      case rel =>
        have hN := hW.out.next (okN (n := k) (by omega)) hown
        have hAo := hA.out.ge
        have hb2 := grown_below (B := w.heap.size) hgrow (fun q hq => (hAo q hq).1) (by simp; omega)
        exact ⟨k + 1, by omega, by go_num, Lib.hid (by rw [seqI_succ]; exact hN), (hB.trans ((bal (Below.refl _ _) _).mono (by omega))).trans hb2⟩
      case measure => simp [intOf]; omega
    · have e : k = n := by omega
      subst e
      go_wp2_with fail
      exact bodyPost_ret (v := u3) (by simp [results, Tryz.results122, go_sem]) rfl ⟨u3, rfl, hA.out, hB⟩
def ordL (k : Nat) (L : List Int) : List Int := seqI k ++ L.map fun d => (k : Int) + d
theorem ordL_take (k : Nat) (L : List Int) {i : Nat} (hi : i < L.length) : ordL k (L.take (i + 1)) = ordL k (L.take i) ++ [(k : Int) + gi L i] := by
  have e : gi L i = L[i] := by simp [gi, List.getElem?_eq_getElem hi]
  unfold ordL
  rw [List.take_add_one, List.getElem?_eq_getElem hi, List.map_append, e, List.append_assoc]
  rfl
theorem ordL_len (k : Nat) (L : List Int) : (ordL k L).length = k + L.length := by simp [ordL, seqI_len]
theorem l03Order_any (w : World) (n : Nat) (L : List Int) (v : Value) (h : Lst (shI .i64) w L v) (hn : n ≤ 100) (hl : L.length ≤ 100) (hL : ∀ i, i < L.length → 0 ≤ gi L i ∧ gi L i ≤ 100) :
    Calls Tryz.prog 201 #[.int .i64 n, v] w fun e w' => ∃ v, e = .returned v ∧ AppI w.heap.size w' v (ordL n L) ∧ Below w.heap.size w w' := by
  obtain ⟨i1, z1, hi1, hz1, hs1, hb1, hl1⟩ := infoB_spec (P := Tryz.prog) (e := 2) (sz := 1) (bytes := 8) (by kernel_rfl)
  have I1 := Lib.hid hi1
  have Z1 := Lib.hid hz1
  clear hi1 hz1
  obtain ⟨A, cap, rfl, hc, hm, hel⟩ := lstI h
  have H1 := Lib.hid hel
  have HL := Lib.hid hL
  clear hel hL
  unfold maxLen at hm
  go_enter Tryz.func201, Tryz.ntmps201
  go_wp2_with fail
  refine Calls.mono (l01First_any _ n hn) ?_
  rintro e w1 ⟨u9, rfl, hA0, hb⟩
  have hA0 := Lib.hid hA0
  have HB := Lib.hid hb
  clear hb
  go_wp2_with fail
  go_loopw [5, 6] (fun o i wr => ∃ (k : Nat), k ≤ L.length ∧ i = .int .i64 k ∧ Hid (AppI w.heap.size wr o (ordL n (L.take k))) ∧ Below w.heap.size w wr) (fun _ i _ => L.length - (intOf i).toNat)
  case atStart => exact ⟨0, Nat.zero_le _, rfl, Lib.hid (by rw [List.take_zero]; simpa [ordL] using hA0.out), HB.out⟩
  case round =>
    obtain ⟨k, hk, rfl, hA, hB⟩ := hrel
    have hz := hB.size
    by_cases hlt : k < L.length
    · have hk8 : (k : Int) < 9223372036854775807 := by omega
      obtain ⟨bl, off, rfl, hel⟩ := H1.out (by omega)
      have c0 := bkeep hB (hel k hlt)
      have hv := HL.out k hlt
      clear hel
      have hW := Lib.hid (hA.out.below (w' := wr.alloc (.cells #[.int .i64 ((n : Int) + gi L k)] 2)) ((bal (Below.refl _ _) _)))
      go_wp2_with (at_builtin; refine wpList_append_lies _ rfl (.tmp 15) (.tmp 22) 168 rfl w.heap.size 2 i1 z1 1 8 Tryz.underlying168 I1.out Z1.out hs1 hb1 hl1 (by decide) u5 (ordL n (L.take k)).length _ rfl hW.out.1 ⟨wr.heap.size, 0, none⟩ 1 1 [.int .i64 ((n : Int) + gi L k)] rfl rfl (World.news_of_block (blknew _ _)) (by simp [Value.oneCell']) (by decide) (by rw [ordL_len, take_len (by omega)]; unfold maxLen; omega) (by rw [ordL_len, take_len (by omega)]; omega) (by simp; omega) _ rfl ?_; intro g1 cap1 w2 hown hgrow hat hlt3)
      go_roundw
      case rel =>
        have hN := hW.out.next (d := (n : Int) + gi L k) (by simp [okI, Lit.wf, IntKind.min, IntKind.max, IntKind.signed, IntKind.bits]; omega) hown
        have hAo := hA.out.ge
        have hb2 := grown_below (B := w.heap.size) hgrow (fun q hq => (hAo q hq).1) (by simp; omega)
        exact ⟨k + 1, by omega, by go_num, Lib.hid (by rw [ordL_take n L hlt]; exact hN), (hB.trans ((bal (Below.refl _ _) _).mono (by omega))).trans hb2⟩
      case measure => simp [intOf]; omega
    · have e : k = L.length := by omega
      have hA1 := hA.out
      rw [e, List.take_length] at hA1
      clear hA
      subst e
      go_wp2_with fail
      exact bodyPost_ret (v := u5) (by simp [results, Tryz.results201, go_sem]) rfl ⟨u5, rfl, hA1, hB⟩
end Go.Proofs.YtekchdgpaemofaaGreat
