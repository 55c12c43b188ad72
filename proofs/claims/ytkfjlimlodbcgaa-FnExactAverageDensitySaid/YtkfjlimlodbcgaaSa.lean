/- Lists of all flags, spec: l03All. -/
import Derived.Test.YtkfjlimlodbcgaaPs
import Derived.Test.YtkfjlimlodbcgaaGo
import Derived.Test.YtkfjlimlodbcgaaFa
namespace Go.Proofs.Ytkfjlimlodbcgaa
open Go.ChangeShapes Go.WideShapes Go.RowKit
set_option linter.unusedVariables false
set_option linter.unusedSimpArgs false
attribute [local irreducible] Calls
def spE (tn : Nat) (te : Int) (k : Nat) : Int := bits .or .u32 te ((k * 2 ^ tri tn : Nat) : Int)
def spTo (tn n : Nat) (te : Int) (gs : List (Int × Int)) (k : Nat) : List Int := ((List.range k).map (spE tn te)).filter fun e => (leastI n tn e == e) && freeB n e gs
theorem spTo_t {tn n : Nat} {te : Int} {gs : List (Int × Int)} {k : Nat} (h1 : (leastI n tn (spE tn te k) == spE tn te k) = true) (h2 : freeB n (spE tn te k) gs = true) : spTo tn n te gs (k + 1) = spTo tn n te gs k ++ [spE tn te k] := by
  simp [spTo, List.range_succ, h1, h2, List.filter_cons]
theorem spTo_f1 {tn n : Nat} {te : Int} {gs : List (Int × Int)} {k : Nat} (h1 : (leastI n tn (spE tn te k) == spE tn te k) = false) : spTo tn n te gs (k + 1) = spTo tn n te gs k := by
  simp [spTo, List.range_succ, h1, List.filter_cons]
theorem spTo_f2 {tn n : Nat} {te : Int} {gs : List (Int × Int)} {k : Nat} (h2 : freeB n (spE tn te k) gs = false) : spTo tn n te gs (k + 1) = spTo tn n te gs k := by
  simp [spTo, List.range_succ, h2, List.filter_cons]
theorem spTo_len (tn n : Nat) (te : Int) (gs : List (Int × Int)) (k : Nat) : (spTo tn n te gs k).length ≤ k := by
  have := List.length_filter_le (fun e => (leastI n tn e == e) && freeB n e gs) ((List.range k).map (spE tn te))
  simpa [spTo] using this
theorem flagsL_sp {k n : Nat} (hk : k ≤ 3) (hn : n ≤ 5) (hkn : k ≤ n) {te : Int} (h0 : 0 ≤ te) (hte : te < limN k) (gs : List (Int × Int)) : flagsL k te n gs = spTo k n te gs (2 ^ (tri n - tri k)) := flagsL_ref hk hn hkn h0 hte gs
def sfOf (tn n : Nat) (e : Int) : shFlag.T := ((tn : Int), ((n : Int), e))
theorem flagsF_eq (tn : Nat) (te : Int) (n : Nat) (gs : List (Int × Int)) : (show List shFlag.T from flagsF tn te n gs) = (flagsL tn te n gs).map (sfOf tn n) := rfl
theorem l03Least_e (w : World) (n k : Nat) (e : Int) (hn : n ≤ 5) (hk : k ≤ n) (he : okI .u32 e) :
    Calls Try.prog 103 #[.agg #[.int .i64 k, .int .i64 n, .int .u32 e]] w fun e0 w' => e0 = .returned (.agg #[.int .i64 k, .int .i64 n, .int .u32 (leastI n k e)]) ∧ Below w.heap.size w w' := by
  rw [← leastS_eq hn hk]
  exact l03Least_any w k (n - k) n e he (by omega) hn (ords_all (by omega)).2.1
/-- A list of flags is handed out. -/
def FlsRet (B : Nat) (w : World) (L : List shFlag.T) (e : Ending) (w' : World) : Prop := ∃ A cap F, e = .returned (.slice A L.length cap) ∧ Own shFlag B w' L (.slice A L.length cap) F ∧ Below w.heap.size w w'
theorem tri_le {n : Nat} (h : n ≤ 5) : tri n ≤ 10 := by
  have : n = 0 ∨ n = 1 ∨ n = 2 ∨ n = 3 ∨ n = 4 ∨ n = 5 := by omega
  rcases this with rfl | rfl | rfl | rfl | rfl | rfl <;> decide
theorem prN_tri {n : Nat} (h : n ≤ 5) : prN n = (tri n : Int) := by
  have : n = 0 ∨ n = 1 ∨ n = 2 ∨ n = 3 ∨ n = 4 ∨ n = 5 := by omega
  rcases this with rfl | rfl | rfl | rfl | rfl | rfl <;> decide
theorem tri_leqB : ((List.range 6).all fun n => (List.range 6).all fun k => decide (n < k) || decide (tri k ≤ tri n)) = true := by decide +kernel
theorem tri_leq {k n : Nat} (h : n ≤ 5) (hk : k ≤ n) : tri k ≤ tri n := by
  have := tri_leqB
  simp only [List.all_eq_true, List.mem_range] at this
  have := this n (by omega) k (by omega)
  simp at this
  omega
/-- A shift to the left, kept as one word. -/
@[irreducible] def shlW (a : Int) (b : Nat) : Int := wrap64 (a * 2 ^ min b 64)
theorem shl_u64 (t : TypeId) (a : Int) (b : Nat) : binOp .shl t (.int .i64 a) (.int .u64 (b : Int)) = pure (.int .i64 (shlW a b)) := by
  rw [binOp_shl]
  unfold shlW
  have h : ¬ ((b : Int) < 0) := by omega
  simp only [Op.shift, h, if_false, Int.toNat_natCast, IntKind.bits]
  rw [IntKind.wrap_i64]
  unfold wrap64
  rfl
theorem shlW_eq {a : Int} {b : Nat} (hb : b ≤ 10) (h0 : 0 ≤ a) (ha : a ≤ 1024) : shlW a b = ((a.toNat * 2 ^ b : Nat) : Int) := by
  unfold shlW
  rw [Nat.min_eq_left (by omega)]
  have h1 := Nat.pow_le_pow_right (n := 2) (by omega) hb
  have h2 : a.toNat * 2 ^ b ≤ 1024 * 2 ^ 10 := Nat.mul_le_mul (by omega) h1
  have h3 : a * 2 ^ b = ((a.toNat * 2 ^ b : Nat) : Int) := by
    have : a = (a.toNat : Int) := by omega
    rw [this]
    simp
  rw [h3]
  unfold wrap64
  omega
theorem spE_ok {tn : Nat} (te : Int) (k : Nat) (h0 : 0 ≤ te) (h1 : te ≤ 1024) (hk : k ≤ 1024) (hn : tn ≤ 5) : okI .u32 (spE tn te k) := by
  have h2 := Nat.pow_le_pow_right (n := 2) (by omega) (tri_le hn)
  have h3 : k * 2 ^ tri tn ≤ 1024 * 2 ^ 10 := Nat.mul_le_mul hk h2
  unfold spE
  generalize k * 2 ^ tri tn = p at h3 ⊢
  rw [u32_or _ _ h0 (by omega) (by omega) (by omega), Int.toNat_natCast]
  have h4 : te.toNat ||| p < 2 ^ 32 := Nat.or_lt_two_pow (by omega) (by omega)
  simp only [okI, Lit.wf, IntKind.min, IntKind.max, IntKind.signed, IntKind.bits]
  simp
  omega
attribute [local go_sem high] shl_u64
end Go.Proofs.Ytkfjlimlodbcgaa
