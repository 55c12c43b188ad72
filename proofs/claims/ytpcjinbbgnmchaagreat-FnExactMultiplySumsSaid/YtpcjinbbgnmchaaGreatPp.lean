/- Parts of graphs, free graphs, lists of least graphs: the plain laws. -/
import Derived.Test.YtpcjinbbgnmchaaGreatPm
namespace Go.Proofs.YtpcjinbbgnmchaaGreat
set_option linter.unusedVariables false
set_option linter.unusedSimpArgs false
/-- All lists of m different vertices of n. -/
def arrs (n m : Nat) : List (List Int) := lsts n m []
/-- The lists as the reference goes through them. -/
def ordsN (n : Nat) : Nat → List Int → List (List Int)
  | 0, _ => []
  | f + 1, o => o :: (if (nxI n o o.length).isSome then ordsN n f (nextL n o) else [])
def runN (n m : Nat) : Nat → List Int → Bool
  | 0, _ => false
  | f + 1, o => (decide (o.length = m) && vsB o && chainB n o && vlB o) && (if (nxI n o o.length).isSome then runN n m f (nextL n o) else true)
def arrsB : Bool := (List.range 6).all fun n => (List.range 6).all fun m => if m ≤ n then decide (ordsN n 130 (seqI m) = arrs n m) && runN n m 130 (seqI m) && (arrs n m).all fun L => vlB L && decide (L.length = m) else (arrs n m).isEmpty
theorem arrsB_t : arrsB = true := by decide +kernel
theorem arrs_all {n m : Nat} (hn : n ≤ 5) (hm : m ≤ n) : ordsN n 130 (seqI m) = arrs n m ∧ runN n m 130 (seqI m) = true ∧ ∀ L ∈ arrs n m, VL L ∧ L.length = m := by
  have h1 := arrsB_t
  simp only [arrsB, List.all_eq_true, List.mem_range] at h1
  have h2 := h1 n (by omega) m (by omega)
  rw [if_pos hm] at h2
  simp only [Bool.and_eq_true, decide_eq_true_eq, List.all_eq_true] at h2
  exact ⟨h2.1.1, h2.1.2, fun L hL => ⟨VL.of (h2.2 L hL).1, (h2.2 L hL).2⟩⟩
theorem arrs_none {n m : Nat} (hn : n ≤ 5) (hm : m ≤ 5) (h : n < m) : arrs n m = [] := by
  have h1 := arrsB_t
  simp only [arrsB, List.all_eq_true, List.mem_range] at h1
  have h2 := h1 n (by omega) m (by omega)
  rw [if_neg (by omega)] at h2
  exact List.isEmpty_iff.1 h2
/-- A graph has another one as a part. -/
def partB (gn : Nat) (ge : Int) (hn : Nat) (he : Int) : Bool := (arrs gn hn).any fun L => bits .andNot .u32 he (onE ge L) == 0
theorem andNot_and {a b : Int} (ha : okI .u32 a) (hb : okI .u32 b) : (bits .andNot .u32 a b == 0) = (bits .and .u32 a b == a) := by
  obtain ⟨a0, a1⟩ := okE ha
  obtain ⟨b0, b1⟩ := okE hb
  rw [u32_andNot _ _ a0 (by omega) b0 (by omega), u32_and _ _ a0 (by omega) b0 (by omega)]
  have hb2 : b.toNat < 2 ^ 32 := by omega
  have ha2 : a.toNat < 2 ^ 32 := by omega
  have key : (a.toNat &&& (4294967295 - b.toNat) = 0) ↔ (a.toNat &&& b.toNat = a.toNat) := by
    have e : 4294967295 - b.toNat = 2 ^ 32 - (b.toNat + 1) := by omega
    rw [e]
    constructor
    · intro h
      apply Nat.eq_of_testBit_eq
      intro i
      have h1 : (a.toNat &&& (2 ^ 32 - (b.toNat + 1))).testBit i = false := by rw [h]; exact Nat.zero_testBit i
      rw [Nat.testBit_and, Nat.testBit_two_pow_sub_succ hb2] at h1
      rw [Nat.testBit_and]
      by_cases hi : i < 32
      · simp [hi] at h1
        cases h2 : a.toNat.testBit i
        · rfl
        · simp [h1 h2]
      · have : a.toNat.testBit i = false := Nat.testBit_lt_two_pow (Nat.lt_of_lt_of_le ha2 (Nat.pow_le_pow_right (by decide) (by omega)))
        rw [this]; rfl
    · intro h
      apply Nat.eq_of_testBit_eq
      intro i
      rw [Nat.testBit_and, Nat.testBit_two_pow_sub_succ hb2, Nat.zero_testBit]
      cases h2 : a.toNat.testBit i
      · rfl
      · have h3 : (a.toNat &&& b.toNat).testBit i = true := by rw [h]; exact h2
        rw [Nat.testBit_and, h2] at h3
        simp at h3
        simp [h3]
  rw [Bool.eq_iff_iff]
  simp only [beq_iff_eq]
  omega
/-- None of some parts. -/
def freeB (gn : Nat) (ge : Int) (gs : List (Int × Int)) : Bool := !anyB (fun h => partB gn ge h.1.toNat h.2) gs
/-- A graph is the least one. -/
theorem isLeast_eq {n q : Nat} (hn : n ≤ 5) (hq : q ≤ n) {e : Int} (h0 : 0 ≤ e) (he : e < limN n) : (!(ordsL n q).any fun L => decide (onE e L < e)) = (leastI n q e == e) := by
  rw [Bool.eq_iff_iff]
  simp only [Bool.not_eq_true', List.any_eq_false, decide_eq_true_eq, beq_iff_eq]
  constructor
  · intro h
    obtain ⟨L, hL, hl⟩ := leastI_is hn hq h0 he
    have h1 := h L hL
    have h2 := leastI_self n q e
    omega
  · intro h L hL
    have := leastI_le hn hq (e := e) hL
    omega
/-- All least graphs of which something is so. -/
def leastsL (n q : Nat) (P : Int → Bool) : List Int := ((List.range (2 ^ tri n)).map fun (e : Nat) => (e : Int)).filter fun e => P e && (leastI n q e == e)
/-- The edges on the first vertices. -/
def lowE (k : Nat) (e : Int) : Int := bits .and .u32 e ((2 ^ tri k : Nat) - 1)
def flagsL (tn : Nat) (te : Int) (n : Nat) (gs : List (Int × Int)) : List Int := leastsL n tn fun e => (lowE tn e == te) && freeB n e gs
/-- The same list out of the reference's numbers. -/
def lowB : Bool := (List.range 4).all fun k => (List.range 6).all fun n => if k ≤ n then (List.range (2 ^ tri k)).all fun t =>
  decide ((((List.range (2 ^ tri n)).map fun (e : Nat) => (e : Int)).filter fun e => lowE k e == (t : Int)) = (List.range (2 ^ (tri n - tri k))).map fun e => bits .or .u32 (t : Int) (((e * 2 ^ tri k : Nat)) : Int)) else true
theorem lowB_t : lowB = true := by decide +kernel
theorem flagsL_ref {k n : Nat} (hk : k ≤ 3) (hn : n ≤ 5) (hkn : k ≤ n) {te : Int} (h0 : 0 ≤ te) (hte : te < limN k) (gs : List (Int × Int)) :
    flagsL k te n gs = ((List.range (2 ^ (tri n - tri k))).map fun e => bits .or .u32 te (((e * 2 ^ tri k : Nat)) : Int)).filter fun e => (leastI n k e == e) && freeB n e gs := by
  have h1 := lowB_t
  simp only [lowB, List.all_eq_true, List.mem_range] at h1
  have h2 := h1 k (by omega) n (by omega)
  rw [if_pos hkn] at h2
  simp only [List.all_eq_true, List.mem_range, decide_eq_true_eq] at h2
  rw [limN_nat (by omega)] at hte
  have h3 := h2 te.toNat (by omega)
  rw [show ((te.toNat : Nat) : Int) = te by omega] at h3
  rw [← h3, List.filter_filter]
  unfold flagsL leastsL
  congr 1
  funext e
  show ((lowE k e == te && freeB n e gs) && (leastI n k e == e)) = _
  cases lowE k e == te <;> cases freeB n e gs <;> cases (leastI n k e == e) <;> rfl
end Go.Proofs.YtpcjinbbgnmchaaGreat
