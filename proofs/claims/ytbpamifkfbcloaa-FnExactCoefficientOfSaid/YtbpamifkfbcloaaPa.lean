/- Graphs as bits: what a made graph has; graphs on lists of lists. -/
import Derived.Test.YtbpamifkfbcloaaGp
import Derived.Laws.BitsAllLaws
namespace Go.Proofs.Ytbpamifkfbcloaa
set_option linter.unusedVariables false
set_option linter.unusedSimpArgs false
def tri : Nat → Nat
  | 0 => 0
  | j + 1 => tri j + j
theorem tri_eq (j : Nat) : j * (j - 1) / 2 = tri j := by
  induction j with
  | zero => rfl
  | succ j ih =>
    rw [tri, ← ih]
    cases j with
    | zero => rfl
    | succ k =>
      have : (k + 1 + 1) * (k + 1 + 1 - 1) = (k + 1) * (k + 1 - 1) + (k + 1) * 2 := by
        simp only [Nat.add_sub_cancel]
        rw [← Nat.mul_add, Nat.mul_comm (k + 1 + 1)]
      rw [this, Nat.add_mul_div_right _ _ (by decide)]
theorem tri_mono {i j : Nat} (h : i ≤ j) : tri i ≤ tri j := by
  induction j with
  | zero => rw [Nat.le_zero.1 h]; exact Nat.le_refl _
  | succ j ih =>
    rcases Nat.lt_or_ge j i with h1 | h1
    · rw [show i = j + 1 by omega]; exact Nat.le_refl _
    · rw [tri]; have := ih h1; omega
theorem bitI_nat {i j : Nat} (h : i ≤ j) : bitI (i : Int) (j : Int) = ((2 ^ (tri j + i) : Nat) : Int) := by
  rw [bitI, if_pos (by omega), bitN, Int.toNat_natCast, Int.toNat_natCast, tri_eq]
theorem bitI_comm (i j : Int) : bitI i j = bitI j i := by
  unfold bitI
  by_cases h1 : i ≤ j <;> by_cases h2 : j ≤ i
  · rw [if_pos h1, if_pos h2, show i = j by omega]
  · rw [if_pos h1, if_neg h2]
  · rw [if_neg h1, if_pos h2]
  · omega
theorem hasE_comm (e i j : Int) : hasE e i j = hasE e j i := by rw [hasE, hasE, bitI_comm]
theorem pow_lt {j i : Nat} (hj : j ≤ 4) (hi : i ≤ j) : (2 ^ (tri j + i) : Nat) < 4294967296 := by
  have h1 : tri j + i ≤ 10 := by have := tri_mono hj; have : tri 4 = 6 := rfl; omega
  have := Nat.pow_le_pow_right (n := 2) (by decide) h1
  omega
theorem and_pow (m p : Nat) : ((m &&& 2 ^ p) != 0) = m.testBit p := by
  cases h : m.testBit p
  · have : m &&& 2 ^ p = 0 := Nat.eq_of_testBit_eq fun q => by
      rw [Nat.testBit_and, Nat.testBit_two_pow, Nat.zero_testBit]
      by_cases hq : p = q
      · subst hq; rw [h]; rfl
      · simp [hq]
    rw [this]; rfl
  · rw [bne_iff_ne]
    intro h0
    have : (m &&& 2 ^ p).testBit p = false := by rw [h0]; exact Nat.zero_testBit _
    rw [Nat.testBit_and, h, Nat.testBit_two_pow_self] at this
    cases this
theorem hasE_bit {e : Int} (he : okI .u32 e) {i j : Nat} (hij : i ≤ j) (hj : j ≤ 4) : hasE e i j = e.toNat.testBit (tri j + i) := by
  obtain ⟨h1, h2⟩ := okE he
  have h3 := pow_lt hj hij
  have key : bits .and .u32 e (((2 ^ (tri j + i) : Nat)) : Int) = ((e.toNat &&& 2 ^ (tri j + i) : Nat) : Int) := by
    generalize 2 ^ (tri j + i) = p at h3 ⊢
    rw [u32_and _ _ h1 (by omega) (by omega) (by omega), Int.toNat_natCast]
  rw [hasE, bitI_nat hij, key, ← and_pow]
  rw [Bool.eq_iff_iff, bne_iff_ne, bne_iff_ne]
  omega
theorem setE_bit {e : Int} (he : okI .u32 e) {i j : Nat} (hij : i ≤ j) (hj : j ≤ 4) (q : Nat) : (setE e i j).toNat.testBit q = (e.toNat.testBit q || decide (q = tri j + i)) := by
  obtain ⟨h1, h2⟩ := okE he
  have h3 := pow_lt hj hij
  have key : bits .or .u32 e (((2 ^ (tri j + i) : Nat)) : Int) = ((e.toNat ||| 2 ^ (tri j + i) : Nat) : Int) := by
    generalize 2 ^ (tri j + i) = p at h3 ⊢
    rw [u32_or _ _ h1 (by omega) (by omega) (by omega), Int.toNat_natCast]
  rw [setE, bitI_nat hij, key, Int.toNat_natCast, Nat.testBit_or, Nat.testBit_two_pow]
  congr 1
  rw [Bool.eq_iff_iff]; simp; omega
theorem rowE_bit (P : Nat → Nat → Bool) {j : Nat} (hj : j ≤ 4) {a : Int} (ha : okI .u32 a) (i : Nat) (hi : i ≤ j) (q : Nat) :
    (rowE P j i a).toNat.testBit q = (a.toNat.testBit q || (decide (tri j ≤ q ∧ q < tri j + i) && P (q - tri j) j)) := by
  induction i with
  | zero => simp [rowE]; intro h1 h2; omega
  | succ i ih =>
    have h1 := ih (by omega)
    unfold rowE
    cases hp : P i j
    · rw [if_neg (by simp), h1]
      congr 1
      by_cases hq : q = tri j + i
      · subst hq
        simp [hp]
      · have : decide (tri j ≤ q ∧ q < tri j + i) = decide (tri j ≤ q ∧ q < tri j + (i + 1)) := by rw [decide_eq_decide]; omega
        rw [this]
    · rw [if_pos rfl, setE_bit (rowE_ok P j i ha) (by omega) hj, h1, Bool.or_assoc]
      congr 1
      by_cases hq : q = tri j + i
      · subst hq
        simp [hp]
      · have : decide (tri j ≤ q ∧ q < tri j + i) = decide (tri j ≤ q ∧ q < tri j + (i + 1)) := by rw [decide_eq_decide]; omega
        rw [this]; simp [hq]
theorem madeE_bit (P : Nat → Nat → Bool) (n : Nat) (hn : n ≤ 5) : (∀ i j, i < j → j < n → (madeE P n).toNat.testBit (tri j + i) = P i j) ∧ ∀ q, tri n ≤ q → (madeE P n).toNat.testBit q = false := by
  induction n with
  | zero => exact ⟨fun i j _ h => absurd h (Nat.not_lt_zero j), fun q _ => by simp [madeE]⟩
  | succ n ih =>
    obtain ⟨h1, h2⟩ := ih (by omega)
    simp only [madeE]
    refine ⟨fun i j hij hj => ?_, fun q hq => ?_⟩
    · rw [rowE_bit P (by omega) (madeE_ok P n) n (Nat.le_refl _)]
      rcases Nat.lt_or_ge j n with h | h
      · rw [h1 i j hij h]
        have : tri j + i < tri n := by have := tri_mono (show j + 1 ≤ n from h); rw [tri] at this; omega
        have : decide (tri n ≤ tri j + i ∧ tri j + i < tri n + n) = false := by simp; omega
        rw [this]; simp
      · obtain rfl : j = n := by omega
        rw [h2 _ (by omega)]
        simp [hij]
    · rw [tri] at hq
      rw [rowE_bit P (by omega) (madeE_ok P n) n (Nat.le_refl _), h2 q (by omega)]
      have : decide (tri n ≤ q ∧ q < tri n + n) = false := by simp; omega
      rw [this]; rfl
theorem madeE_has (P : Nat → Nat → Bool) {n : Nat} (hn : n ≤ 5) {i j : Nat} (hij : i < j) (hj : j < n) : hasE (madeE P n) i j = P i j := by
  rw [hasE_bit (madeE_ok P n) (by omega) (by omega)]
  exact (madeE_bit P n hn).1 i j hij hj
theorem limN_nat {n : Nat} (hn : n ≤ 5) : limN n = ((2 ^ tri n : Nat) : Int) := by
  have : n = 0 ∨ n = 1 ∨ n = 2 ∨ n = 3 ∨ n = 4 ∨ n = 5 := by omega
  rcases this with rfl | rfl | rfl | rfl | rfl | rfl <;> decide
theorem madeE_lt (P : Nat → Nat → Bool) {n : Nat} (hn : n ≤ 5) : 0 ≤ madeE P n ∧ madeE P n < limN n := by
  have h0 := okE (madeE_ok P n)
  refine ⟨h0.1, ?_⟩
  rw [limN_nat hn]
  have : (madeE P n).toNat < 2 ^ tri n := Nat.lt_pow_two_of_testBit _ fun q hq => (madeE_bit P n hn).2 q hq
  omega
/-- What a graph on a list has. -/
theorem onE_has {e : Int} {L : List Int} (hl : L.length ≤ 5) {i j : Nat} (hi : i < L.length) (hj : j < L.length) (hne : i ≠ j) : hasE (onE e L) i j = hasE e (gi L i) (gi L j) := by
  rcases Nat.lt_or_ge i j with h | h
  · exact madeE_has _ hl h hj
  · rw [hasE_comm, hasE_comm e]
    exact madeE_has _ hl (by omega) hi
theorem onE_lt (e : Int) {L : List Int} (hl : L.length ≤ 5) : 0 ≤ onE e L ∧ onE e L < limN L.length := madeE_lt _ hl
/-- One list behind another one. -/
def compL (L M : List Int) : List Int := M.map fun a => gi L a.toNat
theorem compL_len (L M : List Int) : (compL L M).length = M.length := by simp [compL]
theorem gi_compL (L M : List Int) {i : Nat} (hi : i < M.length) : gi (compL L M) i = gi L (gi M i).toNat := by
  simp [gi, compL, List.getElem?_map, List.getElem?_eq_getElem hi]
theorem onE_onE (e : Int) {L M : List Int} (hL : L.length ≤ 5) (hM : VL M) (hlt : ∀ i, i < M.length → gi M i < L.length) : onE (onE e L) M = onE e (compL L M) := by
  unfold onE
  rw [compL_len]
  refine madeE_congr fun i j hij hj => ?_
  rw [gi_compL L M (by omega), gi_compL L M hj]
  have h1 := hM.2.1 i (by omega)
  have h2 := hM.2.1 j hj
  have h3 := hM.2.2 i j hij hj
  have h4 := hlt i (by omega)
  have h5 := hlt j hj
  have := onE_has (e := e) (L := L) hL (i := (gi M i).toNat) (j := (gi M j).toNat) (by omega) (by omega) (by omega)
  rw [show (((gi M i).toNat : Nat) : Int) = gi M i by omega, show (((gi M j).toNat : Nat) : Int) = gi M j by omega] at this
  exact this
def idB : Bool := (List.range 6).all fun n => (List.range (limN n).toNat).all fun e => decide (onE (e : Int) (seqI n) = (e : Int))
theorem idB_t : idB = true := by decide +kernel
theorem onE_id {n : Nat} (hn : n ≤ 5) {e : Int} (h0 : 0 ≤ e) (he : e < limN n) : onE e (seqI n) = e := by
  have h := idB_t
  simp only [idB, List.all_eq_true, List.mem_range, decide_eq_true_eq] at h
  have := h n (by omega) e.toNat (by omega)
  rwa [show ((e.toNat : Nat) : Int) = e by omega] at this
end Go.Proofs.Ytbpamifkfbcloaa
