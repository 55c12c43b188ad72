/- Pivots and rows of a matrix: plain words, the same for both sides. -/
import Derived.Test.YtekchdgpaemofaaSm
import Derived.Test.YtekchdgpaemofaaAm
namespace Go.Proofs.Ytekchdgpaemofaa
open Go.ChangeShapes Go.WideShapes Go.RowKit
set_option linter.unusedVariables false
/-- A row. -/
def pvX (S : Nat → Nat → Int × Int) (k i : Nat) : Int × Int := if i ≤ k then (if i = k then (1, 1) else (0, 1)) else if (S k k).1 = 0 then (0, 1) else kD (divO (S i k) (S k k))
def pvXz (S : Nat → Nat → Int × Int) (k i : Nat) : Bool := decide (k < i) && decide ((S k k).1 ≠ 0) && noB (divO (S i k) (S k k))
/-- What is left. -/
def pvD (S : Nat → Nat → Int × Int) (k i j : Nat) : Int × Int := kD (subO (S i j) (kD (mulO (pvX S k i) (S k j))))
def pvDz (S : Nat → Nat → Int × Int) (k i j : Nat) : Bool := noB (mulO (pvX S k i) (S k j)) || noB (subO (S i j) (kD (mulO (pvX S k i) (S k j))))
def pvY (S : Nat → Nat → Int × Int) (k i j : Nat) : Int × Int := if i ≤ k ∨ j ≤ k then S i j else pvD S k i j
def pvYz (S : Nat → Nat → Int × Int) (k i j : Nat) : Bool := if i ≤ k ∨ j ≤ k then false else pvDz S k i j
def pwY (S : Nat → Nat → Int × Int) (k i j : Nat) : Int × Int := if i ≤ k ∨ j ≤ k then (0, 1) else pvD S k i j
def pvS (S : Nat → Nat → Int × Int) : Nat → Nat → Nat → Int × Int
  | 0 => S
  | k + 1 => if (pvS S k k k).1 = 0 then pvS S k else pvY (pvS S k) k
def pwS (S : Nat → Nat → Int × Int) : Nat → Nat → Nat → Int × Int
  | 0 => S
  | k + 1 => if (pwS S k k k).1 = 0 then pwS S k else pwY (pwS S k) k
/-- Whether the steps end here; whether a fraction is too large. -/
def pvF (S : Nat → Nat → Int × Int) (n k i : Nat) : Bool := decide (k < i) && decide (i < n) && decide ((S i k).1 ≠ 0)
def pvE (S : Nat → Nat → Int × Int) (n k : Nat) : Bool := decide ((S k k).1 < 0) || (decide ((S k k).1 = 0) && rowZ n (pvF S n k))
def pvG (S : Nat → Nat → Int × Int) (n k : Nat) : Bool := rowZ n (pvXz S k) || (decide ((S k k).1 ≠ 0) && matZ n n (pvYz S k))
/-- The code of m more steps. -/
def pvC (T : Nat → Nat → Nat → Int × Int) (n : Nat) : Nat → Nat → Int
  | 0, _ => 0
  | m + 1, k => if pvE (T k) n k then 4 else if pvG (T k) n k then 3 else pvC T n m (k + 1)
def Agr (S T : Nat → Nat → Int × Int) (k : Nat) : Prop := ∀ i j, k ≤ i → k ≤ j → S i j = T i j
theorem Agr.x {S T : Nat → Nat → Int × Int} {k : Nat} (h : Agr S T k) (i : Nat) : pvX S k i = pvX T k i := by
  unfold pvX
  by_cases hi : i ≤ k
  · rw [if_pos hi, if_pos hi]
  · rw [if_neg hi, if_neg hi, h k k (Nat.le_refl _) (Nat.le_refl _), h i k (by omega) (Nat.le_refl _)]
theorem Agr.xz {S T : Nat → Nat → Int × Int} {k : Nat} (h : Agr S T k) : pvXz S k = pvXz T k := by
  funext i
  unfold pvXz
  by_cases hi : k < i
  · rw [h k k (Nat.le_refl _) (Nat.le_refl _), h i k (by omega) (Nat.le_refl _)]
  · simp [hi]
theorem Agr.d {S T : Nat → Nat → Int × Int} {k : Nat} (h : Agr S T k) {i j : Nat} (hi : k ≤ i) (hj : k ≤ j) : pvD S k i j = pvD T k i j := by
  unfold pvD
  rw [h.x, h k j (Nat.le_refl _) hj, h i j hi hj]
theorem Agr.yz {S T : Nat → Nat → Int × Int} {k : Nat} (h : Agr S T k) : pvYz S k = pvYz T k := by
  funext i j
  unfold pvYz
  by_cases hi : i ≤ k ∨ j ≤ k
  · rw [if_pos hi, if_pos hi]
  · rw [if_neg hi, if_neg hi]
    unfold pvDz
    rw [h.x, h k j (Nat.le_refl _) (by omega), h i j (by omega) (by omega)]
theorem Agr.e {S T : Nat → Nat → Int × Int} {n k : Nat} (h : Agr S T k) : pvE S n k = pvE T n k := by
  have h1 : pvF S n k = pvF T n k := by
    funext i
    unfold pvF
    by_cases hi : k < i
    · rw [h i k (by omega) (Nat.le_refl _)]
    · simp [hi]
  unfold pvE
  rw [h1, h k k (Nat.le_refl _) (Nat.le_refl _)]
theorem Agr.g {S T : Nat → Nat → Int × Int} {n k : Nat} (h : Agr S T k) : pvG S n k = pvG T n k := by
  unfold pvG
  rw [h.xz, h.yz, h k k (Nat.le_refl _) (Nat.le_refl _)]
theorem pw_agr (S : Nat → Nat → Int × Int) : ∀ k, Agr (pwS S k) (pvS S k) k
  | 0 => fun _ _ _ _ => rfl
  | k + 1 => fun i j hi hj => by
    have ih := pw_agr S k
    show (if (pwS S k k k).1 = 0 then pwS S k else pwY (pwS S k) k) i j = (if (pvS S k k k).1 = 0 then pvS S k else pvY (pvS S k) k) i j
    rw [ih k k (Nat.le_refl _) (Nat.le_refl _)]
    split
    · exact ih i j (by omega) (by omega)
    · unfold pwY pvY
      rw [if_neg (by omega), if_neg (by omega)]
      exact ih.d (by omega) (by omega)
theorem pvC_same (S : Nat → Nat → Int × Int) (n : Nat) : ∀ m k, pvC (pwS S) n m k = pvC (pvS S) n m k
  | 0, _ => rfl
  | m + 1, k => by
    unfold pvC
    rw [(pw_agr S k).e, (pw_agr S k).g, pvC_same S n m (k + 1)]
/-- All stay fractions. -/
theorem pvX_in {S : Nat → Nat → Int × Int} {n k i : Nat} (hS : ∀ i, i < n → ∀ j, j < n → inF (S i j)) (hk : k < n) (hi : i < n) : inF (pvX S k i) := by
  unfold pvX
  split
  · split
    · exact one_in
    · exact zero_in
  · split
    · exact zero_in
    · exact kdivI (hS i hi k hk) (by assumption)
theorem pvD_in {S : Nat → Nat → Int × Int} {n k i j : Nat} (hS : ∀ i, i < n → ∀ j, j < n → inF (S i j)) (hk : k < n) (hi : i < n) (hj : j < n) : inF (pvD S k i j) :=
  ksubI (hS i hi j hj) (kmulI (pvX_in hS hk hi) (hS k hk j hj))
theorem pvS_in {S : Nat → Nat → Int × Int} {n : Nat} (hS : ∀ i, i < n → ∀ j, j < n → inF (S i j)) : ∀ k, k ≤ n → ∀ i, i < n → ∀ j, j < n → inF (pvS S k i j)
  | 0, _ => hS
  | k + 1, hk => fun i hi j hj => by
    have ih := pvS_in hS k (by omega)
    unfold pvS
    split
    · exact ih i hi j hj
    · unfold pvY
      split
      · exact ih i hi j hj
      · exact pvD_in ih (by omega) hi hj
theorem pwS_in {S : Nat → Nat → Int × Int} {n : Nat} (hS : ∀ i, i < n → ∀ j, j < n → inF (S i j)) : ∀ k, k ≤ n → ∀ i, i < n → ∀ j, j < n → inF (pwS S k i j)
  | 0, _ => hS
  | k + 1, hk => fun i hi j hj => by
    have ih := pwS_in hS k (by omega)
    unfold pwS
    split
    · exact ih i hi j hj
    · unfold pwY
      split
      · exact zero_in
      · exact pvD_in ih (by omega) hi hj
theorem pvC_step {T : Nat → Nat → Nat → Int × Int} {n k : Nat} (h : k < n) : pvC T n (n - k) k = if pvE (T k) n k then 4 else if pvG (T k) n k then 3 else pvC T n (n - (k + 1)) (k + 1) := by
  rw [show n - k = (n - (k + 1)) + 1 by omega]
  rfl
/-- The codes and the results of SquaresOf. -/
def sqC (xss : List (List (Int × Int))) : Int := if matOk xss then pvC (pvS (at2 xss)) xss.length xss.length 0 else 1
def sqP (xss : List (List (Int × Int))) : List (Int × Int) := if sqC xss = 0 then rowL xss.length fun k => pvS (at2 xss) k k k else []
def sqR (xss : List (List (Int × Int))) : List (List (Int × Int)) := if sqC xss = 0 then matL xss.length xss.length fun k => pvX (pvS (at2 xss) k) k else []
theorem pvC_or (T : Nat → Nat → Nat → Int × Int) (n : Nat) : ∀ m k, pvC T n m k = 0 ∨ pvC T n m k = 3 ∨ pvC T n m k = 4
  | 0, _ => .inl rfl
  | m + 1, k => by
    unfold pvC
    split
    · exact .inr (.inr rfl)
    · split
      · exact .inr (.inl rfl)
      · exact pvC_or T n m (k + 1)
theorem mat_self {xss : List (List (Int × Int))} (h : SqM xss) : matL xss.length xss.length (at2 xss) = xss := by
  refine List.ext_getElem (by rw [matL_len]) fun i h1 h2 => ?_
  have hr : xss[i].length = xss.length := (h.2 _ (List.getElem_mem h2)).1
  have e1 : (matL xss.length xss.length (at2 xss))[i] = rowL xss.length (at2 xss i) := by
    have := matL_get (n := xss.length) (at2 xss) (m := xss.length) h2
    rw [List.getElem?_eq_getElem h1] at this
    exact Option.some.inj this
  rw [e1]
  refine List.ext_getElem (by rw [rowL_len, hr]) fun j h3 h4 => ?_
  simp [rowL, at2, List.getElem?_eq_getElem h2, List.getElem?_eq_getElem h4]
end Go.Proofs.Ytekchdgpaemofaa
