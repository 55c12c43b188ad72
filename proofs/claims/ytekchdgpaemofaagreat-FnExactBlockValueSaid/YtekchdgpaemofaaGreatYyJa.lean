import Derived.Test.YtekchdgpaemofaaGreatYyDu
import Derived.Test.YtekchdgpaemofaaGreatYyBb
namespace Go.Proofs.YtekchdgpaemofaaGreat
open Go.ChangeShapes Go.WideShapes Go.RowKit
set_option linter.unusedVariables false
def leftI (k n : Nat) (L : List Int) : List Int := (othI k n).filter fun d => !memB L d
def meetB (a b : List Int) : Bool := a.any fun x => memB b x
def jnStep (p : Bool) (P2 : List Int → Bool) (s : Int × Int) (L : List Int) : Int × Int := (if p && P2 L then wrap64 (s.1 + 1) else s.1, wrap64 (s.2 + 1))
def jnOut (P1 P2 : List Int → Bool) (k n q2 : Nat) (s : Int × Int) (L : List Int) : Int × Int := (chs (leftI k n L) q2 0 []).foldl (jnStep (P1 L) P2) s
def prC (k n q1 q2 : Nat) : List (List Int × List Int) := (chs (othI k n) q1 0 []).flatMap fun a => (chs (leftI k n a) q2 0 []).map fun b => (a, b)
def prS (k n q1 q2 : Nat) : List (List Int × List Int) := (s4L q1 k n).flatMap fun a => ((s4L q2 k n).filter fun b => !meetB a b).map fun b => (a, b)
theorem pr_perm : ∀ n ≤ 5, ∀ k ≤ 3, ∀ q1 ≤ 5, ∀ q2 ≤ 5, (decide (k + q1 + q2 ≤ n)) = true → ((prC k n q1 q2).isPerm (prS k n q1 q2) && decide (1 ≤ (prC k n q1 q2).length) && decide ((prC k n q1 q2).length ≤ 100)) = true := by decide +kernel
def jnM (P1 P2 : List Int → Bool) (k n q1 q2 : Nat) : Nat := (prC k n q1 q2).countP fun p => P1 p.1 && P2 p.2
def jnA (k n q1 q2 : Nat) : Nat := (prC k n q1 q2).length
theorem jn_bd {k n q1 q2 : Nat} (hn : n ≤ 5) (hk : k ≤ 3) (h : k + q1 + q2 ≤ n) (P1 P2 : List Int → Bool) : 1 ≤ jnA k n q1 q2 ∧ jnA k n q1 q2 ≤ 100 ∧ jnM P1 P2 k n q1 q2 ≤ 100 := by
  have h1 := pr_perm n hn k hk q1 (by omega) q2 (by omega) (by simpa using h)
  simp only [Bool.and_eq_true, decide_eq_true_eq] at h1
  refine ⟨h1.1.2, h1.2, Nat.le_trans List.countP_le_length h1.2⟩
theorem jn_same {k n q1 q2 : Nat} (hn : n ≤ 5) (hk : k ≤ 3) (h : k + q1 + q2 ≤ n) (P1 P2 : List Int → Bool) : ((prS k n q1 q2).countP fun p => P1 p.1 && P2 p.2) = jnM P1 P2 k n q1 q2 ∧ (prS k n q1 q2).length = jnA k n q1 q2 := by
  have h1 := pr_perm n hn k hk q1 (by omega) q2 (by omega) (by simpa using h)
  simp only [Bool.and_eq_true, decide_eq_true_eq] at h1
  have hp := List.isPerm_iff.1 h1.1.1
  exact ⟨(List.Perm.countP_eq _ hp).symm, hp.length_eq.symm⟩
theorem jn_fold1 (p : Bool) (P2 : List Int → Bool) (Ls : List (List Int)) (m a : Nat) (hm : m + Ls.length < 1000000) (ha : a + Ls.length < 1000000) :
    Ls.foldl (jnStep p P2) ((m : Int), (a : Int)) = (((m + Ls.countP (fun b => p && P2 b) : Nat) : Int), ((a + Ls.length : Nat) : Int)) := by
  induction Ls generalizing m a with
  | nil => rfl
  | cons L Ls ih =>
    simp only [List.length_cons] at hm ha
    have w1 : ∀ x : Nat, x < 1000000 → wrap64 ((x : Int) + 1) = ((x + 1 : Nat) : Int) := fun x hx => by unfold wrap64; omega
    simp only [List.foldl_cons, jnStep]
    rw [w1 a (by omega)]
    cases hp : (p && P2 L) with
    | true =>
      rw [if_pos rfl, w1 m (by omega), ih _ _ (by omega) (by omega), List.countP_cons_of_pos (by simpa using hp), List.length_cons]
      congr 2 <;> omega
    | false =>
      rw [if_neg (by decide), ih _ _ (by omega) (by omega), List.countP_cons_of_neg (by simpa using hp), List.length_cons]
      congr 2
      omega
theorem jn_fold2 (P1 P2 : List Int → Bool) (k n q2 : Nat) (Os : List (List Int)) (m a : Nat) (hb : m + (Os.flatMap fun a => (chs (leftI k n a) q2 0 []).map fun b => (a, b)).length < 1000000) (ha : a + (Os.flatMap fun a => (chs (leftI k n a) q2 0 []).map fun b => (a, b)).length < 1000000) :
    Os.foldl (jnOut P1 P2 k n q2) ((m : Int), (a : Int)) = (((m + ((Os.flatMap fun a => (chs (leftI k n a) q2 0 []).map fun b => (a, b)).countP fun p => P1 p.1 && P2 p.2) : Nat) : Int), ((a + (Os.flatMap fun a => (chs (leftI k n a) q2 0 []).map fun b => (a, b)).length : Nat) : Int)) := by
  induction Os generalizing m a with
  | nil => rfl
  | cons L Os ih =>
    simp only [List.flatMap_cons, List.length_append, List.length_map] at hb ha
    have hle := List.countP_le_length (p := fun b => P1 L && P2 b) (l := chs (leftI k n L) q2 0 [])
    simp only [List.foldl_cons, jnOut]
    rw [jn_fold1 _ _ _ _ _ (by omega) (by omega), ih _ _ (by omega) (by omega)]
    simp only [List.flatMap_cons, List.countP_append, List.countP_map, List.length_append, List.length_map, Function.comp_def]
    congr 2 <;> omega
theorem jn_fold {k n q1 q2 : Nat} (hn : n ≤ 5) (hk : k ≤ 3) (h : k + q1 + q2 ≤ n) (P1 P2 : List Int → Bool) : (chs (othI k n) q1 0 []).foldl (jnOut P1 P2 k n q2) (0, 0) = (((jnM P1 P2 k n q1 q2 : Nat) : Int), ((jnA k n q1 q2 : Nat) : Int)) := by
  have hb := jn_bd hn hk h P1 P2
  have hl : (prC k n q1 q2).length ≤ 100 := hb.2.1
  have := jn_fold2 P1 P2 k n q2 (chs (othI k n) q1 0 []) 0 0 (by rw [Nat.zero_add]; exact Nat.lt_of_le_of_lt hl (by decide)) (by rw [Nat.zero_add]; exact Nat.lt_of_le_of_lt hl (by decide))
  rw [Nat.zero_add, Nat.zero_add] at this
  exact this
def jns (P1 P2 : List Int → Bool) (k n q1 q2 : Nat) : Int × Int := (lowP (jnM P1 P2 k n q1 q2 : Nat) (jnA k n q1 q2 : Nat), lowQ (jnM P1 P2 k n q1 q2 : Nat) (jnA k n q1 q2 : Nat))
theorem jns_vl {k n q1 q2 : Nat} (hn : n ≤ 5) (hk : k ≤ 3) (h : k + q1 + q2 ≤ n) (P1 P2 : List Int → Bool) : Vl (jns P1 P2 k n q1 q2) (jnM P1 P2 k n q1 q2 : Nat) (jnA k n q1 q2 : Nat) :=
  low_vl (by have := (jn_bd hn hk h P1 P2).1; omega)
end Go.Proofs.YtekchdgpaemofaaGreat
