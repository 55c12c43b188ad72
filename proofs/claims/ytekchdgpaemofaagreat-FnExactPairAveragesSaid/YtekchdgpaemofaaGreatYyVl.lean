import Derived.Test.YtekchdgpaemofaaGreatYyFm
namespace Go.Proofs.YtekchdgpaemofaaGreat
open Go.RowKit
set_option linter.unusedVariables false
def Vl (d : Int × Int) (N D : Int) : Prop := 1 ≤ d.2 ∧ Int.gcd d.1 d.2 = 1 ∧ d.1 * D = N * d.2
theorem low_pos {p q : Int} (hq : 1 ≤ q) : ∃ g : Int, 1 ≤ g ∧ g = (Int.gcd p q : Int) ∧ p = g * lowP p q ∧ q = g * lowQ p q := by
  have hg := gcd_pos' p q (by omega)
  have hn : ¬ q < 0 := by omega
  refine ⟨_, by omega, rfl, ?_, ?_⟩
  · unfold lowP
    rw [if_neg hn, Int.mul_comm]
    exact (Int.tdiv_mul_cancel (Int.gcd_dvd_left p q)).symm
  · unfold lowQ
    rw [if_neg hn, Int.mul_comm]
    exact (Int.tdiv_mul_cancel (Int.gcd_dvd_right p q)).symm
theorem low_vl {p q : Int} (hq : 1 ≤ q) : Vl (lowP p q, lowQ p q) p q := by
  obtain ⟨g, hg, hgg, hp, hqq⟩ := low_pos (p := p) hq
  have hQ : 1 ≤ lowQ p q := lowQ_pos p q (by omega)
  refine ⟨hQ, ?_, ?_⟩
  · show Int.gcd (lowP p q) (lowQ p q) = 1
    have h1 : Int.gcd p q = Int.gcd (g * lowP p q) (g * lowQ p q) := by rw [← hp, ← hqq]
    rw [Int.gcd_mul_left] at h1
    have h2 : (Int.gcd p q : Int) = g.natAbs * Int.gcd (lowP p q) (lowQ p q) := by exact_mod_cast h1
    have h3 : (g.natAbs : Int) = g := by omega
    rw [h3, ← hgg] at h2
    have h4 : 0 < Int.gcd (lowP p q) (lowQ p q) := Int.gcd_pos_of_ne_zero_right _ (by omega)
    have h5 : g * 1 = g * (Int.gcd (lowP p q) (lowQ p q) : Int) := by rw [Int.mul_one]; exact h2
    have := Int.eq_of_mul_eq_mul_left (by omega) h5
    omega
  · show lowP p q * q = p * lowQ p q
    generalize lowP p q = P at hp ⊢
    generalize lowQ p q = Q at hqq ⊢
    rw [hp, hqq, Int.mul_comm g P, Int.mul_assoc]
theorem Vl.dvd {d : Int × Int} {N D : Int} (h : Vl d N D) : d.2 ∣ D := by
  have h1 : d.2 ∣ d.1 * D := ⟨N, by rw [h.2.2, Int.mul_comm]⟩
  have h2 := Int.natAbs_dvd_natAbs.2 h1
  rw [Int.natAbs_mul] at h2
  have h3 : Nat.Coprime d.2.natAbs d.1.natAbs := by rw [Nat.coprime_comm]; exact h.2.1
  exact Int.natAbs_dvd_natAbs.1 (Nat.Coprime.dvd_of_dvd_mul_left h3 h2)
theorem Vl.bd {d : Int × Int} {N D : Int} (h : Vl d N D) (hD : 1 ≤ D) : d.2 ≤ D ∧ d.1.natAbs ≤ N.natAbs := by
  have h1 := Int.le_of_dvd (by omega) h.dvd
  refine ⟨h1, ?_⟩
  have h2 : d.1.natAbs * D.natAbs = N.natAbs * d.2.natAbs := by rw [← Int.natAbs_mul, ← Int.natAbs_mul, h.2.2]
  have h3 : d.2.natAbs ≤ D.natAbs := by have := h.1; omega
  rcases Nat.lt_or_ge N.natAbs d.1.natAbs with hlt | hge
  · exfalso
    have h4 : N.natAbs * d.2.natAbs ≤ N.natAbs * D.natAbs := Nat.mul_le_mul_left _ h3
    have h5 : N.natAbs * D.natAbs < d.1.natAbs * D.natAbs := Nat.mul_lt_mul_of_pos_right hlt (by omega)
    omega
  · exact hge
theorem Vl.small {d : Int × Int} {N D : Int} (h : Vl d N D) (hD : 1 ≤ D) (hD2 : D ≤ 1000000000) (hN : -1000000000 ≤ N ∧ N ≤ 1000000000) : smallB d.1 d.2 = true ∧ inF d := by
  obtain ⟨h1, h2⟩ := h.bd hD
  have h3 := h.1
  refine ⟨?_, ?_⟩
  · unfold smallB
    rw [Bool.and_eq_true, decide_eq_true_eq, decide_eq_true_eq]
    unfold absI
    omega
  · unfold inF
    omega
theorem Vl.add {a b : Int × Int} {N1 N2 D : Int} (ha : Vl a N1 D) (hb : Vl b N2 D) : Vl (addX a.1 a.2 b.1 b.2, addY a.1 a.2 b.1 b.2) (N1 + N2) D := by
  have hq : 1 ≤ a.2 * b.2 := Int.mul_pos (by have := ha.1; omega) (by have := hb.1; omega)
  obtain ⟨h1, h2, h3⟩ := low_vl (p := a.1 * b.2 + b.1 * a.2) hq
  refine ⟨h1, h2, ?_⟩
  have h4 : lowP (a.1 * b.2 + b.1 * a.2) (a.2 * b.2) * (a.2 * b.2) = (a.1 * b.2 + b.1 * a.2) * lowQ (a.1 * b.2 + b.1 * a.2) (a.2 * b.2) := h3
  show lowP (a.1 * b.2 + b.1 * a.2) (a.2 * b.2) * D = (N1 + N2) * lowQ (a.1 * b.2 + b.1 * a.2) (a.2 * b.2)
  have h5 := ha.2.2
  have h6 := hb.2.2
  generalize lowP (a.1 * b.2 + b.1 * a.2) (a.2 * b.2) = P at h4 ⊢
  generalize lowQ (a.1 * b.2 + b.1 * a.2) (a.2 * b.2) = Q at h4 ⊢
  apply Int.eq_of_mul_eq_mul_right (show a.2 * b.2 ≠ 0 by omega)
  calc P * D * (a.2 * b.2)
      = (P * (a.2 * b.2)) * D := by ac_rfl
    _ = ((a.1 * b.2 + b.1 * a.2) * Q) * D := by rw [h4]
    _ = ((a.1 * D) * b.2 + (b.1 * D) * a.2) * Q := by
        rw [Int.add_mul, Int.add_mul, Int.add_mul]
        congr 1 <;> ac_rfl
    _ = ((N1 * a.2) * b.2 + (N2 * b.2) * a.2) * Q := by rw [h5, h6]
    _ = (N1 + N2) * Q * (a.2 * b.2) := by
        rw [Int.add_mul, Int.add_mul, Int.add_mul]
        congr 1 <;> ac_rfl
theorem Vl.zero (D : Int) : Vl (0, 1) 0 D := ⟨by decide, by decide, by simp⟩
theorem smallO_of {p q : Int} (h : smallB p q = true) : smallO p q = some (p, q) := by unfold smallO; rw [h]; rfl
end Go.Proofs.YtekchdgpaemofaaGreat
