import Derived.Test.YtekchdgpaemofaaGreatYyFm
import Derived.Test.YtekchdgpaemofaaGreatYyBa
import Derived.Test.YtekchdgpaemofaaGreatYyVs
namespace Go.Proofs.YtekchdgpaemofaaGreat
open Go.RowKit
set_option linter.unusedVariables false
def Vl (d : Int × Int) (N D : Int) : Prop := 1 ≤ d.2 ∧ Int.gcd d.1 d.2 = 1 ∧ d.1 * D = N * d.2
theorem low_pos {p q : Int} (hq : 1 ≤ q) : ∃ g : Int, 1 ≤ g ∧ g = (Int.gcd p q : Int) ∧ p = g * lowP p q ∧ q = g * lowQ p q := by
  have hg := gcd_pos' p q (by omega)
  have hn : ¬ q < 0 := by omega
  refine ⟨_, by omega, rfl, ?_, ?_⟩
  · unfold lowP
    rw [if_neg hn, Int.mul_comm]
    exact (Int.tdiv_mul_cancel (Int.gcd_dvd_left p q)).symm
  · unfold lowQ
    rw [if_neg hn, Int.mul_comm]
    exact (Int.tdiv_mul_cancel (Int.gcd_dvd_right p q)).symm
theorem low_vl {p q : Int} (hq : 1 ≤ q) : Vl (lowP p q, lowQ p q) p q := by
  obtain ⟨g, hg, hgg, hp, hqq⟩ := low_pos (p := p) hq
  have hQ : 1 ≤ lowQ p q := lowQ_pos p q (by omega)
  refine ⟨hQ, ?_, ?_⟩
  · show Int.gcd (lowP p q) (lowQ p q) = 1
    have h1 : Int.gcd p q = Int.gcd (g * lowP p q) (g * lowQ p q) := by rw [← hp, ← hqq]
    rw [Int.gcd_mul_left] at h1
    have h2 : (Int.gcd p q : Int) = g.natAbs * Int.gcd (lowP p q) (lowQ p q) := by exact_mod_cast h1
    have h3 : (g.natAbs : Int) = g := by omega
    rw [h3, ← hgg] at h2
    have h4 : 0 < Int.gcd (lowP p q) (lowQ p q) := Int.gcd_pos_of_ne_zero_right _ (by omega)
    have h5 : g * 1 = g * (Int.gcd (lowP p q) (lowQ p q) : Int) := by rw [Int.mul_one]; exact h2
    have := Int.eq_of_mul_eq_mul_left (by omega) h5
    omega
  · show lowP p q * q = p * lowQ p q
    generalize lowP p q = P at hp ⊢
    generalize lowQ p q = Q at hqq ⊢
    rw [hp, hqq, Int.mul_comm g P, Int.mul_assoc]
theorem Vl.dvd {d : Int × Int} {N D : Int} (h : Vl d N D) : d.2 ∣ D := by
  have h1 : d.2 ∣ d.1 * D := ⟨N, by rw [h.2.2, Int.mul_comm]⟩
  have h2 := Int.natAbs_dvd_natAbs.2 h1
  rw [Int.natAbs_mul] at h2
  have h3 : Nat.Coprime d.2.natAbs d.1.natAbs := by rw [Nat.coprime_comm]; exact h.2.1
  exact Int.natAbs_dvd_natAbs.1 (Nat.Coprime.dvd_of_dvd_mul_left h3 h2)
theorem Vl.bd {d : Int × Int} {N D : Int} (h : Vl d N D) (hD : 1 ≤ D) : d.2 ≤ D ∧ d.1.natAbs ≤ N.natAbs := by
  have h1 := Int.le_of_dvd (by omega) h.dvd
  refine ⟨h1, ?_⟩
  have h2 : d.1.natAbs * D.natAbs = N.natAbs * d.2.natAbs := by rw [← Int.natAbs_mul, ← Int.natAbs_mul, h.2.2]
  have h3 : d.2.natAbs ≤ D.natAbs := by have := h.1; omega
  rcases Nat.lt_or_ge N.natAbs d.1.natAbs with hlt | hge
  · exfalso
    have h4 : N.natAbs * d.2.natAbs ≤ N.natAbs * D.natAbs := Nat.mul_le_mul_left _ h3
    have h5 : N.natAbs * D.natAbs < d.1.natAbs * D.natAbs := Nat.mul_lt_mul_of_pos_right hlt (by omega)
    omega
  · exact hge
theorem Vl.small {d : Int × Int} {N D : Int} (h : Vl d N D) (hD : 1 ≤ D) (hD2 : D ≤ 1000000000) (hN : -1000000000 ≤ N ∧ N ≤ 1000000000) : smallB d.1 d.2 = true ∧ inF d := by
  obtain ⟨h1, h2⟩ := h.bd hD
  have h3 := h.1
  refine ⟨?_, ?_⟩
  · unfold smallB
    rw [Bool.and_eq_true, decide_eq_true_eq, decide_eq_true_eq]
    unfold absI
    omega
  · unfold inF
    omega
theorem Vl.add {a b : Int × Int} {N1 N2 D : Int} (ha : Vl a N1 D) (hb : Vl b N2 D) : Vl (addX a.1 a.2 b.1 b.2, addY a.1 a.2 b.1 b.2) (N1 + N2) D := by
  have hq : 1 ≤ a.2 * b.2 := Int.mul_pos (by have := ha.1; omega) (by have := hb.1; omega)
  obtain ⟨h1, h2, h3⟩ := low_vl (p := a.1 * b.2 + b.1 * a.2) hq
  refine ⟨h1, h2, ?_⟩
  have h4 : lowP (a.1 * b.2 + b.1 * a.2) (a.2 * b.2) * (a.2 * b.2) = (a.1 * b.2 + b.1 * a.2) * lowQ (a.1 * b.2 + b.1 * a.2) (a.2 * b.2) := h3
  show lowP (a.1 * b.2 + b.1 * a.2) (a.2 * b.2) * D = (N1 + N2) * lowQ (a.1 * b.2 + b.1 * a.2) (a.2 * b.2)
  have h5 := ha.2.2
  have h6 := hb.2.2
  generalize lowP (a.1 * b.2 + b.1 * a.2) (a.2 * b.2) = P at h4 ⊢
  generalize lowQ (a.1 * b.2 + b.1 * a.2) (a.2 * b.2) = Q at h4 ⊢
  apply Int.eq_of_mul_eq_mul_right (show a.2 * b.2 ≠ 0 by omega)
  calc P * D * (a.2 * b.2)
      = (P * (a.2 * b.2)) * D := by ac_rfl
    _ = ((a.1 * b.2 + b.1 * a.2) * Q) * D := by rw [h4]
    _ = ((a.1 * D) * b.2 + (b.1 * D) * a.2) * Q := by
        rw [Int.add_mul, Int.add_mul, Int.add_mul]
        congr 1 <;> ac_rfl
    _ = ((N1 * a.2) * b.2 + (N2 * b.2) * a.2) * Q := by rw [h5, h6]
    _ = (N1 + N2) * Q * (a.2 * b.2) := by
        rw [Int.add_mul, Int.add_mul, Int.add_mul]
        congr 1 <;> ac_rfl
theorem Vl.zero (D : Int) : Vl (0, 1) 0 D := ⟨by decide, by decide, by simp⟩
theorem smallO_of {p q : Int} (h : smallB p q = true) : smallO p q = some (p, q) := by unfold smallO; rw [h]; rfl
end Go.Proofs.YtekchdgpaemofaaGreat

namespace Go.Proofs.YtekchdgpaemofaaGreat
set_option linter.unusedVariables false
def avP (k : Nat) (te e : Int) (n : Nat) (L : List Int) : Bool := onE (onE e (L ++ rstI L n)) (seqI k) == te
def avF (k : Nat) (e : Int) (n : Nat) (L : List Int) : Flg := ((k : Int), ((n : Int), onE e (L ++ rstI L n)))
def avS (P : List Int → Bool) (X : List Int → Int × Int) (s : Bool × (Int × Int)) (L : List Int) : Bool × (Int × Int) := if P L then (s.1 || noB (addO s.2 (X L)), kD (addO s.2 (X L))) else s
theorem handed_no {σ : Type} (step : σ → List Int → σ) (Ls : List (List Int)) (s : σ) : handed (fun _ => false) step Ls s = (false, Ls.foldl step s) := by
  induction Ls generalizing s with
  | nil => rfl
  | cons L Ls ih => simp only [handed, Bool.false_eq_true, if_false, List.foldl_cons]; exact ih _
def AvI (P : List Int → Bool) (X : List Int → Int × Int) (Ls : List (List Int)) (D : Int) (a : Nat) (d : Int × Int) : Prop := inF d ∧ (Ls.take a).foldl (avS P X) (false, (0, 1)) = (false, d) ∧ ∃ M, Vl d M D ∧ 0 ≤ M ∧ M ≤ a * 100
theorem AvI.start (P : List Int → Bool) (X : List Int → Int × Int) (Ls : List (List Int)) (D : Int) : AvI P X Ls D 0 (0, 1) := ⟨zero_in, rfl, 0, Vl.zero D, Int.le_refl 0, by simp⟩
theorem AvI.yes {P : List Int → Bool} {X : List Int → Int × Int} {Ls : List (List Int)} {D : Int} {a : Nat} {d : Int × Int} {L : List Int} {N : Int} (h : AvI P X Ls D a d) (hL : Ls[a]? = some L) (hP : P L = true) (hX : Vl (X L) N D) (hN : 0 ≤ N ∧ N ≤ 100) (hD : 1 ≤ D ∧ D ≤ 10) (ha : a ≤ 1000) :
    inF (X L) ∧ ∃ d', addO d (X L) = some d' ∧ AvI P X Ls D (a + 1) d' := by
  obtain ⟨h1, h2, M, hM, m1, m2⟩ := h
  have hs := hM.add hX
  obtain ⟨s1, s2⟩ := hs.small hD.1 (by omega) (by omega)
  refine ⟨(hX.small hD.1 (by omega) (by omega)).2, _, smallO_of s1, s2, ?_, _, hs, by omega, by push_cast; omega⟩
  have e : addO d (X L) = some (addX d.1 d.2 (X L).1 (X L).2, addY d.1 d.2 (X L).1 (X L).2) := smallO_of s1
  rw [List.take_add_one, hL, List.foldl_append, h2]
  simp only [Option.toList, List.foldl_cons, List.foldl_nil]
  unfold avS
  rw [if_pos hP]
  show (false || noB (addO d (X L)), kD (addO d (X L))) = _
  rw [e]
  rfl
theorem AvI.no {P : List Int → Bool} {X : List Int → Int × Int} {Ls : List (List Int)} {D : Int} {a : Nat} {d : Int × Int} {L : List Int} (h : AvI P X Ls D a d) (hL : Ls[a]? = some L) (hP : P L = false) : AvI P X Ls D (a + 1) d := by
  obtain ⟨h1, h2, M, hM, m1, m2⟩ := h
  refine ⟨h1, ?_, M, hM, m1, by push_cast; omega⟩
  rw [List.take_add_one, hL, List.foldl_append, h2]
  simp only [Option.toList, List.foldl_cons, List.foldl_nil]
  unfold avS
  rw [hP]
  rfl
theorem AvI.all {P : List Int → Bool} {X : List Int → Int × Int} {Ls : List (List Int)} {D : Int} (hX : ∀ L ∈ Ls, P L = true → ∃ N, Vl (X L) N D ∧ 0 ≤ N ∧ N ≤ 100) (hD : 1 ≤ D ∧ D ≤ 10) (hl : Ls.length ≤ 1000) : ∀ a ≤ Ls.length, ∃ d, AvI P X Ls D a d := by
  intro a
  induction a with
  | zero => exact fun _ => ⟨_, AvI.start P X Ls D⟩
  | succ a ih =>
    intro ha
    obtain ⟨d, hd⟩ := ih (by omega)
    have hL : Ls[a]? = some Ls[a] := List.getElem?_eq_getElem (by omega)
    cases hP : P Ls[a] with
    | false => exact ⟨d, hd.no hL hP⟩
    | true =>
      obtain ⟨N, h1, h2⟩ := hX _ (List.getElem_mem _) hP
      obtain ⟨_, d', _, h3⟩ := hd.yes hL hP h1 h2 hD (by omega)
      exact ⟨d', h3⟩
theorem Vl.div {a : Int × Int} {N D c : Int} (ha : Vl a N D) (hc : 1 ≤ c) : Vl (divX a.1 a.2 c 1, divY a.1 a.2 c 1) N (D * c) := by
  have hq : 1 ≤ a.2 * c := Int.mul_pos (by have := ha.1; omega) (by omega)
  obtain ⟨h1, h2, h3⟩ := low_vl (p := a.1 * 1) hq
  refine ⟨h1, h2, ?_⟩
  have h4 : lowP (a.1 * 1) (a.2 * c) * (a.2 * c) = a.1 * 1 * lowQ (a.1 * 1) (a.2 * c) := h3
  show lowP (a.1 * 1) (a.2 * c) * (D * c) = N * lowQ (a.1 * 1) (a.2 * c)
  have h5 := ha.2.2
  generalize lowP (a.1 * 1) (a.2 * c) = P at h4 ⊢
  generalize lowQ (a.1 * 1) (a.2 * c) = Q at h4 ⊢
  have h6 := ha.1
  apply Int.eq_of_mul_eq_mul_right (show a.2 ≠ 0 by omega)
  calc P * (D * c) * a.2
      = (P * (a.2 * c)) * D := by ac_rfl
    _ = (a.1 * 1 * Q) * D := by rw [h4]
    _ = (a.1 * D) * Q := by rw [Int.mul_one]; ac_rfl
    _ = (N * a.2) * Q := by rw [h5]
    _ = N * Q * a.2 := by ac_rfl
theorem AvI.div {P : List Int → Bool} {X : List Int → Int × Int} {Ls : List (List Int)} {D : Int} {a : Nat} {d : Int × Int} (h : AvI P X Ls D a d) (hD : 1 ≤ D ∧ D ≤ 10) (ha : a ≤ 1000) {c : Int} (hc : 1 ≤ c ∧ c ≤ 1000) : ∃ r, divO d (c, 1) = some r ∧ inF r := by
  obtain ⟨h1, h2, M, hM, m1, m2⟩ := h
  have hv := hM.div hc.1
  have hq : 1 ≤ D * c ∧ D * c ≤ 10000 := by
    have a1 : 1 * 1 ≤ D * c := Int.mul_le_mul hD.1 hc.1 (by omega) (by omega)
    have a2 : D * c ≤ 10 * 1000 := Int.mul_le_mul hD.2 hc.2 (by omega) (by omega)
    omega
  obtain ⟨s1, s2⟩ := hv.small hq.1 (by omega) (by omega)
  exact ⟨_, smallO_of s1, s2⟩
theorem lisI_pos {n k : Nat} (hn : n ≤ 5) (hk : k ≤ n) : 1 ≤ lisI n k ∧ lisI n k ≤ 120 := by
  have h : ∀ n ≤ 5, ∀ k ≤ n, 1 ≤ lisI ((n : Nat) : Int) k ∧ lisI ((n : Nat) : Int) k ≤ 120 := by decide
  exact h n hn k hk
end Go.Proofs.YtekchdgpaemofaaGreat
