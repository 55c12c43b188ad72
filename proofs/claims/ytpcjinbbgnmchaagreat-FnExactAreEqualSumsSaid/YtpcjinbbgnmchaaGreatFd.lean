/- impl.FlagDensities. -/
import Derived.Test.YtpcjinbbgnmchaaGreatDc
import Derived.Test.YtpcjinbbgnmchaaGreatFa
namespace Go.Proofs.YtpcjinbbgnmchaaGreat
open Go.ChangeShapes Go.WideShapes Go.RowKit
set_option linter.unusedVariables false
set_option linter.unusedSimpArgs false
attribute [local irreducible] Calls
theorem flagsF_mem {tn : Nat} {te : Int} {n : Nat} {gs : List (Int × Int)} {h : Flg} (ht : tn ≤ 3) (htn : tn ≤ n) (hn : n ≤ 5) (hm : h ∈ flagsF tn te n gs) : h.1 = tn ∧ h.2.1 = n ∧ flV h = true ∧ okFlag h := by
  obtain ⟨e, he, rfl⟩ := List.mem_map.1 hm
  have h1 := flagsL_mem hn he
  have h2 : limN n ≤ 1024 := by
    have : n = 0 ∨ n = 1 ∨ n = 2 ∨ n = 3 ∨ n = 4 ∨ n = 5 := by omega
    rcases this with rfl | rfl | rfl | rfl | rfl | rfl <;> decide
  refine ⟨rfl, rfl, (flV_iff _).2 ⟨⟨by show (0 : Int) ≤ tn; omega, by show (tn : Int) ≤ 3; omega⟩, ⟨by show (0 : Int) ≤ n; omega, by show (n : Int) ≤ 5; omega⟩, by show (tn : Int) ≤ n; omega, h1.2.1⟩, okN (by omega), okN (by omega), ?_⟩
  simp only [okI, Lit.wf, IntKind.min, IntKind.max, IntKind.signed, IntKind.bits]
  simp
  omega
def dnsL (k n : Nat) (e : Int) (L : List Flg) : List (Int × Int) := L.map (dns k n e)
/-- The code of all flags of a size in a flag; their densities. -/
def fdC (s k n e : Int) : Int := if flOk k n e then (if inB s k n then (if (flagsL k.toNat (onE e (seqI k.toNat)) s.toNat []).length ≤ 64 then 0 else 3) else 2) else 1
def fdL (s k n e : Int) : List (Int × Int) := if fdC s k n e = 0 then dnsL k.toNat n.toNat e (flagsF k.toNat (onE e (seqI k.toNat)) s.toNat []) else []
/-- Fractions and a code are handed out. -/
def FrsCode (B : Nat) (w : World) (L : List (Int × Int)) (c : Int) (e : Ending) (w' : World) : Prop := ∃ A cap F, e = .returned (.tuple #[.slice A L.length cap, .int .i64 c]) ∧ Own shFr B w' L (.slice A L.length cap) F ∧ Below w.heap.size w w'
theorem frsCode_no (w w' : World) (L : List (Int × Int)) (p : Option Addr) (c c' : Int) (hL : L = []) (hc : c = c') (hb : Below w.heap.size w w') : FrsCode w.heap.size w L c (.returned (.tuple #[.slice p 0 0, .int .i64 c'])) w' := by
  subst hL hc
  exact ⟨p, 0, [], rfl, Own.nil _ _ _ 0 (Nat.zero_le _) _, hb⟩
theorem dns_ok {k n : Nat} {e : Int} {f : Flg} (hk : k ≤ 3) (hn : n ≤ 5) (hkm : k ≤ f.2.1.toNat) (hmn : f.2.1.toNat ≤ n) : okFr (dns k n e f) ∧ -1000 ≤ (dns k n e f).1 ∧ (dns k n e f).1 ≤ 1000 ∧ 1 ≤ (dns k n e f).2 ∧ (dns k n e f).2 ≤ 1000 := by
  obtain ⟨d1, d2⟩ := dnC_bd hkm hmn hn
  obtain ⟨c1, c2⟩ := ctF_bd (k := k) (n := n) (e := e) (f := f) hk hn (by omega)
  have h : ∀ p < 101, ∀ q < 11, (q = 0) || (decide (-1000 ≤ lowP ((p : Nat) : Int) ((q : Nat) : Int)) && decide (lowP ((p : Nat) : Int) ((q : Nat) : Int) ≤ 1000) && decide (1 ≤ lowQ ((p : Nat) : Int) ((q : Nat) : Int)) && decide (lowQ ((p : Nat) : Int) ((q : Nat) : Int) ≤ 1000)) = true := by decide +kernel
  have h1 := h (ctF k n e f).toNat (by omega) (dnC k n f.2.1.toNat).toNat (by omega)
  rw [show (((ctF k n e f).toNat : Nat) : Int) = ctF k n e f by omega, show (((dnC k n f.2.1.toNat).toNat : Nat) : Int) = dnC k n f.2.1.toNat by omega] at h1
  have h2 : (dnC k n f.2.1.toNat).toNat ≠ 0 := by omega
  simp only [h2, decide_false, Bool.false_or, Bool.and_eq_true, decide_eq_true_eq] at h1
  have e1 : (dns k n e f).1 = lowP (ctF k n e f) (dnC k n f.2.1.toNat) := rfl
  have e2 : (dns k n e f).2 = lowQ (ctF k n e f) (dnC k n f.2.1.toNat) := rfl
  rw [e1, e2]
  obtain ⟨⟨⟨h3, h4⟩, h5⟩, h6⟩ := h1
  have ok : ∀ x : Int, -1000 ≤ x ∧ x ≤ 1000 → okI .i64 x := fun x hx => by
    simp only [okI, Lit.wf, IntKind.min, IntKind.max, IntKind.signed, IntKind.bits]
    simp
    omega
  refine ⟨⟨ok _ ?_, ok _ ?_⟩, h3, h4, h5, h6⟩
  · rw [e1]; exact ⟨h3, h4⟩
  · rw [e2]; omega
end Go.Proofs.YtpcjinbbgnmchaaGreat
