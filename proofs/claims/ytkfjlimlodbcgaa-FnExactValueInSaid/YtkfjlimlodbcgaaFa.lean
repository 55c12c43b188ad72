/- impl.allFlags. -/
import Derived.Test.YtkfjlimlodbcgaaLe
import Derived.Test.YtkfjlimlodbcgaaSl
namespace Go.Proofs.Ytkfjlimlodbcgaa
open Go.ChangeShapes Go.WideShapes Go.RowKit
set_option linter.unusedVariables false
set_option linter.unusedSimpArgs false
attribute [local irreducible] Calls
/-- The least free flags of a type and a size. -/
def flagsF (tn : Nat) (te : Int) (n : Nat) (gs : List (Int × Int)) : List (Int × (Int × Int)) := (flagsL tn te n gs).map fun e => ((tn : Int), ((n : Int), e))
theorem lsTo_flags (tn : Nat) (te : Int) (n : Nat) (gs : List (Int × Int)) : lsTo n tn (fun e => (lowE tn e == te) && freeB n e gs) (2 ^ tri n) = (flagsL tn te n gs).map fun e => ((n : Int), e) := rfl
theorem flagsL_mem {tn : Nat} {te : Int} {n : Nat} (hn : n ≤ 5) {gs : List (Int × Int)} {e : Int} (h : e ∈ flagsL tn te n gs) : 0 ≤ e ∧ e < limN n ∧ lowE tn e = te ∧ freeB n e gs = true ∧ leastI n tn e = e := by
  simp only [flagsL, leastsL, List.mem_filter, List.mem_map, List.mem_range, Bool.and_eq_true, beq_iff_eq] at h
  obtain ⟨⟨k, hk, rfl⟩, ⟨h1, h2⟩, h3⟩ := h
  rw [limN_nat hn]
  exact ⟨by omega, by omega, h1, h2, h3⟩
theorem flagsL_len (tn : Nat) (te : Int) (n : Nat) (hn : n ≤ 5) (gs : List (Int × Int)) : (flagsL tn te n gs).length ≤ 1024 := by
  have h := lsTo_len n tn (fun e => (lowE tn e == te) && freeB n e gs) (2 ^ tri n)
  rw [lsTo_flags, List.length_map] at h
  have : n = 0 ∨ n = 1 ∨ n = 2 ∨ n = 3 ∨ n = 4 ∨ n = 5 := by omega
  rcases this with rfl | rfl | rfl | rfl | rfl | rfl <;> exact Nat.le_trans h (by decide)
/-- Flags are handed out, and whether there are not too many. -/
def FlsRetB (B : Nat) (w : World) (L : List shFlag.T) (b : Bool) (e : Ending) (w' : World) : Prop := ∃ A cap F, e = .returned (.tuple #[.slice A L.length cap, .bool b]) ∧ Own shFlag B w' L (.slice A L.length cap) F ∧ Below w.heap.size w w'
theorem Own.grown {s : Sh} {B : Nat} {w w1 : World} {xs : List s.T} {v u : Value} {F : List Nat} (h : Own s B w xs v F) (hg : w.grownBy w1 u.ownBlock) (hq : ∀ q, u.ownBlock = some q → q ∉ F) : Own s B w1 xs v F :=
  ⟨(shL s).ownKeep _ _ _ _ _ (fun b hb => hg.block b ((shL s).ownLt _ _ _ _ h.1 b hb) (fun e => hq b e.symm hb)) h.1, h.2⟩
def fOf (tn : Nat) (d : Int × Int) : shFlag.T := ((tn : Int), d)
end Go.Proofs.Ytkfjlimlodbcgaa
