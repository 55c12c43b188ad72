/- Small words for the walks of laws: cells of a block known whole. -/
import Derived.Test.YtbpamifkfbcloaaBase
import Derived.Test.YtbpamifkfbcloaaNs
namespace Go.Proofs.Ytbpamifkfbcloaa
open Go.ChangeShapes Go.WideShapes Go.RowKit
theorem blkdrew {w : World} {k : Nat} {x : Option Obj} (h : w.heap[k]? = x) : w.drew.heap[k]? = x := h
theorem blkc1 {w : World} {k : Nat} {t : TypeId} {a : Value} (h : w.heap[k]? = some (.cells #[a] t (0, 0))) : w.cell? ⟨k, 0, none⟩ = some a := by simp [World.cell?, h]
theorem blkc2 {w : World} {k : Nat} {t : TypeId} {a b : Value} (h : w.heap[k]? = some (.cells #[a, b] t (0, 0))) : w.cell? ⟨k, 0, none⟩ = some a ∧ w.cell? ⟨k, 1, none⟩ = some b := by simp [World.cell?, h]
theorem blkc3 {w : World} {k : Nat} {t : TypeId} {a b c : Value} (h : w.heap[k]? = some (.cells #[a, b, c] t (0, 0))) : w.cell? ⟨k, 0, none⟩ = some a ∧ w.cell? ⟨k, 1, none⟩ = some b ∧ w.cell? ⟨k, 2, none⟩ = some c := by simp [World.cell?, h]
theorem blkc4 {w : World} {k : Nat} {t : TypeId} {a b c d : Value} (h : w.heap[k]? = some (.cells #[a, b, c, d] t (0, 0))) : w.cell? ⟨k, 0, none⟩ = some a ∧ w.cell? ⟨k, 1, none⟩ = some b ∧ w.cell? ⟨k, 2, none⟩ = some c ∧ w.cell? ⟨k, 3, none⟩ = some d := by simp [World.cell?, h]
theorem blkc5 {w : World} {k : Nat} {t : TypeId} {a b c d e : Value} (h : w.heap[k]? = some (.cells #[a, b, c, d, e] t (0, 0))) : w.cell? ⟨k, 0, none⟩ = some a ∧ w.cell? ⟨k, 1, none⟩ = some b ∧ w.cell? ⟨k, 2, none⟩ = some c ∧ w.cell? ⟨k, 3, none⟩ = some d ∧ w.cell? ⟨k, 4, none⟩ = some e := by simp [World.cell?, h]
theorem blkc7 {w : World} {k : Nat} {t : TypeId} {a b c d e f g : Value} (h : w.heap[k]? = some (.cells #[a, b, c, d, e, f, g] t (0, 0))) : w.cell? ⟨k, 0, none⟩ = some a ∧ w.cell? ⟨k, 1, none⟩ = some b ∧ w.cell? ⟨k, 2, none⟩ = some c ∧ w.cell? ⟨k, 3, none⟩ = some d ∧ w.cell? ⟨k, 4, none⟩ = some e ∧ w.cell? ⟨k, 5, none⟩ = some f ∧ w.cell? ⟨k, 6, none⟩ = some g := by simp [World.cell?, h]
/-- What is one's own stays so where others turn, at once over a step up. -/
theorem Own.bchgR {s : Sh} {B : Nat} {w W w' : World} {xs : List s.T} {v : Value} {F F' : List Nat} (h : Own s B w xs v F) (hb : Below w.heap.size w W) (hc : Chg F' W w') (hd : ∀ b ∈ F, b ∉ F') : Own s B w' xs v F := (h.below (Nat.le_refl _) hb).chg hc hd
end Go.Proofs.Ytbpamifkfbcloaa
