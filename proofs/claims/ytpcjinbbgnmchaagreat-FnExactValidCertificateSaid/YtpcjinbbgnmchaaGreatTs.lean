/- The law's copy of a statement, its memory written out; its size. -/
import Derived.Test.YtpcjinbbgnmchaaGreatTState
namespace Go.Proofs.YtpcjinbbgnmchaaGreat
open Go.ChangeShapes Go.WideShapes Go.ChangeAt Go.RowKit
theorem toStatement_two (w : World) (gs : List (Int × Int)) (n e s : Int) (xs : List ((Int × (Int × Int)) × (Int × Int))) (p q : Int) (v v' : Value) (h : Lst shGr w gs v) (h' : Lst shTerm w xs v') (hb : gs.length ≤ 1048576) (hb' : xs.length ≤ 1048576) :
    Calls Tryz.prog 22 #[.agg #[v, .int .i64 n, .int .u32 e, .int .i64 s, v', .int .i64 p, .int .i64 q]] w fun e0 w' => ∃ A cap F A' cap' F', e0 = .returned (.agg #[.slice A gs.length cap, .int .i64 n, .int .u32 e, .int .i64 s, .slice A' xs.length cap', .int .i64 p, .int .i64 q]) ∧ Own shGr w.heap.size w' gs (.slice A gs.length cap) F ∧ Own shTerm w.heap.size w' xs (.slice A' xs.length cap') F' ∧ (∀ b ∈ F, b ∉ F') ∧ Below w.heap.size w w' := by
  refine (toStatement_any w gs n e s xs p q v v' h h' hb hb').mono ?_
  rintro e0 w' ⟨⟨A, cap, F, A', cap', F', h1, h2, h3, h4⟩, hbel⟩
  exact ⟨A, cap, F, A', cap', F', h1, h2, h3, h4, hbel⟩
theorem szSt_bd {left : Int} {a b : Nat} (h1 : -1 ≤ left) (h2 : left ≤ 1048576) : -1 ≤ szI (szI left a) b ∧ szI (szI left a) b ≤ 1048576 ∧ (¬ szI (szI left a) b < 0 → a ≤ 1048576 ∧ b ≤ 1048576) := by
  have b1 := szI_bd (left := left) (n := a) h1 h2 (by omega)
  have b2 := szI_bd (left := szI left a) (n := b) b1.1 b1.2 (by omega)
  refine ⟨b2.1, b2.2, fun h => ?_⟩
  have h3 := szI_pos h
  have h4 : ¬ szI left a < 0 := by omega
  have h5 := szI_pos h4
  omega
end Go.Proofs.YtpcjinbbgnmchaaGreat
