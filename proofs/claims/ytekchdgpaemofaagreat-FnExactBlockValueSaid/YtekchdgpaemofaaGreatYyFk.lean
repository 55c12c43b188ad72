import Derived.Test.YtekchdgpaemofaaGreatYyFr2
import Derived.Test.YtekchdgpaemofaaGreatYyFm
namespace Go.Proofs.YtekchdgpaemofaaGreat
open Go.RowKit
theorem kadd_any (b o : Nat) (g : Bool) (x y : Int × Int) (w : World) (ha : b < w.heap.size) (hc : w.cell? ⟨b, o, none⟩ = some (.bool g)) (hf : w.frozen? ⟨b, o, none⟩ = false) (hx : inF x) (hy : inF y) :
    Calls Tryz.prog 148 #[.pointer (some ⟨b, o, none⟩), .agg #[.int .i64 x.1, .int .i64 x.2], .agg #[.int .i64 y.1, .int .i64 y.2]] w fun e w' => e = .returned (.agg #[.int .i64 (kD (addO x y)).1, .int .i64 (kD (addO x y)).2]) ∧ Below w.heap.size (w.setCell ⟨b, o, none⟩ (.bool (g || noB (addO x y)))) w' := by
  unfold addO
  rw [(kD_small _ _).1, (kD_small _ _).2, noB_small]
  exact add_any b o g _ _ _ _ w ha hc hf hx.1 hx.2.1 hx.2.2.1 hx.2.2.2 hy.1 hy.2.1 hy.2.2.1 hy.2.2.2
theorem kmul_any (b o : Nat) (g : Bool) (x y : Int × Int) (w : World) (ha : b < w.heap.size) (hc : w.cell? ⟨b, o, none⟩ = some (.bool g)) (hf : w.frozen? ⟨b, o, none⟩ = false) (hx : inF x) (hy : inF y) :
    Calls Tryz.prog 149 #[.pointer (some ⟨b, o, none⟩), .agg #[.int .i64 x.1, .int .i64 x.2], .agg #[.int .i64 y.1, .int .i64 y.2]] w fun e w' => e = .returned (.agg #[.int .i64 (kD (mulO x y)).1, .int .i64 (kD (mulO x y)).2]) ∧ Below w.heap.size (w.setCell ⟨b, o, none⟩ (.bool (g || noB (mulO x y)))) w' := by
  unfold mulO
  rw [(kD_small _ _).1, (kD_small _ _).2, noB_small]
  exact mul_any b o g _ _ _ _ w ha hc hf hx.1 hx.2.1 hx.2.2.1 hx.2.2.2 hy.1 hy.2.1 hy.2.2.1 hy.2.2.2
theorem kdiv_any (b o : Nat) (g : Bool) (x y : Int × Int) (w : World) (ha : b < w.heap.size) (hc : w.cell? ⟨b, o, none⟩ = some (.bool g)) (hf : w.frozen? ⟨b, o, none⟩ = false) (hx : inF x) (hy : inF y) (h0 : y.1 ≠ 0) :
    Calls Tryz.prog 248 #[.pointer (some ⟨b, o, none⟩), .agg #[.int .i64 x.1, .int .i64 x.2], .agg #[.int .i64 y.1, .int .i64 y.2]] w fun e w' => e = .returned (.agg #[.int .i64 (kD (divO x y)).1, .int .i64 (kD (divO x y)).2]) ∧ Below w.heap.size (w.setCell ⟨b, o, none⟩ (.bool (g || noB (divO x y)))) w' := by
  unfold divO
  rw [(kD_small _ _).1, (kD_small _ _).2, noB_small]
  exact div_any b o g _ _ _ _ w ha hc hf hx.1 hx.2.1 hx.2.2.1 hx.2.2.2 hy.1 hy.2.1 hy.2.2.1 hy.2.2.2 h0
theorem radd_any (x y : Int × Int) (w : World) (hx : inF x) (hy : inF y) :
    Calls Tryz.prog 130 #[.agg #[.int .i64 x.1, .int .i64 x.2], .agg #[.int .i64 y.1, .int .i64 y.2]] w fun e w' => e = .returned (.tuple #[.agg #[.int .i64 (rD (addO x y)).1, .int .i64 (rD (addO x y)).2], .int .i64 (rC (addO x y))]) ∧ Below w.heap.size w w' := by
  unfold addO
  rw [(rD_small _ _).1, (rD_small _ _).2.1, (rD_small _ _).2.2]
  exact sadd_any _ _ _ _ w hx.1 hx.2.1 hx.2.2.1 hx.2.2.2 hy.1 hy.2.1 hy.2.2.1 hy.2.2.2
theorem rmul_any (x y : Int × Int) (w : World) (hx : inF x) (hy : inF y) :
    Calls Tryz.prog 128 #[.agg #[.int .i64 x.1, .int .i64 x.2], .agg #[.int .i64 y.1, .int .i64 y.2]] w fun e w' => e = .returned (.tuple #[.agg #[.int .i64 (rD (mulO x y)).1, .int .i64 (rD (mulO x y)).2], .int .i64 (rC (mulO x y))]) ∧ Below w.heap.size w w' := by
  unfold mulO
  rw [(rD_small _ _).1, (rD_small _ _).2.1, (rD_small _ _).2.2]
  exact smul_any _ _ _ _ w hx.1 hx.2.1 hx.2.2.1 hx.2.2.2 hy.1 hy.2.1 hy.2.2.1 hy.2.2.2
theorem rdiv_any (x y : Int × Int) (w : World) (hx : inF x) (hy : inF y) (h0 : y.1 ≠ 0) :
    Calls Tryz.prog 161 #[.agg #[.int .i64 x.1, .int .i64 x.2], .agg #[.int .i64 y.1, .int .i64 y.2]] w fun e w' => e = .returned (.tuple #[.agg #[.int .i64 (rD (divO x y)).1, .int .i64 (rD (divO x y)).2], .int .i64 (rC (divO x y))]) ∧ Below w.heap.size w w' := by
  unfold divO
  rw [(rD_small _ _).1, (rD_small _ _).2.1, (rD_small _ _).2.2]
  exact sdiv_any _ _ _ _ w hx.1 hx.2.1 hx.2.2.1 hx.2.2.2 hy.1 hy.2.1 hy.2.2.1 hy.2.2.2 h0
theorem ktold_any (b o : Nat) (g : Bool) (x : Int × Int) (r : Option (Int × Int)) (w : World) (ha : b < w.heap.size) (hc : w.cell? ⟨b, o, none⟩ = some (.bool g)) (h : Tr r x g) :
    Calls Tryz.prog 90 #[.pointer (some ⟨b, o, none⟩), .agg #[.int .i64 x.1, .int .i64 x.2]] w fun e w' => e = .returned (.tuple #[.agg #[.int .i64 (rD r).1, .int .i64 (rD r).2], .int .i64 (rC r)]) ∧ Below w.heap.size w w' := by
  obtain ⟨h1, h2, h3⟩ := h.told
  rw [← h1, ← h2, ← h3]
  exact told_any b o g x.1 x.2 w ha hc
end Go.Proofs.YtekchdgpaemofaaGreat
