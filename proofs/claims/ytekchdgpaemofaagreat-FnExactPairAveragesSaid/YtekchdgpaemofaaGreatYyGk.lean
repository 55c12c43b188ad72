import Derived.Test.YtekchdgpaemofaaGreatYyGo
import Derived.Test.YtekchdgpaemofaaGreatYySl
import Derived.Test.YtekchdgpaemofaaGreatYyFr2
namespace Go.Proofs.YtekchdgpaemofaaGreat
open Go.ChangeShapes Go.WideShapes Go.RowKit
set_option linter.unusedVariables false
set_option linter.unusedSimpArgs false
attribute [local irreducible] Calls
theorem Own.one {s : Sh} {enc : s.T → List Value} {ok : s.T → Prop} (hf : Flat s enc ok) {w : World} {g B : Nat} {t : TypeId} {d : s.T} (h : w.heap[g]? = some (.cells (enc d).toArray t (0, 0))) (hok : ok d) (hB : B ≤ g) (hl : (enc d).length = s.sz := by rfl) : Own s B w [d] (.slice (some ⟨g, 0, none⟩) 1 1) [g] := by
  refine ⟨⟨_, 1, rfl, Nat.le_refl _, by decide, .inr ⟨g, _, t, [[]], rfl, h, by simp [hl], rfl, rfl, fun i d' hi => ?_⟩⟩, by simp, by simpa using hB⟩
  have : i = 0 := by
    have := (List.getElem?_eq_some_iff.1 hi).1
    simp at this; exact this
  subst this
  simp at hi
  subst hi
  refine ⟨[], rfl, (hf.2 _ _ _ _).2 ⟨⟨?_, hok⟩, rfl⟩⟩
  simp [← hl]
theorem l03Least_any' (w : World) (n k : Nat) (e : Int) (hn : n ≤ 5) (hk : k ≤ n) (he : okI .u32 e) :
    Calls Tryz.prog 123 #[.agg #[.int .i64 k, .int .i64 n, .int .u32 e]] w fun e0 w' => e0 = .returned (.agg #[.int .i64 k, .int .i64 n, .int .u32 (leastI n k e)]) ∧ Below w.heap.size w w' := by
  rw [← leastS_eq hn hk]
  exact l03Least_any w k (n - k) n e he (by omega) hn (ords_all (by omega)).2.1
end Go.Proofs.YtekchdgpaemofaaGreat
