/- impl.SumOfFlag, spec.SumOfFlag. -/
import Derived.Test.YtpcjinbbgnmchaaGreatGo
import Derived.Test.YtpcjinbbgnmchaaGreatSl
import Derived.Test.YtpcjinbbgnmchaaGreatFr2
namespace Go.Proofs.YtpcjinbbgnmchaaGreat
open Go.ChangeShapes Go.WideShapes Go.RowKit
set_option linter.unusedVariables false
set_option linter.unusedSimpArgs false
attribute [local irreducible] Calls
/-- A sum that a call hands out, in memory of its own, with a code. -/
def SumRet (B : Nat) (w : World) (c : Int) (t : Int × Int) (s : Int) (xs : List ((Int × (Int × Int)) × (Int × Int))) (e : Ending) (w' : World) : Prop :=
  ∃ A cap F, e = .returned (.tuple #[.agg #[.int .i64 t.1, .int .u32 t.2, .int .i64 s, .slice A xs.length cap], .int .i64 c]) ∧ Own shTerm B w' xs (.slice A xs.length cap) F ∧ Below w.heap.size w w'
theorem Own.one {s : Sh} {enc : s.T → List Value} {ok : s.T → Prop} (hf : Flat s enc ok) {w : World} {g B : Nat} {t : TypeId} {d : s.T} (h : w.heap[g]? = some (.cells (enc d).toArray t (0, 0))) (hok : ok d) (hB : B ≤ g) (hl : (enc d).length = s.sz := by rfl) : Own s B w [d] (.slice (some ⟨g, 0, none⟩) 1 1) [g] := by
  refine ⟨⟨_, 1, rfl, Nat.le_refl _, by decide, .inr ⟨g, _, t, [[]], rfl, h, by simp [hl], rfl, rfl, fun i d' hi => ?_⟩⟩, by simp, by simpa using hB⟩
  have : i = 0 := by
    have := (List.getElem?_eq_some_iff.1 hi).1
    simp at this; exact this
  subst this
  simp at hi
  subst hi
  refine ⟨[], rfl, (hf.2 _ _ _ _).2 ⟨⟨?_, hok⟩, rfl⟩⟩
  simp [← hl]
theorem handed_ok {n q : Nat} (LS : List (List Int)) (e b : Int) (he : okI .u32 b) : okI .u32 (handed (fun _ => false) (fun b L => lessE (onE e L) b) LS b).2 := by
  induction LS generalizing b with
  | nil => exact he
  | cons L LS ih => exact ih _ (lessE_ok (onE_ok _ _) he)
theorem leastI_ok (n q : Nat) {e : Int} (he : okI .u32 e) : okI .u32 (leastI n q e) := handed_ok (n := n) (q := q) _ e e he
theorem l03Least_any' (w : World) (n k : Nat) (e : Int) (hn : n ≤ 5) (hk : k ≤ n) (he : okI .u32 e) :
    Calls Tryz.prog 75 #[.agg #[.int .i64 k, .int .i64 n, .int .u32 e]] w fun e0 w' => e0 = .returned (.agg #[.int .i64 k, .int .i64 n, .int .u32 (leastI n k e)]) ∧ Below w.heap.size w w' := by
  rw [← leastS_eq hn hk]
  exact l03Least_any w k (n - k) n e he (by omega) hn (ords_all (by omega)).2.1
theorem rep_flag {w : World} {d : shFlag.T} {cs : List Value} (h : shFlag.rep w d cs) : cs = [.int .i64 d.1, .int .i64 d.2.1, .int .u32 d.2.2] ∧ (-9223372036854775808 ≤ d.1 ∧ d.1 ≤ 9223372036854775807) ∧ (-9223372036854775808 ≤ d.2.1 ∧ d.2.1 ≤ 9223372036854775807) ∧ (0 ≤ d.2.2 ∧ d.2.2 ≤ 4294967295) := by
  obtain ⟨c1, c2, rfl, ⟨rfl, h1⟩, h2⟩ := h
  obtain ⟨rfl, h3, h4⟩ := rep_gr h2
  exact ⟨rfl, i64_wf h1, h3, h4⟩
end Go.Proofs.YtpcjinbbgnmchaaGreat
