/- MultiplySums returns what the reference returns: the law's row. -/
import Derived.Test.YtpcjinbbgnmchaaGreatWMultiplySums
import Derived.Test.YtpcjinbbgnmchaaGreatMd
namespace Go.Proofs.YtpcjinbbgnmchaaGreat
open Go.ChangeShapes Go.WideShapes Go.ChangeAt Go.RowKit
set_option linter.unusedVariables false
set_option linter.unusedSimpArgs false
attribute [local irreducible] Calls
theorem rep_sumB {w : World} {d : shSum.T} {cs : List Value} (h : shSum.rep w d cs) : ∃ v, cs = [.int .i64 d.1.1, .int .u32 d.1.2, .int .i64 d.2.1, v] ∧ Lst shTerm w d.2.2 v ∧ (0 ≤ d.1.2 ∧ d.1.2 ≤ 4294967295) := by
  obtain ⟨v, h1, h2⟩ := rep_sum h
  obtain ⟨c1, c2, _, h3, _⟩ := h
  exact ⟨v, h1, h2, (rep_gr h3).2.2⟩
theorem ovC_len {k m : Nat} {te : Int} {D : Flg → Int × Int} {z : Flg → Bool} (h : ovC k te m D z = 0) : (nzB (ovB (flagsF k te m []) D)).length ≤ 64 := by
  unfold ovC at h
  split at h
  · unfold tdC at h
    split at h
    · omega
    · split at h
      · rename_i h2
        exact h2
      · omega
  · omega
theorem msL_len (tn te s : Int) (T : List Trm) (tn' te' s' : Int) (U : List Trm) : (msL tn te s T tn' te' s' U).length ≤ 100000 := by
  unfold msL
  by_cases hc : msC tn te s T tn' te' s' U = 0
  · rw [hc]
    show (nzB _).length ≤ 100000
    unfold msC at hc
    split at hc
    · split at hc
      · split at hc
        · exact Nat.le_trans (ovC_len hc) (by omega)
        · omega
      · omega
    · omega
  · have e : tdL (msC tn te s T tn' te' s' U) (nzT (ovX (flagsF tn.toNat te (s + s' - tn).toNat []) (mlD s s' T U))) = [] := if_neg hc
    rw [e]
    exact Nat.zero_le _
theorem wholeMultiplySums (tn te s : Int) (T : List Trm) (v : Value) (tn' te' s' : Int) (U : List Trm) (u : Value) (w : World) (h : Lst shTerm w T v) (h' : Lst shTerm w U u) (he : 0 ≤ te ∧ te ≤ 4294967295) (he' : 0 ≤ te' ∧ te' ≤ 4294967295) :
    Calls Tryz.prog 4 #[.agg #[.int .i64 tn, .int .u32 te, .int .i64 s, v], .agg #[.int .i64 tn', .int .u32 te', .int .i64 s', u]] w fun e0 w' => e0 = .returned (.bool true) ∧ Below w.heap.size w w' :=
  walkMultiplySums tn te s T v tn' te' s' U u (tdT (msC tn te s T tn' te' s' U) (tn, te)).1 (tdT (msC tn te s T tn' te' s' U) (tn, te)).2 (msS tn te s T tn' te' s' U) (msL tn te s T tn' te' s' U) (msC tn te s T tn' te' s' U) (msL_len tn te s T tn' te' s' U) (fun W u0 u1 g0 g1 l0 l1 => MultiplySums_any W tn te s T u0 tn' te' s' U u1 g0 g1 he he') (fun W u0 u1 g0 g1 l0 l1 => sMultiplySums_any W tn te s T u0 tn' te' s' U u1 g0 g1 he he') w h h'

set_option maxRecDepth 100000 in
theorem fnExactMultiplySums_lifted (os : Os) (started : os.Started) (H : Type) (enc : TypeId × Value → H) :
    ReturnsInHanded {} Tryz.checked os 4 .any (Rows.fnExactMultiplySumsSpec.pre6 enc Tryz.prog Tryz.f4 Rows.fnExactMultiplySumsRow.domain false) (Rows.fnExactMultiplySumsSpec.post enc Tryz.prog Tryz.f4 false true false false) := by
  refine returnsInHanded_of_change (C := Tryz.checked) tryOwn started (by kernel_rfl) Tryz.func4
    (ChangeSpec.witness6 (enc := enc) (C := Tryz.checked) false ⟨#[], #[.agg #[.int .i64 0, .int .u32 0, .int .i64 0, .slice none 0 0], .agg #[.int .i64 0, .int .u32 0, .int .i64 0, .slice none 0 0]], []⟩ 8 (by kernel_rfl) (by kernel_rfl) (by kernel_rfl) (by kernel_rfl)) ?_
  intro W base args ds gs before hval0 hW hcnd _
  have hval : ∀ (j : Nat) t v, Tryz.f4.params[j]? = some t → args[j]? = some v → Value.okWide Tryz.prog W .any base t v := hval0
  have hW' := hW
  obtain ⟨p, q, hA0, hV, _, _, _⟩ := hW
  have hA : DataW.TrodAll enc Tryz.prog W 0 (fun _ => true) true Tryz.f4.params.toList args.toList ds p := hA0
  rw [Tryz.params4] at hA hval
  obtain ⟨v0, v1, d0, d1, p0, p1, rfl, rfl, rfl, h0, h1⟩ := trodAll_two hA
  obtain ⟨rfl, rfl⟩ := trodVars_none hV
  obtain ⟨a, ca, rfl, ha⟩ := arg_struct Tryz.underlying27 readsSum (hval 0 27 v0 rfl rfl) h0
  obtain ⟨x1, rfl, hx1, he1⟩ := rep_sumB ha
  obtain ⟨b, cb, rfl, hb⟩ := arg_struct Tryz.underlying27 readsSum (hval 1 27 v1 rfl rfl) h1
  obtain ⟨x2, rfl, hx2, he2⟩ := rep_sumB hb
  refine (wholeMultiplySums a.1.1 a.1.2 a.2.1 a.2.2 x1 b.1.1 b.1.2 b.2.1 b.2.2 x2 W hx1 hx2 he1 he2).mono fun e W' ⟨he, hb⟩ => ?_
  exact ⟨_, he, law_post (f := Tryz.f4) (s := Rows.fnExactMultiplySumsSpec) tryLaid (by kernel_rfl) rfl rfl Tryz.underlying4 hW' rfl hb⟩
theorem fnExactMultiplySums_holds : Rows.FnExactMultiplySumsSaid :=
  OpenClaim.holds_of_wide 4 Tryz.f4 rfl rfl rfl rfl rfl rfl rfl ⟨rfl, rfl, rfl, rfl, rfl⟩ rfl rfl rfl rfl rfl (by kernel_rfl) Tryz.func4 (by kernel_rfl)
    (of_decide_eq_true (by kernel_rfl)) (by unfold Func.isWrapper; first | (rw [if_pos (by decide +kernel)]; kernel_rfl) | (rw [if_neg (by decide +kernel)]; exact ⟨rfl, rfl⟩))
    (fun os started H enc _ => fnExactMultiplySums_lifted os started H enc)
#print axioms fnExactMultiplySums_holds
end Go.Proofs.YtpcjinbbgnmchaaGreat
