/- The laws' copies, sizes and equality of impl.Statement. -/
import Derived.Test.YtpcjinbbgnmchaaGreatTSum
import Derived.Test.YtpcjinbbgnmchaaGreatSl
namespace Go.Proofs.YtpcjinbbgnmchaaGreat
open Go.ChangeShapes Go.WideShapes Go.ChangeAt Go.RowKit
set_option linter.unusedVariables false
set_option linter.unusedSimpArgs false
attribute [local irreducible] Calls
/-- A statement is returned, with memory of its own. -/
def StRet (gs : List (Int × Int)) (n e s : Int) (xs : List ((Int × (Int × Int)) × (Int × Int))) (p q : Int) (B : Nat) (e0 : Ending) (w' : World) : Prop :=
  ∃ A cap F A' cap' F', e0 = .returned (.agg #[.slice A gs.length cap, .int .i64 n, .int .u32 e, .int .i64 s, .slice A' xs.length cap', .int .i64 p, .int .i64 q]) ∧ Own shGr B w' gs (.slice A gs.length cap) F ∧ Own shTerm B w' xs (.slice A' xs.length cap') F' ∧ (∀ b ∈ F, b ∉ F')
theorem toStatement_any (w : World) (gs : List (Int × Int)) (n e s : Int) (xs : List ((Int × (Int × Int)) × (Int × Int))) (p q : Int) (v v' : Value) (h : Lst shGr w gs v) (h' : Lst shTerm w xs v') (hb : gs.length ≤ 1048576) (hb' : xs.length ≤ 1048576) :
    Calls Tryz.prog 22 #[.agg #[v, .int .i64 n, .int .u32 e, .int .i64 s, v', .int .i64 p, .int .i64 q]] w fun e0 w' => StRet gs n e s xs p q w.heap.size e0 w' ∧ Below w.heap.size w w' := by
  obtain ⟨A0, cap0, rfl, _, _⟩ := formGraph h
  obtain ⟨A1, cap1, rfl, _, _⟩ := formTerm h'
  go_enter Tryz.func22, Tryz.ntmps22
  go_wp2_with fail
  refine (toGraphS_any _ gs _ (h.below belA) hb).mono ?_
  rintro e0 w1 ⟨A2, cap2, F2, rfl, hO2, hb1⟩
  obtain ⟨X2, m2, rfl⟩ := plsOf hb1
  clear hb1
  (try simp only [pls_pls, drew_pls, drewN_pls, pls_drew, pls_drewN] at hO2)
  have hO2 := Lib.hid hO2
  go_wp2_with fail
  refine (toFlagSum_any _ n e s xs _ (h'.below belA) hb').mono ?_
  rintro e0 w1 ⟨A3, cap3, F3, rfl, hO3, hb1⟩
  obtain ⟨X3, m3, rfl⟩ := plsOf hb1
  clear hb1
  (try simp only [pls_pls, drew_pls, drewN_pls, pls_drew, pls_drewN] at hO3)
  have hO3 := Lib.hid hO3
  go_wp2_with (first | (go_at_call 56; refine Calls.mono (toFraction_any _ _ _) ?_; rintro e w1 ⟨rfl, hb⟩; obtain ⟨X, m, rfl⟩ := plsOf hb; clear hb))
  refine bodyPost_ret (v := .agg #[.slice A2 gs.length cap2, .int .i64 n, .int .u32 e, .int .i64 s, .slice A3 xs.length cap3, .int .i64 p, .int .i64 q]) (by simp [results, Tryz.results22, go_sem, *]) rfl ⟨⟨A2, cap2, F2, A3, cap3, F3, rfl, ?_, ?_, ?_⟩, belA⟩
  · exact hO2.out.pre (by (try simp only [Array.append_assoc]); repeat (first | exact Pre.refl _ | exact Pre.base _ _ | refine Pre.cons _ ?_)) (by simp) (by simp) (by simp <;> omega)
  · exact hO3.out.pre (by (try simp only [Array.append_assoc]); repeat (first | exact Pre.refl _ | exact Pre.base _ _ | refine Pre.cons _ ?_)) (by simp <;> omega) (by simp) (by simp <;> omega)
  · intro b h2 h3
    have := hO2.out.lt b h2
    have := hO3.out.ge b h3
    simp at *
    omega
theorem eqStatement_same (w : World) (gs : List (Int × Int)) (n e s : Int) (xs : List ((Int × (Int × Int)) × (Int × Int))) (p q : Int) (v v' u u' : Value) (h : Lst shGr w gs v) (h' : Lst shTerm w xs v') (k : Lst shGr w gs u) (k' : Lst shTerm w xs u') (hb : gs.length ≤ 9223372036854775806) (hb' : xs.length ≤ 9223372036854775806) :
    Calls Tryz.prog 25 #[.agg #[v, .int .i64 n, .int .u32 e, .int .i64 s, v', .int .i64 p, .int .i64 q], .agg #[u, .int .i64 n, .int .u32 e, .int .i64 s, u', .int .i64 p, .int .i64 q]] w fun e0 w' => e0 = .returned (.bool true) ∧ Below w.heap.size w w' := by
  go_enter Tryz.func25, Tryz.ntmps25
  go_wp2_with (first | (go_at_call 64; refine Calls.mono (eqGraphS_same _ gs _ _ (h.below belA) (k.below belA) hb) ?_; rintro e w1 ⟨rfl, hb⟩; obtain ⟨X, m, rfl⟩ := plsOf hb; clear hb) | (go_at_call 12; refine Calls.mono (eqFlagSum_same _ n e s xs _ _ (h'.below belA) (k'.below belA) hb') ?_; rintro e w1 ⟨rfl, hb⟩; obtain ⟨X, m, rfl⟩ := plsOf hb; clear hb) | (go_at_call 65; refine Calls.mono (eqFraction_same _ _ _) ?_; rintro e w1 ⟨rfl, hb⟩; obtain ⟨X, m, rfl⟩ := plsOf hb; clear hb))
  go_ret
  exact ⟨rfl, belA⟩
theorem szStatement_any (w : World) (gs : List (Int × Int)) (n e s : Int) (xs : List ((Int × (Int × Int)) × (Int × Int))) (p q : Int) (v v' : Value) (left : Int) (h : Lst shGr w gs v) (h' : Lst shTerm w xs v') (h1 : -1 ≤ left) (h2 : left ≤ 1048576) :
    Calls Tryz.prog 19 #[.agg #[v, .int .i64 n, .int .u32 e, .int .i64 s, v', .int .i64 p, .int .i64 q], .int .i64 left] w fun e0 w' => e0 = .returned (.int .i64 (szI (szI left gs.length) xs.length)) ∧ Below w.heap.size w w' := by
  obtain ⟨A, cap, rfl, hc, hm⟩ := formGraph h
  have hb1 := szI_bd (left := left) (n := gs.length) h1 h2 (by omega)
  by_cases hs : szI left gs.length < 0
  · have hx : szI (szI left gs.length) xs.length = -1 := by unfold szI at hs ⊢; split at hs <;> (split <;> (try split) <;> omega)
    go_enter Tryz.func19, Tryz.ntmps19
    go_wp2_with (first | (go_at_call 52; refine Calls.mono (szGraphS_any gs.length _ _ _ _ h1 h2 hc hm) ?_; rintro e w1 ⟨rfl, rfl⟩))
    exact bodyPost_ret (v := .int .i64 (-1)) (by simp [results, Tryz.results19, go_sem]) rfl ⟨by rw [hx], belA⟩
  · by_cases hs2 : szI (szI left gs.length) xs.length < 0
    · have hx : szI (szI left gs.length) xs.length = -1 := by unfold szI at hs2 ⊢; split at hs2 <;> (split <;> (try split) <;> omega)
      go_enter Tryz.func19, Tryz.ntmps19
      go_wp2_with (first | (go_at_call 52; refine Calls.mono (szGraphS_any gs.length _ _ _ _ h1 h2 hc hm) ?_; rintro e w1 ⟨rfl, rfl⟩) | (go_at_call 8; refine Calls.mono (szFlagSum_any _ n e s xs _ _ (h'.below belA) (by omega) (by omega)) ?_; rintro e w1 ⟨rfl, hb⟩; obtain ⟨X, m, rfl⟩ := plsOf hb; clear hb))
      exact bodyPost_ret (v := .int .i64 (-1)) (by simp [results, Tryz.results19, go_sem]) rfl ⟨by rw [hx], belA⟩
    · go_enter Tryz.func19, Tryz.ntmps19
      go_wp2_with (first | (go_at_call 52; refine Calls.mono (szGraphS_any gs.length _ _ _ _ h1 h2 hc hm) ?_; rintro e w1 ⟨rfl, rfl⟩) | (go_at_call 8; refine Calls.mono (szFlagSum_any _ n e s xs _ _ (h'.below belA) (by omega) (by omega)) ?_; rintro e w1 ⟨rfl, hb⟩; obtain ⟨X, m, rfl⟩ := plsOf hb; clear hb))
      exact bodyPost_ret (v := .int .i64 (szI (szI left gs.length) xs.length)) (by simp [results, Tryz.results19, go_sem]) rfl ⟨rfl, belA⟩
end Go.Proofs.YtpcjinbbgnmchaaGreat
