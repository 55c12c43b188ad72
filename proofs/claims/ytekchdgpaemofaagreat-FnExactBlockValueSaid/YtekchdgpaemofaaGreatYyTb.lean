import Derived.Test.YtekchdgpaemofaaGreatYyTSS
import Derived.Test.YtekchdgpaemofaaGreatYyTSum
namespace Go.Proofs.YtekchdgpaemofaaGreat
open Go.ChangeShapes Go.WideShapes Go.ChangeAt Go.RowKit
set_option linter.unusedVariables false
set_option linter.unusedSimpArgs false
attribute [local irreducible] Calls
def BkRet (B : Nat) (b : Blk) (e : Ending) (w' : World) : Prop := ∃ A cap A' cap' F, e = .returned (.agg #[.slice A b.1.length cap, .slice A' b.2.length cap']) ∧ shBlock.own w' b [.slice A b.1.length cap, .slice A' b.2.length cap'] F ∧ F.Nodup ∧ ∀ k ∈ F, B ≤ k
theorem toBlock_any (w : World) (b : Blk) (v v' : Value) (h : Lst shFlag w b.1 v) (h' : Lst (shL shFr) w b.2 v') (hb : b.1.length ≤ 1048576) (hb' : b.2.length + lenSS b.2 ≤ 1048576) :
    Calls Tryz.prog 29 #[.agg #[v, v']] w fun e0 w' => BkRet w.heap.size b e0 w' ∧ Below w.heap.size w w' := by
  obtain ⟨A0, cap0, rfl, _, _⟩ := formFlag h
  obtain ⟨A1, cap1, rfl, _, _⟩ := formFrSS h'
  go_enter Tryz.func29, Tryz.ntmps29
  (go_wp2_with fail; refine Calls.mono (toFlagS_any _ b.1 _ (h.below belA) hb) ?_; rintro e0 w1 ⟨A2, cap2, F2, rfl, hO2, hb⟩; obtain ⟨X2, m2, rfl⟩ := plsOf hb; clear hb); (try simp only [pls_pls, drew_pls, drewN_pls, pls_drew, pls_drewN] at hO2); have hO2 := Lib.hid hO2
  (go_wp2_with fail; refine Calls.mono (toFractionSS_any _ b.2 _ (h'.below belA) hb') ?_; rintro e0 w1 ⟨A3, cap3, F3, rfl, hO3, hb⟩; obtain ⟨X3, m3, rfl⟩ := plsOf hb; clear hb); (try simp only [pls_pls, drew_pls, drewN_pls, pls_drew, pls_drewN] at hO3); have hO3 := Lib.hid hO3
  go_wp2_with fail
  have PRE : True := trivial
  refine bodyPost_ret (v := .agg #[.slice A2 b.1.length cap2, .slice A3 b.2.length cap3]) (by simp [results, Tryz.results29, go_sem, *]) rfl ⟨⟨A2, cap2, A3, cap3, F2 ++ F3, rfl, ⟨[_], [_], F2, F3, rfl, rfl, (hO2.out.pre (B' := w.heap.size) (by (try simp only [Array.append_assoc]); repeat (first | exact Pre.refl _ | exact Pre.base _ _ | refine Pre.cons _ ?_)) (by simp) (by simp) (by simp <;> omega)).1, (hO3.out.pre (B' := w.heap.size) (by (try simp only [Array.append_assoc]); repeat (first | exact Pre.refl _ | exact Pre.base _ _ | refine Pre.cons _ ?_)) (by simp <;> omega) (by simp) (by simp <;> omega)).1⟩, ?_, ?_⟩, belA⟩
  · rw [List.nodup_append]
    refine ⟨hO2.out.2.1, hO3.out.2.1, fun a ha b hb e => ?_⟩
    have := hO2.out.lt a ha
    have := hO3.out.ge b hb
    simp at *
    omega
  · intro k hk
    rcases List.mem_append.1 hk with hk | hk
    · have := hO2.out.ge k hk; simp at *; omega
    · have := hO3.out.ge k hk; simp at *; omega
theorem eqBlock_same (w : World) (b : Blk) (v v' u u' : Value) (h : Lst shFlag w b.1 v) (h' : Lst (shL shFr) w b.2 v') (k : Lst shFlag w b.1 u) (k' : Lst (shL shFr) w b.2 u') (hb : b.1.length ≤ 1048576) (hb' : b.2.length + lenSS b.2 ≤ 1048576) :
    Calls Tryz.prog 32 #[.agg #[v, v'], .agg #[u, u']] w fun e0 w' => e0 = .returned (.bool true) ∧ Below w.heap.size w w' := by
  go_enter Tryz.func32, Tryz.ntmps32
  go_wp2_with (first | (go_at_call 17; refine Calls.mono (eqFlagS_same _ b.1 _ _ (h.below belA) (k.below belA) (by omega)) ?_; rintro e w1 ⟨rfl, hb⟩; obtain ⟨X, m, rfl⟩ := plsOf hb; clear hb) | (go_at_call 18; refine Calls.mono (eqFractionSS_same _ b.2 _ _ (h'.below belA) (k'.below belA) hb') ?_; rintro e w1 ⟨rfl, hb⟩; obtain ⟨X, m, rfl⟩ := plsOf hb; clear hb))
  go_ret
  exact ⟨rfl, belA⟩
theorem szBlock_any (w : World) (b : Blk) (v v' : Value) (left : Int) (h : Lst shFlag w b.1 v) (h' : Lst (shL shFr) w b.2 v') (h1 : -1 ≤ left) (h2 : left ≤ 1048576) :
    Calls Tryz.prog 27 #[.agg #[v, v'], .int .i64 left] w fun e0 w' => e0 = .returned (.int .i64 (szBl left b)) ∧ Below w.heap.size w w' := by
  obtain ⟨A0, cap0, rfl, hc, hm⟩ := formFlag h
  have hb1 := szI_bd (left := left) (n := b.1.length) h1 h2 (by omega)
  by_cases hs : szI left b.1.length < 0
  · have hx : szBl left b = -1 := by unfold szBl szSS; rw [if_pos (by omega)]
    go_enter Tryz.func27, Tryz.ntmps27
    go_wp2_with (first | (go_at_call 10; refine Calls.mono (szFlagS_any b.1.length _ _ _ _ h1 h2 hc hm) ?_; rintro e w1 ⟨rfl, rfl⟩))
    exact bodyPost_ret (v := .int .i64 (-1)) (by simp [results, Tryz.results27, go_sem]) rfl ⟨by rw [hx], belA⟩
  · by_cases hs2 : szSS (szI left b.1.length) b.2 < 0
    · have hx : szBl left b = -1 := by
        have := szSS_bd (xss := b.2) (left := szI left b.1.length) hb1.1 hb1.2
        unfold szBl; omega
      go_enter Tryz.func27, Tryz.ntmps27
      go_wp2_with (first | (go_at_call 10; refine Calls.mono (szFlagS_any b.1.length _ _ _ _ h1 h2 hc hm) ?_; rintro e w1 ⟨rfl, rfl⟩) | (go_at_call 11; refine Calls.mono (szFractionSS_any _ b.2 _ _ (h'.below belA) (by omega) (by omega)) ?_; rintro e w1 ⟨rfl, hb⟩; obtain ⟨X, m, rfl⟩ := plsOf hb; clear hb))
      exact bodyPost_ret (v := .int .i64 (-1)) (by simp [results, Tryz.results27, go_sem]) rfl ⟨by rw [hx], belA⟩
    · go_enter Tryz.func27, Tryz.ntmps27
      go_wp2_with (first | (go_at_call 10; refine Calls.mono (szFlagS_any b.1.length _ _ _ _ h1 h2 hc hm) ?_; rintro e w1 ⟨rfl, rfl⟩) | (go_at_call 11; refine Calls.mono (szFractionSS_any _ b.2 _ _ (h'.below belA) (by omega) (by omega)) ?_; rintro e w1 ⟨rfl, hb⟩; obtain ⟨X, m, rfl⟩ := plsOf hb; clear hb))
      exact bodyPost_ret (v := .int .i64 (szSS (szI left b.1.length) b.2)) (by simp [results, Tryz.results27, go_sem]) rfl ⟨rfl, belA⟩
end Go.Proofs.YtekchdgpaemofaaGreat

namespace Go.Proofs.YtekchdgpaemofaaGreat
open Go.ChangeShapes Go.WideShapes Go.ChangeAt Go.RowKit
theorem own_block {B : Nat} {w : World} {fs : List (Int × (Int × Int))} {m : List (List (Int × Int))} {A A' : Option Addr} {cap cap' : Nat} {F : List Nat} (h : shBlock.own w (fs, m) [.slice A fs.length cap, .slice A' m.length cap'] F) (hn : F.Nodup) (hB : ∀ k ∈ F, B ≤ k) :
    ∃ F1 F2, Own shFlag B w fs (.slice A fs.length cap) F1 ∧ Own (shL shFr) B w m (.slice A' m.length cap') F2 ∧ ∀ b ∈ F1, b ∉ F2 := by
  obtain ⟨c1, c2, F1, F2, he, rfl, h1, h2⟩ := h
  have l1 := (shL shFlag).len _ _ _ ((shL shFlag).ownRep _ _ _ _ h1)
  have l2 := (shL (shL shFr)).len _ _ _ ((shL (shL shFr)).ownRep _ _ _ _ h2)
  obtain ⟨x, rfl⟩ : ∃ x, c1 = [x] := List.length_eq_one_iff.1 l1
  obtain ⟨y, rfl⟩ : ∃ y, c2 = [y] := List.length_eq_one_iff.1 l2
  simp at he
  obtain ⟨rfl, rfl⟩ := he
  rw [List.nodup_append] at hn
  exact ⟨F1, F2, ⟨h1, hn.1, fun k hk => hB k (by simp [hk])⟩, ⟨h2, hn.2.1, fun k hk => hB k (by simp [hk])⟩, fun b hb hb' => hn.2.2 b hb b hb' rfl⟩
theorem toBlock_two (w : World) (fs : List (Int × (Int × Int))) (m : List (List (Int × Int))) (v v' : Value) (h : Lst shFlag w fs v) (h' : Lst (shL shFr) w m v') (hb : fs.length ≤ 1048576) (hb' : m.length + lenSS m ≤ 1048576) :
    Calls Tryz.prog 29 #[.agg #[v, v']] w fun e0 w' => ∃ A cap F A' cap' F', e0 = .returned (.agg #[.slice A fs.length cap, .slice A' m.length cap']) ∧ Own shFlag w.heap.size w' fs (.slice A fs.length cap) F ∧ Own (shL shFr) w.heap.size w' m (.slice A' m.length cap') F' ∧ (∀ b ∈ F, b ∉ F') ∧ Below w.heap.size w w' := by
  refine (toBlock_any w (fs, m) v v' h h' hb hb').mono ?_
  rintro e0 w' ⟨⟨A, cap, A', cap', F, rfl, ho, hn, hB⟩, hbel⟩
  obtain ⟨F1, F2, h1, h2, h3⟩ := own_block ho hn hB
  exact ⟨A, cap, F1, A', cap', F2, rfl, h1, h2, h3, hbel⟩
end Go.Proofs.YtekchdgpaemofaaGreat
