/- A region that draws its order and ends with some stores: S1 holds all the time, S2 until operation L. -/
import Derived.Test.YtekchdgpaemofaaRk
namespace Go.Proofs.Ytekchdgpaemofaa
open Go.RowKit
section
variable {P : Program} {ops : Array Oper} {Q : Exit → Act → World → Prop} {md : Region.Mode} {S1 S2 : World → Prop} {L : Nat}
def Twos (P : Program) (md : Region.Mode) (ops : Array Oper) (Q : Exit → Act → World → Prop) (S1 S2 : World → Prop) (L : Nat) : Nat → Array Bool → Act → World → Prop
  | 0, l, a, w => Region.ready md ops l = [] ∧ Q .normal a w
  | n + 1, l, a, w => (Region.ready md ops l = [] → Q .normal a w) ∧ ∀ i ∈ Region.ready md ops l, wpOp P ops Q i (fun a' w' => S1 w' ∧ (l.getD L false = false → i ≠ L → S2 w') ∧ Twos P md ops Q S1 S2 L n (l.setIfInBounds i true) a' w') a w
theorem twos_any : ∀ (n : Nat) (l : Array Bool) (a : Act) (w : World), Twos P md ops Q S1 S2 L n l a w → wpAny P md ops Q n l a w
  | 0, _, _, _, h => h
  | n + 1, _, _, _, h => ⟨h.1, fun i hi => wpOp_mono (fun _ _ h' => twos_any n _ _ _ h'.2.2) (h.2 i hi)⟩
theorem twos_first {S0 : World → Prop} {i : Nat} {oi : Oper} {v : Value} (hi : ops[i]? = some oi) (hsel : ∀ (j : Nat) (o : Oper) cs b, ops[j]? = some o → o.op ≠ .select cs b) (hQ : ∀ c a w, Q (.panic c) (a.put oi.dst v) w → Q (.panic c) a w) (hk : (∀ w, S1 w → S0 w) ∨ ((∀ w, S1 w → S2 w → S0 w) ∧ waitB md ops L i = true)) (hiL : i ≠ L) :
    ∀ (n : Nat) (l : Array Bool) (a : Act) (w : World), Grown md ops l → (∀ j oj, ops[j]? = some oj → j ≠ i → l.getD j true = false → (∀ e ∈ oj.after, Region.binds md e = true → e.on ≠ i) → oi.apart ops oj = true) →
      i ∈ Region.ready md ops l → YieldsIf P ops S0 oi v a → S1 w → (l.getD L false = false → S2 w) → Twos P md ops Q S1 S2 L n (l.setIfInBounds i true) (a.put oi.dst v) w → Twos P md ops Q S1 S2 L (n + 1) l a w := by
  have hold : ∀ (l : Array Bool) (w : World), Grown md ops l → i ∈ Region.ready md ops l → S1 w → (l.getD L false = false → S2 w) → S0 w := fun l w hg hr h1 hS => by
    rcases hk with hk | ⟨hk, hc⟩
    · exact hk w h1
    · exact hk w h1 (hS (unlisted hg hc hr))
  intro n
  induction n with
  | zero =>
    intro l a w hg _ hr hy h1 hS H
    refine ⟨fun h => (by rw [h] at hr; cases hr), fun j hj => ?_⟩
    by_cases hji : j = i
    · subst hji; exact hy.wpOp hi (hold l w hg hr h1 hS) ⟨h1, fun hu _ => hS hu, H⟩
    · have := ready_mono hj hji
      rw [H.1] at this
      cases this
  | succ n ih =>
    intro l a w hg hfree hr hy h1 hS H
    refine ⟨fun h => (by rw [h] at hr; cases hr), fun j hj => ?_⟩
    by_cases hji : j = i
    · subst hji; exact hy.wpOp hi (hold l w hg hr h1 hS) ⟨h1, fun hu _ => hS hu, H⟩
    · have h1' := H.2 j (ready_mono hj hji)
      obtain ⟨hjun, oj, hoj, hall⟩ := mem_ready.1 hj
      have hnot : ∀ e ∈ oj.after, Region.binds md e = true → e.on ≠ i := fun e he hb heq => by
        have h2 := hall e he hb
        have h0 := (mem_ready.1 hr).1
        rw [heq] at h2
        rcases Nat.lt_or_ge i l.size with h' | h'
        · simp [h'] at h0 h2; rw [h0] at h2; cases h2
        · simp [Array.getElem?_eq_none h'] at h2
      have h2 := wpOp_putIf hoj (hfree j oj hoj hji hjun hnot) (fun cs b => hsel i oi cs b hi) (fun cs b => hsel j oj cs b hoj) hQ hy h1'
      have hset : ∀ k, k ≠ i → (l.setIfInBounds i true).getD k false = l.getD k false := fun k hki => by
        simp only [Array.getD_eq_getD_getElem?]
        rw [Array.getElem?_setIfInBounds_ne (Ne.symm hki)]
      have hset2 : ∀ k, k ≠ j → (l.setIfInBounds j true).getD k false = l.getD k false := fun k hkj => by
        simp only [Array.getD_eq_getD_getElem?]
        rw [Array.getElem?_setIfInBounds_ne (Ne.symm hkj)]
      refine wpOp_mono (fun a' w' h3 => ⟨h3.2.1, fun hu hjL => h3.2.2.1 (by rw [hset L (Ne.symm hiL)]; exact hu) hjL, ih (l.setIfInBounds j true) a' w' (hg.set hj) (fun k ok hk hki hun hno => ?_) (ready_mono hr (Ne.symm hji)) h3.1 h3.2.1 (fun hu => ?_) ?_⟩) h2
      · refine hfree k ok hk hki ?_ hno
        by_cases hjk : j = k
        · subst hjk; exact hjun
        · rw [getD_set_ne true hjk] at hun; exact hun
      · by_cases hjL : j = L
        · subst hjL
          exfalso
          have h0 : l.getD j true = false := hjun
          have hlt : j < l.size := by
            rcases Nat.lt_or_ge j l.size with h' | h'
            · exact h'
            · simp [Array.getElem?_eq_none h'] at h0
          simp [hlt] at hu
        · rw [hset2 L (Ne.symm hjL)] at hu
          exact h3.2.2.1 (by rw [hset L (Ne.symm hiL)]; exact hu) hjL
      · rw [Array.setIfInBounds_comm _ _ hji]
        exact h3.2.2.2
/-- The moves of a walk. -/
def TwoG (P : Program) (md : Region.Mode) (ops : Array Oper) (Q : Exit → Act → World → Prop) (S1 S2 : World → Prop) (L n : Nat) (l : Array Bool) (a : Act) (w : World) : Prop := Grown md ops l → Twos P md ops Q S1 S2 L n l a w
theorem two_region (L : Nat) {id : Nat} {a : Act} {w : World} (hm : P.follows .mixedOrders = true) (hS1 : S1 w.drew) (hS2 : S2 w.drew)
    (h : S1 w.drew → S2 w.drew → TwoG P .any ops Q S1 S2 L ops.size (Array.replicate ops.size false) a w.drew) : (Code.region id ops true).wp P Q a w :=
  wp_region_any hm (twos_any _ _ _ _ (h hS1 hS2 Grown.start))
theorem two_take (i : Nat) (N : Option Tmp) {oi : Oper} {v : Value} {n : Nat} {l : Array Bool} {a : Act} {w : World} (hi : ops[i]? = some oi) (hs : Region.noSelect ops = true) (hf : Region.free md ops l i = true) (hr : (Region.ready md ops l).contains i = true) (hc : waitB md ops L i = true) (hiL : i ≠ L) (hN : oi.dst = N)
    (hQ : ∀ c a w, Q (.panic c) (a.put N v) w → Q (.panic c) a w) (hy : YieldsIf P ops (fun w => S1 w ∧ S2 w) oi v a) (hS1 : S1 w) (hS2 : S2 w) (h : TwoG P md ops Q S1 S2 L n (l.setIfInBounds i true) (a.put N v) w) : TwoG P md ops Q S1 S2 L (n + 1) l a w := fun hg => by
  subst hN
  exact twos_first hi (Region.noSelect_spec hs) hQ (.inr ⟨fun _ h1 h2 => ⟨h1, h2⟩, hc⟩) hiL n l a w hg (Region.free_spec hi hf) (by simpa using hr) hy hS1 (fun _ => hS2) (h (hg.set (by simpa using hr)))
theorem two_free (i : Nat) (N : Option Tmp) {oi : Oper} {v : Value} {n : Nat} {l : Array Bool} {a : Act} {w : World} (hi : ops[i]? = some oi) (hs : Region.noSelect ops = true) (hf : Region.free md ops l i = true) (hr : (Region.ready md ops l).contains i = true) (hiL : i ≠ L) (hN : oi.dst = N)
    (hQ : ∀ c a w, Q (.panic c) (a.put N v) w → Q (.panic c) a w) (hy : YieldsIf P ops S1 oi v a) (hS1 : S1 w) (hS2 : l.getD L false = false → S2 w) (h : TwoG P md ops Q S1 S2 L n (l.setIfInBounds i true) (a.put N v) w) : TwoG P md ops Q S1 S2 L (n + 1) l a w := fun hg => by
  subst hN
  exact twos_first hi (Region.noSelect_spec hs) hQ (.inl fun _ h => h) hiL n l a w hg (Region.free_spec hi hf) (by simpa using hr) hy hS1 hS2 (h (hg.set (by simpa using hr)))
theorem two_ready {i n : Nat} {o : Oper} {l : Array Bool} {a : Act} {w : World} (hr : Region.ready md ops l = [i]) (ho : ops[i]? = some o)
    (h : ∀ K' : Act → World → Prop, Shut (∀ a w, S1 w → S2 w → (S1 w → S2 w → TwoG P md ops Q S1 S2 L n (l.setIfInBounds i true) a w) → K' a w) → if Region.wanted o (yielded ops a.tmps) = true then Oper.wp P o a w K' Q else K' (a.put o.dst undef) w) : TwoG P md ops Q S1 S2 L (n + 1) l a w := fun hg =>
  ⟨fun h0 => absurd h0 (by rw [hr]; simp), fun j hj => by
    rw [hr] at hj
    have : j = i := by simpa using hj
    subst this
    have hj' : j ∈ Region.ready md ops l := by rw [hr]; simp
    exact wpOp_step ho (fun K' hK => h K' (fun a w h1 h2 hW => hK a w ⟨h1, fun _ _ => h2, hW h1 h2 (hg.set hj')⟩))⟩
/-- Operation L, or one behind it: S2 need not hold any more. -/
theorem two_late {i n : Nat} {o : Oper} {l : Array Bool} {a : Act} {w : World} (hr : Region.ready md ops l = [i]) (ho : ops[i]? = some o) (hL : i = L ∨ l.getD L false = true)
    (h : ∀ K' : Act → World → Prop, Shut (∀ a w, S1 w → (S1 w → TwoG P md ops Q S1 S2 L n (l.setIfInBounds i true) a w) → K' a w) → if Region.wanted o (yielded ops a.tmps) = true then Oper.wp P o a w K' Q else K' (a.put o.dst undef) w) : TwoG P md ops Q S1 S2 L (n + 1) l a w := fun hg =>
  ⟨fun h0 => absurd h0 (by rw [hr]; simp), fun j hj => by
    rw [hr] at hj
    have : j = i := by simpa using hj
    subst this
    have hj' : j ∈ Region.ready md ops l := by rw [hr]; simp
    exact wpOp_step ho (fun K' hK => h K' (fun a w h1 hW => hK a w ⟨h1, (fun hu hne => (hL.elim (fun e => absurd e hne) (fun e => by rw [e] at hu; cases hu))), hW h1 (hg.set hj')⟩))⟩
theorem two_two {i j n : Nat} {o o' : Oper} {l : Array Bool} {a : Act} {w : World} (hr : Region.ready md ops l = [i, j]) (ho : ops[i]? = some o) (ho' : ops[j]? = some o')
    (h : ∀ K' : Act → World → Prop, Shut (∀ a w, S1 w → S2 w → (S1 w → S2 w → TwoG P md ops Q S1 S2 L n (l.setIfInBounds i true) a w) → K' a w) → if Region.wanted o (yielded ops a.tmps) = true then Oper.wp P o a w K' Q else K' (a.put o.dst undef) w)
    (h' : ∀ K' : Act → World → Prop, Shut (∀ a w, S1 w → S2 w → (S1 w → S2 w → TwoG P md ops Q S1 S2 L n (l.setIfInBounds j true) a w) → K' a w) → if Region.wanted o' (yielded ops a.tmps) = true then Oper.wp P o' a w K' Q else K' (a.put o'.dst undef) w) : TwoG P md ops Q S1 S2 L (n + 1) l a w := fun hg =>
  ⟨fun h0 => absurd h0 (by rw [hr]; simp), fun k hk => by
    rw [hr] at hk
    have hk2 : k = i ∨ k = j := by simpa using hk
    have hk' : k ∈ Region.ready md ops l := by rw [hr]; exact hk
    rcases hk2 with e | e
    · subst e
      exact wpOp_step ho (fun K' hK => h K' (fun a w h1 h2 hW => hK a w ⟨h1, fun _ _ => h2, hW h1 h2 (hg.set hk')⟩))
    · subst e
      exact wpOp_step ho' (fun K' hK => h' K' (fun a w h1 h2 hW => hK a w ⟨h1, fun _ _ => h2, hW h1 h2 (hg.set hk')⟩))⟩
theorem two_done {l : Array Bool} {a : Act} {w : World} (hr : Region.ready md ops l = []) (h : Q .normal a w) : ∀ n, TwoG P md ops Q S1 S2 L n l a w
  | 0 => fun _ => ⟨hr, h⟩
  | _ + 1 => fun _ => ⟨fun _ => h, by rw [hr]; simp⟩
end
end Go.Proofs.Ytekchdgpaemofaa
