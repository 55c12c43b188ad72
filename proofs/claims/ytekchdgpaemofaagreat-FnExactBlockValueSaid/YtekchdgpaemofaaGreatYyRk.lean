import Derived.Test.YtekchdgpaemofaaGreatYySl
namespace Go.Proofs.YtekchdgpaemofaaGreat
open Go.RowKit
section
variable {P : Program} {ops : Array Oper} {Q : Exit → Act → World → Prop} {md : Region.Mode} {S : World → Prop} {L : Nat}
def Lasts (P : Program) (md : Region.Mode) (ops : Array Oper) (Q : Exit → Act → World → Prop) (S : World → Prop) (L : Nat) : Nat → Array Bool → Act → World → Prop
  | 0, l, a, w => Region.ready md ops l = [] ∧ Q .normal a w
  | n + 1, l, a, w => (Region.ready md ops l = [] → Q .normal a w) ∧ ∀ i ∈ Region.ready md ops l, wpOp P ops Q i (fun a' w' => (l.getD L false = false → i ≠ L → S w') ∧ Lasts P md ops Q S L n (l.setIfInBounds i true) a' w') a w
theorem lasts_any : ∀ (n : Nat) (l : Array Bool) (a : Act) (w : World), Lasts P md ops Q S L n l a w → wpAny P md ops Q n l a w
  | 0, _, _, _, h => h
  | n + 1, _, _, _, h => ⟨h.1, fun i hi => wpOp_mono (fun _ _ h' => lasts_any n _ _ _ h'.2) (h.2 i hi)⟩
def Grown (md : Region.Mode) (ops : Array Oper) (l : Array Bool) : Prop := ∀ (j : Nat) (o : Oper), ops[j]? = some o → l.getD j true = true → ∀ e ∈ o.after, Region.binds md e = true → l.getD e.on false = true
theorem Grown.start : Grown md ops (Array.replicate ops.size false) := fun j o ho hl => by
  have hj : j < ops.size := (Array.getElem?_eq_some_iff.1 ho).1
  simp [hj] at hl
theorem Grown.set {l : Array Bool} (h : Grown md ops l) {i : Nat} (hi : i ∈ Region.ready md ops l) : Grown md ops (l.setIfInBounds i true) := fun j o ho hl e he hb => by
  by_cases hij : i = j
  · subst hij
    obtain ⟨_, o', ho', hall⟩ := mem_ready.1 hi
    have : o' = o := Option.some.inj (ho'.symm.trans ho)
    subst this
    exact getD_set_true (hall e he hb)
  · rw [getD_set_ne true hij] at hl
    exact getD_set_true (h j o ho hl e he hb)
def waitsOn (md : Region.Mode) (ops : Array Oper) (i : Nat) : List Nat := match ops[i]? with | some o => (o.after.toList.filter fun e => Region.binds md e).map fun e => e.on | none => []
def waitsAll (md : Region.Mode) (ops : Array Oper) : Nat → List Nat → List Nat
  | 0, X => X
  | n + 1, X => waitsAll md ops n (X.flatMap fun i => i :: waitsOn md ops i).eraseDups
def Came (md : Region.Mode) (ops : Array Oper) (l : Array Bool) (x : Nat) : Prop := ∀ k ∈ waitsOn md ops x, l.getD k false = true
theorem came_of_listed {l : Array Bool} (h : Grown md ops l) {x : Nat} (hx : l.getD x false = true) : Came md ops l x := fun k hk => by
  unfold waitsOn at hk
  cases ho : ops[x]? with
  | none => rw [ho] at hk; simp at hk
  | some o =>
    rw [ho] at hk
    simp only [List.mem_map, List.mem_filter] at hk
    obtain ⟨e, ⟨he, hb⟩, rfl⟩ := hk
    have hx2 : l.getD x true = true := by
      rcases Nat.lt_or_ge x l.size with hlt | hge
      · simp [hlt] at hx ⊢; exact hx
      · simp [hge]
    exact h x o ho hx2 e (by simpa using he) hb
theorem came_all {l : Array Bool} (h : Grown md ops l) : ∀ (n : Nat) (X : List Nat), (∀ x ∈ X, Came md ops l x) → ∀ x ∈ waitsAll md ops n X, Came md ops l x
  | 0, _, hX => hX
  | n + 1, X, hX => by
    intro x hx
    refine came_all h n _ (fun y hy => ?_) x hx
    rw [List.mem_eraseDups, List.mem_flatMap] at hy
    obtain ⟨z, hz, hy⟩ := hy
    rcases List.mem_cons.1 hy with rfl | hy
    · exact hX _ hz
    · exact came_of_listed h (hX z hz y hy)
def waitB (md : Region.Mode) (ops : Array Oper) (L i : Nat) : Bool := (waitsAll md ops ops.size [L]).any fun x => (waitsOn md ops x).contains i
theorem wait_no {l : Array Bool} (h : Grown md ops l) {i : Nat} (hc : waitB md ops L i = true) (hi : i ∈ Region.ready md ops l) (hcL : Came md ops l L) : False := by
  obtain ⟨hun, _, _, _⟩ := mem_ready.1 hi
  unfold waitB at hc
  rw [List.any_eq_true] at hc
  obtain ⟨x, hx, hxi⟩ := hc
  have h2 := came_all h ops.size [L] (fun y hy => by have : y = L := by simpa using hy
                                                     subst this; exact hcL) x hx i (by simpa using hxi)
  rcases Nat.lt_or_ge i l.size with hlt | hge
  · simp [hlt] at h2 hun
    rw [hun] at h2; cases h2
  · simp [hge] at h2
theorem unlisted {l : Array Bool} (h : Grown md ops l) {i : Nat} (hc : waitB md ops L i = true) (hi : i ∈ Region.ready md ops l) : l.getD L false = false := by
  cases hL : l.getD L false with
  | false => rfl
  | true => exact (wait_no h hc hi (came_of_listed h hL)).elim
theorem lasts_first {S0 : World → Prop} {i : Nat} {oi : Oper} {v : Value} (hi : ops[i]? = some oi) (hsel : ∀ (j : Nat) (o : Oper) cs b, ops[j]? = some o → o.op ≠ .select cs b) (hQ : ∀ c a w, Q (.panic c) (a.put oi.dst v) w → Q (.panic c) a w) (hk : (∀ w, S0 w) ∨ ((∀ w, S w → S0 w) ∧ waitB md ops L i = true)) (hiL : i ≠ L) :
    ∀ (n : Nat) (l : Array Bool) (a : Act) (w : World), Grown md ops l → (∀ j oj, ops[j]? = some oj → j ≠ i → l.getD j true = false → (∀ e ∈ oj.after, Region.binds md e = true → e.on ≠ i) → oi.apart ops oj = true) →
      i ∈ Region.ready md ops l → YieldsIf P ops S0 oi v a → (l.getD L false = false → S w) → Lasts P md ops Q S L n (l.setIfInBounds i true) (a.put oi.dst v) w → Lasts P md ops Q S L (n + 1) l a w := by
  have hold : ∀ (l : Array Bool) (w : World), Grown md ops l → i ∈ Region.ready md ops l → (l.getD L false = false → S w) → S0 w := fun l w hg hr hS => by
    rcases hk with hk | ⟨hk, hc⟩
    · exact hk w
    · exact hk w (hS (unlisted hg hc hr))
  intro n
  induction n with
  | zero =>
    intro l a w hg _ hr hy hS H
    refine ⟨fun h => (by rw [h] at hr; cases hr), fun j hj => ?_⟩
    by_cases hji : j = i
    · subst hji; exact hy.wpOp hi (hold l w hg hr hS) ⟨fun hu _ => hS hu, H⟩
    · have := ready_mono hj hji
      rw [H.1] at this
      cases this
  | succ n ih =>
    intro l a w hg hfree hr hy hS H
    refine ⟨fun h => (by rw [h] at hr; cases hr), fun j hj => ?_⟩
    by_cases hji : j = i
    · subst hji; exact hy.wpOp hi (hold l w hg hr hS) ⟨fun hu _ => hS hu, H⟩
    · have h1 := H.2 j (ready_mono hj hji)
      obtain ⟨hjun, oj, hoj, hall⟩ := mem_ready.1 hj
      have hnot : ∀ e ∈ oj.after, Region.binds md e = true → e.on ≠ i := fun e he hb heq => by
        have h2 := hall e he hb
        have h0 := (mem_ready.1 hr).1
        rw [heq] at h2
        rcases Nat.lt_or_ge i l.size with h' | h'
        · simp [h'] at h0 h2; rw [h0] at h2; cases h2
        · simp [Array.getElem?_eq_none h'] at h2
      have h2 := wpOp_putIf hoj (hfree j oj hoj hji hjun hnot) (fun cs b => hsel i oi cs b hi) (fun cs b => hsel j oj cs b hoj) hQ hy h1
      have hset : ∀ k, k ≠ i → (l.setIfInBounds i true).getD k false = l.getD k false := fun k hki => by
        simp only [Array.getD_eq_getD_getElem?]
        rw [Array.getElem?_setIfInBounds_ne (Ne.symm hki)]
      have hset2 : ∀ k, k ≠ j → (l.setIfInBounds j true).getD k false = l.getD k false := fun k hkj => by
        simp only [Array.getD_eq_getD_getElem?]
        rw [Array.getElem?_setIfInBounds_ne (Ne.symm hkj)]
      refine wpOp_mono (fun a' w' h3 => ⟨fun hu hjL => h3.2.1 (by rw [hset L (Ne.symm hiL)]; exact hu) hjL, ih (l.setIfInBounds j true) a' w' (hg.set hj) (fun k ok hk hki hun hno => ?_) (ready_mono hr (Ne.symm hji)) h3.1 (fun hu => ?_) ?_⟩) h2
      · refine hfree k ok hk hki ?_ hno
        by_cases hjk : j = k
        · subst hjk; exact hjun
        · rw [getD_set_ne true hjk] at hun; exact hun
      · by_cases hjL : j = L
        · subst hjL
          exfalso
          have h0 : l.getD j true = false := hjun
          have hlt : j < l.size := by
            rcases Nat.lt_or_ge j l.size with h' | h'
            · exact h'
            · simp [Array.getElem?_eq_none h'] at h0
          simp [hlt] at hu
        · rw [hset2 L (Ne.symm hjL)] at hu
          exact h3.2.1 (by rw [hset L (Ne.symm hiL)]; exact hu) hjL
      · rw [Array.setIfInBounds_comm _ _ hji]
        exact h3.2.2
def LastG (P : Program) (md : Region.Mode) (ops : Array Oper) (Q : Exit → Act → World → Prop) (S : World → Prop) (L n : Nat) (l : Array Bool) (a : Act) (w : World) : Prop := Grown md ops l → Lasts P md ops Q S L n l a w
theorem last_region (L : Nat) {id : Nat} {a : Act} {w : World} (hm : P.follows .mixedOrders = true) (hS : S w.drew)
    (h : S w.drew → LastG P .any ops Q S L ops.size (Array.replicate ops.size false) a w.drew) : (Code.region id ops true).wp P Q a w :=
  wp_region_any hm (lasts_any _ _ _ _ (h hS Grown.start))
theorem last_take (i : Nat) (N : Option Tmp) {oi : Oper} {v : Value} {n : Nat} {l : Array Bool} {a : Act} {w : World} (hi : ops[i]? = some oi) (hs : Region.noSelect ops = true) (hf : Region.free md ops l i = true) (hr : (Region.ready md ops l).contains i = true) (hc : waitB md ops L i = true) (hiL : i ≠ L) (hN : oi.dst = N)
    (hQ : ∀ c a w, Q (.panic c) (a.put N v) w → Q (.panic c) a w) (hy : YieldsIf P ops S oi v a) (hS : S w) (h : LastG P md ops Q S L n (l.setIfInBounds i true) (a.put N v) w) : LastG P md ops Q S L (n + 1) l a w := fun hg => by
  subst hN
  exact lasts_first hi (Region.noSelect_spec hs) hQ (.inr ⟨fun _ h => h, hc⟩) hiL n l a w hg (Region.free_spec hi hf) (by simpa using hr) hy (fun _ => hS) (h (hg.set (by simpa using hr)))
theorem last_free (i : Nat) (N : Option Tmp) {oi : Oper} {v : Value} {n : Nat} {l : Array Bool} {a : Act} {w : World} (hi : ops[i]? = some oi) (hs : Region.noSelect ops = true) (hf : Region.free md ops l i = true) (hr : (Region.ready md ops l).contains i = true) (hiL : i ≠ L) (hN : oi.dst = N)
    (hQ : ∀ c a w, Q (.panic c) (a.put N v) w → Q (.panic c) a w) (hy : YieldsIf P ops (fun _ => True) oi v a) (hS : S w) (h : LastG P md ops Q S L n (l.setIfInBounds i true) (a.put N v) w) : LastG P md ops Q S L (n + 1) l a w := fun hg => by
  subst hN
  exact lasts_first hi (Region.noSelect_spec hs) hQ (.inl fun _ => trivial) hiL n l a w hg (Region.free_spec hi hf) (by simpa using hr) hy (fun _ => hS) (h (hg.set (by simpa using hr)))
theorem last_ready {i n : Nat} {o : Oper} {l : Array Bool} {a : Act} {w : World} (hr : Region.ready md ops l = [i]) (ho : ops[i]? = some o)
    (h : ∀ K' : Act → World → Prop, Shut (∀ a w, S w → (S w → LastG P md ops Q S L n (l.setIfInBounds i true) a w) → K' a w) → if Region.wanted o (yielded ops a.tmps) = true then Oper.wp P o a w K' Q else K' (a.put o.dst undef) w) : LastG P md ops Q S L (n + 1) l a w := fun hg =>
  ⟨fun h0 => absurd h0 (by rw [hr]; simp), fun j hj => by
    rw [hr] at hj
    have : j = i := by simpa using hj
    subst this
    have hj' : j ∈ Region.ready md ops l := by rw [hr]; simp
    exact wpOp_step ho (fun K' hK => h K' (fun a w hS hW => hK a w ⟨fun _ _ => hS, hW hS (hg.set hj')⟩))⟩
theorem last_end {n : Nat} {o : Oper} {l : Array Bool} {a : Act} {w : World} (hr : Region.ready md ops l = [L]) (ho : ops[L]? = some o)
    (h : ∀ K' : Act → World → Prop, Shut (∀ a w, LastG P md ops Q S L n (l.setIfInBounds L true) a w → K' a w) → if Region.wanted o (yielded ops a.tmps) = true then Oper.wp P o a w K' Q else K' (a.put o.dst undef) w) : LastG P md ops Q S L (n + 1) l a w := fun hg =>
  ⟨fun h0 => absurd h0 (by rw [hr]; simp), fun j hj => by
    rw [hr] at hj
    have : j = L := by simpa using hj
    subst this
    have hj' : j ∈ Region.ready md ops l := by rw [hr]; simp
    exact wpOp_step ho (fun K' hK => h K' (fun a w hW => hK a w ⟨fun _ h => absurd rfl h, hW (hg.set hj')⟩))⟩
theorem last_done {l : Array Bool} {a : Act} {w : World} (hr : Region.ready md ops l = []) (h : Q .normal a w) : ∀ n, LastG P md ops Q S L n l a w
  | 0 => fun _ => ⟨hr, h⟩
  | _ + 1 => fun _ => ⟨fun _ => h, by rw [hr]; simp⟩
end
end Go.Proofs.YtekchdgpaemofaaGreat
