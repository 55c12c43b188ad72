/- Terms added one by one, in plain words: both ways of adding are one. -/
import Derived.Test.YtpcjinbbgnmchaaGreatIc
namespace Go.Proofs.YtpcjinbbgnmchaaGreat
open Go.ChangeShapes Go.WideShapes Go.RowKit
set_option linter.unusedVariables false
set_option linter.unusedSimpArgs false
theorem pw_edges {xs : List Trm} : xs.Pairwise ltE ↔ (xs.map fun d : Trm => d.1.2.2).Pairwise (· < ·) := by
  rw [List.pairwise_map]
  exact Iff.rfl
theorem pw_set {xs : List Trm} (h : xs.Pairwise ltE) {k : Nat} {d : Trm} (hd : xs[k]? = some d) (q : Int × Int) : (xs.set k (d.1, q)).Pairwise ltE := by
  have e : ((xs.set k (d.1, q)).map fun d : Trm => d.1.2.2) = xs.map fun d : Trm => d.1.2.2 := by
    rw [List.map_set]
    refine List.ext_getElem? fun i => ?_
    rw [List.getElem?_set]
    split
    · rename_i hi
      subst hi
      rw [List.length_map, List.getElem?_map, hd, if_pos (List.getElem?_eq_some_iff.1 hd).1]
      rfl
    · rfl
  exact pw_edges.2 (e ▸ pw_edges.1 h)
theorem pw_ins {xs : List Trm} (h : xs.Pairwise ltE) {f : Flg} (hn : isT f.2.2 xs = false) (q : Int × Int) : (insT (posT f.2.2 xs) xs (f, q)).Pairwise ltE := by
  have h1 : ∀ d ∈ xs.take (posT f.2.2 xs), d.1.2.2 < f.2.2 := fun d hd => by
    obtain ⟨i, hi⟩ := List.mem_iff_getElem?.1 hd
    have hlt : i < posT f.2.2 xs := by
      have := (List.getElem?_eq_some_iff.1 hi).1
      rw [List.length_take] at this
      omega
    rw [List.getElem?_take_of_lt hlt] at hi
    exact posT_lt hlt hi
  have h2 : ∀ d ∈ xs.drop (posT f.2.2 xs), f.2.2 < d.1.2.2 := fun d hd => by
    obtain ⟨i, hi⟩ := List.mem_iff_getElem?.1 hd
    rw [List.getElem?_drop] at hi
    have h3 := posT_ge h hi (Nat.le_add_right _ _)
    rcases Int.lt_or_eq_of_le (Int.not_lt.1 h3) with h4 | h4
    · exact h4
    · rcases Nat.eq_zero_or_pos i with rfl | hi0
      · rw [Nat.add_zero] at hi
        rw [isT_some hi] at hn
        simp at hn
        exact absurd h4.symm hn
      · obtain ⟨p, hp⟩ : ∃ p, xs[posT f.2.2 xs]? = some p := ⟨_, List.getElem?_eq_getElem (by have := (List.getElem?_eq_some_iff.1 hi).1; omega)⟩
        have h5 := pw_ltE h hp hi (by omega)
        have h6 := posT_at hp
        omega
  unfold insT
  refine List.pairwise_append.2 ⟨h.sublist (List.take_sublist _ _), List.pairwise_cons.2 ⟨fun d hd => h2 d hd, h.sublist (List.drop_sublist _ _)⟩, fun a ha b hb => ?_⟩
  rcases List.mem_cons.1 hb with rfl | hb
  · exact h1 a ha
  · exact Int.lt_trans (h1 a ha) (h2 b hb)
theorem adI_len (g : Bool × List Trm) (f : Flg) (q : Int × Int) : (adI g f q).2.length ≤ g.2.length + 1 := by
  unfold adI
  split
  · split
    · show (g.2.set _ _).length ≤ _
      rw [List.length_set]
      omega
    · exact Nat.le_of_eq (insT_len (posT_le _ _))
  · exact Nat.le_of_eq (insT_len (posT_le _ _))
theorem adB_len (g : Int × List Trm) (f : Flg) (q : Int × Int) : (adB g f q).2.length ≤ g.2.length + 1 := by
  unfold adB
  split
  · split
    · split
      · show (g.2.set _ _).length ≤ _
        rw [List.length_set]
        omega
      · exact Nat.le_of_eq (insT_len (posT_le _ _))
    · exact Nat.le_of_eq (insT_len (posT_le _ _))
  · omega
/-- Both ways stand alike: flags of one frame in order, valid fractions; a sum too great ends the one, marks the other. -/
def StI (k n : Int) (g : Bool × List Trm) (b : Int × List Trm) : Prop := g.2.Pairwise ltE ∧ (∀ x ∈ g.2, x.1.1 = k ∧ x.1.2.1 = n ∧ inF x.2) ∧ ((g.1 = false ∧ b = (0, g.2)) ∨ (g.1 = true ∧ b.1 = 3))
theorem StI.start (k n : Int) : StI k n (false, []) (0, []) := ⟨List.Pairwise.nil, fun x hx => (by cases hx), .inl ⟨rfl, rfl⟩⟩
theorem noB_eq (o : Option (Int × Int)) : (noB o = false ∧ rC o = 0 ∧ kD o = rD o) ∨ (noB o = true ∧ rC o = 3) := by
  cases o with
  | none => exact .inr ⟨rfl, rfl⟩
  | some x => exact .inl ⟨rfl, rfl, rfl⟩
theorem StI.step {k n : Int} {g : Bool × List Trm} {b : Int × List Trm} (h : StI k n g b) {f : Flg} {q : Int × Int} (hk : f.1 = k) (hn : f.2.1 = n) (hq : inF q) : StI k n (adI g f q) (adB b f q) := by
  obtain ⟨gg, xs⟩ := g
  obtain ⟨h1, h2, h3⟩ := h
  cases hT : isT f.2.2 xs
  · rw [adI_no hT]
    refine ⟨pw_ins h1 hT q, fun x hx => ?_, ?_⟩
    · rcases insT_mem hx with hx | rfl
      · exact h2 x hx
      · exact ⟨hk, hn, hq⟩
    · rcases h3 with ⟨h3, rfl⟩ | ⟨h3, h4⟩
      · refine .inl ⟨h3, ?_⟩
        unfold adB
        rw [if_pos rfl]
        cases hx : xs[posT f.2.2 xs]? with
        | none => simp only [hx]
        | some d =>
          rw [isT_some hx] at hT
          have hne : d.1 ≠ f := fun e => by rw [e] at hT; simp at hT
          simp only [hx, if_neg hne]
      · refine .inr ⟨h3, ?_⟩
        unfold adB
        rw [if_neg (by rw [h4]; decide)]
        exact h4
  · obtain ⟨d, hd, hde⟩ : ∃ d, xs[posT f.2.2 xs]? = some d ∧ d.1.2.2 = f.2.2 := by
      cases hx : xs[posT f.2.2 xs]? with
      | none => rw [isT_none hx] at hT; cases hT
      | some d => rw [isT_some hx] at hT; exact ⟨d, rfl, by simpa using hT⟩
    have hdm := h2 d (List.mem_of_getElem? hd)
    have hdf : d.1 = f := by
      obtain ⟨⟨x0, x1, x2⟩, x3⟩ := d
      obtain ⟨f0, f1, f2⟩ := f
      simp only at hdm hde hk hn ⊢
      rw [hdm.1, hdm.2.1, hde, hk, hn]
    rw [adI_yes hd hde]
    have hI : inF (kD (addO d.2 q)) := by
      cases h : addO d.2 q with
      | none => exact ⟨by decide, by decide, by decide, by decide⟩
      | some z => exact addO_in hdm.2.2.2.2.1 hq.2.2.1 h
    refine ⟨pw_set h1 hd _, fun x hx => ?_, ?_⟩
    · rcases List.mem_or_eq_of_mem_set hx with hx | rfl
      · exact h2 x hx
      · exact ⟨hdm.1, hdm.2.1, hI⟩
    · rcases h3 with ⟨h3, rfl⟩ | ⟨h3, h4⟩
      · have hB : adB (0, xs) f q = (rC (addO d.2 q), xs.set (posT f.2.2 xs) (f, rD (addO d.2 q))) := by
          unfold adB
          rw [if_pos rfl]
          simp only [hd, if_pos hdf]
        rw [hB]
        rcases noB_eq (addO d.2 q) with ⟨e1, e2, e3⟩ | ⟨e1, e2⟩
        · exact .inl ⟨by show (gg || _) = false; rw [e1, show gg = false from h3]; rfl, by rw [e2, e3, hdf]⟩
        · exact .inr ⟨by show (gg || _) = true; rw [e1, Bool.or_true], e2⟩
      · refine .inr ⟨by show (gg || _) = true; rw [show gg = true from h3]; rfl, ?_⟩
        unfold adB
        rw [if_neg (by rw [h4]; decide)]
        exact h4
/-- All terms of a list added. -/
def fI (L : List Trm) : Bool × List Trm := L.foldl (fun g x => adI g x.1 x.2) (false, [])
def fB (L : List Trm) : Int × List Trm := L.foldl (fun g x => adB g x.1 x.2) (0, [])
theorem fI_take {L : List Trm} {a : Nat} {x : Trm} (h : L[a]? = some x) : fI (L.take (a + 1)) = adI (fI (L.take a)) x.1 x.2 := by
  unfold fI
  rw [List.take_add_one, h, List.foldl_append]
  rfl
theorem fB_take {L : List Trm} {a : Nat} {x : Trm} (h : L[a]? = some x) : fB (L.take (a + 1)) = adB (fB (L.take a)) x.1 x.2 := by
  unfold fB
  rw [List.take_add_one, h, List.foldl_append]
  rfl
theorem fI_StI {k n : Int} (L : List Trm) (h : ∀ x ∈ L, x.1.1 = k ∧ x.1.2.1 = n ∧ inF x.2) : StI k n (fI L) (fB L) := by
  suffices H : ∀ (M : List Trm) (g : Bool × List Trm) (b : Int × List Trm), (∀ x ∈ M, x.1.1 = k ∧ x.1.2.1 = n ∧ inF x.2) → StI k n g b → StI k n (M.foldl (fun g x => adI g x.1 x.2) g) (M.foldl (fun g x => adB g x.1 x.2) b) from H L _ _ h (StI.start k n)
  intro M
  induction M with
  | nil => exact fun g b _ h => h
  | cons x M ih => exact fun g b hM hs => ih _ _ (fun y hy => hM y (List.mem_cons_of_mem _ hy)) (hs.step (hM x (List.mem_cons_self ..)).1 (hM x (List.mem_cons_self ..)).2.1 (hM x (List.mem_cons_self ..)).2.2)
theorem fI_len (L : List Trm) : (fI L).2.length ≤ L.length := by
  suffices H : ∀ (M : List Trm) (g : Bool × List Trm), (M.foldl (fun g x => adI g x.1 x.2) g).2.length ≤ g.2.length + M.length from by
    have h := H L (false, [])
    rw [show (List.length (false, ([] : List Trm)).2) = 0 from rfl, Nat.zero_add] at h
    exact h
  intro M
  induction M with
  | nil => exact fun g => Nat.le_refl _
  | cons x M ih =>
    intro g
    rw [List.foldl_cons, List.length_cons]
    have := ih (adI g x.1 x.2)
    have := adI_len g x.1 x.2
    omega
theorem fB_len (L : List Trm) : (fB L).2.length ≤ L.length := by
  suffices H : ∀ (M : List Trm) (g : Int × List Trm), (M.foldl (fun g x => adB g x.1 x.2) g).2.length ≤ g.2.length + M.length from by
    have h := H L (0, [])
    rw [show (List.length ((0 : Int), ([] : List Trm)).2) = 0 from rfl, Nat.zero_add] at h
    exact h
  intro M
  induction M with
  | nil => exact fun g => Nat.le_refl _
  | cons x M ih =>
    intro g
    rw [List.foldl_cons, List.length_cons]
    have := ih (adB g x.1 x.2)
    have := adB_len g x.1 x.2
    omega
theorem fI_in {k n : Int} {L : List Trm} (h : ∀ x ∈ L, x.1.1 = k ∧ x.1.2.1 = n ∧ inF x.2) : ∀ x ∈ (fI L).2, inF x.2 := fun x hx => ((fI_StI L h).2.1 x hx).2.2
theorem fB_in {k n : Int} {L : List Trm} (h : ∀ x ∈ L, x.1.1 = k ∧ x.1.2.1 = n ∧ inF x.2) : (fB L).1 = 0 → ∀ x ∈ (fB L).2, inF x.2 := fun hc x hx => by
  rcases (fI_StI L h).2.2 with ⟨_, e⟩ | ⟨_, e⟩
  · rw [e] at hx
    exact fI_in h x hx
  · rw [e] at hc
    exact absurd hc (by decide)
/-- Both ends say one code and one list. -/
theorem fI_code {k n : Int} {L : List Trm} (h : ∀ x ∈ L, x.1.1 = k ∧ x.1.2.1 = n ∧ inF x.2) : enC (fB L).1 (fB L).2 = tdC (fI L).1 (fI L).2 ∧ (tdC (fI L).1 (fI L).2 = 0 → (fB L).2 = (fI L).2) := by
  rcases (fI_StI L h).2.2 with ⟨e1, e⟩ | ⟨e1, e⟩
  · rw [e1, e]
    exact ⟨rfl, fun _ => rfl⟩
  · rw [e1]
    unfold enC
    rw [e, if_neg (by decide)]
    exact ⟨rfl, fun h => absurd (show (3 : Int) = 0 from h) (by decide)⟩
end Go.Proofs.YtpcjinbbgnmchaaGreat
