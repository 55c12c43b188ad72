import Derived.Test.YtekchdgpaemofaaGreatYyGo
namespace Go.Proofs.YtekchdgpaemofaaGreat
set_option linter.unusedVariables false
set_option linter.unusedSimpArgs false
def ordsL (n q : Nat) : List (List Int) := lsts n (n - q) (seqI q)
def ordB (n q : Nat) (M : List Int) : Bool := decide (M.length = n) && (M.all fun x => decide (0 ≤ x) && decide (x < n)) && decide (M.Nodup) && decide (M.take q = seqI q)
structure OrdP (n q : Nat) (M : List Int) : Prop where
  len : M.length = n
  rng : ∀ x ∈ M, 0 ≤ x ∧ x < n
  nod : M.Nodup
  pre : M.take q = seqI q
theorem ordB_iff {n q : Nat} {M : List Int} : ordB n q M = true ↔ OrdP n q M := by
  simp only [ordB, Bool.and_eq_true, decide_eq_true_eq, List.all_eq_true]
  exact ⟨fun ⟨⟨⟨h1, h2⟩, h3⟩, h4⟩ => ⟨h1, h2, h3, h4⟩, fun h => ⟨⟨⟨h.1, h.2⟩, h.3⟩, h.4⟩⟩
theorem memB_iff {L : List Int} {x : Int} : memB L x = true ↔ x ∈ L := by simp [memB]
theorem mem_lsts (n : Nat) : ∀ (d : Nat) (L M : List Int), M.length = L.length + d → M.take L.length = L → (∀ x ∈ M, 0 ≤ x ∧ x < n) → M.Nodup → M ∈ lsts n d L := by
  intro d
  induction d with
  | zero =>
    intro L M hl ht _ _
    rw [List.take_of_length_le (by omega)] at ht
    simp [lsts, ht]
  | succ d ih =>
    intro L M hl ht hr hn
    have hlt : L.length < M.length := by omega
    have hx := hr _ (List.getElem_mem hlt)
    have htk : M.take (L.length + 1) = L ++ [M[L.length]] := by rw [List.take_add_one, ht, List.getElem?_eq_getElem hlt]; rfl
    rw [lsts_succ, List.mem_flatMap]
    refine ⟨(M[L.length]).toNat, by simp; omega, ?_⟩
    have hc : (((M[L.length]).toNat : Nat) : Int) = M[L.length] := by omega
    rw [hc]
    have hnm : memB L M[L.length] = false := by
      rw [Bool.eq_false_iff]
      intro hm
      have hm := memB_iff.1 hm
      have h1 : (M.take (L.length + 1)).Nodup := hn.sublist (List.take_sublist _ _)
      rw [htk, List.nodup_append] at h1
      exact h1.2.2 _ hm _ (by simp) rfl
    rw [hnm]
    simp only [Bool.false_eq_true, if_false]
    refine ih _ _ (by simp; omega) ?_ hr hn
    rw [List.length_append, List.length_singleton, htk]
def compB : Bool := (List.range 6).all fun n => (List.range (n + 1)).all fun q => (ordsL n q).all fun L => ordB n q L && (ordsL n q).any fun M => decide (compL L M = seqI n)
theorem compB_t : compB = true := by decide +kernel
section
variable {n q : Nat} (hn : n ≤ 5) (hq : q ≤ n)
include hn hq
theorem ords_iff {M : List Int} : M ∈ ordsL n q ↔ OrdP n q M := by
  constructor
  · intro h
    have h1 := compB_t
    simp only [compB, List.all_eq_true, List.mem_range, Bool.and_eq_true] at h1
    exact ordB_iff.1 (h1 n (by omega) q (by omega) M h).1
  · intro h
    refine mem_lsts n _ _ _ ?_ ?_ h.rng h.nod
    · rw [seqI_len, h.len]; omega
    · rw [seqI_len]; exact h.pre
theorem ords_inv {L : List Int} (h : L ∈ ordsL n q) : ∃ M ∈ ordsL n q, compL L M = seqI n := by
  have h1 := compB_t
  simp only [compB, List.all_eq_true, List.mem_range, Bool.and_eq_true, List.any_eq_true, decide_eq_true_eq] at h1
  exact (h1 n (by omega) q (by omega) L h).2
theorem ords_vl {L : List Int} (h : L ∈ ordsL n q) : VL L ∧ L.length = n := lsts_ok hn hq L h
omit hn hq in
theorem OrdP.gi {L : List Int} (h : OrdP n q L) {i : Nat} (hi : i < n) : 0 ≤ gi L i ∧ gi L i < n := by
  have : Go.Proofs.YtekchdgpaemofaaGreat.gi L i = L[i]'(by rw [h.len]; exact hi) := by simp [Go.Proofs.YtekchdgpaemofaaGreat.gi, h.len, hi]
  rw [this]
  exact h.rng _ (List.getElem_mem _)
omit hn hq in
theorem gi_inj {L : List Int} (h : L.Nodup) {i j : Nat} (hi : i < L.length) (hj : j < L.length) (he : gi L i = gi L j) : i = j := by
  have h1 : gi L i = L[i] := by simp [gi, List.getElem?_eq_getElem hi]
  have h2 : gi L j = L[j] := by simp [gi, List.getElem?_eq_getElem hj]
  rw [h1, h2] at he
  exact (List.getElem_inj h).1 he
theorem ords_comp {L M : List Int} (hL : L ∈ ordsL n q) (hM : M ∈ ordsL n q) : compL L M ∈ ordsL n q := by
  rw [ords_iff hn hq] at hL hM ⊢
  refine ⟨by rw [compL_len, hM.len], fun x hx => ?_, ?_, ?_⟩
  · obtain ⟨a, ha, rfl⟩ := List.mem_map.1 hx
    have := hM.rng a ha
    exact hL.gi (by omega)
  · rw [List.nodup_iff_pairwise_ne] at *
    unfold compL
    rw [List.pairwise_map]
    refine List.Pairwise.imp_of_mem ?_ (List.nodup_iff_pairwise_ne.1 hM.nod)
    intro a b ha hb hab he
    have h1 := hM.rng a ha
    have h2 := hM.rng b hb
    have := gi_inj hL.nod (by rw [hL.len]; omega) (by rw [hL.len]; omega) he
    omega
  · unfold compL
    rw [← List.map_take, hM.pre]
    have : (seqI q).map (fun a => gi L a.toNat) = L.take q := by
      apply List.ext_getElem?
      intro i
      rw [List.getElem?_map, seqI, List.getElem?_map, List.getElem?_take]
      by_cases hi : i < q
      · rw [List.getElem?_range hi, if_pos hi]
        have hi2 : i < L.length := by rw [hL.len]; omega
        simp [gi, List.getElem?_eq_getElem hi2]
      · rw [if_neg hi, List.getElem?_eq_none (by simpa using hi)]; rfl
    rw [this, hL.pre]
theorem ords_on {e : Int} {L M : List Int} (hL : L ∈ ordsL n q) (hM : M ∈ ordsL n q) : onE (onE e L) M = onE e (compL L M) := by
  have h1 := (ords_iff hn hq).1 hL
  have h2 := (ords_iff hn hq).1 hM
  exact onE_onE e (by rw [h1.len]; exact hn) (ords_vl hn hq hM).1 fun i hi => by
    rw [h1.len]
    exact (h2.gi (by rw [← h2.len]; exact hi)).2
theorem ords_id : seqI n ∈ ordsL n q := by
  rw [ords_iff hn hq]
  refine ⟨seqI_len n, fun x hx => ?_, ?_, ?_⟩
  · simp [seqI] at hx; omega
  · have : n = 0 ∨ n = 1 ∨ n = 2 ∨ n = 3 ∨ n = 4 ∨ n = 5 := by omega
    rcases this with rfl | rfl | rfl | rfl | rfl | rfl <;> decide
  · unfold seqI
    rw [← List.map_take, List.take_range, Nat.min_eq_left hq]
end
theorem lessE_le (x b : Int) : lessE x b ≤ x ∧ lessE x b ≤ b := by unfold lessE; split <;> omega
theorem lessE_or (x b : Int) : lessE x b = x ∨ lessE x b = b := by unfold lessE; split <;> simp
theorem handed_min (e : Int) : ∀ (LS : List (List Int)) (b : Int), (handed (fun _ => false) (fun b L => lessE (onE e L) b) LS b).2 ≤ b ∧ (∀ L ∈ LS, (handed (fun _ => false) (fun b L => lessE (onE e L) b) LS b).2 ≤ onE e L) ∧
    ((handed (fun _ => false) (fun b L => lessE (onE e L) b) LS b).2 = b ∨ ∃ L ∈ LS, (handed (fun _ => false) (fun b L => lessE (onE e L) b) LS b).2 = onE e L) := by
  intro LS
  induction LS with
  | nil => intro b; exact ⟨Int.le_refl _, by simp, .inl rfl⟩
  | cons L LS ih =>
    intro b
    obtain ⟨h1, h2, h3⟩ := ih (lessE (onE e L) b)
    have h4 := lessE_le (onE e L) b
    simp only [handed, Bool.false_eq_true, if_false]
    refine ⟨by omega, fun M hM => ?_, ?_⟩
    · rcases List.mem_cons.1 hM with rfl | hM
      · omega
      · exact h2 M hM
    · rcases h3 with h3 | ⟨M, hM, h3⟩
      · rcases lessE_or (onE e L) b with h5 | h5
        · exact .inr ⟨L, by simp, by rw [h3, h5]⟩
        · exact .inl (by rw [h3, h5])
      · exact .inr ⟨M, by simp [hM], h3⟩
theorem leastI_le {n q : Nat} (hn : n ≤ 5) (hq : q ≤ n) {e : Int} {L : List Int} (hL : L ∈ ordsL n q) : leastI n q e ≤ onE e L := (handed_min e _ _).2.1 L hL
section
variable {n q : Nat} (hn : n ≤ 5) (hq : q ≤ n)
include hn hq
theorem leastI_is {e : Int} (h0 : 0 ≤ e) (he : e < limN n) : ∃ L ∈ ordsL n q, leastI n q e = onE e L := by
  rcases (handed_min e (ordsL n q) e).2.2 with h | ⟨L, hL, h⟩
  · exact ⟨seqI n, ords_id hn hq, by rw [onE_id hn h0 he]; exact h⟩
  · exact ⟨L, hL, h⟩
theorem ords_lt {e : Int} {L : List Int} (hL : L ∈ ordsL n q) : 0 ≤ onE e L ∧ onE e L < limN n := by
  have := (ords_vl hn hq hL).2
  have h := onE_lt e (L := L) (by omega)
  rwa [this] at h
theorem leastI_on {e : Int} {L : List Int} (hL : L ∈ ordsL n q) (h0 : 0 ≤ e) (he : e < limN n) : leastI n q (onE e L) = leastI n q e := by
  apply Int.le_antisymm
  · obtain ⟨M, hM, h⟩ := leastI_is hn hq h0 he
    obtain ⟨K, hK, hi⟩ := ords_inv hn hq hL
    have h1 := leastI_le hn hq (e := onE e L) (ords_comp hn hq hK hM)
    rw [ords_on hn hq hL (ords_comp hn hq hK hM)] at h1
    have h2 : onE e (compL L (compL K M)) = onE e M := by
      rw [← ords_on hn hq hL (ords_comp hn hq hK hM), ← ords_on hn hq hK hM, ords_on hn hq hL hK, hi, onE_id hn h0 he]
    rw [h2, ← h] at h1
    exact h1
  · obtain ⟨hl0, hl⟩ := ords_lt hn hq (e := e) hL
    obtain ⟨M, hM, h⟩ := leastI_is hn hq hl0 hl
    rw [h, ords_on hn hq hL hM]
    exact leastI_le hn hq (ords_comp hn hq hL hM)
def alikeB (n q : Nat) (e f : Int) : Bool := (ordsL n q).any fun L => onE e L == f
theorem alike_least {e f : Int} (h0 : 0 ≤ e) (he : e < limN n) (h1 : 0 ≤ f) (hf : f < limN n) : alikeB n q e f = (leastI n q e == leastI n q f) := by
  rw [Bool.eq_iff_iff]
  simp only [alikeB, List.any_eq_true, beq_iff_eq]
  constructor
  · rintro ⟨L, hL, rfl⟩
    exact (leastI_on hn hq hL h0 he).symm
  · intro h
    obtain ⟨L, hL, hl⟩ := leastI_is hn hq h0 he
    obtain ⟨M, hM, hm⟩ := leastI_is hn hq h1 hf
    obtain ⟨K, hK, hi⟩ := ords_inv hn hq hM
    refine ⟨compL L K, ords_comp hn hq hL hK, ?_⟩
    rw [← ords_on hn hq hL hK, ← hl, h, hm, ords_on hn hq hM hK, hi, onE_id hn h1 hf]
end
end Go.Proofs.YtekchdgpaemofaaGreat
