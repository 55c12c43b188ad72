/- slices.Insert at terms. -/
import Derived.Test.YtpcjinbbgnmchaaGreatIa
import Derived.Deep.AppendLies
import Derived.Deep.RegionLaw
namespace Go.Proofs.YtpcjinbbgnmchaaGreat
open Go.ChangeShapes Go.WideShapes Go.RowKit
set_option linter.unusedVariables false
set_option linter.unusedSimpArgs false
attribute [local irreducible] Calls
/-- What a term put in leaves. -/
def InsR (B : Nat) (w : World) (v : Value) (L : List Trm) (e : Ending) (w' : World) : Prop := ∃ v', e = .returned v' ∧ TmA B w' v' L ∧ Below B w w' ∧ (∀ b, b < w.heap.size → v.ownBlock ≠ some b → w'.heap[b]? = w.heap[b]?) ∧ (∀ q, v'.ownBlock = some q → v.ownBlock = some q ∨ w.heap.size ≤ q)
theorem insT_len {k : Nat} {L : List Trm} {d : Trm} (hk : k ≤ L.length) : (insT k L d).length = L.length + 1 := by
  unfold insT
  rw [List.length_append, List.length_cons, List.length_take, List.length_drop]
  omega
theorem insT_mem {k : Nat} {L : List Trm} {d x : Trm} (h : x ∈ insT k L d) : x ∈ L ∨ x = d := by
  unfold insT at h
  rcases List.mem_append.1 h with h | h
  · exact .inl (List.mem_of_mem_take h)
  · rcases List.mem_cons.1 h with h | h
    · exact .inr h
    · exact .inl (List.mem_of_mem_drop h)
theorem flat5 (M : List Trm) : (M.flatMap encTerm).length = M.length * 5 := flatMap_len (n := 5) (fun d => rfl) M
theorem one5 (d : Trm) : [d].flatMap encTerm = encTerm d := by simp
/-- What stood from a place on goes one place up, then a term is put there. -/
theorem put_shift {cur : Array Value} {L : List Trm} {k : Nat} {d : Trm} (hk : k ≤ L.length) (hs : (L.length + 1) * 5 ≤ cur.size) (ht : ∀ q, q < k * 5 → cur[q]? = (L.flatMap encTerm)[q]?) :
    (setRun (setRun cur ((k + 1) * 5) ((L.drop k).flatMap encTerm)) (k * 5) ([d].flatMap encTerm)).toList.take ((L.length + 1) * 5) = (insT k L d).flatMap encTerm := by
  have hd : ((L.drop k).flatMap encTerm).length = (L.length - k) * 5 := by rw [flat5, List.length_drop]
  have h5 : (encTerm d).length = 5 := rfl
  rw [one5]
  refine take_ins hk (fun q hq => ?_) (fun q hq => ?_) (fun q hq => ?_)
  · rw [setRun_at _ _ _ _ (by rw [setRun_size, h5]; omega), if_neg (by omega), setRun_at _ _ _ _ (by rw [hd]; omega), if_neg (by omega)]
    exact ht q hq
  · rw [setRun_at _ _ _ _ (by rw [setRun_size, h5]; omega), if_pos (by rw [h5]; omega), show k * 5 + q - k * 5 = q by omega]
  · rw [setRun_at _ _ _ _ (by rw [setRun_size, h5]; omega), if_neg (by rw [h5]; omega), setRun_at _ _ _ _ (by rw [hd]; omega), if_pos (by rw [hd]; omega), show (k + 1) * 5 + q - (k + 1) * 5 = q by omega]
theorem put_grow {cur : Array Value} {L : List Trm} {k : Nat} {d : Trm} (hk : k ≤ L.length) (hs : (L.length + 1) * 5 ≤ cur.size) (ht : ∀ q, q < k * 5 → cur[q]? = (L.flatMap encTerm)[q]?) :
    (setRun (setRun cur (k * 5) ([d].flatMap encTerm)) ((k + 1) * 5) ((L.drop k).flatMap encTerm)).toList.take ((L.length + 1) * 5) = (insT k L d).flatMap encTerm := by
  have hd : ((L.drop k).flatMap encTerm).length = (L.length - k) * 5 := by rw [flat5, List.length_drop]
  have h5 : (encTerm d).length = 5 := rfl
  rw [one5]
  refine take_ins hk (fun q hq => ?_) (fun q hq => ?_) (fun q hq => ?_)
  · rw [setRun_at _ _ _ _ (by rw [setRun_size, hd]; omega), if_neg (by omega), setRun_at _ _ _ _ (by rw [h5]; omega), if_neg (by omega)]
    exact ht q hq
  · rw [setRun_at _ _ _ _ (by rw [setRun_size, hd]; omega), if_neg (by omega), setRun_at _ _ _ _ (by rw [h5]; omega), if_pos (by rw [h5]; omega), show k * 5 + q - k * 5 = q by omega]
  · rw [setRun_at _ _ _ _ (by rw [setRun_size, hd]; omega), if_pos (by rw [hd]; omega), show (k + 1) * 5 + q - (k + 1) * 5 = q by omega]
theorem run_append_room (w : World) {v : Value} (base : Option Addr) (sLen sCap : Nat) (olds : List Value) (ho : olds.length = sLen * 5) (hold : (base = none → olds = []) ∧ ∀ a, base = some a → ∀ j v, olds[j]? = some v → w.cell? (a.add j) = some v) (k : Nat) (h0 : 0 < k) (hg : sCap < sLen + k) (hb : sLen + k ≤ 1048600) (ty : TypeId) :
    ∃ (gc : Nat) (cur : Array Value), sLen + k ≤ gc ∧ gc ≤ maxLen ∧ cur.size = gc * 5 ∧ (∀ q, q < sLen * 5 → cur[q]? = olds[q]?) ∧ (Builtin.append_ #[32, 3] ty #[.slice base sLen sCap, .int .i64 k]).run Tryz.prog w = .ok (.slice (some ⟨w.heap.size, 0, none⟩) (sLen + k) gc) (w.drew.alloc (.cells cur 84)) := by
  obtain ⟨i1, zv1, hi1, hz1, hs1, hb1, hl1⟩ := infoB_spec (P := Tryz.prog) (e := 84) (sz := 5) (bytes := 40) (by kernel_rfl)
  have hf : (Builtin.firstCells i1.size sLen (.slice base sLen sCap)).run Tryz.prog w.drew = .ok olds.toArray w.drew := by
    cases base with
    | none => simp [Builtin.firstCells, hold.1 rfl]
    | some a =>
      have := run_loadCells_list (P := Tryz.prog) w.drew a olds (hold.2 a rfl)
      rw [ho] at this
      simp [Builtin.firstCells, hs1, this]
  have hn := nextslicecap_le (need := sLen + k) (old := sCap) hg
  have hr := Lib.run_append_grow_zeros (P := Tryz.prog) w 32 3 ty 84 i1 zv1 .i64 .i64 Tryz.underlying32 Tryz.underlying3 hi1 hz1 base sLen sCap olds hf k h0 (by omega) hg (by omega) (by rw [hb1]; omega) (by rw [hb1]; omega)
  have hge := grownCap_ge w (sLen + k) sCap 84
  have hz : ∀ n, (Builtin.zeroCells zv1.cells n).size = n * 5 := fun n => by simp [Builtin.zeroCells, hl1]
  refine ⟨_, _, hge, grownCap_le_maxLen w _ _ _ (by unfold maxLen; omega), ?_, fun q hq => ?_, hr⟩
  · rw [Array.size_append, Array.size_append, hz, hz]
    simp [ho]
    omega
  · rw [Array.append_assoc, Array.getElem?_append_left (by simp; omega)]
    simp
set_option maxHeartbeats 4000000 in
set_option maxRecDepth 100000 in
theorem insTerm_any (w : World) (B ub : Nat) (L : List Trm) (k : Nat) (d : Trm) (v : Value) (hA : TmA B w v L) (hu : w.heap[ub]? = some (.cells (encTerm d).toArray 84 (0, 0))) (hB : B ≤ w.heap.size) (hd : okTerm d) (hub : v.ownBlock ≠ some ub) (hk : k ≤ L.length) (hl : L.length ≤ 1048576) :
    Calls Tryz.prog 131 #[v, .int .i64 k, .slice (some ⟨ub, 0, none⟩) 1 1] w (InsR B w v (insT k L d)) := by
  have hU : Lst shTerm w [d] (.slice (some ⟨ub, 0, none⟩) ([d] : List Trm).length 1) := (TmA.one hu (Nat.zero_le _) hd).lst
  obtain ⟨A, cap, _, rfl, _⟩ := hA.own
  have HA := Lib.hid hA
  have HU := Lib.hid hU
  have HD := Lib.hid hd
  obtain ⟨N, hN⟩ : ∃ N : Nat, Hid (L.length = N) := ⟨_, Lib.hid rfl⟩
  have hcN : N ≤ cap ∧ cap ≤ maxLen := by
    obtain ⟨A', cap', he, h1, h2⟩ := formTerm hA.lst
    injection he with _ e2 e3
    subst e3
    rw [← hN.out]
    exact ⟨h1, h2⟩
  have hmx : cap ≤ 9223372036854775807 := hcN.2
  have hcN := hcN.1
  rw [hN.out] at hA hk hl hub ⊢
  rcases Nat.lt_or_eq_of_le hk with hkN | rfl
  rotate_left
  · clear hA hu hU
    have hfin : ∀ (v3 : Value) (w3 : World), TmA B w3 v3 (L ++ [d]) → Below B w w3 → w.grownBy w3 (Value.slice A k cap).ownBlock → (∀ q, v3.ownBlock = some q → (Value.slice A k cap).ownBlock = some q ∨ q = w.heap.size) → InsR B w (.slice A k cap) (insT k L d) (.returned v3) w3 := fun v3 w3 h1 h2 h3 h4 => by
      refine ⟨v3, rfl, ?_, h2, fun b g1 g2 => h3.block _ g1 g2.symm, fun q h => (h4 q h).imp_right fun h => by omega⟩
      rw [show insT k L d = L ++ [d] from by unfold insT; rw [List.take_of_length_le (by rw [hN.out]; omega), List.drop_eq_nil_of_le (by rw [hN.out]; omega)]]
      exact h1
    have HF := Lib.hid hfin
    clear hfin
    have HAA : Hid (TmA B w (.slice A k cap) L) := Lib.hid (by have := HA.out; rw [hN.out] at this; exact this)
    by_cases hck : cap = k
    · subst hck
      go_enter Tryz.func131, Tryz.ntmps131
      go_wp2_with (at_builtin; refine wpList_append_terms _ (B := B) (M := [d]) HAA.out HU.out (by rw [hN.out]; simp; omega) hB rfl (.tmp 23) (.tmp 24) rfl rfl rfl ?_; intro v3 w3 hA3 hb3 hg3 hq3; have HF3 := Lib.hid (HF.out v3 w3 hA3 hb3 hg3 hq3); clear hA3 hb3 hg3 hq3)
      exact bodyPost_ret (v := v3) (by simp [results, Tryz.results131, go_sem]) rfl HF3.out
    · go_enter Tryz.func131, Tryz.ntmps131
      go_wp2_with (at_builtin; refine wpList_append_terms _ (B := B) (M := [d]) HAA.out HU.out (by rw [hN.out]; simp; omega) hB rfl (.tmp 23) (.tmp 24) rfl rfl rfl ?_; intro v3 w3 hA3 hb3 hg3 hq3; have HF3 := Lib.hid (HF.out v3 w3 hA3 hb3 hg3 hq3); clear hA3 hb3 hg3 hq3)
      exact bodyPost_ret (v := v3) (by simp [results, Tryz.results131, go_sem]) rfl HF3.out
  obtain ⟨⟨_, h2⟩, hoks⟩ := hA
  rcases h2 with ⟨h2, _⟩ | ⟨g, cap', cur, hv, hgB, hg, hc, hm, hcs, ht⟩
  · injection h2 with _ h2
    omega
  injection hv with e1 e2 e3
  subst e1; subst e3
  clear e2
  rw [hN.out] at hc
  rw [hN.out] at ht
  have hgu : ub ≠ g := fun e => hub (by rw [e]; rfl)
  have ylg := blklt hg
  have ylu := blklt hu
  have HDR : Hid (Lst shTerm w (L.drop k) (.slice (some ⟨g, k * 5, none⟩) (N - k : Nat) (cap - k))) := Lib.hid (by
    have h := lst_dropS HA.out.lst rfl (Nat.le_of_lt (by rw [hN.out]; exact hkN))
    rw [Nat.zero_add, hN.out] at h
    exact h)
  have hdl : Hid ((L.drop k).length = N - k) := Lib.hid (by rw [List.length_drop, hN.out])
  have HTK : Hid (Lst shTerm w (L.take k) (.slice (some ⟨g, 0, none⟩) k cap)) := Lib.hid (lst_takeS HA.out.lst rfl (Nat.le_of_lt (by rw [hN.out]; exact hkN)))
  have htl : Hid ((L.take k).length = k) := Lib.hid (by rw [List.length_take, hN.out]; omega)
  have hil : (insT k L d).length = N + 1 := by rw [insT_len (by rw [hN.out]; exact hk), hN.out]
  have hoki : ∀ x ∈ insT k L d, okTerm x := fun x hx => by
    rcases insT_mem hx with h | rfl
    · exact hoks x h
    · exact hd
  have hq0 : ∀ q, q < k * 5 → cur[q]? = (L.flatMap encTerm)[q]? := fun q hq => by
    have : k * 5 ≤ N * 5 := Nat.mul_le_mul_right _ hk
    rw [← ht, List.getElem?_take, if_pos (by omega), Array.getElem?_toList]
  by_cases hroom : N + 1 ≤ cap
  · have hov : ∀ lb cb, (callFunc 188 #[.slice (some ⟨ub, 0, none⟩) 1 1, .slice (some ⟨g, (k + 1) * 5, none⟩) lb cb]).run Tryz.prog w = .ok (.value (.bool false)) w := fun lb cb => by
      rw [run_callFunc_extern Tryz.func188 (by kernel_rfl) (by kernel_rfl) (by kernel_rfl) (e := Extern.SlicesOverlaps.overlaps #[32, 32] #[4]) (by kernel_rfl),
        Lib.run_overlaps_apart w 32 4 84 Tryz.underlying32 5 Tryz.sizeOf84 ⟨ub, 0, none⟩ ⟨g, (k + 1) * 5, none⟩ 1 1 lb cb hgu _ _ _ _ (by simp [World.shape?, hu]; exact ⟨rfl, rfl⟩) (by simp [World.shape?, hg]; exact ⟨rfl, rfl⟩) (by rw [hcs]; omega) (by simp [World.frozen?, hu]) (by simp [World.frozen?, hu])]
      rfl
    have hck : ¬ cap = k := by omega
    have hw1 : IntKind.i64.wrap ((k : Int) + 1) = (k : Int) + 1 := by rw [IntKind.wrap_i64]; omega
    have hb1 : (0 : Int) ≤ (k : Int) + 1 := by omega
    have htn : ((k : Int) + 1).toNat = k + 1 := by omega
    have hb2 : ¬ cap = k + 1 := by omega
    have hb3 : (k : Int) + 1 ≤ (N : Int) + 1 := by omega
    have hb4 : (k : Int) ≤ (N : Int) + 1 := by omega
    obtain ⟨W1, hW1⟩ : ∃ W1, W1 = w.drew.setCells g ((k + 1) * 5) ((L.drop k).flatMap encTerm) := ⟨_, rfl⟩
    have hcp1 : ∀ ty dc sc, (Builtin.copy_ #[32, 32] ty #[.slice (some ⟨g, (k + 1) * 5, none⟩) (N - k) dc, .slice (some ⟨g, k * 5, none⟩) (N + 1 - k) sc]).run Tryz.prog w.drew = .ok (goInt (L.drop k).length) W1 := fun ty dc sc => by
      rw [hW1]
      exact run_copy_terms w.drew (by rw [hdl.out]; exact HDR.out) (by rw [hdl.out]; omega) (by rw [hdl.out]; simp only [Nat.min_def]; split <;> omega) (t := 84) (cur := cur) hg (by rw [hdl.out, hcs]; omega) ty
    have hg1 : W1.heap[g]? = some (.cells (setRun cur ((k + 1) * 5) ((L.drop k).flatMap encTerm)) 84 (0, 0)) := by rw [hW1]; exact setCells_blk g _ _ w.drew cur _ hg
    have hoth1 : ∀ q, q ≠ g → W1.heap[q]? = w.heap[q]? := fun q hq => by rw [hW1]; exact setCells_other hq _ _ _
    have hbel1 : Below B w W1 := by rw [hW1]; exact bsetCells hgB _ _ (bdrew1 (Below.refl B w))
    have hsz1 : W1.heap.size = w.heap.size := by rw [hW1]; exact setCells_sz _ _ _
    obtain ⟨W2, hW2⟩ : ∃ W2, W2 = W1.setCells g (k * 5) ([d].flatMap encTerm) := ⟨_, rfl⟩
    have hcp2 : ∀ ty dc, (Builtin.copy_ #[32, 32] ty #[.slice (some ⟨g, k * 5, none⟩) (N + 1 - k) dc, .slice (some ⟨ub, 0, none⟩) 1 1]).run Tryz.prog W1 = .ok (goInt ([d] : List Trm).length) W2 := fun ty dc => by
      rw [hW2]
      have hu1 : W1.heap[ub]? = some (.cells (encTerm d).toArray 84 (0, 0)) := (hoth1 ub hgu).trans hu
      exact run_copy_terms W1 (M := [d]) ((TmA.one hu1 (Nat.zero_le _) hd).lst) (by simp) (by simp [Nat.min_def]; omega) hg1 (by rw [setRun_size, hcs]; simp; omega) ty
    have hfin : InsR B w (.slice (some ⟨g, 0, none⟩) N cap) (insT k L d) (.returned (.slice (some ⟨g, 0, none⟩) (N + 1) cap)) W2 := by
      refine ⟨_, rfl, ⟨⟨flat5 _, .inr ⟨g, cap, setRun (setRun cur ((k + 1) * 5) ((L.drop k).flatMap encTerm)) (k * 5) ([d].flatMap encTerm), ?_, hgB, ?_, ?_, hm, ?_, ?_⟩⟩, ?_⟩, ?_, ?_, ?_⟩
      · rw [hil]
      · rw [hW2]; exact setCells_blk g _ _ W1 _ _ hg1
      · rw [hil]; omega
      · rw [setRun_size, setRun_size]; exact hcs
      · rw [hil, ← hN.out]
        exact put_shift (by rw [hN.out]; exact hk) (by rw [hN.out, hcs]; omega) hq0
      · exact hoki
      · rw [hW2]; exact bsetCells hgB _ _ hbel1
      · intro b _ hb
        have hne : b ≠ g := fun e => hb (by rw [e]; rfl)
        rw [hW2]
        exact (setCells_other hne _ _ _).trans (hoth1 b hne)
      · intro q hq
        exact .inl hq
    have HF := Lib.hid hfin
    have HC1 := Lib.hid hcp1
    have HC2 := Lib.hid hcp2
    clear hfin hcp1 hcp2 hg1 hoth1 hbel1 hsz1 hW1 hW2
    go_enter Tryz.func131, Tryz.ntmps131
    go_wp2_with (simp only [hov])
    have hcp1 := HC1.out
    go_region_law (fail)
    clear hcp1
    have hcp2 := HC2.out
    go_wp2_with fail
    exact bodyPost_ret (v := .slice (some ⟨g, 0, none⟩) (N + 1) cap) (by simp [results, Tryz.results131, go_sem]) rfl HF.out
  · obtain ⟨r, hr1, hr2, hr3⟩ : ∃ r : Nat, (N : Int) + 1 - (k : Int) = (r : Int) ∧ k + r = N + 1 ∧ 0 < r := ⟨N + 1 - k, by omega, by omega, by omega⟩
    obtain ⟨gc, cu0, hgc1, hgc2, hcu, hcq, happ⟩ := run_append_room (v := .slice none 0 0) w (some ⟨g, 0, none⟩) k cap ((L.take k).flatMap encTerm) (by rw [flat5, htl.out]) ⟨fun h => (by cases h), fun a ha j v hj => by
      injection ha with ha
      subst ha
      have hj2 : j < k * 5 := by have := (List.getElem?_eq_some_iff.1 hj).1; rw [flat5, htl.out] at this; exact this
      have h1 := hq0 j hj2
      have h2 : (L.flatMap encTerm)[j]? = some v := by
        rw [← List.take_append_drop k L, List.flatMap_append, List.getElem?_append_left (by rw [flat5, htl.out]; exact hj2)]
        exact hj
      rw [h2] at h1
      have hadd : (⟨g, 0, none⟩ : Addr).add j = ⟨g, j, none⟩ := by unfold Addr.add; split <;> simp_all
      rw [hadd]
      simp [World.cell?, hg, h1]⟩ r hr3 (by omega) (by omega) 32
    rw [hr2] at happ hgc1
    have hcq2 : ∀ q, q < k * 5 → cu0[q]? = (L.flatMap encTerm)[q]? := fun q hq => by
      rw [hcq q hq, ← hq0 q hq, hq0 q hq]
      conv => rhs; rw [← List.take_append_drop k L, List.flatMap_append, List.getElem?_append_left (by rw [flat5, htl.out]; exact hq)]
    obtain ⟨W0, hW0⟩ : ∃ W0, W0 = w.drew.alloc (.cells cu0 84) := ⟨_, rfl⟩
    obtain ⟨G, hG⟩ : ∃ G, G = w.heap.size := ⟨_, rfl⟩
    rw [← hW0, ← hG] at happ
    have hg0 : W0.heap[G]? = some (.cells cu0 84 (0, 0)) := by rw [hW0, hG]; exact blknew w.drew _
    have hoth0 : ∀ q, q < w.heap.size → W0.heap[q]? = w.heap[q]? := fun q hq => by
      rw [hW0]
      exact (Below.alloc (bdrew1 (Below.refl w.heap.size w)) (Nat.le_refl _) _).block q hq
    have hbel0 : Below w.heap.size w W0 := by rw [hW0]; exact bal (bdrew1 (Below.refl _ w)) _
    have hBG : B ≤ G := by omega
    obtain ⟨W1, hW1⟩ : ∃ W1, W1 = W0.setCells G (k * 5) ([d].flatMap encTerm) := ⟨_, rfl⟩
    have hcp1 : ∀ ty dc, (Builtin.copy_ #[32, 32] ty #[.slice (some ⟨G, k * 5, none⟩) (N + 1 - k) dc, .slice (some ⟨ub, 0, none⟩) 1 1]).run Tryz.prog W0 = .ok (goInt ([d] : List Trm).length) W1 := fun ty dc => by
      rw [hW1]
      have hu1 : W0.heap[ub]? = some (.cells (encTerm d).toArray 84 (0, 0)) := (hoth0 ub ylu).trans hu
      exact run_copy_terms W0 (M := [d]) ((TmA.one hu1 (Nat.zero_le _) hd).lst) (by simp) (by simp [Nat.min_def]; omega) hg0 (by rw [hcu]; simp; omega) ty
    have hg1 : W1.heap[G]? = some (.cells (setRun cu0 (k * 5) ([d].flatMap encTerm)) 84 (0, 0)) := by rw [hW1]; exact setCells_blk G _ _ W0 cu0 _ hg0
    have hoth1 : ∀ q, q < w.heap.size → W1.heap[q]? = w.heap[q]? := fun q hq => by rw [hW1]; exact (setCells_other (by omega) _ _ _).trans (hoth0 q hq)
    have hbel1 : Below w.heap.size w W1 := by rw [hW1]; exact bsetCells (by omega) _ _ hbel0
    obtain ⟨W2, hW2⟩ : ∃ W2, W2 = W1.drew.setCells G ((k + 1) * 5) ((L.drop k).flatMap encTerm) := ⟨_, rfl⟩
    have hcp2 : ∀ ty dc sc, (Builtin.copy_ #[32, 32] ty #[.slice (some ⟨G, (k + 1) * 5, none⟩) (N - k) dc, .slice (some ⟨g, k * 5, none⟩) (N - k) sc]).run Tryz.prog W1.drew = .ok (goInt (L.drop k).length) W2 := fun ty dc sc => by
      rw [hW2]
      exact run_copy_terms W1.drew (by rw [hdl.out]; exact (HDR.out.below (hbel1.mono (Nat.le_refl _))).below (bdrew1 (Below.refl _ _))) (by rw [hdl.out]; omega) (by rw [hdl.out]; simp only [Nat.min_def]; split <;> omega) (t := 84) hg1 (by rw [hdl.out, setRun_size, hcu]; omega) ty
    have hfin : InsR B w (.slice (some ⟨g, 0, none⟩) N cap) (insT k L d) (.returned (.slice (some ⟨G, 0, none⟩) (N + 1) gc)) W2 := by
      refine ⟨_, rfl, ⟨⟨flat5 _, .inr ⟨G, gc, setRun (setRun cu0 (k * 5) ([d].flatMap encTerm)) ((k + 1) * 5) ((L.drop k).flatMap encTerm), ?_, hBG, ?_, ?_, hgc2, ?_, ?_⟩⟩, ?_⟩, ?_, ?_, ?_⟩
      · rw [hil]
      · rw [hW2]; exact setCells_blk G _ _ W1.drew _ _ hg1
      · rw [hil]; exact hgc1
      · rw [setRun_size, setRun_size]; exact hcu
      · rw [hil, ← hN.out]
        exact put_grow (by rw [hN.out]; exact hk) (by rw [hN.out, hcu]; omega) hcq2
      · exact hoki
      · rw [hW2]; exact bsetCells hBG _ _ (bdrew1 (hbel1.mono hB))
      · intro b hb _
        rw [hW2]
        exact (setCells_other (by omega) _ _ _).trans (hoth1 b hb)
      · intro q hq
        have hq : some G = some q := hq
        injection hq with hq
        exact .inr (by omega)
    have hck : ¬ cap = k := by omega
    have hck2 : ¬ gc = k := by omega
    have hck3 : ¬ gc = k + 1 := by omega
    have hw1 : IntKind.i64.wrap ((k : Int) + 1) = (k : Int) + 1 := by rw [IntKind.wrap_i64]; omega
    have hw2 : IntKind.i64.wrap ((r : Int)) = (r : Int) := by rw [IntKind.wrap_i64]; omega
    have hb1 : (0 : Int) ≤ (k : Int) + 1 := by omega
    have htn : ((k : Int) + 1).toNat = k + 1 := by omega
    have hb3 : (k : Int) + 1 ≤ (N : Int) + 1 := by omega
    have hb4 : (k : Int) ≤ (N : Int) + 1 := by omega
    have hb5 : (k : Int) ≤ (N : Int) := by omega
    have hr9 : ¬ (N : Int) + 1 ≤ (cap : Int) := by omega
    have hsub : N + 1 - (k + 1) = N - k := by omega
    have HF := Lib.hid hfin
    have HAP := Lib.hid happ
    have HC1 := Lib.hid hcp1
    have HC2 := Lib.hid hcp2
    clear hfin happ hcp1 hcp2 hg1 hoth1 hbel1 hW1 hW2 hW0 hoth0 hbel0 hg0 hcq hcq2 hq0 hoki hil hG hBG
    go_enter Tryz.func131, Tryz.ntmps131
    have hcp1 := HC1.out
    have hcp2 := HC2.out
    go_wp2_with (at_builtin; refine wpList_app_t _ rfl _ _ 32 3 rfl _ _ rfl rfl HAP.out ?_)
    go_region_law (fail)
    go_wp2_with fail
    exact bodyPost_ret (v := .slice (some ⟨G, 0, none⟩) (N + 1) gc) (by simp [results, Tryz.results131, go_sem]) rfl HF.out
end Go.Proofs.YtpcjinbbgnmchaaGreat
