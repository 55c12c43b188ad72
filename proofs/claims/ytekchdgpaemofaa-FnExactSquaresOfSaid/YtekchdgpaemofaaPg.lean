/- spec.l02Pivot: all steps. -/
import Derived.Test.YtekchdgpaemofaaPe
namespace Go.Proofs.Ytekchdgpaemofaa
open Go.ChangeShapes Go.WideShapes Go.ChangeAt Go.RowKit
set_option linter.unusedVariables false
set_option linter.unusedSimpArgs false
attribute [local irreducible] Calls
/-- What is there while a row is added, beside the steps in block b. -/
def SpI (B b b6 : Nat) (W0 : World) (d : Int × Int) (vP0 vR0 vS : Value) (Ps : List (Int × Int)) (Rs : List (List (Int × Int))) (vP vR : Value) (FR : List Nat) (xs : List (Int × Int)) (u : Value) (Fd : List Nat) (V : World) : Prop :=
  V.heap[b]? = some (.cells #[vP, vR, vS, .int .i64 0, .int .i64 0] 77 (0, 0)) ∧ V.heap[b6]? = some (.cells #[.int .i64 d.1, .int .i64 d.2] 79 (0, 0)) ∧ PRs B b V Ps Rs vP vR FR ∧ Own shFr W0.heap.size V xs u Fd ∧ Moves b vP0 vR0 W0 V ∧ Below B W0 V ∧
  (∀ q, vP.ownBlock = some q → (vP0.ownBlock = some q ∨ W0.heap.size ≤ q) ∧ q ≠ b6 ∧ q ∉ Fd) ∧ (∀ q, vR.ownBlock = some q → (vR0.ownBlock = some q ∨ W0.heap.size ≤ q) ∧ q ≠ b6 ∧ q ∉ Fd) ∧ (b < W0.heap.size ∧ W0.heap.size ≤ b6 ∧ B ≤ b)
section
variable {B b b6 : Nat} {W0 : World} {d : Int × Int} {vP0 vR0 vS : Value} {Ps : List (Int × Int)} {Rs : List (List (Int × Int))} {vP vR : Value} {FR : List Nat} {xs : List (Int × Int)} {u : Value} {Fd : List Nat} {V : World}
theorem SpI.below (h : SpI B b b6 W0 d vP0 vR0 vS Ps Rs vP vR FR xs u Fd V) {V' : World} (hb : Below V.heap.size V V') : SpI B b b6 W0 d vP0 vR0 vS Ps Rs vP vR FR xs u Fd V' := by
  obtain ⟨h1, h2, h3, h4, h5, h6, h7, h8, h9⟩ := h
  exact ⟨bblk hb (blklt h1) h1, bblk hb (blklt h2) h2, h3.below hb, h4.below (Nat.le_refl _) hb, h5.trans (Moves.below (b := b) (vP := vP0) (vR := vR0) hb) (fun _ e => .inl e) (fun _ e => .inl e), h6.trans (hb.mono (by have := h6.size; omega)), h7, h8, h9⟩
/-- Behind the growth of the pivots or the rows, and the store. -/
theorem SpI.grown (h : SpI B b b6 W0 d vP0 vR0 vS Ps Rs vP vR FR xs u Fd V) {V' : World} {v v0 : Value} (hg : V.grownBy V' v.ownBlock) (hv : ∀ q, v.ownBlock = some q → (v0.ownBlock = some q ∨ W0.heap.size ≤ q) ∧ q ≠ b6 ∧ q ∉ Fd) (hv0 : v0 = vP0 ∨ v0 = vR0) (hb : ∀ q, v.ownBlock = some q → q ≠ b ∧ B ≤ q) (i : Nat) (x : Value) :
    V'.heap[b]? = some (.cells #[vP, vR, vS, .int .i64 0, .int .i64 0] 77 (0, 0)) ∧ (V'.setCell ⟨b, i, none⟩ x).heap[b6]? = some (.cells #[.int .i64 d.1, .int .i64 d.2] 79 (0, 0)) ∧ Own shFr W0.heap.size (V'.setCell ⟨b, i, none⟩ x) xs u Fd ∧ Moves b vP0 vR0 W0 (V'.setCell ⟨b, i, none⟩ x) ∧ Below B W0 (V'.setCell ⟨b, i, none⟩ x) := by
  obtain ⟨h1, h2, h3, h4, h5, h6, h7, h8, h9⟩ := h
  have kb : ∀ {q : Nat} {x : Obj}, v.ownBlock ≠ some q → V.heap[q]? = some x → V'.heap[q]? = some x := fun hq hx => (hg.block _ (blklt hx) (fun e => hq e.symm)).trans hx
  refine ⟨kb (fun e => (hb _ e).1 rfl) h1, blkset (kb (fun e => (hv _ e).2.1 rfl) h2) (by show b6 ≠ b; omega) _, ?_, ?_, ?_⟩
  · refine ⟨(shL shFr).ownKeep _ _ _ _ _ (fun c hc => ?_) h4.1, h4.2⟩
    rw [Below.heap_setCell _ _ _ c (by have := h4.ge c hc; show c ≠ b; omega)]
    exact hg.block c (h4.lt c hc) (fun e => (hv c e.symm).2.2 hc)
  · refine ⟨⟨hg.os.trans h5.1.1, hg.tape.trans h5.1.2.1, hg.output.trans h5.1.2.2⟩, by rw [setCell_size]; exact Nat.le_trans h5.2.1 hg.size, fun c hc hcb hcP hcR => ?_⟩
    rw [Below.heap_setCell _ _ _ c (by exact hcb), hg.block c (by have := h5.2.1; omega) (fun e => ?_)]
    · exact h5.2.2 c hc hcb hcP hcR
    · rcases (hv c e.symm).1 with h | h
      · rcases hv0 with rfl | rfl
        · exact hcP h
        · exact hcR h
      · omega
  · refine Below.setCell ⟨hg.os.trans h6.os, hg.tape.trans h6.tape, hg.output.trans h6.output, Nat.le_trans h6.size hg.size, fun c hc => ?_⟩ h9.2.2 _
    rw [hg.block c (by have := h6.size; have := h9.1; have := h9.2.2; omega) (fun e => by have := (hb c e.symm).2; omega)]
    exact h6.block c hc
theorem SpI.p (h : SpI B b b6 W0 d vP0 vR0 vS Ps Rs vP vR FR xs u Fd V) {V' : World} {g cap n1 : Nat} {x : Int × Int} {LP : List Value} (hA : AppW shFr B 79 V' (.slice (some ⟨g, 0, none⟩) n1 cap) (Ps ++ [x]) LP []) (hg : V.grownBy V' vP.ownBlock) (ha : vP.ownBlock = some g ∨ g = V.heap.size) :
    SpI B b b6 W0 d vP0 vR0 vS (Ps ++ [x]) Rs (.slice (some ⟨g, 0, none⟩) n1 cap) vR FR xs u Fd (V'.setCell ⟨b, 0, none⟩ (.slice (some ⟨g, 0, none⟩) n1 cap)) ∧ V'.frozen? ⟨b, 0, none⟩ = false ∧ b < V'.heap.size ∧ V'.cell? ⟨b, 0, none⟩ = some vP := by
  have h0 := h
  obtain ⟨h1, h2, h3, h4, h5, h6, h7, h8, h9⟩ := h
  have hlt := h3.lt
  obtain ⟨⟨LP0, p1⟩, ⟨LR, p2⟩, p3, p4, p5⟩ := h3
  obtain ⟨g1, g2, g3, g4, g5⟩ := h0.grown hg h7 (.inl rfl) (fun q hq => ⟨(p3 q hq).1, (hlt.1 q hq).1⟩) 0 (.slice (some ⟨g, 0, none⟩) n1 cap)
  have hgb : ∀ q, (Value.slice (some ⟨g, 0, none⟩) n1 cap).ownBlock = some q → g = q := fun q hq => by simpa [Value.ownBlock] using hq
  have hgne : g ≠ b := by
    rcases ha with ha | ha
    · exact (p3 g ha).1
    · have := blklt h1; omega
  refine ⟨⟨blkset0 g1 0 _, g2, ⟨⟨LP, hA.keepF fun q hq => ?_⟩, ⟨LR, p2.keepF fun q hq => ?_⟩, fun q hq => ?_, p4, p5⟩, g3, g4, g5, fun q hq => ?_, h8, h9⟩, (blk5p g1).2.1, blklt g1, (blk5p g1).1.1⟩
  · refine Below.heap_setCell _ _ _ q ?_
    rcases hq with hq | hq
    · have := hgb q hq; show q ≠ b; omega
    · cases hq
  · rw [Below.heap_setCell _ _ _ q (by rcases hq with hq | hq
                                       · exact p4 q hq
                                       · rintro rfl; exact p5 hq)]
    refine hg.block q (p2.lt q hq).2 (fun e => ?_)
    rcases hq with hq | hq
    · exact (p3 q e.symm).2.2 hq
    · exact (p3 q e.symm).2.1 hq
  · have := hgb q hq
    subst this
    refine ⟨hgne, fun hm => ?_, fun e => ?_⟩
    · rcases ha with ha | ha
      · exact (p3 g ha).2.1 hm
      · have := (hlt.2.2 g hm).2; omega
    · rcases ha with ha | ha
      · exact (p3 g ha).2.2 e
      · have := (hlt.2.1 g e).2; omega
  · have := hgb q hq
    subst this
    rcases ha with ha | ha
    · exact h7 g ha
    · exact ⟨.inr (by have := h5.2.1; omega), by have := blklt h2; omega, fun hm => by have := h4.lt g hm; omega⟩
theorem SpI.r (h : SpI B b b6 W0 d vP0 vR0 vS Ps Rs vP vR FR xs u Fd V) {V' : World} {g cap n1 : Nat} {LR : List Value} (hA : AppW (shL shFr) B 32 V' (.slice (some ⟨g, 0, none⟩) n1 cap) (Rs ++ [xs]) LR (FR ++ Fd)) (hg : V.grownBy V' vR.ownBlock) (ha : vR.ownBlock = some g ∨ g = V.heap.size) :
    SpI B b b6 W0 d vP0 vR0 vS Ps (Rs ++ [xs]) vP (.slice (some ⟨g, 0, none⟩) n1 cap) (FR ++ Fd) xs u Fd (V'.setCell ⟨b, 1, none⟩ (.slice (some ⟨g, 0, none⟩) n1 cap)) ∧ V'.frozen? ⟨b, 1, none⟩ = false ∧ b < V'.heap.size ∧ V'.cell? ⟨b, 1, none⟩ = some vR := by
  have h0 := h
  obtain ⟨h1, h2, h3, h4, h5, h6, h7, h8, h9⟩ := h
  have hlt := h3.lt
  obtain ⟨⟨LP0, p1⟩, ⟨LR0, p2⟩, p3, p4, p5⟩ := h3
  obtain ⟨g1, g2, g3, g4, g5⟩ := h0.grown hg h8 (.inr rfl) (fun q hq => ⟨p4 q hq, (hlt.2.1 q hq).1⟩) 1 (.slice (some ⟨g, 0, none⟩) n1 cap)
  have hgb : ∀ q, (Value.slice (some ⟨g, 0, none⟩) n1 cap).ownBlock = some q → g = q := fun q hq => by simpa [Value.ownBlock] using hq
  have hgne : g ≠ b := by
    rcases ha with ha | ha
    · exact p4 g ha
    · have := blklt h1; omega
  have hbF : b ∉ FR ++ Fd := fun hm => by
    rcases List.mem_append.1 hm with hm | hm
    · exact p5 hm
    · have := h4.ge b hm; omega
  refine ⟨⟨blkset0 g1 1 _, g2, ⟨⟨LP0, p1.keepF fun q hq => ?_⟩, ⟨LR, hA.keepF fun q hq => ?_⟩, fun q hq => ?_, fun q hq => ?_, hbF⟩, g3, g4, g5, h7, fun q hq => ?_, h9⟩, (blk5p g1).2.2.1, blklt g1, (blk5p g1).1.2.1⟩
  · rcases hq with hq | hq
    · rw [Below.heap_setCell _ _ _ q (by exact (p3 q hq).1)]
      exact hg.block q (p1.lt q (.inl hq)).2 (fun e => (p3 q hq).2.2 e.symm)
    · cases hq
  · refine Below.heap_setCell _ _ _ q ?_
    rcases hq with hq | hq
    · have := hgb q hq; show q ≠ b; omega
    · rintro rfl; exact hbF hq
  · refine ⟨(p3 q hq).1, fun hm => ?_, fun e => ?_⟩
    · rcases List.mem_append.1 hm with hm | hm
      · exact (p3 q hq).2.1 hm
      · exact (h7 q hq).2.2 hm
    · have := hgb q e
      subst this
      rcases ha with ha | ha
      · exact (p3 g hq).2.2 ha
      · have := (hlt.1 g hq).2; omega
  · have := hgb q hq
    subst this
    exact hgne
  · have := hgb q hq
    subst this
    rcases ha with ha | ha
    · exact h8 g ha
    · exact ⟨.inr (by have := h5.2.1; omega), by have := blklt h2; omega, fun hm => by have := h4.lt g hm; omega⟩
theorem SpI.fin (h : SpI B b b6 W0 d vP0 vR0 vS Ps Rs vP vR FR xs u Fd V) {M : List (List (Int × Int))} {v : Value} (hL : LstK b vP0 vR0 W0 M v) : LstK b vP vR V M v :=
  hL.step h.2.2.2.2.1 (fun q hq => (h.2.2.2.2.2.2.1 q hq).1) (fun q hq => (h.2.2.2.2.2.2.2.1 q hq).1)
theorem SpI.wpP {V0 : World} (h : SpI B b b6 W0 d vP0 vR0 vS Ps Rs vP vR FR xs u Fd V0) (kk : Nat) (hb : Below V0.heap.size V0 V) {x : Int × Int} {ty : TypeId} (hk : V.heap[kk]? = some (.cells #[.int .i64 x.1, .int .i64 x.2] ty (0, 0))) (hd : okFr x) (hl : Ps.length < 1000)
    {op : Oper} {a : Act} {K : Act → World → Prop} {Q : Exit → Act → World → Prop} (s y : Operand) (ho : op.op = .call { callee := .builtin .append, args := #[s, y], argTypes := #[32, 32] }) (hs : a.eval s = vP) (hy : a.eval y = .slice (some ⟨kk, 0, none⟩) 1 1)
    (hc : ∀ (g cap : Nat) V', SpI B b b6 W0 d vP0 vR0 vS (Ps ++ [x]) Rs (.slice (some ⟨g, 0, none⟩) (Ps.length + 1) cap) vR FR xs u Fd (V'.setCell ⟨b, 0, none⟩ (.slice (some ⟨g, 0, none⟩) (Ps.length + 1) cap)) → V'.frozen? ⟨b, 0, none⟩ = false → b < V'.heap.size → V'.cell? ⟨b, 0, none⟩ = some vP → V'.cell? ⟨b6, 0, none⟩ = some (.int .i64 d.1) ∧ V'.cell? ⟨b6, 1, none⟩ = some (.int .i64 d.2) → K (a.put op.dst (.slice (some ⟨g, 0, none⟩) (Ps.length + 1) cap)) V') : op.wp Try.prog a V K Q := by
  have h1 := h.below hb
  obtain ⟨LP, hA⟩ := h1.2.2.1.1
  refine wp_append_fr V hA hk hd hl (by have := h1.2.2.2.2.2.1.size; have := h1.2.2.2.2.2.2.2.2; omega) s y ho hs hy ?_
  intro g cap V' hA' hg ha
  obtain ⟨g1, g2, g3, g4⟩ := h1.p hA' hg ha
  have k6 : V'.heap[b6]? = some (.cells #[.int .i64 d.1, .int .i64 d.2] 79 (0, 0)) := (hg.block _ (blklt h1.2.1) (fun e => (h1.2.2.2.2.2.2.1 _ e.symm).2.1 rfl)).trans h1.2.1
  exact hc g cap V' g1 g2 g3 g4 (blkc2 k6)
theorem SpI.wpR {V0 : World} {Ao : Option Addr} {no co : Nat} (h : SpI B b b6 W0 d vP0 vR0 vS Ps Rs vP vR FR xs (.slice Ao no co) Fd V0) (kk : Nat) (hFd : ∀ q ∈ Fd, q ∉ FR) (hb : Below V0.heap.size V0 V) {ty : TypeId} (hk : V.heap[kk]? = some (.cells #[.slice Ao no co] ty (0, 0))) (hl : Rs.length < 1000)
    {op : Oper} {a : Act} {K : Act → World → Prop} {Q : Exit → Act → World → Prop} (s y : Operand) (ho : op.op = .call { callee := .builtin .append, args := #[s, y], argTypes := #[26, 26] }) (hs : a.eval s = vR) (hy : a.eval y = .slice (some ⟨kk, 0, none⟩) 1 1)
    (hc : ∀ (g cap : Nat) V', SpI B b b6 W0 d vP0 vR0 vS Ps (Rs ++ [xs]) vP (.slice (some ⟨g, 0, none⟩) (Rs.length + 1) cap) (FR ++ Fd) xs (.slice Ao no co) Fd (V'.setCell ⟨b, 1, none⟩ (.slice (some ⟨g, 0, none⟩) (Rs.length + 1) cap)) → V'.frozen? ⟨b, 1, none⟩ = false → b < V'.heap.size → V'.cell? ⟨b, 1, none⟩ = some vR → K (a.put op.dst (.slice (some ⟨g, 0, none⟩) (Rs.length + 1) cap)) V') : op.wp Try.prog a V K Q := by
  have h1 := h.below hb
  obtain ⟨LR, hA⟩ := h1.2.2.1.2.1
  have hO : Own shFr B V xs (.slice Ao no co) Fd := ⟨h1.2.2.2.1.1, h1.2.2.2.1.2.1, fun q hq => by have := h1.2.2.2.1.ge q hq; have := h1.2.2.2.2.2.2.2.2; omega⟩
  refine wp_append_row V hA hk rfl hO (fun q hq => ⟨hFd q hq, fun e => (h1.2.2.2.2.2.2.2.1 q e).2.2 hq⟩) hl (by have := h1.2.2.2.2.2.1.size; have := h1.2.2.2.2.2.2.2.2; omega) s y ho hs hy ?_
  intro g cap V' hA' hg ha
  obtain ⟨g1, g2, g3, g4⟩ := h1.r hA' hg ha
  exact hc g cap V' g1 g2 g3 g4
theorem SpI.wplR {V0 : World} {Ao : Option Addr} {no co : Nat} (h : SpI B b b6 W0 d vP0 vR0 vS Ps Rs vP vR FR xs (.slice Ao no co) Fd V0) (kk : Nat) (hFd : ∀ q ∈ Fd, q ∉ FR) (hb : Below V0.heap.size V0 V) {ty : TypeId} (hk : V.heap[kk]? = some (.cells #[.slice Ao no co] ty (0, 0))) (hl : Rs.length < 1000)
    {ops : Array Oper} {rest : List Oper} {op : Oper} {a : Act} {Q : Exit → Act → World → Prop} (hgd : op.guard = none) (s y : Operand) (ho : op.op = .call { callee := .builtin .append, args := #[s, y], argTypes := #[26, 26] }) (hs : a.eval s = vR) (hy : a.eval y = .slice (some ⟨kk, 0, none⟩) 1 1)
    (hc : ∀ (g cap : Nat) V', SpI B b b6 W0 d vP0 vR0 vS Ps (Rs ++ [xs]) vP (.slice (some ⟨g, 0, none⟩) (Rs.length + 1) cap) (FR ++ Fd) xs (.slice Ao no co) Fd (V'.setCell ⟨b, 1, none⟩ (.slice (some ⟨g, 0, none⟩) (Rs.length + 1) cap)) → V'.frozen? ⟨b, 1, none⟩ = false → b < V'.heap.size → V'.cell? ⟨b, 1, none⟩ = some vR → wpList Try.prog ops Q rest (a.put op.dst (.slice (some ⟨g, 0, none⟩) (Rs.length + 1) cap)) V') : wpList Try.prog ops Q (op :: rest) a V :=
  wpList_plain hgd fun _ hK => h.wpR kk hFd hb hk hl s y ho hs hy fun g cap V' h1 h2 h3 h4 => hK _ _ (hc g cap V' h1 h2 h3 h4)
end
/-- A row up to a place. -/
def pvXu (S : Nat → Nat → Int × Int) (k i j : Nat) : Int × Int := if j ≤ k then (if j = k then (1, 1) else (0, 1)) else if j < i then pvX S k j else (0, 1)
theorem pvXu_start (S : Nat → Nat → Int × Int) (k n : Nat) (hk : k < n) : (rowL n fun _ => ((0, 1) : Int × Int)).set k (1, 1) = rowL n (pvXu S k (k + 1)) := by
  refine List.ext_getElem (by rw [List.length_set, rowL_len, rowL_len]) fun j h1 h2 => ?_
  rw [List.getElem_set]
  simp only [rowL, List.getElem_map, List.getElem_range]
  unfold pvXu
  by_cases h : k = j
  · subst h
    simp
  · rw [if_neg h]
    by_cases h3 : j ≤ k
    · rw [if_pos h3, if_neg (fun e => h e.symm)]
    · rw [if_neg h3, if_neg (by omega)]
theorem pvXu_step (S : Nat → Nat → Int × Int) {k n i : Nat} (hi : i < n) (hk : k < i) : (rowL n (pvXu S k i)).set i (pvX S k i) = rowL n (pvXu S k (i + 1)) := by
  refine List.ext_getElem (by rw [List.length_set, rowL_len, rowL_len]) fun j h1 h2 => ?_
  rw [List.getElem_set]
  simp only [rowL, List.getElem_map, List.getElem_range]
  unfold pvXu
  by_cases h : i = j
  · subst h
    rw [if_pos rfl, if_neg (by omega), if_pos (by omega)]
  · rw [if_neg h]
    by_cases h3 : j ≤ k
    · rw [if_pos h3, if_pos h3]
    · rw [if_neg h3, if_neg h3]
      by_cases h4 : j < i
      · rw [if_pos h4, if_pos (by omega)]
      · rw [if_neg h4, if_neg (by omega)]
theorem pvXu_skip (S : Nat → Nat → Int × Int) {k n i : Nat} (h0 : (S k k).1 = 0) : rowL n (pvXu S k i) = rowL n (pvXu S k (i + 1)) := by
  unfold rowL
  refine List.map_congr_left fun j hj => ?_
  unfold pvXu
  by_cases h3 : j ≤ k
  · rw [if_pos h3, if_pos h3]
  · rw [if_neg h3, if_neg h3]
    by_cases h4 : j < i
    · rw [if_pos h4, if_pos (by omega)]
    · rw [if_neg h4]
      by_cases h5 : j < i + 1
      · rw [if_pos h5]
        unfold pvX
        rw [if_neg h3, if_pos h0]
      · rw [if_neg h5]
theorem pvXu_end (S : Nat → Nat → Int × Int) (k n : Nat) : rowL n (pvXu S k n) = rowL n (pvX S k) := by
  unfold rowL
  refine List.map_congr_left fun j hj => ?_
  have hj' : j < n := by simpa using hj
  unfold pvXu
  by_cases h3 : j ≤ k
  · rw [if_pos h3]
    unfold pvX
    rw [if_pos h3]
  · rw [if_neg h3, if_pos hj']
theorem pvFs_f {S : Nat → Nat → Int × Int} {n k : Nat} (h : ∀ i, k < i → i < n → (S i k).1 = 0) : rowZ n (pvF S n k) = false := by
  unfold rowZ
  rw [List.any_eq_false]
  intro i hi
  have hi' : i < n := by simpa using hi
  unfold pvF
  by_cases hk : k < i
  · simp [h i hk hi']
  · simp [hk]
theorem pvFs_t {S : Nat → Nat → Int × Int} {n k i : Nat} (h1 : k < i) (h2 : i < n) (h : (S i k).1 ≠ 0) : rowZ n (pvF S n k) = true := by
  unfold rowZ
  rw [List.any_eq_true]
  exact ⟨i, by simpa using h2, by simp [pvF, h1, h2, h]⟩
theorem pvXz_f {S : Nat → Nat → Int × Int} {n k : Nat} (h : (S k k).1 ≠ 0 → ∀ i, k < i → i < n → noB (divO (S i k) (S k k)) = false) : rowZ n (pvXz S k) = false := by
  unfold rowZ
  rw [List.any_eq_false]
  intro i hi
  have hi' : i < n := by simpa using hi
  unfold pvXz
  by_cases hk : k < i
  · by_cases h0 : (S k k).1 = 0
    · simp [h0]
    · simp [h h0 i hk hi']
  · simp [hk]
theorem pvXz_t {S : Nat → Nat → Int × Int} {n k i : Nat} (h1 : k < i) (h2 : i < n) (h0 : (S k k).1 ≠ 0) (h : noB (divO (S i k) (S k k)) = true) : rowZ n (pvXz S k) = true := by
  unfold rowZ
  rw [List.any_eq_true]
  exact ⟨i, by simpa using h2, by simp [pvXz, h1, h0, h]⟩
theorem sOneP_any (n : Int) (w : World) : Calls Try.prog 72 #[.int .i64 n] w fun e w' => e = .returned (.agg #[.int .i64 n, .int .i64 1]) ∧ Below w.heap.size w w' := by
  go_enter Try.func72, Try.ntmps72
  go_wp2_with fail
  exact bodyPost_ret (v := .agg #[.int .i64 n, .int .i64 1]) (by simp [results, Try.results72, go_sem]) rfl ⟨rfl, belA⟩
/-- What the steps told. -/
def PwRet (w : World) (n : Nat) (S : Nat → Nat → Int × Int) (e : Ending) (w' : World) : Prop :=
  ∃ (b : Nat) (C c2 en : Int) (vP vR vS : Value) (Ps : List (Int × Int)) (Rs : List (List (Int × Int))) (FR : List Nat), e = .returned (.tuple #[.pointer (some ⟨b, 0, none⟩), .int .i64 C]) ∧ w'.heap[b]? = some (.cells #[vP, vR, vS, .int .i64 c2, .int .i64 en] 77 (0, 0)) ∧ PRs w.heap.size b w' Ps Rs vP vR FR ∧ Below w.heap.size w w' ∧
    ((pvC (pwS S) n n 0 = 0 ∧ C = 0 ∧ en = 0 ∧ Ps = rowL n (fun k => pwS S k k k) ∧ Rs = matL n n (fun k => pvX (pwS S k) k)) ∨ (pvC (pwS S) n n 0 = 3 ∧ C = 3) ∨ (pvC (pwS S) n n 0 = 4 ∧ C = 0 ∧ en ≠ 0))
def pwPs (S : Nat → Nat → Int × Int) (k : Nat) : List (Int × Int) := (List.range k).map fun k => pwS S k k k
def pwRs (S : Nat → Nat → Int × Int) (n k : Nat) : List (List (Int × Int)) := (List.range k).map fun k => rowL n (pvX (pwS S k) k)
theorem pwPs_succ (S : Nat → Nat → Int × Int) (k : Nat) : pwPs S (k + 1) = pwPs S k ++ [pwS S k k k] := by simp [pwPs, List.range_succ]
theorem pwRs_succ (S : Nat → Nat → Int × Int) (n k : Nat) : pwRs S n (k + 1) = pwRs S n k ++ [rowL n (pvX (pwS S k) k)] := by simp [pwRs, List.range_succ]
theorem pwPs_len (S : Nat → Nat → Int × Int) (k : Nat) : (pwPs S k).length = k := by simp [pwPs]
theorem pwRs_len (S : Nat → Nat → Int × Int) (n k : Nat) : (pwRs S n k).length = k := by simp [pwRs]
/-- All that is there ahead of a step. -/
def PwI (B b n : Nat) (w : World) (E : Nat → Nat → Int × Int) (Ps : List (Int × Int)) (Rs : List (List (Int × Int))) (V : World) : Prop :=
  ∃ A cap vP vR FR, V.heap[b]? = some (.cells #[vP, vR, .slice A n cap, .int .i64 0, .int .i64 0] 77 (0, 0)) ∧ PRs B b V Ps Rs vP vR FR ∧ LstK b vP vR V (matL n n E) (.slice A n cap) ∧ Below B w V
set_option maxRecDepth 100000 in
set_option maxHeartbeats 4000000 in
theorem l02Pivot_any (w : World) (n cap : Nat) (S : Nat → Nat → Int × Int) (A : Option Addr) (hn : n ≤ 8) (hL : Lst (shL shFr) w (matL n n S) (.slice A n cap)) (hS : ∀ i, i < n → ∀ j, j < n → inF (S i j)) :
    Calls Try.prog 42 #[.slice A n cap] w (PwRet w n S) := by
  have HS := Lib.hid (pwS_in hS)
  have HL := Lib.hid hL
  clear hS hL
  go_enter Try.func42, Try.ntmps42
  go_wp2_with fail
  go_loopw [5] (fun i wr => ∃ (k : Nat), k ≤ n ∧ i = .int .i64 k ∧ Hid (PwI w.heap.size w.heap.size n w (pwS S k) (pwPs S k) (pwRs S n k) wr) ∧ Hid (pvC (pwS S) n n 0 = pvC (pwS S) n (n - k) k)) (fun i _ => n - (intOf i).toNat)
  case atStart => exact ⟨0, Nat.zero_le _, rfl, Lib.hid ⟨A, cap, _, _, [], blkA, PRs.nil _ _ _, LstK.old (B := 0) HL.out (Nat.le_refl _) (fun q hq => by simp [Value.ownBlock] at hq) (fun q hq => by simp [Value.ownBlock] at hq) belA, belA⟩, Lib.hid rfl⟩
  case round =>
    obtain ⟨k, hk, rfl, hI, hC⟩ := hrel
    by_cases hlt : k < n
    · have hl8 : (k : Int) < (n : Int) := by omega
      have HSK := Lib.hid (HS.out k hk)
      have hC1 : Hid (pvC (pwS S) n n 0 = if pvE (pwS S k) n k then 4 else if pvG (pwS S k) n k then 3 else pvC (pwS S) n (n - (k + 1)) (k + 1)) := Lib.hid (hC.out.trans (pvC_step hlt))
      obtain ⟨A1, cap1, vP, vR, FR, j0, hP, hLK, hB⟩ := hI.out
      obtain ⟨W0, rfl⟩ : ∃ x, x = wr := ⟨_, rfl⟩
      obtain ⟨⟨c0, c1, c2, c3, c4⟩, f0, f1, f2, f3, f4⟩ := blk5p j0
      have zb := blklt j0
      obtain ⟨a1, o1, r3, p3, d3, rfl, k1, k4, za1, zr3, n1, n2, q3, y1, y2⟩ := left_apart hLK hn HSK.out (i := k) (j := k) hlt hlt
      have HKK := Lib.hid (HSK.out k hlt k hlt)
      obtain ⟨D, hD⟩ : ∃ D, Hid (pwS S k k k = D) := ⟨_, Lib.hid rfl⟩
      rw [hD.out] at y1 y2 HKK
      have J0 := Lib.hid j0
      have HP := Lib.hid hP
      have HLK := Lib.hid hLK
      have HB := Lib.hid hB
      have hzw := HB.out.size
      clear j0 hP hLK hB
      have HF4 : Hid (∀ W c2 en, pvE (pwS S k) n k = true → en ≠ 0 → W.heap[w.heap.size]? = some (.cells #[vP, vR, .slice (some ⟨a1, o1, none⟩) n cap1, .int .i64 c2, .int .i64 en] 77 (0, 0)) → PRs w.heap.size w.heap.size W (pwPs S k) (pwRs S n k) vP vR FR → Below w.heap.size w W → PwRet w n S (.returned (.tuple #[.pointer (some ⟨w.heap.size, 0, none⟩), .int .i64 0])) W) := Lib.hid fun W c2 en he hen hh hp hb =>
        ⟨w.heap.size, 0, c2, en, vP, vR, _, _, _, FR, rfl, hh, hp, hb, .inr (.inr ⟨by rw [hC1.out, if_pos he], rfl, hen⟩)⟩
      by_cases hneg : D.1 < 0
      · have hE : Hid (pvE (pwS S k) n k = true) := Lib.hid (by unfold pvE; rw [hD.out]; simp [hneg])
        have hdn : decide (D.1 < 0) = true := by simp [hneg]
        go_wp2_with fail
        have j0 := J0.out
        have hb0 := HB.out
        refine bodyPost_ret (v := .tuple #[.pointer (some ⟨w.heap.size, 0, none⟩), .int .i64 0]) (by simp [results, Try.results42, go_sem]) rfl (HF4.out _ 0 1 hE.out (by decide) (blkal (blkset0 j0 4 _) _) ?_ belA)
        exact (HP.out.keep (w' := W0.setCell ⟨w.heap.size, 4, none⟩ (.int .i64 1)) fun c _ _ hc => Below.heap_setCell _ _ _ c (by exact hc)).below (bal (Below.refl _ _) _)
      · have hdn : decide (D.1 < 0) = false := by simp [hneg]
        go_wp2_with fail
        refine Calls.mono (l02Empty_any _ n (by omega)) ?_
        rintro e0 w1 ⟨A2, cap2, F2, rfl, hO2, hb⟩
        obtain ⟨g2, cap3, Fi, vi, hv2, t0, tf0, hOi, hsub, hgi, hgF, hback⟩ := hO2.rowFr (matL_get (m := n) (n := n) (fun _ _ => ((0, 1) : Int × Int)) (i := 0) (by omega))
        rw [matL_len] at hv2
        injection hv2 with e1 e2 e3
        subst e1
        subst e3
        have HBX := Lib.hid (show Below W0.heap.size W0 w1 from Below.trans belA (hb.mono (by first | omega | (simp <;> omega))))
        have K6 : Hid (w1.heap[W0.heap.size]? = some (.cells #[.int .i64 D.1, .int .i64 D.2] 79 (0, 0))) := Lib.hid (bblk hb (by first | omega | (simp <;> omega)) blkA)
        have hb1 := HBX.out
        have k6 := K6.out
        have hzb1 := hb1.size
        have hg2l := World.block_lt_of_cell? _ _ t0
        simp only at hg2l
        have HOi := Lib.hid hOi
        clear hO2 hb hsub hgi hgF hback e2 hOi
        go_wp2_with fail
        refine Calls.mono (sOneP_any 1 _) ?_
        rintro e0 w2 ⟨rfl, hb2⟩
        obtain ⟨g3, cap4, hvi, rfl, f3r, f4r, ⟨v3r, e3r⟩, ⟨v4r, e4r⟩, hg3, hput⟩ := (HOi.out.below (Nat.le_refl _) hb2).put (j := k) (by rw [rowL_len]; exact hlt)
        rw [rowL_len] at hvi
        subst hvi
        have HO2 := Lib.hid ((hput (1, 1) (inF_ok one_in)).move (B' := W0.heap.size + 1) (by simp) (fun _ _ _ => rfl))
        rw [pvXu_start (pwS S k) k n hlt] at HO2
        have hgg : W0.heap.size + 1 ≤ g3 := by have := HOi.out.ge g3 (by simp); simp at this; omega
        have HB2 := Lib.hid (hb1.trans (hb2.mono hzb1))
        have K62 := Lib.hid (bblk hb2 (blklt k6) k6)
        clear hb1 k6 hb2 t0 tf0 hput
        go_wp2_with fail
        go_loopw [8] (fun x wr => ∃ (i : Nat), k < i ∧ i ≤ n ∧ x = .int .i64 i ∧ Hid (Own shFr (W0.heap.size + 1) wr (rowL n (pvXu (pwS S k) k i)) (.slice (some ⟨g3, 0, none⟩) n cap4) [g3]) ∧ Hid (wr.heap[W0.heap.size]? = some (.cells #[.int .i64 D.1, .int .i64 D.2] 79 (0, 0))) ∧ Below W0.heap.size W0 wr ∧ Hid (D.1 = 0 → ∀ j, k < j → j < i → (pwS S k j k).1 = 0) ∧ Hid (D.1 ≠ 0 → ∀ j, k < j → j < i → noB (divO (pwS S k j k) D) = false)) (fun x _ => n - (intOf x).toNat)
        case atStart =>
          have hb2 := HB2.out
          exact ⟨k + 1, by omega, by omega, by go_num, HO2, Lib.hid (blkset (blkset K62.out (by show W0.heap.size ≠ g3; omega) _) (by show W0.heap.size ≠ g3; omega) _), belA, Lib.hid (fun _ j h1 h2 => absurd h2 (by omega)), Lib.hid (fun _ j h1 h2 => absurd h2 (by omega))⟩
        case round =>
          obtain ⟨i, hi0, hi, rfl, hO, hK, hBi, hZ1, hZ2⟩ := hrel
          obtain ⟨V0, rfl⟩ : ∃ x, x = wr := ⟨_, rfl⟩
          have m2 := bkeep hBi c2
          obtain ⟨p0, p1⟩ := blkc2 hK.out
          have y6 := blklt hK.out
          have yb : w.heap.size < V0.heap.size := Nat.lt_of_lt_of_le zb hBi.size
          have hzV := hBi.size
          by_cases hli : i < n
          · have hl9 : (i : Int) < (n : Int) := by omega
            obtain ⟨a1', o1', r1, q1p, d1, e9, _, k5, _, zr1, _, _, x0, x1, x2⟩ := left_apart HLK.out hn HSK.out (i := i) (j := k) hli hlt
            obtain ⟨rfl, rfl⟩ : a1 = a1' ∧ o1 = o1' := by injection e9 with e9; injection e9 with e9 e10; exact ⟨e9, e10⟩
            have x0 := bkeep hBi x0
            have x1 := bkeep hBi x1
            have x2 := bkeep hBi x2
            have zc1 : a1 < V0.heap.size := by omega
            have zc2 : r1 < V0.heap.size := by omega
            obtain ⟨U, hU⟩ : ∃ U, Hid (pwS S k i k = U) := ⟨_, Lib.hid rfl⟩
            have HUI : Hid (inF U) := Lib.hid (by rw [← hU.out]; exact HSK.out i hli k hlt)
            rw [hU.out] at x1 x2
            clear e9
            by_cases h0 : D.1 = 0
            · have hd0 : (D.1 == 0) = true := by simp [h0]
              by_cases hu0 : U.1 = 0
              · have hu1 : (U.1 != 0) = false := by simp [hu0]
                have hZ1' : Hid (D.1 = 0 → ∀ j, k < j → j < i + 1 → (pwS S k j k).1 = 0) := Lib.hid fun h j h1 h2 => by
                  rcases Nat.lt_or_ge j i with h3 | h3
                  · exact hZ1.out h j h1 h3
                  · have : j = i := by omega
                    subst this
                    rw [hU.out]; exact hu0
                have hZ2' : Hid (D.1 ≠ 0 → ∀ j, k < j → j < i + 1 → noB (divO (pwS S k j k) D) = false) := Lib.hid fun h => absurd h0 h
                have hO' : Hid (Own shFr (W0.heap.size + 1) V0 (rowL n (pvXu (pwS S k) k (i + 1))) (.slice (some ⟨g3, 0, none⟩) n cap4) [g3]) := Lib.hid (by rw [← pvXu_skip (pwS S k) (by rw [hD.out]; exact h0)]; exact hO.out)
                clear h0 hu0
                go_wp2_with fail
                go_roundw
                case rel => exact ⟨i + 1, by omega, by omega, by go_num, hO', hK, belA, hZ1', hZ2'⟩
                case measure => simp [intOf]; omega
              · have hu1 : (U.1 != 0) = true := by simp [hu0]
                have hE : Hid (pvE (pwS S k) n k = true) := Lib.hid (by unfold pvE; rw [hD.out, pvFs_t hi0 hli (by rw [hU.out]; exact hu0)]; simp [h0])
                have J02 := Lib.hid (bblk hBi zb J0.out)
                obtain ⟨⟨_, _, _, n3, n4⟩, _, _, _, nf3, nf4⟩ := blk5p J02.out
                have hbw : Hid (Below w.heap.size w V0) := Lib.hid (HB.out.trans (hBi.mono hzw))
                clear h0 hu0
                go_wp2_with fail
                refine bodyPost_ret (v := .tuple #[.pointer (some ⟨w.heap.size, 0, none⟩), .int .i64 0]) (by simp [results, Try.results42, go_sem]) rfl (HF4.out _ i 2 hE.out (by decide) (blkset0 (blkset0 J02.out 4 _) 3 _) ?_ (Below.setCell (Below.setCell hbw.out (Nat.le_refl _) _) (Nat.le_refl _) _))
                exact (HP.out.below hBi).keep fun c _ _ hc => by rw [Below.heap_setCell _ _ _ c (by exact hc), Below.heap_setCell _ _ _ c (by exact hc)]
            · have hd0 : (D.1 == 0) = false := by simp [h0]
              have HD0 := Lib.hid h0
              obtain ⟨R, hR⟩ : ∃ R, Hid (rD (divO U D) = R) := ⟨_, Lib.hid rfl⟩
              obtain ⟨RC, hRC⟩ : ∃ RC, Hid (rC (divO U D) = RC) := ⟨_, Lib.hid rfl⟩
              have HDIV : Hid (∀ V, Calls Try.prog 73 #[.agg #[.int .i64 U.1, .int .i64 U.2], .agg #[.int .i64 D.1, .int .i64 D.2]] V fun r w' => r = .returned (.tuple #[.agg #[.int .i64 R.1, .int .i64 R.2], .int .i64 RC]) ∧ Below V.heap.size V w') := Lib.hid fun V => by
                have := rdiv_any U D V HUI.out HKK.out h0
                rw [hR.out, hRC.out] at this
                exact this
              clear h0
              have HK19 : Hid (∀ V w' : World, Below V.heap.size V w' → (fun w' => w'.cell? ⟨w.heap.size, 2, none⟩ = some (.slice (some ⟨a1, o1, none⟩) n cap1) ∧ w'.cell? ⟨a1, o1 + i, none⟩ = some (.slice (some ⟨r1, q1p, none⟩) n d1) ∧ w'.cell? ⟨r1, q1p + k * 2, none⟩ = some (.int .i64 U.1) ∧ w'.cell? ⟨r1, q1p + k * 2 + 1, none⟩ = some (.int .i64 U.2) ∧ w'.cell? ⟨W0.heap.size, 0, none⟩ = some (.int .i64 D.1) ∧ w'.cell? ⟨W0.heap.size, 1, none⟩ = some (.int .i64 D.2)) V → (fun w' => w'.cell? ⟨w.heap.size, 2, none⟩ = some (.slice (some ⟨a1, o1, none⟩) n cap1) ∧ w'.cell? ⟨a1, o1 + i, none⟩ = some (.slice (some ⟨r1, q1p, none⟩) n d1) ∧ w'.cell? ⟨r1, q1p + k * 2, none⟩ = some (.int .i64 U.1) ∧ w'.cell? ⟨r1, q1p + k * 2 + 1, none⟩ = some (.int .i64 U.2) ∧ w'.cell? ⟨W0.heap.size, 0, none⟩ = some (.int .i64 D.1) ∧ w'.cell? ⟨W0.heap.size, 1, none⟩ = some (.int .i64 D.2)) w') := Lib.hid fun V w' hb h => by
                simp only at h ⊢
                exact ⟨bkeep hb h.1, bkeep hb h.2.1, bkeep hb h.2.2.1, bkeep hb h.2.2.2.1, bkeep hb h.2.2.2.2.1, bkeep hb h.2.2.2.2.2⟩
              go_upto_region 20 with fail
              go_cut [9, 10] from 79 to 93 (fun s8 s9 wx => ∃ g8 : Nat, s8 = .pointer (some ⟨g8, 0, none⟩) ∧ s9 = .int .i64 RC ∧ wx.heap[g8]? = some (.cells #[.int .i64 R.1, .int .i64 R.2] 79 (0, 0)) ∧ Below V0.heap.size V0 wx ∧ V0.heap.size ≤ g8)
              case first =>
                (refine wp_region_held_drew (S := (fun w' => w'.cell? ⟨w.heap.size, 2, none⟩ = some (.slice (some ⟨a1, o1, none⟩) n cap1) ∧ w'.cell? ⟨a1, o1 + i, none⟩ = some (.slice (some ⟨r1, q1p, none⟩) n d1) ∧ w'.cell? ⟨r1, q1p + k * 2, none⟩ = some (.int .i64 U.1) ∧ w'.cell? ⟨r1, q1p + k * 2 + 1, none⟩ = some (.int .i64 U.2) ∧ w'.cell? ⟨W0.heap.size, 0, none⟩ = some (.int .i64 D.1) ∧ w'.cell? ⟨W0.heap.size, 1, none⟩ = some (.int .i64 D.2))) (by kernel_rfl) ?_ (fun hHeld => ?_); (focus (first | exact hS | exact HK19.out _ _ (bal (Below.refl _ _) _) hHeld | (simp [*, go_sem]; done) | fail)); refine rt 0 (some 80) (v := ?_) rfl rfl ?_ ?_; rotate_left; (focus (intro w' hSw; (try dsimp only at hSw); go_simp; (try with_reducible rfl))); (try simp only [Act.put, nA, nB, nC]); refine rt 1 (some 81) (v := ?_) rfl rfl ?_ ?_; rotate_left; (focus (intro w' hSw; (try dsimp only at hSw); go_simp; (try with_reducible rfl))); (try simp only [Act.put, nA, nB, nC]); refine rt 2 (some 82) (v := ?_) rfl rfl ?_ ?_; rotate_left; (focus (intro w' hSw; (try dsimp only at hSw); go_simp; (try with_reducible rfl))); (try simp only [Act.put, nA, nB, nC]); refine rt 3 (some 83) (v := ?_) rfl rfl ?_ ?_; rotate_left; (focus (intro w' hSw; (try dsimp only at hSw); go_simp; (try with_reducible rfl))); (try simp only [Act.put, nA, nB, nC]); refine rt 4 (some 84) (v := ?_) rfl rfl ?_ ?_; rotate_left; (focus (intro w' hSw; (try dsimp only at hSw); go_simp; (try with_reducible rfl))); (try simp only [Act.put, nA, nB, nC]); refine rt 5 (some 85) (v := ?_) rfl rfl ?_ ?_; rotate_left; (focus (intro w' hSw; (try dsimp only at hSw); go_simp; (try with_reducible rfl))); (try simp only [Act.put, nA, nB, nC]); refine rt 6 (some 86) (v := ?_) rfl rfl ?_ ?_; rotate_left; (focus (intro w' hSw; (try dsimp only at hSw); go_simp; (try with_reducible rfl))); (try simp only [Act.put, nA, nB, nC]); refine rt 7 (some 87) (v := ?_) rfl rfl ?_ ?_; rotate_left; (focus (intro w' hSw; (try dsimp only at hSw); go_simp; (try with_reducible rfl))); (try simp only [Act.put, nA, nB, nC]); refine rt 8 (some 88) (v := ?_) rfl rfl ?_ ?_; rotate_left; (focus (intro w' hSw; (try dsimp only at hSw); go_simp; (try with_reducible rfl))); (try simp only [Act.put, nA, nB, nC]); refine rt 9 (some 89) (v := ?_) rfl rfl ?_ ?_; rotate_left; (focus (intro w' hSw; (try dsimp only at hSw); go_simp; (try with_reducible rfl))); (try simp only [Act.put, nA, nB, nC]); refine rt 10 (some 90) (v := ?_) rfl rfl ?_ ?_; rotate_left; (focus (intro w' hSw; (try dsimp only at hSw); go_simp; (try with_reducible rfl))); (try simp only [Act.put, nA, nB, nC]); refine wpAnyH_ready (rs := [11, 15]) (by kernel_rfl) (by simp) ?_; refine AllReadyH.cons rfl (fun K hK => ?_) (AllReadyH.cons rfl (fun K hK => ?_) AllReadyH.nil); (focus (go_simp; (go_at_call 73; refine Calls.mono (HDIV.out _) ?_; rintro e0 w4 ⟨rfl, hb⟩; have hS := HK19.out _ _ hb hHeld; have HB4 := Lib.hid (show Below V0.heap.size V0 w4 from Below.trans belA (hb.mono (by first | omega | (simp <;> omega)))); (try (have kz := bblk hb (blklt kp) kp; clear kp; have kp := kz; clear kz; obtain ⟨pz0, pz1, pf0, pf1⟩ := blk2 kp; have pzz := blklt kp)); have hz4 := HB4.out.size; have y40 : w.heap.size < w4.heap.size := (by omega); have y41 : a1 < w4.heap.size := (by omega); have y42 : r1 < w4.heap.size := (by omega); have y43 : W0.heap.size < w4.heap.size := (by omega); clear hb); go_wp2_with fail; refine hK.out _ _ ?_ (fun hHeld => ?_); (focus (first | exact hS | exact HK19.out _ _ (bal (Below.refl _ _) _) hHeld | (simp [*, go_sem]; done) | fail)); clear hK K; (try simp only [Act.put, nA, nB, nC]); refine rt 12 (some 79) (v := ?_) rfl rfl ?_ ?_; rotate_left; (focus (intro w' hSw; (try dsimp only at hSw); go_simp; (try with_reducible rfl))); (try simp only [Act.put, nA, nB, nC]); refine rt 13 (some 92) (v := ?_) rfl rfl ?_ ?_; rotate_left; (focus (intro w' hSw; (try dsimp only at hSw); go_simp; (try with_reducible rfl))); (try simp only [Act.put, nA, nB, nC]); refine rt 14 (some 93) (v := ?_) rfl rfl ?_ ?_; rotate_left; (focus (intro w' hSw; (try dsimp only at hSw); go_simp; (try with_reducible rfl))); (try simp only [Act.put, nA, nB, nC]); refine wpAnyH_ready (rs := [15]) (by kernel_rfl) (by simp) ?_; refine AllReadyH.cons rfl (fun K hK => ?_) AllReadyH.nil; (try go_simp); refine hK.out _ _ ?_ (fun hHeld => ?_); (focus (first | exact hS | exact HK19.out _ _ (bal (Below.refl _ _) _) hHeld | (simp [*, go_sem]; done) | fail)); clear hK K; (try simp only [Act.put, nA, nB, nC]); refine wpAnyH_ready (rs := [16]) (by kernel_rfl) (by simp) ?_; refine AllReadyH.cons rfl (fun K hK => ?_) AllReadyH.nil; (try go_simp); refine hK.out _ _ ?_ (fun hHeld => ?_); (focus (first | exact hS | exact HK19.out _ _ (bal (Below.refl _ _) _) hHeld | (simp [*, go_sem]; done) | fail)); clear hK K; (try simp only [Act.put, nA, nB, nC]); refine rt 17 (some 10) (v := ?_) rfl rfl ?_ ?_; rotate_left; (focus (intro w' hSw; (try dsimp only at hSw); go_simp; (try with_reducible rfl))); (try simp only [Act.put, nA, nB, nC]); refine wpAnyH_done (by kernel_rfl) ?_ _)); rotate_left 1; (focus (((try go_simp); have hS := HK19.out _ _ (bal (Below.refl V0.drew.heap.size V0.drew) (.cells #[.int .i64 0, .int .i64 0] 79)) hHeld; have kp : (V0.drew.alloc (.cells #[.int .i64 0, .int .i64 0] 79)).heap[V0.heap.size]? = _ := blknew V0.drew _; have hnb : V0.heap.size ≤ V0.heap.size := Nat.le_refl _); refine hK.out _ _ ?_ (fun hHeld => ?_); (focus (first | exact hS | exact HK19.out _ _ (bal (Below.refl _ _) _) hHeld | (simp [*, go_sem]; done) | fail)); clear hK K; (try simp only [Act.put, nA, nB, nC]); refine wpAnyH_ready (rs := [11]) (by kernel_rfl) (by simp) ?_; refine AllReadyH.cons rfl (fun K hK => ?_) AllReadyH.nil; go_simp; (go_at_call 73; refine Calls.mono (HDIV.out _) ?_; rintro e0 w4 ⟨rfl, hb⟩; have hS := HK19.out _ _ hb hHeld; have HB4 := Lib.hid (show Below V0.heap.size V0 w4 from Below.trans belA (hb.mono (by first | omega | (simp <;> omega)))); (try (have kz := bblk hb (blklt kp) kp; clear kp; have kp := kz; clear kz; obtain ⟨pz0, pz1, pf0, pf1⟩ := blk2 kp; have pzz := blklt kp)); have hz4 := HB4.out.size; have y40 : w.heap.size < w4.heap.size := (by omega); have y41 : a1 < w4.heap.size := (by omega); have y42 : r1 < w4.heap.size := (by omega); have y43 : W0.heap.size < w4.heap.size := (by omega); clear hb); go_wp2_with fail; refine hK.out _ _ ?_ (fun hHeld => ?_); (focus (first | exact hS | exact HK19.out _ _ (bal (Below.refl _ _) _) hHeld | (simp [*, go_sem]; done) | fail)); clear hK K; (try simp only [Act.put, nA, nB, nC]); refine rt 12 (some 79) (v := ?_) rfl rfl ?_ ?_; rotate_left; (focus (intro w' hSw; (try dsimp only at hSw); go_simp; (try with_reducible rfl))); (try simp only [Act.put, nA, nB, nC]); refine rt 13 (some 92) (v := ?_) rfl rfl ?_ ?_; rotate_left; (focus (intro w' hSw; (try dsimp only at hSw); go_simp; (try with_reducible rfl))); (try simp only [Act.put, nA, nB, nC]); refine rt 14 (some 93) (v := ?_) rfl rfl ?_ ?_; rotate_left; (focus (intro w' hSw; (try dsimp only at hSw); go_simp; (try with_reducible rfl))); (try simp only [Act.put, nA, nB, nC]); refine wpAnyH_ready (rs := [16]) (by kernel_rfl) (by simp) ?_; refine AllReadyH.cons rfl (fun K hK => ?_) AllReadyH.nil; (try go_simp); refine hK.out _ _ ?_ (fun hHeld => ?_); (focus (first | exact hS | exact HK19.out _ _ (bal (Below.refl _ _) _) hHeld | (simp [*, go_sem]; done) | fail)); clear hK K; (try simp only [Act.put, nA, nB, nC]); refine rt 17 (some 10) (v := ?_) rfl rfl ?_ ?_; rotate_left; (focus (intro w' hSw; (try dsimp only at hSw); go_simp; (try with_reducible rfl))); (try simp only [Act.put, nA, nB, nC]); refine wpAnyH_done (by kernel_rfl) ?_ _)); rotate_left 1)
                all_goals
                  clear hHeld
                  have hb4 := HB4.out
                  go_wp2_with fail
                  go_meet
                  exact ⟨_, rfl, rfl, blkA, belA, (by first | omega | (simp <;> omega))⟩
              case rest =>
                obtain ⟨g8, rfl, rfl, k8, hBx, hg8⟩ := hcut
                obtain ⟨w5, rfl⟩ : ∃ z, z = wc := ⟨_, rfl⟩
                have hz5 := hBx.size
                obtain ⟨u0, u1⟩ := blkc2 k8
                have y8 := blklt k8
                have HB5 := Lib.hid (hBi.trans (hBx.mono hzV))
                have HK5 := Lib.hid (bblk hBx y6 hK.out)
                have HO5 := Lib.hid (hO.out.below (Nat.le_refl _) hBx)
                have J02 := Lib.hid (bblk HB5.out zb J0.out)
                have yb5 : w.heap.size < w5.heap.size := by omega
                clear k8 hBx
                cases hm : divO U D with
                | none =>
                  have hR0 : R = (0, 0) := by rw [← hR.out, hm]; rfl
                  have hC0 : RC = 3 := by rw [← hRC.out, hm]; rfl
                  have hG : Hid (pvG (pwS S k) n k = true) := Lib.hid (by unfold pvG; rw [pvXz_t hi0 hli (by rw [hD.out]; exact HD0.out) (by rw [hU.out, hD.out, hm]; rfl)]; rfl)
                  have hE : Hid (pvE (pwS S k) n k = false) := Lib.hid (by unfold pvE; rw [hD.out]; simp [hneg, HD0.out])
                  have hC2 : Hid (pvC (pwS S) n n 0 = 3) := Lib.hid (by rw [hC1.out, if_neg (by rw [hE.out]; decide), if_pos hG.out])
                  subst hR0
                  subst hC0
                  clear hm
                  go_wp2_with fail
                  exact bodyPost_ret (v := .tuple #[.pointer (some ⟨w.heap.size, 0, none⟩), .int .i64 3]) (by simp [results, Try.results42, go_sem]) rfl ⟨w.heap.size, 3, 0, 0, vP, vR, _, _, _, FR, rfl, J02.out, HP.out.below HB5.out, HB.out.trans (HB5.out.mono hzw), .inr (.inl ⟨hC2.out, rfl⟩)⟩
                | some zz =>
                  have hR0 : R = zz := by rw [← hR.out, hm]; rfl
                  have hC0 : RC = 0 := by rw [← hRC.out, hm]; rfl
                  have hzi : Hid (inF zz) := Lib.hid (divO_in HUI.out.2.2.1 HD0.out hm)
                  have hXi : Hid (pvX (pwS S k) k i = zz) := Lib.hid (by unfold pvX; rw [if_neg (by omega), hD.out, if_neg HD0.out, hU.out, hm]; rfl)
                  have hZ1' : Hid (D.1 = 0 → ∀ j, k < j → j < i + 1 → (pwS S k j k).1 = 0) := Lib.hid fun h => absurd h HD0.out
                  have hZ2' : Hid (D.1 ≠ 0 → ∀ j, k < j → j < i + 1 → noB (divO (pwS S k j k) D) = false) := Lib.hid fun h j h1 h2 => by
                    rcases Nat.lt_or_ge j i with h3 | h3
                    · exact hZ2.out h j h1 h3
                    · have : j = i := by omega
                      subst this
                      rw [hU.out, hm]; rfl
                  obtain ⟨g3', cap4', hv5, e5, f3s, f4s, ⟨v3s, e3s⟩, ⟨v4s, e4s⟩, hg35, hput5⟩ := HO5.out.put (j := i) (by rw [rowL_len]; exact hli)
                  obtain ⟨rfl, rfl⟩ : g3 = g3' ∧ cap4 = cap4' := by injection hv5 with h1 h2 h3; injection h1 with h1; injection h1 with h1; exact ⟨h1, h3⟩
                  have HO6 := Lib.hid (hput5 zz (inF_ok hzi.out))
                  rw [← hXi.out, pvXu_step (pwS S k) hli hi0, hXi.out] at HO6
                  have hb5 := HB5.out
                  subst hR0
                  subst hC0
                  clear hm hv5 e5 hput5
                  go_wp2_with fail
                  go_roundw
                  case rel => exact ⟨i + 1, by omega, by omega, by go_num, HO6, Lib.hid (blkset (blkset HK5.out (by show W0.heap.size ≠ g3; omega) _) (by show W0.heap.size ≠ g3; omega) _), belA, hZ1', hZ2'⟩
                  case measure => simp [intOf]; omega
          · have e : i = n := by omega
            subst e
            have hE : Hid (pvE (pwS S k) i k = false) := Lib.hid (by
              unfold pvE
              rw [hD.out]
              by_cases h0 : D.1 = 0
              · rw [pvFs_f (hZ1.out h0)]; simp [hneg]
              · simp [hneg, h0])
            have hXZ : Hid (rowZ i (pvXz (pwS S k) k) = false) := Lib.hid (pvXz_f fun h j h1 h2 => by rw [hD.out] at h ⊢; exact hZ2.out h j h1 h2)
            have HPlt := Lib.hid HP.out.lt
            have HSP : Hid (SpI w.heap.size w.heap.size W0.heap.size W0 D vP vR (.slice (some ⟨a1, o1, none⟩) i cap1) (pwPs S k) (pwRs S i k) vP vR FR (rowL i (pvX (pwS S k) k)) (.slice (some ⟨g3, 0, none⟩) i cap4) [g3] V0) := Lib.hid
              ⟨bblk hBi zb J0.out, hK.out, HP.out.below hBi, by rw [← pvXu_end]; exact hO.out.move (by omega) (fun _ _ _ => rfl), Moves.below hBi, hBi.mono hzw, fun q hq => ⟨.inl hq, by have := (HPlt.out.1 q hq).2; omega, by have := (HPlt.out.1 q hq).2; simp; omega⟩, fun q hq => ⟨.inl hq, by have := (HPlt.out.2.1 q hq).2; omega, by have := (HPlt.out.2.1 q hq).2; simp; omega⟩, zb, Nat.le_refl _, Nat.le_refl _⟩
            have mm0 := (blk5p HSP.out.1).1.1
            have hDok : Hid (okFr D) := Lib.hid (inF_ok HKK.out)
            have hl1 : (pwPs S k).length < 1000 := by rw [pwPs_len]; omega
            have hl2 : (pwRs S i k).length < 1000 := by rw [pwRs_len]; omega
            have hFF : Hid (∀ q ∈ [g3], q ∉ FR) := Lib.hid fun q hq hm => by
              have := (HPlt.out.2.2 q hm).2
              simp at hq
              omega
            clear m2
            go_wp2_with fail
            (refine last_region (S := (fun w' => w'.cell? ⟨w.heap.size, 0, none⟩ = some vP ∧ w'.cell? ⟨W0.heap.size, 0, none⟩ = some (.int .i64 D.1) ∧ w'.cell? ⟨W0.heap.size, 1, none⟩ = some (.int .i64 D.2))) 10 (by kernel_rfl) ?_ (fun hHeld => ?_); (focus (first | exact hS | exact ⟨bkeep (bal (Below.refl _ _) _) hHeld.1, bkeep (bal (Below.refl _ _) _) hHeld.2.1, bkeep (bal (Below.refl _ _) _) hHeld.2.2⟩ | (simp [*, go_sem]; done) | fail)); refine last_take 0 (some 102) (v := ?_) rfl (by kernel_rfl) (by kernel_rfl) (by kernel_rfl) (by kernel_rfl) (by decide) (by kernel_rfl) (fun _ _ _ h => h) (Or.inl ⟨by kernel_rfl, ?_⟩) (by assumption) ?_; rotate_left; (focus (intro w' hSw; (try dsimp only at hSw); go_simp; (try with_reducible rfl))); (try simp only [Act.put, nA, nB, nC]); refine last_take 1 (some 103) (v := ?_) rfl (by kernel_rfl) (by kernel_rfl) (by kernel_rfl) (by kernel_rfl) (by decide) (by kernel_rfl) (fun _ _ _ h => h) (Or.inl ⟨by kernel_rfl, ?_⟩) (by assumption) ?_; rotate_left; (focus (intro w' hSw; (try dsimp only at hSw); go_simp; (try with_reducible rfl))); (try simp only [Act.put, nA, nB, nC]); refine last_take 2 (some 104) (v := ?_) rfl (by kernel_rfl) (by kernel_rfl) (by kernel_rfl) (by kernel_rfl) (by decide) (by kernel_rfl) (fun _ _ _ h => h) (Or.inl ⟨by kernel_rfl, ?_⟩) (by assumption) ?_; rotate_left; (focus (intro w' hSw; (try dsimp only at hSw); go_simp; (try with_reducible rfl))); (try simp only [Act.put, nA, nB, nC]); refine last_take 3 (some 105) (v := ?_) rfl (by kernel_rfl) (by kernel_rfl) (by kernel_rfl) (by kernel_rfl) (by decide) (by kernel_rfl) (fun _ _ _ h => h) (Or.inl ⟨by kernel_rfl, ?_⟩) (by assumption) ?_; rotate_left; (focus (intro w' hSw; (try dsimp only at hSw); go_simp; (try with_reducible rfl))); (try simp only [Act.put, nA, nB, nC]); refine last_take 4 (some 106) (v := ?_) rfl (by kernel_rfl) (by kernel_rfl) (by kernel_rfl) (by kernel_rfl) (by decide) (by kernel_rfl) (fun _ _ _ h => h) (Or.inl ⟨by kernel_rfl, ?_⟩) (by assumption) ?_; rotate_left; (focus (intro w' hSw; (try dsimp only at hSw); go_simp; (try with_reducible rfl))); (try simp only [Act.put, nA, nB, nC]); refine last_take 5 (some 107) (v := ?_) rfl (by kernel_rfl) (by kernel_rfl) (by kernel_rfl) (by kernel_rfl) (by decide) (by kernel_rfl) (fun _ _ _ h => h) (Or.inl ⟨by kernel_rfl, ?_⟩) (by assumption) ?_; rotate_left; (focus (intro w' hSw; (try dsimp only at hSw); go_simp; (try with_reducible rfl))); (try simp only [Act.put, nA, nB, nC]); refine last_ready (i := 6) (by kernel_rfl) rfl (fun K hK => ?_); (try go_simp); refine hK.out _ _ ?_ (fun hHeld => ?_); (focus (first | exact hS | exact ⟨bkeep (bal (Below.refl _ _) _) hHeld.1, bkeep (bal (Below.refl _ _) _) hHeld.2.1, bkeep (bal (Below.refl _ _) _) hHeld.2.2⟩ | (simp [*, go_sem]; done) | fail)); clear hK K; (try simp only [Act.put, nA, nB, nC]); refine last_ready (i := 7) (by kernel_rfl) rfl (fun K hK => ?_); (rw [if_pos (by simp [Region.wanted])]; refine HSP.out.wpP V0.heap.size (by repeat (first | with_reducible exact Below.refl _ _ | with_reducible refine bal ?_ _ | with_reducible refine bdrew1 ?_)) (by repeat (first | with_reducible assumption | with_reducible exact blknew _ _ | ((with_reducible refine blknew' _ _ _ ?_); (simp <;> omega)) | with_reducible refine blkdrew ?_ | with_reducible refine blkal ?_ _)) hDok.out hl1 (.tmp 106) (.tmp 108) rfl rfl rfl ?_; intro g1 cap5 V1 hX1 hfz1 hbl1 hcc1 hcc2; have HX1 := Lib.hid hX1; have hS := And.intro hcc1 hcc2; clear hX1); refine hK.out _ _ ?_ (fun hHeld => ?_); (focus (first | exact hS | exact ⟨bkeep (bal (Below.refl _ _) _) hHeld.1, bkeep (bal (Below.refl _ _) _) hHeld.2.1, bkeep (bal (Below.refl _ _) _) hHeld.2.2⟩ | (simp [*, go_sem]; done) | fail)); clear hK K; (try simp only [Act.put, nA, nB, nC]); refine last_take 8 (some 110) (v := ?_) rfl (by kernel_rfl) (by kernel_rfl) (by kernel_rfl) (by kernel_rfl) (by decide) (by kernel_rfl) (fun _ _ _ h => h) (Or.inl ⟨by kernel_rfl, ?_⟩) (by assumption) ?_; rotate_left; (focus (intro w' hSw; (try dsimp only at hSw); go_simp; (try with_reducible rfl))); (try simp only [Act.put, nA, nB, nC]); refine last_take 9 (some 111) (v := ?_) rfl (by kernel_rfl) (by kernel_rfl) (by kernel_rfl) (by kernel_rfl) (by decide) (by kernel_rfl) (fun _ _ _ h => h) (Or.inl ⟨by kernel_rfl, ?_⟩) (by assumption) ?_; rotate_left; (focus (intro w' hSw; (try dsimp only at hSw); go_simp; (try with_reducible rfl))); (try simp only [Act.put, nA, nB, nC]); refine last_end (by kernel_rfl) rfl (fun K hK => ?_); (try go_simp); refine hK.out _ _ ?_; clear hK K hHeld; (try simp only [Act.put, nA, nB, nC]); refine last_done (by kernel_rfl) ?_ _)
            have mm1 := (blk5p HX1.out.1).1.2.1
            have zz1 := blklt HX1.out.1
            have HXF := Lib.hid hXZ.out
            by_cases h0 : D.1 = 0
            · have hd0 : (D.1 != 0) = false := by simp [h0]
              have hG : Hid (pvG (pwS S k) i k = false) := Lib.hid (by unfold pvG; rw [hXZ.out, hD.out]; simp [h0])
              have hC2 : Hid (pvC (pwS S) i i 0 = pvC (pwS S) i (i - (k + 1)) (k + 1)) := Lib.hid (by rw [hC1.out, if_neg (by rw [hE.out]; decide), if_neg (by rw [hG.out]; decide)])
              have hS1 : Hid (pwS S (k + 1) = pwS S k) := Lib.hid (by
                show (if (pwS S k k k).1 = 0 then pwS S k else pwY (pwS S k) k) = _
                rw [hD.out, if_pos h0])
              clear h0
              go_wp2_with (first | (at_builtin; refine HX1.out.wplR _ hFF.out (by repeat (first | with_reducible exact Below.refl _ _ | with_reducible refine bal ?_ _ | with_reducible refine bdrew1 ?_)) (by repeat (first | with_reducible assumption | with_reducible exact blknew _ _ | ((with_reducible refine blknew' _ _ _ ?_); (simp <;> omega)) | with_reducible refine blkdrew ?_ | with_reducible refine blkal ?_ _)) hl2 rfl (.tmp 116) (.tmp 118) rfl rfl rfl ?_; intro g2 cap6 V2 hX2 hfz2 hbl2 hcc2; have HX2 := Lib.hid hX2; have HX21 := blkc2 HX2.out.2.1; have nn1 := HX21.1; have zz6 := blklt HX2.out.2.1; have mm2 := (blk5p HX2.out.1).1.2.2.1; have zz7 := blklt HX2.out.1; clear hX2 HX21))
              have HI2 : Hid (PwI w.heap.size w.heap.size i w (pwS S (k + 1)) (pwPs S (k + 1)) (pwRs S i (k + 1)) (V2.setCell ⟨w.heap.size, 1, none⟩ (.slice (some ⟨g2, 0, none⟩) ((pwRs S i k).length + 1) cap6))) := Lib.hid (by
                rw [hS1.out, pwPs_succ, pwRs_succ, hD.out]
                exact ⟨_, _, _, _, _, HX2.out.1, HX2.out.2.2.1, HX2.out.fin HLK.out, HB.out.trans HX2.out.2.2.2.2.2.1⟩)
              go_roundw
              case rel => exact ⟨k + 1, by omega, by go_num, HI2, hC2⟩
              case measure => simp [intOf]; omega
            · have hd0 : (D.1 != 0) = true := by simp [h0]
              have HPG : Hid (pvG (pwS S k) i k = matZ i i (pvYz (pwS S k) k)) := Lib.hid (by unfold pvG; rw [hXZ.out, hD.out]; simp [h0])
              have hS1 : Hid (pwS S (k + 1) = pwY (pwS S k) k) := Lib.hid (by
                show (if (pwS S k k k).1 = 0 then pwS S k else pwY (pwS S k) k) = _
                rw [hD.out, if_neg h0])
              clear h0
              go_wp2_with (first | (at_builtin; refine HX1.out.wplR _ hFF.out (by repeat (first | with_reducible exact Below.refl _ _ | with_reducible refine bal ?_ _ | with_reducible refine bdrew1 ?_)) (by repeat (first | with_reducible assumption | with_reducible exact blknew _ _ | ((with_reducible refine blknew' _ _ _ ?_); (simp <;> omega)) | with_reducible refine blkdrew ?_ | with_reducible refine blkal ?_ _)) hl2 rfl (.tmp 116) (.tmp 118) rfl rfl rfl ?_; intro g2 cap6 V2 hX2 hfz2 hbl2 hcc2; have HX2 := Lib.hid hX2; have HX21 := blkc2 HX2.out.2.1; have nn1 := HX21.1; have zz6 := blklt HX2.out.2.1; have mm2 := (blk5p HX2.out.1).1.2.2.1; have zz7 := blklt HX2.out.1; clear hX2 HX21))
              refine Calls.mono (l02Less_any _ i k cap1 cap4 (pwS S k) (some ⟨a1, o1, none⟩) (some ⟨g3, 0, none⟩) hn hlt HSK.out ((HX2.out.fin HLK.out).lst) HX2.out.2.2.2.1.lst) ?_
              rintro e0 w7 ⟨hb7, hres⟩
              have HP2 := Lib.hid HX2.out.2.2.1
              have HBW := Lib.hid (HB.out.trans HX2.out.2.2.2.2.2.1)
              have zw2 := blklt HX2.out.1
              have J7 := Lib.hid (bblk hb7 zw2 HX2.out.1)
              have HP7 := Lib.hid (HP2.out.below hb7)
              have HB7 := Lib.hid (HBW.out.trans (hb7.mono HBW.out.size))
              obtain ⟨_, _, _, jf2, _⟩ := blk5p J7.out
              have hlt7 := Lib.hid HP2.out.lt
              have zb7 := blklt J7.out
              rcases hres with ⟨hz, rfl⟩ | ⟨hz, A7, cap7, F7, rfl, hO7⟩
              · have hC2 : Hid (pvC (pwS S) i i 0 = 3) := Lib.hid (by rw [hC1.out, if_neg (by rw [hE.out]; decide), if_pos (by rw [HPG.out]; exact hz)])
                clear hz hb7
                go_wp2_with fail
                exact bodyPost_ret (v := .tuple #[.pointer (some ⟨w.heap.size, 0, none⟩), .int .i64 3]) (by simp [results, Try.results42, go_sem]) rfl ⟨w.heap.size, 3, 0, 0, _, _, _, _, _, _, rfl, J7.out, HP7.out, HB7.out, .inr (.inl ⟨hC2.out, rfl⟩)⟩
              · have hC2 : Hid (pvC (pwS S) i i 0 = pvC (pwS S) i (i - (k + 1)) (k + 1)) := Lib.hid (by rw [hC1.out, if_neg (by rw [hE.out]; decide), if_neg (by rw [HPG.out, hz]; decide)])
                have HI2 : Hid (PwI w.heap.size w.heap.size i w (pwS S (k + 1)) (pwPs S (k + 1)) (pwRs S i (k + 1)) (w7.setCell ⟨w.heap.size, 2, none⟩ (.slice A7 i cap7))) := Lib.hid (by
                  rw [hS1.out, pwPs_succ, pwRs_succ, hD.out]
                  refine ⟨A7, cap7, _, _, _, blkset0 J7.out 2 _, HP7.out.keep fun c _ _ hc => Below.heap_setCell _ _ _ c (by exact hc), ?_, Below.setCell HB7.out (Nat.le_refl _) _⟩
                  have hO8 := hO7.move (B' := V2.heap.size) (w' := w7.setCell ⟨w.heap.size, 2, none⟩ (.slice A7 i cap7)) (by simp) (fun c h1 _ => Below.heap_setCell _ _ _ c (by simp at h1 zw2; show c ≠ w.heap.size; omega))
                  exact LstK.own hO8 fun q hq => ⟨by have := hO8.ge q hq; simp at zw2; omega, fun e => by have := hO8.ge q hq; have := (hlt7.out.1 q e).2; simp at this; omega, fun e => by have := hO8.ge q hq; have := (hlt7.out.2.1 q e).2; simp at this; omega⟩)
                clear hz hb7 hO7
                go_wp2_with fail
                go_roundw
                case rel => exact ⟨k + 1, by omega, by go_num, HI2, hC2⟩
                case measure => simp [intOf]; omega
    · have e : k = n := by omega
      subst e
      have hC1 : Hid (pvC (pwS S) k k 0 = 0) := Lib.hid (by rw [hC.out, Nat.sub_self]; rfl)
      obtain ⟨A1, cap1, vP, vR, FR, j0, hP, _, hB⟩ := hI.out
      go_wp2_with fail
      exact bodyPost_ret (v := .tuple #[.pointer (some ⟨w.heap.size, 0, none⟩), .int .i64 0]) (by simp [results, Try.results42, go_sem]) rfl ⟨w.heap.size, 0, 0, 0, vP, vR, _, _, _, FR, rfl, j0, hP, hB, .inl ⟨hC1.out, rfl, rfl, rfl, rfl⟩⟩
end Go.Proofs.Ytekchdgpaemofaa
