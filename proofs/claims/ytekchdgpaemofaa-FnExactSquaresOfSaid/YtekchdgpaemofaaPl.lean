/- impl's row of a pivot and what is left behind it. -/
import Derived.Test.YtekchdgpaemofaaPi
import Derived.Test.YtekchdgpaemofaaRm
import Derived.Deep.CutRange
namespace Go.Proofs.Ytekchdgpaemofaa
open Go.ChangeShapes Go.WideShapes Go.ChangeAt Go.RowKit
set_option linter.unusedVariables false
set_option linter.unusedSimpArgs false
attribute [local irreducible] Calls
theorem chg_blk {F : List Nat} {w w' : World} (h : Chg F w w') {b : Nat} (hb : b ∉ F) {x : Obj} (hx : w.heap[b]? = some x) : w'.heap[b]? = some x := (h.2.2.2.2 b (blklt hx) hb).trans hx
theorem Fl.chg {b o : Nat} {w w' : World} {g : Bool} (h : Fl b o w g w') : Chg [b] w w' := (Chg.set (Chg.refl _ _) (by simp) _).trans (Chg.of h.raw _)
/-- A row under construction, beside the pivots. -/
def RowI (b b4 b5 : Nat) (w : World) (k : Nat) (d : Int × Int) (G : Bool) (vS vP vR o : Value) (xs : List (Int × Int)) (W : World) : Prop :=
  (W.heap[b]? = some (.cells #[.bool G, vS, vP, vR] 86 (0, 0)) ∧ W.heap[w.heap.size]? = some (.cells #[.pointer (some ⟨b, 0, none⟩)] 80 (0, 0)) ∧ W.heap[w.heap.size + 1]? = some (.cells #[.int .i64 k] 3 (0, 0)) ∧ W.heap[b4]? = some (.cells #[.int .i64 d.1, .int .i64 d.2] 79 (0, 0)) ∧ W.heap[b5]? = some (.cells #[o] 32 (0, 0))) ∧
  (∃ LQ, AppW shFr (w.heap.size + 2) 79 W o xs LQ []) ∧ (∀ q, o.ownBlock = some q → q ≠ b4 ∧ q ≠ b5) ∧ Chg [b] w W ∧ (b < w.heap.size ∧ w.heap.size + 1 < b4 ∧ w.heap.size + 1 < b5 ∧ b4 ≠ b5)
section
variable {b b4 b5 : Nat} {w : World} {k : Nat} {d : Int × Int} {G : Bool} {vS vP vR o : Value} {xs : List (Int × Int)} {W : World}
theorem RowI.below (h : RowI b b4 b5 w k d G vS vP vR o xs W) {W' : World} (hb : Below W.heap.size W W') : RowI b b4 b5 w k d G vS vP vR o xs W' := by
  obtain ⟨⟨h1, h2, h3, h4, h5⟩, ⟨LQ, h6⟩, h7, h8, h9⟩ := h
  refine ⟨⟨bblk hb (blklt h1) h1, bblk hb (blklt h2) h2, bblk hb (blklt h3) h3, bblk hb (blklt h4) h4, bblk hb (blklt h5) h5⟩, ⟨LQ, h6.keepF fun q hq => hb.block q (h6.lt q hq).2⟩, h7, h8.trans (Chg.of hb _), h9⟩
theorem RowI.fl (h : RowI b b4 b5 w k d G vS vP vR o xs W) {W' : World} {G' : Bool} (hf : Fl b 0 W G' W') : RowI b b4 b5 w k d G' vS vP vR o xs W' := by
  obtain ⟨⟨h1, h2, h3, h4, h5⟩, ⟨LQ, h6⟩, h7, h8, h9⟩ := h
  have hc := hf.chg
  refine ⟨⟨(hf.block b (by have := blklt h1; simpa using this)).trans (blkset0 h1 0 _), chg_blk hc (by simp; omega) h2, chg_blk hc (by simp; omega) h3, chg_blk hc (by simp; omega) h4, chg_blk hc (by simp; omega) h5⟩, ⟨LQ, h6.keepF fun q hq => hc.2.2.2.2 q (h6.lt q hq).2 (by have := (h6.lt q hq).1; simp; omega)⟩, h7, h8.trans hc, h9⟩
theorem RowI.next (h : RowI b b4 b5 w k d G vS vP vR o xs W) {W' : World} {g cap n1 : Nat} {x : Int × Int} {LQ : List Value} (hA : AppW shFr (w.heap.size + 2) 79 W' (.slice (some ⟨g, 0, none⟩) n1 cap) (xs ++ [x]) LQ []) (hg : W.grownBy W' o.ownBlock) (ha : o.ownBlock = some g ∨ g = W.heap.size) :
    RowI b b4 b5 w k d G vS vP vR (.slice (some ⟨g, 0, none⟩) n1 cap) (xs ++ [x]) (W'.setCell ⟨b5, 0, none⟩ (.slice (some ⟨g, 0, none⟩) n1 cap)) ∧ b5 < W'.heap.size ∧ W'.frozen? ⟨b5, 0, none⟩ = false ∧ W'.cell? ⟨b5, 0, none⟩ = some o := by
  obtain ⟨⟨h1, h2, h3, h4, h5⟩, ⟨LQ0, h6⟩, h7, h8, h9⟩ := h
  have kb : ∀ {q : Nat} {x : Obj}, o.ownBlock ≠ some q → W.heap[q]? = some x → W'.heap[q]? = some x := fun hq hx => (hg.block _ (blklt hx) (fun e => hq e.symm)).trans hx
  have hge : ∀ q, o.ownBlock = some q → w.heap.size + 2 ≤ q := fun q hq => (h6.lt q (.inl hq)).1
  have k5 := kb (fun e => (h7 _ e).2 rfl) h5
  have hgb : ∀ q, (Value.slice (some ⟨g, 0, none⟩) n1 cap).ownBlock = some q → q ≠ b4 ∧ q ≠ b5 := fun q hq => by
    have : g = q := by simpa [Value.ownBlock] using hq
    subst this
    rcases ha with ha | ha
    · exact h7 g ha
    · have := blklt h4; have := blklt h5; omega
  refine ⟨⟨⟨blkset (kb (fun e => by have := hge _ e; omega) h1) (by show b ≠ b5; omega) _, blkset (kb (fun e => by have := hge _ e; omega) h2) (by show w.heap.size ≠ b5; omega) _, blkset (kb (fun e => by have := hge _ e; omega) h3) (by show w.heap.size + 1 ≠ b5; omega) _, blkset (kb (fun e => (h7 _ e).1 rfl) h4) (by show b4 ≠ b5; omega) _, blkset0 k5 0 _⟩, ⟨LQ, hA.keepF fun q hq => ?_⟩, hgb, ?_, h9⟩, blklt k5, (blk1 k5).2, (blk1 k5).1⟩
  · refine Below.heap_setCell _ _ _ q ?_
    show q ≠ b5
    rcases hq with hq | hq
    · exact (hgb q hq).2
    · cases hq
  · refine ⟨hg.os.trans h8.1, hg.tape.trans h8.2.1, hg.output.trans h8.2.2.1, by rw [setCell_size]; exact Nat.le_trans h8.2.2.2.1 hg.size, fun c hc hm => ?_⟩
    rw [Below.heap_setCell _ _ _ c (by show c ≠ b5; omega), hg.block c (by have := h8.2.2.2.1; omega) (fun e => by have := hge c e.symm; omega)]
    exact h8.2.2.2.2 c hc hm
theorem RowI.start {b6 : Nat} (hb : w.heap[b]? = some (.cells #[.bool G, vS, vP, vR] 86 (0, 0))) (h0 : W.heap[w.heap.size]? = some (.cells #[.pointer (some ⟨b, 0, none⟩)] 80 (0, 0))) (h1 : W.heap[w.heap.size + 1]? = some (.cells #[.int .i64 k] 3 (0, 0)))
    (h4 : W.heap[b4]? = some (.cells #[.int .i64 d.1, .int .i64 d.2] 79 (0, 0))) (h5 : W.heap[b5]? = some (.cells #[.slice (some ⟨b6, 0, none⟩) 0 0] 32 (0, 0))) (h6 : W.heap[b6]? = some (.cells #[] 79 (0, 0))) (hB : Below w.heap.size w W) (hd : w.heap.size + 1 < b4 ∧ w.heap.size + 1 < b5 ∧ w.heap.size + 1 < b6 ∧ b4 ≠ b5 ∧ b6 ≠ b4 ∧ b6 ≠ b5) :
    RowI b b4 b5 w k d G vS vP vR (.slice (some ⟨b6, 0, none⟩) 0 0) [] W := by
  refine ⟨⟨bblk hB (blklt hb) hb, h0, h1, h4, h5⟩, ⟨[], AppW.new shFr h6 (by omega)⟩, fun q hq => ?_, Chg.of hB _, blklt hb, hd.1, hd.2.1, hd.2.2.2.1⟩
  have : b6 = q := by simpa [Value.ownBlock] using hq
  omega
end
/-- The row is whole: what comes behind it, ahead of the stores. -/
def PX (B b b4 b5 : Nat) (w : World) (k : Nat) (d : Int × Int) (G : Bool) (vS vP vR o : Value) (xs : List (Int × Int)) (Fd : List Nat) (Ps : List (Int × Int)) (Rs : List (List (Int × Int))) (vP1 vR1 : Value) (FR : List Nat) (V : World) : Prop :=
  (V.heap[b]? = some (.cells #[.bool G, vS, vP, vR] 86 (0, 0)) ∧ V.heap[w.heap.size]? = some (.cells #[.pointer (some ⟨b, 0, none⟩)] 80 (0, 0)) ∧ V.heap[w.heap.size + 1]? = some (.cells #[.int .i64 k] 3 (0, 0)) ∧ V.heap[b4]? = some (.cells #[.int .i64 d.1, .int .i64 d.2] 79 (0, 0)) ∧ V.heap[b5]? = some (.cells #[o] 32 (0, 0))) ∧
  Own shFr (w.heap.size + 2) V xs o Fd ∧ PRs B b V Ps Rs vP1 vR1 FR ∧ Moves b vP vR w V ∧ Below B w V ∧
  (∀ q, vP1.ownBlock = some q → (vP.ownBlock = some q ∨ w.heap.size ≤ q) ∧ q ≠ w.heap.size ∧ q ≠ w.heap.size + 1 ∧ q ≠ b4 ∧ q ≠ b5 ∧ q ∉ Fd) ∧ (∀ q, vR1.ownBlock = some q → (vR.ownBlock = some q ∨ w.heap.size ≤ q) ∧ q ≠ w.heap.size ∧ q ≠ w.heap.size + 1 ∧ q ≠ b4 ∧ q ≠ b5 ∧ q ∉ Fd) ∧ (b < w.heap.size ∧ w.heap.size + 1 < b4 ∧ w.heap.size + 1 < b5 ∧ b4 ≠ b5 ∧ B ≤ b)
section
variable {B b b4 b5 : Nat} {w : World} {k : Nat} {d : Int × Int} {G : Bool} {vS vP vR o : Value} {xs : List (Int × Int)} {Fd : List Nat} {Ps : List (Int × Int)} {Rs : List (List (Int × Int))} {vP1 vR1 : Value} {FR : List Nat} {V : World}
theorem PX.below (h : PX B b b4 b5 w k d G vS vP vR o xs Fd Ps Rs vP1 vR1 FR V) {V' : World} (hb : Below V.heap.size V V') : PX B b b4 b5 w k d G vS vP vR o xs Fd Ps Rs vP1 vR1 FR V' := by
  obtain ⟨⟨h1, h2, h3, h4, h5⟩, h6, h7, h8, h9, h10, h11, h12⟩ := h
  exact ⟨⟨bblk hb (blklt h1) h1, bblk hb (blklt h2) h2, bblk hb (blklt h3) h3, bblk hb (blklt h4) h4, bblk hb (blklt h5) h5⟩, h6.below (Nat.le_refl _) hb, h7.below hb, h8.trans (Moves.below (b := b) (vP := vP) (vR := vR) hb) (fun _ e => .inl e) (fun _ e => .inl e), h9.trans (hb.mono (by have := h9.size; omega)), h10, h11, h12⟩
/-- Behind a growth of another's block. -/
theorem PX.grown (h : PX B b b4 b5 w k d G vS vP vR o xs Fd Ps Rs vP1 vR1 FR V) {V' : World} {v v0 : Value} (hg : V.grownBy V' v.ownBlock) (hv : ∀ q, v.ownBlock = some q → (v0.ownBlock = some q ∨ w.heap.size ≤ q) ∧ q ≠ w.heap.size ∧ q ≠ w.heap.size + 1 ∧ q ≠ b4 ∧ q ≠ b5 ∧ q ∉ Fd) (hv0 : v0 = vP ∨ v0 = vR) (hb : ∀ q, v.ownBlock = some q → q ≠ b ∧ B ≤ q) :
    (V'.heap[b]? = some (.cells #[.bool G, vS, vP, vR] 86 (0, 0)) ∧ V'.heap[w.heap.size]? = some (.cells #[.pointer (some ⟨b, 0, none⟩)] 80 (0, 0)) ∧ V'.heap[w.heap.size + 1]? = some (.cells #[.int .i64 k] 3 (0, 0)) ∧ V'.heap[b4]? = some (.cells #[.int .i64 d.1, .int .i64 d.2] 79 (0, 0)) ∧ V'.heap[b5]? = some (.cells #[o] 32 (0, 0))) ∧
    Own shFr (w.heap.size + 2) V' xs o Fd ∧ Moves b vP vR w V' ∧ Below B w V' := by
  obtain ⟨⟨h1, h2, h3, h4, h5⟩, h6, h7, h8, h9, h10, h11, h12⟩ := h
  have kb : ∀ {q : Nat} {x : Obj}, v.ownBlock ≠ some q → V.heap[q]? = some x → V'.heap[q]? = some x := fun hq hx => (hg.block _ (blklt hx) (fun e => hq e.symm)).trans hx
  refine ⟨⟨kb (fun e => (hb _ e).1 rfl) h1, kb (fun e => (hv _ e).2.1 rfl) h2, kb (fun e => (hv _ e).2.2.1 rfl) h3, kb (fun e => (hv _ e).2.2.2.1 rfl) h4, kb (fun e => (hv _ e).2.2.2.2.1 rfl) h5⟩, ?_, ?_, ?_⟩
  · exact ⟨(shL shFr).ownKeep _ _ _ _ _ (fun c hc => hg.block c (h6.lt c hc) (fun e => (hv c e.symm).2.2.2.2.2 hc)) h6.1, h6.2⟩
  · refine ⟨⟨hg.os.trans h8.1.1, hg.tape.trans h8.1.2.1, hg.output.trans h8.1.2.2⟩, Nat.le_trans h8.2.1 hg.size, fun c hc hcb hcP hcR => ?_⟩
    rw [hg.block c (by have := h8.2.1; omega) (fun e => ?_)]
    · exact h8.2.2 c hc hcb hcP hcR
    · rcases (hv c e.symm).1 with h | h
      · rcases hv0 with rfl | rfl
        · exact hcP h
        · exact hcR h
      · omega
  · refine ⟨hg.os.trans h9.os, hg.tape.trans h9.tape, hg.output.trans h9.output, Nat.le_trans h9.size hg.size, fun c hc => ?_⟩
    rw [hg.block c (by have := h9.size; have := h12.1; have := h12.2.2.2.2; omega) (fun e => by have := (hb c e.symm).2; omega)]
    exact h9.block c hc
theorem PX.appP (h : PX B b b4 b5 w k d G vS vP vR o xs Fd Ps Rs vP1 vR1 FR V) {V' : World} {g cap n1 : Nat} {x : Int × Int} {LP : List Value} (hA : AppW shFr B 79 V' (.slice (some ⟨g, 0, none⟩) n1 cap) (Ps ++ [x]) LP []) (hg : V.grownBy V' vP1.ownBlock) (ha : vP1.ownBlock = some g ∨ g = V.heap.size) :
    PX B b b4 b5 w k d G vS vP vR o xs Fd (Ps ++ [x]) Rs (.slice (some ⟨g, 0, none⟩) n1 cap) vR1 FR V' := by
  have h0 := h
  obtain ⟨⟨h1, h2, h3, h4, h5⟩, h6, h7, h8, h9, h10, h11, h12⟩ := h
  have hlt := h7.lt
  obtain ⟨⟨LP0, p1⟩, ⟨LR, p2⟩, p3, p4, p5⟩ := h7
  obtain ⟨g1, g2, g3, g4⟩ := h0.grown hg h10 (.inl rfl) (fun q hq => ⟨(p3 q hq).1, (hlt.1 q hq).1⟩)
  have hgb : ∀ q, (Value.slice (some ⟨g, 0, none⟩) n1 cap).ownBlock = some q → g = q := fun q hq => by simpa [Value.ownBlock] using hq
  refine ⟨g1, g2, ⟨⟨LP, hA⟩, ⟨LR, p2.keepF fun q hq => hg.block q (p2.lt q hq).2 (fun e => ?_)⟩, fun q hq => ?_, p4, p5⟩, g3, g4, fun q hq => ?_, h11, h12⟩
  · rcases hq with hq | hq
    · exact (p3 q e.symm).2.2 hq
    · exact (p3 q e.symm).2.1 hq
  · have := hgb q hq
    subst this
    rcases ha with ha | ha
    · exact p3 g ha
    · refine ⟨by have := blklt h1; omega, fun hm => by have := (hlt.2.2 g hm).2; omega, fun e => by have := (hlt.2.1 g e).2; omega⟩
  · have := hgb q hq
    subst this
    rcases ha with ha | ha
    · exact h10 g ha
    · exact ⟨.inr (by have := h8.2.1; omega), by have := blklt h2; omega, by have := blklt h3; omega, by have := blklt h4; omega, by have := blklt h5; omega, fun hm => by have := h6.lt g hm; omega⟩
theorem PX.appR (h : PX B b b4 b5 w k d G vS vP vR o xs Fd Ps Rs vP1 vR1 FR V) {V' : World} {g cap n1 : Nat} {LR : List Value} (hF : ∀ q ∈ Fd, vP1.ownBlock ≠ some q) (hA : AppW (shL shFr) B 32 V' (.slice (some ⟨g, 0, none⟩) n1 cap) (Rs ++ [xs]) LR (FR ++ Fd)) (hg : V.grownBy V' vR1.ownBlock) (ha : vR1.ownBlock = some g ∨ g = V.heap.size) :
    PX B b b4 b5 w k d G vS vP vR o xs Fd Ps (Rs ++ [xs]) vP1 (.slice (some ⟨g, 0, none⟩) n1 cap) (FR ++ Fd) V' := by
  have h0 := h
  obtain ⟨⟨h1, h2, h3, h4, h5⟩, h6, h7, h8, h9, h10, h11, h12⟩ := h
  have hlt := h7.lt
  obtain ⟨⟨LP0, p1⟩, ⟨LR0, p2⟩, p3, p4, p5⟩ := h7
  obtain ⟨g1, g2, g3, g4⟩ := h0.grown hg h11 (.inr rfl) (fun q hq => ⟨p4 q hq, (hlt.2.1 q hq).1⟩)
  have hgb : ∀ q, (Value.slice (some ⟨g, 0, none⟩) n1 cap).ownBlock = some q → g = q := fun q hq => by simpa [Value.ownBlock] using hq
  refine ⟨g1, g2, ⟨⟨LP0, p1.keepF fun q hq => hg.block q (p1.lt q hq).2 (fun e => ?_)⟩, ⟨LR, hA⟩, fun q hq => ?_, fun q hq => ?_, ?_⟩, g3, g4, h10, fun q hq => ?_, h12⟩
  · rcases hq with hq | hq
    · exact (p3 q hq).2.2 e.symm
    · cases hq
  · refine ⟨(p3 q hq).1, fun hm => ?_, fun e => ?_⟩
    · rcases List.mem_append.1 hm with hm | hm
      · exact (p3 q hq).2.1 hm
      · exact hF q hm hq
    · have := hgb q e
      subst this
      rcases ha with ha | ha
      · exact (p3 g hq).2.2 ha
      · have := (hlt.1 g hq).2; omega
  · have := hgb q hq
    subst this
    rcases ha with ha | ha
    · exact p4 g ha
    · have := blklt h1; omega
  · intro hm
    rcases List.mem_append.1 hm with hm | hm
    · exact p5 hm
    · have := h6.ge b hm; omega
  · have := hgb q hq
    subst this
    rcases ha with ha | ha
    · exact h11 g ha
    · exact ⟨.inr (by have := h8.2.1; omega), by have := blklt h2; omega, by have := blklt h3; omega, by have := blklt h4; omega, by have := blklt h5; omega, fun hm => by have := h6.lt g hm; omega⟩
theorem PX.cells (h : PX B b b4 b5 w k d G vS vP vR o xs Fd Ps Rs vP1 vR1 FR V) : (V.cell? ⟨w.heap.size, 0, none⟩ = some (.pointer (some ⟨b, 0, none⟩)) ∧ V.cell? ⟨b4, 0, none⟩ = some (.int .i64 d.1) ∧ V.cell? ⟨b4, 1, none⟩ = some (.int .i64 d.2) ∧ V.cell? ⟨b5, 0, none⟩ = some o) ∧ V.cell? ⟨b, 2, none⟩ = some vP ∧ V.cell? ⟨b, 3, none⟩ = some vR := by
  obtain ⟨⟨h1, h2, h3, h4, h5⟩, _⟩ := h
  exact ⟨⟨(blk1 h2).1, (blkc2 h4).1, (blkc2 h4).2, (blk1 h5).1⟩, (blk4p h1).1.2.2.1, (blk4p h1).1.2.2.2⟩
theorem PX.wpP {V0 : World} (h : PX B b b4 b5 w k d G vS vP vR o xs Fd Ps Rs vP1 vR1 FR V0) (kk : Nat) (hb : Below V0.heap.size V0 V) {x : Int × Int} {ty : TypeId} (hk : V.heap[kk]? = some (.cells #[.int .i64 x.1, .int .i64 x.2] ty (0, 0))) (hd : okFr x) (hl : Ps.length < 1000)
    {op : Oper} {a : Act} {K : Act → World → Prop} {Q : Exit → Act → World → Prop} (s y : Operand) (ho : op.op = .call { callee := .builtin .append, args := #[s, y], argTypes := #[32, 32] }) (hs : a.eval s = vP1) (hy : a.eval y = .slice (some ⟨kk, 0, none⟩) 1 1)
    (hc : ∀ (g cap : Nat) V', PX B b b4 b5 w k d G vS vP vR o xs Fd (Ps ++ [x]) Rs (.slice (some ⟨g, 0, none⟩) (Ps.length + 1) cap) vR1 FR V' → V.grownBy V' vP1.ownBlock → K (a.put op.dst (.slice (some ⟨g, 0, none⟩) (Ps.length + 1) cap)) V') : op.wp Try.prog a V K Q := by
  have h1 := h.below hb
  obtain ⟨LP, hA⟩ := h1.2.2.1.1
  refine wp_append_fr V hA hk hd hl (by have := h1.2.2.2.2.1.size; have := h1.2.2.2.2.2.2.2; omega) s y ho hs hy ?_
  intro g cap V' hA' hg ha
  exact hc g cap V' (h1.appP hA' hg ha) hg
theorem PX.wpR {V0 : World} {Ao : Option Addr} {no co : Nat} (h : PX B b b4 b5 w k d G vS vP vR (.slice Ao no co) xs Fd Ps Rs vP1 vR1 FR V0) (kk : Nat) (hFd : ∀ q ∈ Fd, q ∉ FR) (hb : Below V0.heap.size V0 V) {ty : TypeId} (hk : V.heap[kk]? = some (.cells #[.slice Ao no co] ty (0, 0))) (hl : Rs.length < 1000)
    {op : Oper} {a : Act} {K : Act → World → Prop} {Q : Exit → Act → World → Prop} (s y : Operand) (ho : op.op = .call { callee := .builtin .append, args := #[s, y], argTypes := #[26, 26] }) (hs : a.eval s = vR1) (hy : a.eval y = .slice (some ⟨kk, 0, none⟩) 1 1)
    (hc : ∀ (g cap : Nat) V', PX B b b4 b5 w k d G vS vP vR (.slice Ao no co) xs Fd Ps (Rs ++ [xs]) vP1 (.slice (some ⟨g, 0, none⟩) (Rs.length + 1) cap) (FR ++ Fd) V' → K (a.put op.dst (.slice (some ⟨g, 0, none⟩) (Rs.length + 1) cap)) V') : op.wp Try.prog a V K Q := by
  have h1 := h.below hb
  obtain ⟨LR, hA⟩ := h1.2.2.1.2.1
  have hO : Own shFr B V xs (.slice Ao no co) Fd := ⟨h1.2.1.1, h1.2.1.2.1, fun q hq => by have := h1.2.1.ge q hq; have := h1.2.2.2.2.2.2.2; omega⟩
  refine wp_append_row V hA hk rfl hO (fun q hq => ⟨hFd q hq, fun e => (h1.2.2.2.2.2.2.1 q e).2.2.2.2.2 hq⟩) hl (by have := h1.2.2.2.2.1.size; have := h1.2.2.2.2.2.2.2; omega) s y ho hs hy ?_
  intro g cap V' hA' hg ha
  exact hc g cap V' (h1.appR (fun q hq e => (h1.2.2.2.2.2.1 q e).2.2.2.2.2 hq) hA' hg ha)
/-- Behind the stores. -/
def PE (B b b5 : Nat) (w : World) (k : Nat) (G : Bool) (vS vP vR o : Value) (xs : List (Int × Int)) (Ps : List (Int × Int)) (Rs : List (List (Int × Int))) (V : World) : Prop :=
  ∃ vP1 vR1 FR1, (V.heap[b]? = some (.cells #[.bool G, vS, vP1, vR1] 86 (0, 0)) ∧ V.heap[w.heap.size]? = some (.cells #[.pointer (some ⟨b, 0, none⟩)] 80 (0, 0)) ∧ V.heap[w.heap.size + 1]? = some (.cells #[.int .i64 k] 3 (0, 0)) ∧ V.heap[b5]? = some (.cells #[o] 32 (0, 0))) ∧
    (Lst shFr V xs o ∧ o.ownBlock ≠ some b) ∧ PRs B b V Ps Rs vP1 vR1 FR1 ∧ Moves b vP vR w V ∧ Below B w V ∧ (∀ q, vP1.ownBlock = some q → vP.ownBlock = some q ∨ w.heap.size ≤ q) ∧ (∀ q, vR1.ownBlock = some q → vR.ownBlock = some q ∨ w.heap.size ≤ q) ∧ (∃ A cap, vP1 = .slice A Ps.length cap) ∧ ∃ A cap, vR1 = .slice A Rs.length cap
theorem PX.stored (h : PX B b b4 b5 w k d G vS vP vR o xs Fd Ps Rs vP1 vR1 FR V) (ho : o.ownBlock ≠ some b) : PE B b b5 w k G vS vP vR o xs Ps Rs ((V.setCell ⟨b, 2, none⟩ vP1).setCell ⟨b, 3, none⟩ vR1) ∧ (V.frozen? ⟨b, 2, none⟩ = false ∧ V.frozen? ⟨b, 3, none⟩ = false ∧ b < V.heap.size) := by
  obtain ⟨⟨h1, h2, h3, h4, h5⟩, h6, h7, h8, h9, h10, h11, h12⟩ := h
  have hk : ∀ c, c ≠ b → ((V.setCell ⟨b, 2, none⟩ vP1).setCell ⟨b, 3, none⟩ vR1).heap[c]? = V.heap[c]? := fun c hc => by
    rw [Below.heap_setCell _ _ _ c (by exact hc), Below.heap_setCell _ _ _ c (by exact hc)]
  have hC : Chg [b] V ((V.setCell ⟨b, 2, none⟩ vP1).setCell ⟨b, 3, none⟩ vR1) := ((Chg.refl _ _).set (by simp) _).set (by simp) _
  refine ⟨⟨vP1, vR1, FR, ⟨blkset0 (blkset0 h1 2 _) 3 _, (hk _ (by omega)).trans h2, (hk _ (by omega)).trans h3, (hk _ (by omega)).trans h5⟩, ⟨(h6.chg hC (fun c hc => by have := h6.ge c hc; simp; omega)).lst, ho⟩, h7.keep fun c _ _ hc => hk c hc, h8.trans (Moves.of (vP := vP) (vR := vR) hC) (fun _ e => .inl e) (fun _ e => .inl e), h9.trans (hC.below (by simpa using h12.2.2.2.2) (by have := blklt h1; omega)), fun q hq => (h10 q hq).1, fun q hq => (h11 q hq).1, h7.form.1, h7.form.2⟩, (blk4p h1).2.2.2.1, (blk4p h1).2.2.2.2, blklt h1⟩
theorem RowI.px {o : Value} (h : RowI b b4 b5 w k d G vS vP vR o xs V) (hP : PRs B b w Ps Rs vP vR FR) (hB : B ≤ b) : ∃ Fd, PX B b b4 b5 w k d G vS vP vR o xs Fd Ps Rs vP vR FR V ∧ ∀ q ∈ Fd, q ∉ FR := by
  obtain ⟨h1, ⟨LQ, h6⟩, h7, h8, hb, h9⟩ := h
  obtain ⟨A, cap, Fd, e, hO⟩ := AppS.own ⟨_, _, h6⟩
  have hlt := hP.lt
  refine ⟨Fd, ⟨h1, hO, hP.keep fun c hc hl hne => h8.2.2.2.2 c hl (by simpa using hne), Moves.of h8, h8.below (by simpa using hB) (by omega), fun q hq => ?_, fun q hq => ?_, hb, h9.1, h9.2.1, h9.2.2, hB⟩, fun q hq hm => ?_⟩
  · have := (hlt.1 q hq).2
    exact ⟨.inl hq, by omega, by omega, by omega, by omega, fun hm => by have := hO.ge q hm; omega⟩
  · have := (hlt.2.1 q hq).2
    exact ⟨.inl hq, by omega, by omega, by omega, by omega, fun hm => by have := hO.ge q hm; omega⟩
  · have := (hlt.2.2 q hm).2
    have := hO.ge q hq
    omega
end
theorem pvX_low {S : Nat → Nat → Int × Int} {k l : Nat} (h : l ≤ k) : pvX S k l = unT l k ∧ pvXz S k l = false := by
  refine ⟨by unfold pvX unT; rw [if_pos h], by unfold pvXz; simp; omega⟩
theorem pvX_nil {S : Nat → Nat → Int × Int} {k l : Nat} (h : ¬ l ≤ k) (h0 : (S k k).1 = 0) : pvX S k l = (0, 1) ∧ pvXz S k l = false := by
  refine ⟨by unfold pvX; rw [if_neg h, if_pos h0], by unfold pvXz; simp [h0]⟩
theorem pvX_div {S : Nat → Nat → Int × Int} {k l : Nat} (h : ¬ l ≤ k) (h0 : (S k k).1 ≠ 0) : pvX S k l = kD (divO (S l k) (S k k)) ∧ pvXz S k l = noB (divO (S l k) (S k k)) := by
  refine ⟨by unfold pvX; rw [if_neg h, if_neg h0], by unfold pvXz; simp [h0]; omega⟩
/-- What is left behind a step. -/
def pvN (S : Nat → Nat → Int × Int) (k : Nat) : Nat → Nat → Int × Int := if (S k k).1 = 0 then S else pvY S k
theorem pvFills {Wm : World} {b b5 s0 n k cap co : Nat} {A Ao : Option Addr} {G : Bool} {S : Nat → Nat → Int × Int} {vP vR : Value} (hn : n ≤ 8) (hk : k < n) (hS : ∀ i, i < n → ∀ j, j < n → inF (S i j))
    (h0 : Wm.heap[b]? = some (.cells #[.bool G, .slice A n cap, vP, vR] 86 (0, 0))) (h1 : Wm.heap[s0]? = some (.cells #[.pointer (some ⟨b, 0, none⟩)] 80 (0, 0))) (h2 : Wm.heap[s0 + 1]? = some (.cells #[.int .i64 k] 3 (0, 0))) (h5 : Wm.heap[b5]? = some (.cells #[.slice Ao n co] 32 (0, 0)))
    (hL : LstK b vP vR Wm (matL n n S) (.slice A n cap)) (hLr : Lst shFr Wm (rowL n (pvX S k)) (.slice Ao n co)) (hob : (Value.slice Ao n co).ownBlock ≠ some b) (hd : b < s0 ∧ s0 + 1 < b5) :
    Fills 126 #[.pointer (some ⟨s0 + 1, 0, none⟩), .pointer (some ⟨s0, 0, none⟩), .pointer (some ⟨b5, 0, none⟩)] n Wm.heap.size (fun g W => Fl b 0 Wm g W) (pvY S k) (pvYz S k) := by
  intro W g i j hi hj hN hR
  have hs : Wm.cell? ⟨b, 0, none⟩ = some (.bool G) := (blk4p h0).1.1
  have kp : ∀ {a : Addr} {u : Value}, (∀ x, u ≠ .bool x) → Wm.cell? a = some u → W.cell? a = some u := fun hu ha => hR.keep hs hu ha
  have kb : W.heap[b]? = some (.cells #[.bool g, .slice A n cap, vP, vR] 86 (0, 0)) := (hR.block b (by simpa using blklt h0)).trans (blkset0 h0 0 _)
  have k1 := kp (by simp) (blk1 h1).1
  have k2 := kp (by simp) (blk1 h2).1
  have k5 := kp (by simp) (blk1 h5).1
  obtain ⟨a1, o1, r1, p1, d1, rfl, c1, c2, _, _, n1, n2, q1, x1, x2⟩ := left_apart hL hn hS hi hj
  by_cases hij : i ≤ k ∨ j ≤ k
  · have e1 : pvY S k i j = S i j := by unfold pvY; rw [if_pos hij]
    have e2 : pvYz S k i j = false := by unfold pvYz; rw [if_pos hij]
    rw [e1, e2]
    refine (row1_old W b (s0 + 1) s0 b5 a1 o1 cap r1 p1 d1 n i j k g (S i j) vP vR hi hj hk hn hij kb k2 k1 c1 c2 (kp (by simp) q1) (kp (by simp) x1) (kp (by simp) x2)).mono ?_
    rintro e W' ⟨he, hb⟩
    exact ⟨he, by rw [Bool.or_false]; exact hR.below hb, hb.size, fun c _ h2 => hb.block c h2⟩
  · obtain ⟨a1', o1', r3, p3, d3, e9, _, c4, _, _, _, n3, q3, y1, y2⟩ := left_apart hL hn hS (i := k) (j := j) hk hj
    injection e9 with e9
    injection e9 with e9 e10
    subst e9
    subst e10
    obtain ⟨A0, c0, e9, hc0, _, _, hel⟩ := lstFraction hLr
    injection e9 with e9 _ e11
    subst e9
    subst e11
    rw [rowL_len] at hc0 hel
    obtain ⟨r2, p2, rfl, hel2⟩ := hel (by omega)
    obtain ⟨d, hd0, _, z1, z2⟩ := hel2 i hi
    have hdd : d = pvX S k i := by
      unfold rowL at hd0
      rw [List.getElem?_map, List.getElem?_range hi] at hd0
      exact (Option.some.inj hd0).symm
    subst hdd
    have n4 : r2 ≠ b := fun e => hob (by simp [Value.ownBlock, e])
    have e1 : pvY S k i j = kD (subO (S i j) (kD (mulO (pvX S k i) (S k j)))) := by unfold pvY; rw [if_neg hij]; rfl
    have e2 : pvYz S k i j = (noB (mulO (pvX S k i) (S k j)) || noB (subO (S i j) (kD (mulO (pvX S k i) (S k j))))) := by unfold pvYz; rw [if_neg hij]; rfl
    rw [e1, e2]
    refine (row1_lit W b (s0 + 1) s0 b5 a1 o1 cap r1 p1 d1 r2 p2 co r3 p3 d3 n i j k g (pvX S k i) (S i j) (S k j) vP vR hi hj hk hn (by omega) (by omega) kb k2 k1 k5 c1 c2 hc0 c4 (by omega) (by omega) (by omega) n1 n2 n4 n3 (kp (by simp) q1) (kp (by simp) q3) (kp (by simp) x1) (kp (by simp) x2) (kp (by simp) z1) (kp (by simp) z2) (kp (by simp) y1) (kp (by simp) y2) (hS i hi j hj) (hS k hk j hj) (pvX_in hS hk hi)).mono ?_
    rintro e W' ⟨he, hb⟩
    refine ⟨he, ?_, by have := hb.size; rwa [setCell_size] at this, fun c h1 h2 => ?_⟩
    · rw [← Bool.or_assoc]
      exact Fl.trans hR hb
    · rw [hb.block c (by simpa using h2)]
      exact Below.heap_setCell W _ _ c (by have := blklt h0; simp; omega)
set_option maxHeartbeats 4000000 in
theorem row_any (w : World) (B b n k cap : Nat) (g : Bool) (S : Nat → Nat → Int × Int) (A : Option Addr) (Ps : List (Int × Int)) (Rs : List (List (Int × Int))) (vP vR : Value) (FR : List Nat) (hn : n ≤ 8) (hk : k < n) (hB : B ≤ b) (hb : w.heap[b]? = some (.cells #[.bool g, .slice A n cap, vP, vR] 86 (0, 0)))
    (hP : PRs B b w Ps Rs vP vR FR) (hl1 : Ps.length ≤ 8) (hl2 : Rs.length ≤ 8) (hL : LstK b vP vR w (matL n n S) (.slice A n cap)) (hS : ∀ i, i < n → ∀ j, j < n → inF (S i j)) :
    Calls Try.prog 79 #[.pointer (some ⟨b, 0, none⟩), .int .i64 k] w fun e w' => e = .returned (.tuple #[]) ∧ PvI B b n w (g || pvG S n k) (pvN S k) (Ps ++ [S k k]) (Rs ++ [rowL n (pvX S k)]) w' := by
  have HS := Lib.hid hS
  have HP := Lib.hid hP
  have HL := Lib.hid hL
  have KB := Lib.hid hb
  have y0 := blklt hb
  obtain ⟨⟨b0, b1, b2, b3⟩, f0, f1, f2, f3⟩ := blk4p hb
  obtain ⟨a1, o1, r3, p3, d3, rfl, k1, k4, za1, zr3, q3, y1, y2⟩ := left_at hL.lst hn hS (i := k) (j := k) hk hk
  have hk8 : (k : Int) < (n : Int) := by omega
  have hn0 : (0 : Int) < (n : Int) := by omega
  have HKK := Lib.hid (hS k hk k hk)
  obtain ⟨D, hD⟩ : ∃ D, Hid (S k k = D) := ⟨_, Lib.hid rfl⟩
  rw [hD.out] at y1 y2
  clear hS hP hL hb
  go_enter Try.func79, Try.ntmps79
  go_upto_region 2 with fail
  go_cut [4, 5] from 4 to 17 (fun s4 s5 wx => ∃ b4 b5 b6 : Nat, s4 = .pointer (some ⟨b4, 0, none⟩) ∧ s5 = .pointer (some ⟨b5, 0, none⟩) ∧ RowI b b4 b5 w k D g (.slice (some ⟨a1, o1, none⟩) n cap) vP vR (.slice (some ⟨b6, 0, none⟩) 0 0) [] wx)
  case first =>
    go_region
    all_goals (
      go_wp2_with fail
      go_meet
      first
        | (refine ⟨_, _, w.heap.size + 1 + 1, rfl, rfl, RowI.start KB.out ?_ ?_ ?_ ?_ ?_ ?_ ?_⟩ <;> first | (((repeat (first | with_reducible assumption | with_reducible exact blknew _ _ | ((with_reducible refine blknew' _ _ _ ?_); (simp <;> omega)) | with_reducible refine blkdrew ?_ | with_reducible refine blkal ?_ _))); done) | (with_reducible refine bdrew1 ?_; exact belA) | (refine ⟨?_, ?_, ?_, ?_, ?_, ?_⟩ <;> omega))
        | (refine ⟨_, _, w.heap.size + 1 + 1 + 1, rfl, rfl, RowI.start KB.out ?_ ?_ ?_ ?_ ?_ ?_ ?_⟩ <;> first | (((repeat (first | with_reducible assumption | with_reducible exact blknew _ _ | ((with_reducible refine blknew' _ _ _ ?_); (simp <;> omega)) | with_reducible refine blkdrew ?_ | with_reducible refine blkal ?_ _))); done) | (with_reducible refine bdrew1 ?_; exact belA) | (refine ⟨?_, ?_, ?_, ?_, ?_, ?_⟩ <;> omega))
        | (refine ⟨_, _, w.heap.size + 1 + 1 + 1 + 1, rfl, rfl, RowI.start KB.out ?_ ?_ ?_ ?_ ?_ ?_ ?_⟩ <;> first | (((repeat (first | with_reducible assumption | with_reducible exact blknew _ _ | ((with_reducible refine blknew' _ _ _ ?_); (simp <;> omega)) | with_reducible refine blkdrew ?_ | with_reducible refine blkal ?_ _))); done) | (with_reducible refine bdrew1 ?_; exact belA) | (refine ⟨?_, ?_, ?_, ?_, ?_, ?_⟩ <;> omega)))
  case rest =>
    obtain ⟨b4, b5, b6, rfl, rfl, hR0⟩ := hcut
    obtain ⟨W1, rfl⟩ : ∃ z, z = wc := ⟨_, rfl⟩
    have HR0 := Lib.hid hR0
    obtain ⟨⟨j0, j1, j2, j4, j5⟩, _, _, _, hd1, hd2, hd3, hd4⟩ := hR0
    obtain ⟨⟨c0, c1, c2, c3⟩, _⟩ := blk4p j0
    have cp := (blk1 j1).1
    have ck := (blk1 j2).1
    have zb := blklt j0
    have z0 := blklt j1
    have z1 := blklt j2
    have z4 := blklt j4
    have z5 := blklt j5
    clear j0 j1 j2 j4 j5 b0 b1 b2 b3 f0 f1 f2 f3 q3 y1 y2
    go_wp2_with fail
    go_loopw [23] (fun i wr => ∃ (l : Nat) (o : Value), l ≤ n ∧ i = .int .i64 l ∧ Hid (RowI b b4 b5 w k D (g || rowZ l (pvXz S k)) (.slice (some ⟨a1, o1, none⟩) n cap) vP vR o (rowL l (pvX S k)) wr)) (fun i _ => n - (intOf i).toNat)
    case atStart => exact ⟨0, _, Nat.zero_le _, rfl, Lib.hid (by rw [show rowZ 0 (pvXz S k) = false from rfl, Bool.or_false]; exact HR0.out)⟩
    case round =>
      obtain ⟨l, o, hl, rfl, hRI⟩ := hrel
      obtain ⟨W0, rfl⟩ : ∃ x, x = wr := ⟨_, rfl⟩
      obtain ⟨⟨j0, j1, j2, j4, j5⟩, _, _, _, _⟩ := hRI.out
      obtain ⟨⟨c0, c1, c2, c3⟩, f0, _⟩ := blk4p j0
      have cp := (blk1 j1).1
      have ck := (blk1 j2).1
      obtain ⟨c4, c4'⟩ := blkc2 j4
      have c5 := (blk1 j5).1
      have zb := blklt j0
      have z0 := blklt j1
      have z1 := blklt j2
      have z4 := blklt j4
      have z5 := blklt j5
      have hMv : Hid (Moves b vP vR w W0) := Lib.hid (Moves.of hRI.out.2.2.2.1)
      clear j0 j1 j2 j4 j5
      by_cases hlt : l < n
      · have hl8 : (l : Int) < (n : Int) := by omega
        have hstep : Hid (rowL (l + 1) (pvX S k) = rowL l (pvX S k) ++ [pvX S k l]) := Lib.hid (rowL_succ _ _)
        have hflag : Hid ((g || rowZ (l + 1) (pvXz S k)) = ((g || rowZ l (pvXz S k)) || pvXz S k l)) := Lib.hid (by rw [rowZ_succ, Bool.or_assoc])
        obtain ⟨G, hG⟩ : ∃ G, Hid ((g || rowZ l (pvXz S k)) = G) := ⟨_, Lib.hid rfl⟩
        have hXI := Lib.hid (inF_ok (pvX_in HS.out hk hlt))
        have hlen : Hid ((rowL l (pvX S k)).length < 1000) := Lib.hid (by rw [rowL_len]; omega)
        rw [hG.out] at hRI hflag c0
        have HNE : Hid (∀ q, (q < w.heap.size + 2 ∨ q = b4 ∨ q = b5) → o.ownBlock ≠ some q) := Lib.hid fun q hq e => by
          obtain ⟨_, hA⟩ := hRI.out.2.1
          have h1 := (hA.lt q (.inl e)).1
          have h2 := hRI.out.2.2.1 q e
          omega
        by_cases hlk : l ≤ k
        · have hg1 : (l : Int) ≤ (k : Int) := by omega
          obtain ⟨e1, e2⟩ := pvX_low (S := S) hlk
          rw [e1] at hstep hXI
          rw [e2, Bool.or_false] at hflag
          clear e1 e2 hlk
          obtain ⟨U, hU⟩ : ∃ U, Hid (unT l k = U) := ⟨_, Lib.hid rfl⟩
          have HUN : Hid (∀ w', Calls Try.prog 124 #[.int .i64 l, .int .i64 k] w' fun e w'' => e = .returned (.agg #[.int .i64 U.1, .int .i64 U.2]) ∧ Below w'.heap.size w' w'') := Lib.hid fun w' => by
            have := unit_any w' l k
            rw [hU.out] at this
            exact this
          rw [hU.out] at hstep hXI
          go_wp2_with fail
          have HKP : Hid (∀ V w' : World, Below V.heap.size V w' → (fun w' => w'.cell? ⟨b5, 0, none⟩ = some (o) ∧ w'.cell? ⟨w.heap.size + 1, 0, none⟩ = some (.int .i64 k)) V → (fun w' => w'.cell? ⟨b5, 0, none⟩ = some (o) ∧ w'.cell? ⟨w.heap.size + 1, 0, none⟩ = some (.int .i64 k)) w') := Lib.hid fun V w' hb h => by
            simp only at h ⊢
            exact ⟨bkeep hb h.1, bkeep hb h.2⟩
          have HGR : Hid (∀ V w' : World, V.grownBy w' o.ownBlock → (fun w' => w'.cell? ⟨b5, 0, none⟩ = some (o) ∧ w'.cell? ⟨w.heap.size + 1, 0, none⟩ = some (.int .i64 k)) V → (fun w' => w'.cell? ⟨b5, 0, none⟩ = some (o) ∧ w'.cell? ⟨w.heap.size + 1, 0, none⟩ = some (.int .i64 k)) w') := Lib.hid fun V w' hg h => by
            simp only at h ⊢
            exact ⟨growK hg (HNE.out _ (by simp <;> omega)) h.1, growK hg (HNE.out _ (by simp <;> omega)) h.2⟩
          go_wp2_with fail
          (refine last_region (S := (fun w' => w'.cell? ⟨b5, 0, none⟩ = some (o) ∧ w'.cell? ⟨w.heap.size + 1, 0, none⟩ = some (.int .i64 k))) 6 (by kernel_rfl) ?_ (fun hHeld => ?_); (focus (first | exact hS | exact HKP.out _ _ (bal (Below.refl _ _) _) hHeld | (simp [*, go_sem]; done) | fail)); refine last_take 0 (some 48) (v := ?_) rfl (by kernel_rfl) (by kernel_rfl) (by kernel_rfl) (by kernel_rfl) (by decide) (by kernel_rfl) (fun _ _ _ h => h) (Or.inl ⟨by kernel_rfl, ?_⟩) (by assumption) ?_; rotate_left; (focus (intro w' hSw; (try dsimp only at hSw); go_simp; (try with_reducible rfl))); (try simp only [Act.put, nA, nB, nC]); refine last_take 1 (some 49) (v := ?_) rfl (by kernel_rfl) (by kernel_rfl) (by kernel_rfl) (by kernel_rfl) (by decide) (by kernel_rfl) (fun _ _ _ h => h) (Or.inl ⟨by kernel_rfl, ?_⟩) (by assumption) ?_; rotate_left; (focus (intro w' hSw; (try dsimp only at hSw); go_simp; (try with_reducible rfl))); (try simp only [Act.put, nA, nB, nC]); refine last_take 2 (some 50) (v := ?_) rfl (by kernel_rfl) (by kernel_rfl) (by kernel_rfl) (by kernel_rfl) (by decide) (by kernel_rfl) (fun _ _ _ h => h) (Or.inl ⟨by kernel_rfl, ?_⟩) (by assumption) ?_; rotate_left; (focus (intro w' hSw; (try dsimp only at hSw); go_simp; (try with_reducible rfl))); (try simp only [Act.put, nA, nB, nC]); refine last_ready (i := 3) (by kernel_rfl) rfl (fun K hK => ?_); go_simp; (go_at_call 124; refine Calls.mono (HUN.out _) ?_; rintro e0 w3 ⟨rfl, hb⟩; have hS := HKP.out _ _ hb hHeld; have HR3 := Lib.hid (hRI.out.below (show Below W0.heap.size W0 w3 from Below.trans belA (hb.mono (by first | omega | (simp <;> omega))))); clear hb); go_wp2_with fail; refine hK.out _ _ ?_ (fun hHeld => ?_); (focus (first | exact hS | exact HKP.out _ _ (bal (Below.refl _ _) _) hHeld | (simp [*, go_sem]; done) | fail)); clear hK K; (try simp only [Act.put, nA, nB, nC]); refine last_ready (i := 4) (by kernel_rfl) rfl (fun K hK => ?_); (try go_simp); refine hK.out _ _ ?_ (fun hHeld => ?_); (focus (first | exact hS | exact HKP.out _ _ (bal (Below.refl _ _) _) hHeld | (simp [*, go_sem]; done) | fail)); clear hK K; (try simp only [Act.put, nA, nB, nC]); refine last_ready (i := 5) (by kernel_rfl) rfl (fun K hK => ?_); (rw [if_pos (by simp [Region.wanted])]; have HR4 := Lib.hid (HR3.out.below (show Below w3.heap.size w3 _ from bal (Below.refl _ _) (.cells #[.int .i64 U.1, .int .i64 U.2] 79))); obtain ⟨LQ, hA⟩ := HR4.out.2.1; refine wp_append_fr _ hA (k := w3.heap.size) (d := U) (blknew _ _) hXI.out hlen.out (by have := blklt HR4.out.1.2.2.2.1; omega) (.tmp 48) (.tmp 52) rfl rfl rfl ?_; intro g1 cap1 w4 hA4 hg4 ha4; have HN := Lib.hid (HR4.out.next hA4 hg4 ha4); have hS := HGR.out _ _ hg4 hHeld; have hlt5 := HN.out.2.1; have hfz5 := HN.out.2.2.1; clear hA4 hg4 ha4 hA); refine hK.out _ _ ?_ (fun hHeld => ?_); (focus (first | exact hS | exact HKP.out _ _ (bal (Below.refl _ _) _) hHeld | (simp [*, go_sem]; done) | fail)); clear hK K; (try simp only [Act.put, nA, nB, nC]); refine last_end (by kernel_rfl) rfl (fun K hK => ?_); (try go_simp); refine hK.out _ _ ?_; clear hK K hHeld; (try simp only [Act.put, nA, nB, nC]); refine last_done (by kernel_rfl) ?_ _)
          have HN1 := Lib.hid HN.out.1
          go_wp2_with fail
          go_roundw
          case rel => exact ⟨l + 1, _, by omega, by go_num, Lib.hid (by rw [hstep.out, hflag.out]; exact HN1.out)⟩
          case measure => simp [intOf]; omega
        · have hg1 : ¬ (l : Int) ≤ (k : Int) := by omega
          by_cases h0 : D.1 = 0
          · have hg2 : (D.1 == 0) = true := by simp [h0]
            obtain ⟨e1, e2⟩ := pvX_nil (S := S) hlk (by rw [hD.out]; exact h0)
            rw [e1] at hstep hXI
            rw [e2, Bool.or_false] at hflag
            clear e1 e2 hlk h0
            obtain ⟨U, hU⟩ : ∃ U : Int × Int, Hid (((0 : Int), (1 : Int)) = U) := ⟨_, Lib.hid rfl⟩
            have HUN : Hid (∀ w', Calls Try.prog 93 #[] w' fun e w'' => e = .returned (.agg #[.int .i64 U.1, .int .i64 U.2]) ∧ Below w'.heap.size w' w'') := Lib.hid fun w' => by
              have := zero_any w'
              rw [← hU.out]
              exact this
            rw [hU.out] at hstep hXI
            have HKP : Hid (∀ V w' : World, Below V.heap.size V w' → (fun w' => w'.cell? ⟨b5, 0, none⟩ = some (o)) V → (fun w' => w'.cell? ⟨b5, 0, none⟩ = some (o)) w') := Lib.hid fun V w' hb h => by
              simp only at h ⊢
              exact bkeep hb h
            have HGR : Hid (∀ V w' : World, V.grownBy w' o.ownBlock → (fun w' => w'.cell? ⟨b5, 0, none⟩ = some (o)) V → (fun w' => w'.cell? ⟨b5, 0, none⟩ = some (o)) w') := Lib.hid fun V w' hg h => by
              simp only at h ⊢
              exact growK hg (HNE.out _ (by simp <;> omega)) h
            go_wp2_with fail
            (refine last_region (S := (fun w' => w'.cell? ⟨b5, 0, none⟩ = some (o))) 4 (by kernel_rfl) ?_ (fun hHeld => ?_); (focus (first | exact hS | exact HKP.out _ _ (bal (Below.refl _ _) _) hHeld | (simp [*, go_sem]; done) | fail)); refine last_take 0 (some 58) (v := ?_) rfl (by kernel_rfl) (by kernel_rfl) (by kernel_rfl) (by kernel_rfl) (by decide) (by kernel_rfl) (fun _ _ _ h => h) (Or.inl ⟨by kernel_rfl, ?_⟩) (by assumption) ?_; rotate_left; (focus (intro w' hSw; (try dsimp only at hSw); go_simp; (try with_reducible rfl))); (try simp only [Act.put, nA, nB, nC]); refine last_ready (i := 1) (by kernel_rfl) rfl (fun K hK => ?_); go_simp; (go_at_call 93; refine Calls.mono (HUN.out _) ?_; rintro e0 w3 ⟨rfl, hb⟩; have hS := HKP.out _ _ hb hHeld; have HR3 := Lib.hid (hRI.out.below (show Below W0.heap.size W0 w3 from Below.trans belA (hb.mono (by first | omega | (simp <;> omega))))); clear hb); go_wp2_with fail; refine hK.out _ _ ?_ (fun hHeld => ?_); (focus (first | exact hS | exact HKP.out _ _ (bal (Below.refl _ _) _) hHeld | (simp [*, go_sem]; done) | fail)); clear hK K; (try simp only [Act.put, nA, nB, nC]); refine last_ready (i := 2) (by kernel_rfl) rfl (fun K hK => ?_); (try go_simp); refine hK.out _ _ ?_ (fun hHeld => ?_); (focus (first | exact hS | exact HKP.out _ _ (bal (Below.refl _ _) _) hHeld | (simp [*, go_sem]; done) | fail)); clear hK K; (try simp only [Act.put, nA, nB, nC]); refine last_ready (i := 3) (by kernel_rfl) rfl (fun K hK => ?_); (rw [if_pos (by simp [Region.wanted])]; have HR4 := Lib.hid (HR3.out.below (show Below w3.heap.size w3 _ from bal (Below.refl _ _) (.cells #[.int .i64 U.1, .int .i64 U.2] 79))); obtain ⟨LQ, hA⟩ := HR4.out.2.1; refine wp_append_fr _ hA (k := w3.heap.size) (d := U) (blknew _ _) hXI.out hlen.out (by have := blklt HR4.out.1.2.2.2.1; omega) (.tmp 58) (.tmp 60) rfl rfl rfl ?_; intro g1 cap1 w4 hA4 hg4 ha4; have HN := Lib.hid (HR4.out.next hA4 hg4 ha4); have hS := HGR.out _ _ hg4 hHeld; have hlt5 := HN.out.2.1; have hfz5 := HN.out.2.2.1; clear hA4 hg4 ha4 hA); refine hK.out _ _ ?_ (fun hHeld => ?_); (focus (first | exact hS | exact HKP.out _ _ (bal (Below.refl _ _) _) hHeld | (simp [*, go_sem]; done) | fail)); clear hK K; (try simp only [Act.put, nA, nB, nC]); refine last_end (by kernel_rfl) rfl (fun K hK => ?_); (try go_simp); refine hK.out _ _ ?_; clear hK K hHeld; (try simp only [Act.put, nA, nB, nC]); refine last_done (by kernel_rfl) ?_ _)
            have HN1 := Lib.hid HN.out.1
            go_wp2_with fail
            go_roundw
            case rel => exact ⟨l + 1, _, by omega, by go_num, Lib.hid (by rw [hstep.out, hflag.out]; exact HN1.out)⟩
            case measure => simp [intOf]; omega
          · have hg2 : (D.1 == 0) = false := by simp [h0]
            obtain ⟨e1, e2⟩ := pvX_div (S := S) hlk (by rw [hD.out]; exact h0)
            rw [e1] at hstep hXI
            rw [e2] at hflag
            rw [hD.out] at hstep hXI hflag
            have HIL := Lib.hid (HS.out l hlt k hk)
            have HID : Hid (inF D) := Lib.hid (by rw [← hD.out]; exact HKK.out)
            have HD0 := Lib.hid h0
            clear e1 e2 hlk h0
            obtain ⟨a1', o1', r1, p1, d1, e9, k1', k5, za1', zr1, hrb3, hrb1, q1, x1, x2⟩ := left_apart HL.out hn HS.out (i := l) (j := k) hlt hk
            obtain ⟨rfl, rfl⟩ : a1 = a1' ∧ o1 = o1' := by injection e9 with e9; injection e9 with e9 e10; exact ⟨e9, e10⟩
            have q1 := chg_cell hRI.out.2.2.2.1 (by exact hrb3) q1
            have x1 := chg_cell hRI.out.2.2.2.1 (by exact hrb1) x1
            have x2 := chg_cell hRI.out.2.2.2.1 (by exact hrb1) x2
            clear e9 k1'
            have HOB : Hid (∀ x, o ≠ .bool x) := Lib.hid (by obtain ⟨_, hA⟩ := hRI.out.2.1; obtain ⟨_, _, _, e, _⟩ := AppS.own ⟨_, _, hA⟩; intro x; rw [e]; simp)
            obtain ⟨U, hU⟩ : ∃ U, Hid (kD (divO (S l k) D) = U) := ⟨_, Lib.hid rfl⟩
            obtain ⟨G1, hG1⟩ : ∃ G1, Hid ((G || noB (divO (S l k) D)) = G1) := ⟨_, Lib.hid rfl⟩
            rw [hU.out] at hstep hXI
            rw [hG1.out] at hflag
            have HFL : Hid (∀ V w' : World, Fl b 0 V G1 w' → V.cell? ⟨b, 0, none⟩ = some (.bool G) → (fun w' => w'.cell? ⟨b5, 0, none⟩ = some (o) ∧ w'.cell? ⟨w.heap.size, 0, none⟩ = some (.pointer (some ⟨b, 0, none⟩)) ∧ w'.cell? ⟨b, 1, none⟩ = some (.slice (some ⟨a1, o1, none⟩) n cap) ∧ w'.cell? ⟨a1, o1 + l, none⟩ = some (.slice (some ⟨r1, p1, none⟩) n d1) ∧ w'.cell? ⟨w.heap.size + 1, 0, none⟩ = some (.int .i64 k) ∧ w'.cell? ⟨r1, p1 + k * 2, none⟩ = some (.int .i64 (S l k).1) ∧ w'.cell? ⟨r1, p1 + k * 2 + 1, none⟩ = some (.int .i64 (S l k).2) ∧ w'.cell? ⟨b4, 0, none⟩ = some (.int .i64 D.1) ∧ w'.cell? ⟨b4, 1, none⟩ = some (.int .i64 D.2)) V → (fun w' => w'.cell? ⟨b5, 0, none⟩ = some (o) ∧ w'.cell? ⟨w.heap.size, 0, none⟩ = some (.pointer (some ⟨b, 0, none⟩)) ∧ w'.cell? ⟨b, 1, none⟩ = some (.slice (some ⟨a1, o1, none⟩) n cap) ∧ w'.cell? ⟨a1, o1 + l, none⟩ = some (.slice (some ⟨r1, p1, none⟩) n d1) ∧ w'.cell? ⟨w.heap.size + 1, 0, none⟩ = some (.int .i64 k) ∧ w'.cell? ⟨r1, p1 + k * 2, none⟩ = some (.int .i64 (S l k).1) ∧ w'.cell? ⟨r1, p1 + k * 2 + 1, none⟩ = some (.int .i64 (S l k).2) ∧ w'.cell? ⟨b4, 0, none⟩ = some (.int .i64 D.1) ∧ w'.cell? ⟨b4, 1, none⟩ = some (.int .i64 D.2)) w') := Lib.hid fun V w' hf h0 h => by
              simp only at h ⊢
              exact ⟨hf.keep h0 HOB.out h.1, hf.keep h0 (by simp) h.2.1, hf.keep h0 (by simp) h.2.2.1, hf.keep h0 (by simp) h.2.2.2.1, hf.keep h0 (by simp) h.2.2.2.2.1, hf.keep h0 (by simp) h.2.2.2.2.2.1, hf.keep h0 (by simp) h.2.2.2.2.2.2.1, hf.keep h0 (by simp) h.2.2.2.2.2.2.2.1, hf.keep h0 (by simp) h.2.2.2.2.2.2.2.2⟩
            have HKP : Hid (∀ V w' : World, Below V.heap.size V w' → (fun w' => w'.cell? ⟨b5, 0, none⟩ = some (o) ∧ w'.cell? ⟨w.heap.size, 0, none⟩ = some (.pointer (some ⟨b, 0, none⟩)) ∧ w'.cell? ⟨b, 1, none⟩ = some (.slice (some ⟨a1, o1, none⟩) n cap) ∧ w'.cell? ⟨a1, o1 + l, none⟩ = some (.slice (some ⟨r1, p1, none⟩) n d1) ∧ w'.cell? ⟨w.heap.size + 1, 0, none⟩ = some (.int .i64 k) ∧ w'.cell? ⟨r1, p1 + k * 2, none⟩ = some (.int .i64 (S l k).1) ∧ w'.cell? ⟨r1, p1 + k * 2 + 1, none⟩ = some (.int .i64 (S l k).2) ∧ w'.cell? ⟨b4, 0, none⟩ = some (.int .i64 D.1) ∧ w'.cell? ⟨b4, 1, none⟩ = some (.int .i64 D.2)) V → (fun w' => w'.cell? ⟨b5, 0, none⟩ = some (o) ∧ w'.cell? ⟨w.heap.size, 0, none⟩ = some (.pointer (some ⟨b, 0, none⟩)) ∧ w'.cell? ⟨b, 1, none⟩ = some (.slice (some ⟨a1, o1, none⟩) n cap) ∧ w'.cell? ⟨a1, o1 + l, none⟩ = some (.slice (some ⟨r1, p1, none⟩) n d1) ∧ w'.cell? ⟨w.heap.size + 1, 0, none⟩ = some (.int .i64 k) ∧ w'.cell? ⟨r1, p1 + k * 2, none⟩ = some (.int .i64 (S l k).1) ∧ w'.cell? ⟨r1, p1 + k * 2 + 1, none⟩ = some (.int .i64 (S l k).2) ∧ w'.cell? ⟨b4, 0, none⟩ = some (.int .i64 D.1) ∧ w'.cell? ⟨b4, 1, none⟩ = some (.int .i64 D.2)) w') := Lib.hid fun V w' hb h => by
              simp only at h ⊢
              exact ⟨bkeep hb h.1, bkeep hb h.2.1, bkeep hb h.2.2.1, bkeep hb h.2.2.2.1, bkeep hb h.2.2.2.2.1, bkeep hb h.2.2.2.2.2.1, bkeep hb h.2.2.2.2.2.2.1, bkeep hb h.2.2.2.2.2.2.2.1, bkeep hb h.2.2.2.2.2.2.2.2⟩
            have HGR : Hid (∀ V w' : World, V.grownBy w' o.ownBlock → (fun w' => w'.cell? ⟨b5, 0, none⟩ = some (o) ∧ w'.cell? ⟨w.heap.size, 0, none⟩ = some (.pointer (some ⟨b, 0, none⟩)) ∧ w'.cell? ⟨b, 1, none⟩ = some (.slice (some ⟨a1, o1, none⟩) n cap) ∧ w'.cell? ⟨a1, o1 + l, none⟩ = some (.slice (some ⟨r1, p1, none⟩) n d1) ∧ w'.cell? ⟨w.heap.size + 1, 0, none⟩ = some (.int .i64 k) ∧ w'.cell? ⟨r1, p1 + k * 2, none⟩ = some (.int .i64 (S l k).1) ∧ w'.cell? ⟨r1, p1 + k * 2 + 1, none⟩ = some (.int .i64 (S l k).2) ∧ w'.cell? ⟨b4, 0, none⟩ = some (.int .i64 D.1) ∧ w'.cell? ⟨b4, 1, none⟩ = some (.int .i64 D.2)) V → (fun w' => w'.cell? ⟨b5, 0, none⟩ = some (o) ∧ w'.cell? ⟨w.heap.size, 0, none⟩ = some (.pointer (some ⟨b, 0, none⟩)) ∧ w'.cell? ⟨b, 1, none⟩ = some (.slice (some ⟨a1, o1, none⟩) n cap) ∧ w'.cell? ⟨a1, o1 + l, none⟩ = some (.slice (some ⟨r1, p1, none⟩) n d1) ∧ w'.cell? ⟨w.heap.size + 1, 0, none⟩ = some (.int .i64 k) ∧ w'.cell? ⟨r1, p1 + k * 2, none⟩ = some (.int .i64 (S l k).1) ∧ w'.cell? ⟨r1, p1 + k * 2 + 1, none⟩ = some (.int .i64 (S l k).2) ∧ w'.cell? ⟨b4, 0, none⟩ = some (.int .i64 D.1) ∧ w'.cell? ⟨b4, 1, none⟩ = some (.int .i64 D.2)) w') := Lib.hid fun V w' hg h => by
              simp only at h ⊢
              exact ⟨growK hg (HNE.out _ (by simp <;> omega)) h.1, growK hg (HNE.out _ (by simp <;> omega)) h.2.1, growK hg (HNE.out _ (by simp <;> omega)) h.2.2.1, growK hg (HNE.out _ (by simp <;> omega)) h.2.2.2.1, growK hg (HNE.out _ (by simp <;> omega)) h.2.2.2.2.1, growK hg (HNE.out _ (by simp <;> omega)) h.2.2.2.2.2.1, growK hg (HNE.out _ (by simp <;> omega)) h.2.2.2.2.2.2.1, growK hg (HNE.out _ (by simp <;> omega)) h.2.2.2.2.2.2.2.1, growK hg (HNE.out _ (by simp <;> omega)) h.2.2.2.2.2.2.2.2⟩
            go_wp2_with fail
            (refine last_region (S := (fun w' => w'.cell? ⟨b5, 0, none⟩ = some (o) ∧ w'.cell? ⟨w.heap.size, 0, none⟩ = some (.pointer (some ⟨b, 0, none⟩)) ∧ w'.cell? ⟨b, 1, none⟩ = some (.slice (some ⟨a1, o1, none⟩) n cap) ∧ w'.cell? ⟨a1, o1 + l, none⟩ = some (.slice (some ⟨r1, p1, none⟩) n d1) ∧ w'.cell? ⟨w.heap.size + 1, 0, none⟩ = some (.int .i64 k) ∧ w'.cell? ⟨r1, p1 + k * 2, none⟩ = some (.int .i64 (S l k).1) ∧ w'.cell? ⟨r1, p1 + k * 2 + 1, none⟩ = some (.int .i64 (S l k).2) ∧ w'.cell? ⟨b4, 0, none⟩ = some (.int .i64 D.1) ∧ w'.cell? ⟨b4, 1, none⟩ = some (.int .i64 D.2))) 18 (by kernel_rfl) ?_ (fun hHeld => ?_); (focus (first | exact hS | exact HKP.out _ _ (bal (Below.refl _ _) _) hHeld | (simp [*, go_sem]; done) | fail)); refine last_take 0 (some 26) (v := ?_) rfl (by kernel_rfl) (by kernel_rfl) (by kernel_rfl) (by kernel_rfl) (by decide) (by kernel_rfl) (fun _ _ _ h => h) (Or.inl ⟨by kernel_rfl, ?_⟩) (by assumption) ?_; rotate_left; (focus (intro w' hSw; (try dsimp only at hSw); go_simp; (try with_reducible rfl))); (try simp only [Act.put, nA, nB, nC]); refine last_take 1 (some 27) (v := ?_) rfl (by kernel_rfl) (by kernel_rfl) (by kernel_rfl) (by kernel_rfl) (by decide) (by kernel_rfl) (fun _ _ _ h => h) (Or.inl ⟨by kernel_rfl, ?_⟩) (by assumption) ?_; rotate_left; (focus (intro w' hSw; (try dsimp only at hSw); go_simp; (try with_reducible rfl))); (try simp only [Act.put, nA, nB, nC]); refine last_take 2 (some 28) (v := ?_) rfl (by kernel_rfl) (by kernel_rfl) (by kernel_rfl) (by kernel_rfl) (by decide) (by kernel_rfl) (fun _ _ _ h => h) (Or.inl ⟨by kernel_rfl, ?_⟩) (by assumption) ?_; rotate_left; (focus (intro w' hSw; (try dsimp only at hSw); go_simp; (try with_reducible rfl))); (try simp only [Act.put, nA, nB, nC]); refine last_take 3 (some 29) (v := ?_) rfl (by kernel_rfl) (by kernel_rfl) (by kernel_rfl) (by kernel_rfl) (by decide) (by kernel_rfl) (fun _ _ _ h => h) (Or.inl ⟨by kernel_rfl, ?_⟩) (by assumption) ?_; rotate_left; (focus (intro w' hSw; (try dsimp only at hSw); go_simp; (try with_reducible rfl))); (try simp only [Act.put, nA, nB, nC]); refine last_take 4 (some 30) (v := ?_) rfl (by kernel_rfl) (by kernel_rfl) (by kernel_rfl) (by kernel_rfl) (by decide) (by kernel_rfl) (fun _ _ _ h => h) (Or.inl ⟨by kernel_rfl, ?_⟩) (by assumption) ?_; rotate_left; (focus (intro w' hSw; (try dsimp only at hSw); go_simp; (try with_reducible rfl))); (try simp only [Act.put, nA, nB, nC]); refine last_take 5 (some 31) (v := ?_) rfl (by kernel_rfl) (by kernel_rfl) (by kernel_rfl) (by kernel_rfl) (by decide) (by kernel_rfl) (fun _ _ _ h => h) (Or.inl ⟨by kernel_rfl, ?_⟩) (by assumption) ?_; rotate_left; (focus (intro w' hSw; (try dsimp only at hSw); go_simp; (try with_reducible rfl))); (try simp only [Act.put, nA, nB, nC]); refine last_take 6 (some 32) (v := ?_) rfl (by kernel_rfl) (by kernel_rfl) (by kernel_rfl) (by kernel_rfl) (by decide) (by kernel_rfl) (fun _ _ _ h => h) (Or.inl ⟨by kernel_rfl, ?_⟩) (by assumption) ?_; rotate_left; (focus (intro w' hSw; (try dsimp only at hSw); go_simp; (try with_reducible rfl))); (try simp only [Act.put, nA, nB, nC]); refine last_take 7 (some 33) (v := ?_) rfl (by kernel_rfl) (by kernel_rfl) (by kernel_rfl) (by kernel_rfl) (by decide) (by kernel_rfl) (fun _ _ _ h => h) (Or.inl ⟨by kernel_rfl, ?_⟩) (by assumption) ?_; rotate_left; (focus (intro w' hSw; (try dsimp only at hSw); go_simp; (try with_reducible rfl))); (try simp only [Act.put, nA, nB, nC]); refine last_take 8 (some 34) (v := ?_) rfl (by kernel_rfl) (by kernel_rfl) (by kernel_rfl) (by kernel_rfl) (by decide) (by kernel_rfl) (fun _ _ _ h => h) (Or.inl ⟨by kernel_rfl, ?_⟩) (by assumption) ?_; rotate_left; (focus (intro w' hSw; (try dsimp only at hSw); go_simp; (try with_reducible rfl))); (try simp only [Act.put, nA, nB, nC]); refine last_take 9 (some 35) (v := ?_) rfl (by kernel_rfl) (by kernel_rfl) (by kernel_rfl) (by kernel_rfl) (by decide) (by kernel_rfl) (fun _ _ _ h => h) (Or.inl ⟨by kernel_rfl, ?_⟩) (by assumption) ?_; rotate_left; (focus (intro w' hSw; (try dsimp only at hSw); go_simp; (try with_reducible rfl))); (try simp only [Act.put, nA, nB, nC]); refine last_take 10 (some 36) (v := ?_) rfl (by kernel_rfl) (by kernel_rfl) (by kernel_rfl) (by kernel_rfl) (by decide) (by kernel_rfl) (fun _ _ _ h => h) (Or.inl ⟨by kernel_rfl, ?_⟩) (by assumption) ?_; rotate_left; (focus (intro w' hSw; (try dsimp only at hSw); go_simp; (try with_reducible rfl))); (try simp only [Act.put, nA, nB, nC]); refine last_take 11 (some 37) (v := ?_) rfl (by kernel_rfl) (by kernel_rfl) (by kernel_rfl) (by kernel_rfl) (by decide) (by kernel_rfl) (fun _ _ _ h => h) (Or.inl ⟨by kernel_rfl, ?_⟩) (by assumption) ?_; rotate_left; (focus (intro w' hSw; (try dsimp only at hSw); go_simp; (try with_reducible rfl))); (try simp only [Act.put, nA, nB, nC]); refine last_take 12 (some 38) (v := ?_) rfl (by kernel_rfl) (by kernel_rfl) (by kernel_rfl) (by kernel_rfl) (by decide) (by kernel_rfl) (fun _ _ _ h => h) (Or.inl ⟨by kernel_rfl, ?_⟩) (by assumption) ?_; rotate_left; (focus (intro w' hSw; (try dsimp only at hSw); go_simp; (try with_reducible rfl))); (try simp only [Act.put, nA, nB, nC]); refine last_take 13 (some 39) (v := ?_) rfl (by kernel_rfl) (by kernel_rfl) (by kernel_rfl) (by kernel_rfl) (by decide) (by kernel_rfl) (fun _ _ _ h => h) (Or.inl ⟨by kernel_rfl, ?_⟩) (by assumption) ?_; rotate_left; (focus (intro w' hSw; (try dsimp only at hSw); go_simp; (try with_reducible rfl))); (try simp only [Act.put, nA, nB, nC]); refine last_take 14 (some 40) (v := ?_) rfl (by kernel_rfl) (by kernel_rfl) (by kernel_rfl) (by kernel_rfl) (by decide) (by kernel_rfl) (fun _ _ _ h => h) (Or.inl ⟨by kernel_rfl, ?_⟩) (by assumption) ?_; rotate_left; (focus (intro w' hSw; (try dsimp only at hSw); go_simp; (try with_reducible rfl))); (try simp only [Act.put, nA, nB, nC]); refine last_ready (i := 15) (by kernel_rfl) rfl (fun K hK => ?_); go_simp; (go_at_call 125; refine Calls.mono (kdiv_any b 0 G (S l k) D _ (by simpa using zb) (by exact c0) (by exact f0) HIL.out HID.out HD0.out) ?_; rw [hU.out, hG1.out]; rintro e0 w3 ⟨rfl, hb⟩; have hfl : Fl b 0 _ _ w3 := hb; have hS := HFL.out _ _ hfl c0 hHeld; have HR3 := Lib.hid ((hRI.out.below (show Below W0.heap.size W0 W0.drew from bdrew1 (Below.refl _ _))).fl hfl); clear hb hfl); go_wp2_with fail; refine hK.out _ _ ?_ (fun hHeld => ?_); (focus (first | exact hS | exact HKP.out _ _ (bal (Below.refl _ _) _) hHeld | (simp [*, go_sem]; done) | fail)); clear hK K; (try simp only [Act.put, nA, nB, nC]); refine last_ready (i := 16) (by kernel_rfl) rfl (fun K hK => ?_); (try go_simp); refine hK.out _ _ ?_ (fun hHeld => ?_); (focus (first | exact hS | exact HKP.out _ _ (bal (Below.refl _ _) _) hHeld | (simp [*, go_sem]; done) | fail)); clear hK K; (try simp only [Act.put, nA, nB, nC]); refine last_ready (i := 17) (by kernel_rfl) rfl (fun K hK => ?_); (rw [if_pos (by simp [Region.wanted])]; have HR4 := Lib.hid (HR3.out.below (show Below w3.heap.size w3 _ from bal (Below.refl _ _) (.cells #[.int .i64 U.1, .int .i64 U.2] 79))); obtain ⟨LQ, hA⟩ := HR4.out.2.1; refine wp_append_fr _ hA (k := w3.heap.size) (d := U) (blknew _ _) hXI.out hlen.out (by have := blklt HR4.out.1.2.2.2.1; omega) (.tmp 26) (.tmp 42) rfl rfl rfl ?_; intro g1 cap1 w4 hA4 hg4 ha4; have HN := Lib.hid (HR4.out.next hA4 hg4 ha4); have hS := HGR.out _ _ hg4 hHeld; have hlt5 := HN.out.2.1; have hfz5 := HN.out.2.2.1; clear hA4 hg4 ha4 hA); refine hK.out _ _ ?_ (fun hHeld => ?_); (focus (first | exact hS | exact HKP.out _ _ (bal (Below.refl _ _) _) hHeld | (simp [*, go_sem]; done) | fail)); clear hK K; (try simp only [Act.put, nA, nB, nC]); refine last_end (by kernel_rfl) rfl (fun K hK => ?_); (try go_simp); refine hK.out _ _ ?_; clear hK K hHeld; (try simp only [Act.put, nA, nB, nC]); refine last_done (by kernel_rfl) ?_ _)
            have HN1 := Lib.hid HN.out.1
            go_wp2_with fail
            go_roundw
            case rel => exact ⟨l + 1, _, by omega, by go_num, Lib.hid (by rw [hstep.out, hflag.out]; exact HN1.out)⟩
            case measure => simp [intOf]; omega
      · have e : l = n := by omega
        subst e
        obtain ⟨Fd, hPX, hFd⟩ := hRI.out.px HP.out hB
        obtain ⟨Ao, co, _, eo, _⟩ : ∃ A cap F, o = .slice A (rowL l (pvX S k)).length cap ∧ Own shFr (w.heap.size + 2) W0 (rowL l (pvX S k)) o F := by
          obtain ⟨LQ, h6⟩ := hRI.out.2.1
          exact AppS.own ⟨_, _, h6⟩
        replace eo : o = .slice Ao l co := by rw [eo, rowL_len]
        subst eo
        obtain ⟨no, hno⟩ : ∃ no, l = no := ⟨_, rfl⟩
        have HPX := Lib.hid hPX
        have HFd := Lib.hid hFd
        have hob : (Value.slice Ao l co).ownBlock ≠ some b := fun e => by
          obtain ⟨_, hA⟩ := hRI.out.2.1
          have := (hA.lt b (.inl e)).1
          omega
        have HDok : Hid (okFr D) := Lib.hid (by rw [← hD.out]; exact inF_ok HKK.out)
        have hlP : Ps.length < 1000 := by omega
        have hlR : Rs.length < 1000 := by omega
        have HPlt : Hid (∀ q, vP.ownBlock = some q → q < w.heap.size) := Lib.hid fun q hq => (HP.out.lt.1 q hq).2
        have hz0 := hRI.out.2.2.2.1.size
        obtain ⟨G, hG⟩ : ∃ G, Hid ((g || rowZ l (pvXz S k)) = G) := ⟨_, Lib.hid rfl⟩
        obtain ⟨XS, hXS⟩ : ∃ XS, Hid (rowL l (pvX S k) = XS) := ⟨_, Lib.hid rfl⟩
        rw [hG.out] at HPX c0
        rw [hXS.out] at HPX
        clear hPX hFd hno
        have HK1 : Hid (∀ V w' : World, Below V.heap.size V w' → (fun w' => w'.cell? ⟨w.heap.size, 0, none⟩ = some (.pointer (some ⟨b, 0, none⟩)) ∧ w'.cell? ⟨b4, 0, none⟩ = some (.int .i64 D.1) ∧ w'.cell? ⟨b4, 1, none⟩ = some (.int .i64 D.2) ∧ w'.cell? ⟨b5, 0, none⟩ = some (.slice Ao l co)) V → (fun w' => w'.cell? ⟨w.heap.size, 0, none⟩ = some (.pointer (some ⟨b, 0, none⟩)) ∧ w'.cell? ⟨b4, 0, none⟩ = some (.int .i64 D.1) ∧ w'.cell? ⟨b4, 1, none⟩ = some (.int .i64 D.2) ∧ w'.cell? ⟨b5, 0, none⟩ = some (.slice Ao l co)) w') := Lib.hid fun V w' hb h => by
          simp only at h ⊢
          exact ⟨bkeep hb h.1, bkeep hb h.2.1, bkeep hb h.2.2.1, bkeep hb h.2.2.2⟩
        have HK2 : Hid (∀ V w' : World, Below V.heap.size V w' → (fun w' => w'.cell? ⟨b, 2, none⟩ = some vP ∧ w'.cell? ⟨b, 3, none⟩ = some vR) V → (fun w' => w'.cell? ⟨b, 2, none⟩ = some vP ∧ w'.cell? ⟨b, 3, none⟩ = some vR) w') := Lib.hid fun V w' hb h => by
          simp only at h ⊢
          exact ⟨bkeep hb h.1, bkeep hb h.2⟩
        have HST : Hid (∀ (V : World) (i : Nat) (v : Value), (fun w' => w'.cell? ⟨w.heap.size, 0, none⟩ = some (.pointer (some ⟨b, 0, none⟩)) ∧ w'.cell? ⟨b4, 0, none⟩ = some (.int .i64 D.1) ∧ w'.cell? ⟨b4, 1, none⟩ = some (.int .i64 D.2) ∧ w'.cell? ⟨b5, 0, none⟩ = some (.slice Ao l co)) V → (fun w' => w'.cell? ⟨w.heap.size, 0, none⟩ = some (.pointer (some ⟨b, 0, none⟩)) ∧ w'.cell? ⟨b4, 0, none⟩ = some (.int .i64 D.1) ∧ w'.cell? ⟨b4, 1, none⟩ = some (.int .i64 D.2) ∧ w'.cell? ⟨b5, 0, none⟩ = some (.slice Ao l co)) (V.setCell ⟨b, i, none⟩ v)) := Lib.hid fun V i v h => by
          simp only at h ⊢
          have hne : ∀ c, c ≠ b → ∀ j, (V.setCell ⟨b, i, none⟩ v).cell? ⟨c, j, none⟩ = V.cell? ⟨c, j, none⟩ := fun c hc j => World.cell?_setCell_far _ _ _ _ (fun e => hc e.symm)
          exact ⟨(hne _ (by omega) _).trans h.1, (hne _ (by omega) _).trans h.2.1, (hne _ (by omega) _).trans h.2.2.1, (hne _ (by omega) _).trans h.2.2.2⟩
        go_wp2_with fail
        go_upto_region 12 with fail
        go_cut [71] from 63 to 82 (fun s71 wx => Hid (PE B b b5 w k G (.slice (some ⟨a1, o1, none⟩) l cap) vP vR (.slice Ao l co) XS (Ps ++ [D]) (Rs ++ [XS]) wx) ∧ wx.cell? ⟨b4, 0, none⟩ = some (.int .i64 D.1))
        case first =>
          (refine two_region (S1 := (fun w' => w'.cell? ⟨w.heap.size, 0, none⟩ = some (.pointer (some ⟨b, 0, none⟩)) ∧ w'.cell? ⟨b4, 0, none⟩ = some (.int .i64 D.1) ∧ w'.cell? ⟨b4, 1, none⟩ = some (.int .i64 D.2) ∧ w'.cell? ⟨b5, 0, none⟩ = some (.slice Ao l co))) (S2 := (fun w' => w'.cell? ⟨b, 2, none⟩ = some vP ∧ w'.cell? ⟨b, 3, none⟩ = some vR)) 18 (by kernel_rfl) ?_ ?_ (fun hOne hTwo => ?_); (focus (first | exact hS1 | exact HK1.out _ _ (bal (Below.refl _ _) _) hOne | exact HST.out _ _ _ hOne | (simp [*, go_sem]; done) | fail)); (focus (first | exact hS2 | exact HK2.out _ _ (bal (Below.refl _ _) _) hTwo | (simp [*, go_sem]; done) | fail)); refine two_take 0 (some 63) (v := ?_) rfl (by kernel_rfl) (by kernel_rfl) (by kernel_rfl) (by kernel_rfl) (by decide) (by kernel_rfl) (fun _ _ _ h => h) (Or.inl ⟨by kernel_rfl, ?_⟩) (by assumption) (by assumption) ?_; rotate_left; (focus (intro w' hSw; (try dsimp only at hSw); go_simp; (try with_reducible rfl))); (try simp only [Act.put, nA, nB, nC]); refine two_take 2 (some 65) (v := ?_) rfl (by kernel_rfl) (by kernel_rfl) (by kernel_rfl) (by kernel_rfl) (by decide) (by kernel_rfl) (fun _ _ _ h => h) (Or.inl ⟨by kernel_rfl, ?_⟩) (by assumption) (by assumption) ?_; rotate_left; (focus (intro w' hSw; (try dsimp only at hSw); go_simp; (try with_reducible rfl))); (try simp only [Act.put, nA, nB, nC]); refine two_take 3 (some 66) (v := ?_) rfl (by kernel_rfl) (by kernel_rfl) (by kernel_rfl) (by kernel_rfl) (by decide) (by kernel_rfl) (fun _ _ _ h => h) (Or.inl ⟨by kernel_rfl, ?_⟩) (by assumption) (by assumption) ?_; rotate_left; (focus (intro w' hSw; (try dsimp only at hSw); go_simp; (try with_reducible rfl))); (try simp only [Act.put, nA, nB, nC]); refine two_take 4 (some 67) (v := ?_) rfl (by kernel_rfl) (by kernel_rfl) (by kernel_rfl) (by kernel_rfl) (by decide) (by kernel_rfl) (fun _ _ _ h => h) (Or.inl ⟨by kernel_rfl, ?_⟩) (by assumption) (by assumption) ?_; rotate_left; (focus (intro w' hSw; (try dsimp only at hSw); go_simp; (try with_reducible rfl))); (try simp only [Act.put, nA, nB, nC]); refine two_take 5 (some 68) (v := ?_) rfl (by kernel_rfl) (by kernel_rfl) (by kernel_rfl) (by kernel_rfl) (by decide) (by kernel_rfl) (fun _ _ _ h => h) (Or.inl ⟨by kernel_rfl, ?_⟩) (by assumption) (by assumption) ?_; rotate_left; (focus (intro w' hSw; (try dsimp only at hSw); go_simp; (try with_reducible rfl))); (try simp only [Act.put, nA, nB, nC]); refine two_take 6 (some 69) (v := ?_) rfl (by kernel_rfl) (by kernel_rfl) (by kernel_rfl) (by kernel_rfl) (by decide) (by kernel_rfl) (fun _ _ _ h => h) (Or.inl ⟨by kernel_rfl, ?_⟩) (by assumption) (by assumption) ?_; rotate_left; (focus (intro w' hSw; (try dsimp only at hSw); go_simp; (try with_reducible rfl))); (try simp only [Act.put, nA, nB, nC]); refine two_take 9 (some 72) (v := ?_) rfl (by kernel_rfl) (by kernel_rfl) (by kernel_rfl) (by kernel_rfl) (by decide) (by kernel_rfl) (fun _ _ _ h => h) (Or.inl ⟨by kernel_rfl, ?_⟩) (by assumption) (by assumption) ?_; rotate_left; (focus (intro w' hSw; (try dsimp only at hSw); go_simp; (try with_reducible rfl))); (try simp only [Act.put, nA, nB, nC]); refine two_take 10 (some 73) (v := ?_) rfl (by kernel_rfl) (by kernel_rfl) (by kernel_rfl) (by kernel_rfl) (by decide) (by kernel_rfl) (fun _ _ _ h => h) (Or.inl ⟨by kernel_rfl, ?_⟩) (by assumption) (by assumption) ?_; rotate_left; (focus (intro w' hSw; (try dsimp only at hSw); go_simp; (try with_reducible rfl))); (try simp only [Act.put, nA, nB, nC]); refine two_take 11 (some 74) (v := ?_) rfl (by kernel_rfl) (by kernel_rfl) (by kernel_rfl) (by kernel_rfl) (by decide) (by kernel_rfl) (fun _ _ _ h => h) (Or.inl ⟨by kernel_rfl, ?_⟩) (by assumption) (by assumption) ?_; rotate_left; (focus (intro w' hSw; (try dsimp only at hSw); go_simp; (try with_reducible rfl))); (try simp only [Act.put, nA, nB, nC]); refine two_take 12 (some 75) (v := ?_) rfl (by kernel_rfl) (by kernel_rfl) (by kernel_rfl) (by kernel_rfl) (by decide) (by kernel_rfl) (fun _ _ _ h => h) (Or.inl ⟨by kernel_rfl, ?_⟩) (by assumption) (by assumption) ?_; rotate_left; (focus (intro w' hSw; (try dsimp only at hSw); go_simp; (try with_reducible rfl))); (try simp only [Act.put, nA, nB, nC]); refine two_take 13 (some 76) (v := ?_) rfl (by kernel_rfl) (by kernel_rfl) (by kernel_rfl) (by kernel_rfl) (by decide) (by kernel_rfl) (fun _ _ _ h => h) (Or.inl ⟨by kernel_rfl, ?_⟩) (by assumption) (by assumption) ?_; rotate_left; (focus (intro w' hSw; (try dsimp only at hSw); go_simp; (try with_reducible rfl))); (try simp only [Act.put, nA, nB, nC]); refine two_free 1 (some 64) (v := ?_) rfl (by kernel_rfl) (by kernel_rfl) (by kernel_rfl) (by decide) (by kernel_rfl) (fun _ _ _ h => h) (Or.inl ⟨by kernel_rfl, ?_⟩) (by assumption) (by first | (intro _; assumption) | (intro h; exact absurd h (by decide))) ?_; rotate_left; (focus (intro w' hSw; (try dsimp only at hSw); go_simp; (try with_reducible rfl))); (try simp only [Act.put, nA, nB, nC]); refine two_two (i := 7) (j := 14) (by kernel_rfl) rfl rfl (fun K hK => ?_) (fun K hK => ?_); (focus ((try go_simp); refine hK.out _ _ ?_ ?_ (fun hOne hTwo => ?_); (focus (first | exact hS1 | exact HK1.out _ _ (bal (Below.refl _ _) _) hOne | exact HST.out _ _ _ hOne | (simp [*, go_sem]; done) | fail)); (focus (first | exact hS2 | exact HK2.out _ _ (bal (Below.refl _ _) _) hTwo | (simp [*, go_sem]; done) | fail)); clear hK K; (try simp only [Act.put, nA, nB, nC]); refine two_two (i := 8) (j := 14) (by kernel_rfl) rfl rfl (fun K hK => ?_) (fun K hK => ?_); (focus ((rw [if_pos (by simp [Region.wanted])]; refine HPX.out.wpP W0.heap.size belA (by repeat (first | with_reducible assumption | with_reducible exact blknew _ _ | ((with_reducible refine blknew' _ _ _ ?_); (simp <;> omega)) | with_reducible refine blkdrew ?_ | with_reducible refine blkal ?_ _)) HDok.out hlP (.tmp 68) (.tmp 70) rfl rfl rfl ?_; intro g1 cap1 V1 hX1 hg1; have HX1 := Lib.hid hX1; have hS1 := HX1.out.cells.1; have hS2 := HX1.out.cells.2;  clear hX1 hg1); refine hK.out _ _ ?_ ?_ (fun hOne hTwo => ?_); (focus (first | exact hS1 | exact HK1.out _ _ (bal (Below.refl _ _) _) hOne | exact HST.out _ _ _ hOne | (simp [*, go_sem]; done) | fail)); (focus (first | exact hS2 | exact HK2.out _ _ (bal (Below.refl _ _) _) hTwo | (simp [*, go_sem]; done) | fail)); clear hK K; (try simp only [Act.put, nA, nB, nC]); refine two_ready (i := 14) (by kernel_rfl) rfl (fun K hK => ?_); (try go_simp); refine hK.out _ _ ?_ ?_ (fun hOne hTwo => ?_); (focus (first | exact hS1 | exact HK1.out _ _ (bal (Below.refl _ _) _) hOne | exact HST.out _ _ _ hOne | (simp [*, go_sem]; done) | fail)); (focus (first | exact hS2 | exact HK2.out _ _ (bal (Below.refl _ _) _) hTwo | (simp [*, go_sem]; done) | fail)); clear hK K; (try simp only [Act.put, nA, nB, nC]); refine two_ready (i := 15) (by kernel_rfl) rfl (fun K hK => ?_); (rw [if_pos (by simp [Region.wanted])]; refine HX1.out.wpR V1.heap.size HFd.out belA (by repeat (first | with_reducible assumption | with_reducible exact blknew _ _ | ((with_reducible refine blknew' _ _ _ ?_); (simp <;> omega)) | with_reducible refine blkdrew ?_ | with_reducible refine blkal ?_ _)) hlR (.tmp 75) (.tmp 77) rfl rfl rfl ?_; intro g2 cap2 V2 hX2; have HX2 := Lib.hid hX2; have hS1 := HX2.out.cells.1; have hS2 := HX2.out.cells.2; have HSD := Lib.hid (HX2.out.stored hob); have hf2 := HSD.out.2.1; have hf3 := HSD.out.2.2.1; have hzb2 := HSD.out.2.2.2; clear hX2); refine hK.out _ _ ?_ ?_ (fun hOne hTwo => ?_); (focus (first | exact hS1 | exact HK1.out _ _ (bal (Below.refl _ _) _) hOne | exact HST.out _ _ _ hOne | (simp [*, go_sem]; done) | fail)); (focus (first | exact hS2 | exact HK2.out _ _ (bal (Below.refl _ _) _) hTwo | (simp [*, go_sem]; done) | fail)); clear hK K; (try simp only [Act.put, nA, nB, nC]); refine two_take 16 (some 79) (v := ?_) rfl (by kernel_rfl) (by kernel_rfl) (by kernel_rfl) (by kernel_rfl) (by decide) (by kernel_rfl) (fun _ _ _ h => h) (Or.inl ⟨by kernel_rfl, ?_⟩) (by assumption) (by assumption) ?_; rotate_left; (focus (intro w' hSw; (try dsimp only at hSw); go_simp; (try with_reducible rfl))); (try simp only [Act.put, nA, nB, nC]); refine two_take 17 (some 80) (v := ?_) rfl (by kernel_rfl) (by kernel_rfl) (by kernel_rfl) (by kernel_rfl) (by decide) (by kernel_rfl) (fun _ _ _ h => h) (Or.inl ⟨by kernel_rfl, ?_⟩) (by assumption) (by assumption) ?_; rotate_left; (focus (intro w' hSw; (try dsimp only at hSw); go_simp; (try with_reducible rfl))); (try simp only [Act.put, nA, nB, nC]); refine two_late (i := 18) (by kernel_rfl) rfl (by first | exact .inl rfl | exact .inr (by kernel_rfl)) (fun K hK => ?_); (try clear hTwo); (try go_simp); refine hK.out _ _ ?_ (fun hOne => ?_); (focus (first | exact hS1 | exact HK1.out _ _ (bal (Below.refl _ _) _) hOne | exact HST.out _ _ _ hOne | (simp [*, go_sem]; done) | fail)); clear hK K; (try simp only [Act.put, nA, nB, nC]); refine two_late (i := 19) (by kernel_rfl) rfl (by first | exact .inl rfl | exact .inr (by kernel_rfl)) (fun K hK => ?_); (try clear hTwo); (try go_simp); refine hK.out _ _ ?_ (fun hOne => ?_); (focus (first | exact hS1 | exact HK1.out _ _ (bal (Below.refl _ _) _) hOne | exact HST.out _ _ _ hOne | (simp [*, go_sem]; done) | fail)); clear hK K; (try simp only [Act.put, nA, nB, nC]); refine two_late (i := 20) (by kernel_rfl) rfl (by first | exact .inl rfl | exact .inr (by kernel_rfl)) (fun K hK => ?_); (try clear hTwo); (try go_simp); refine hK.out _ _ ?_ (fun hOne => ?_); (focus (first | exact hS1 | exact HK1.out _ _ (bal (Below.refl _ _) _) hOne | exact HST.out _ _ _ hOne | (simp [*, go_sem]; done) | fail)); clear hK K; (try simp only [Act.put, nA, nB, nC]); refine two_late (i := 21) (by kernel_rfl) rfl (by first | exact .inl rfl | exact .inr (by kernel_rfl)) (fun K hK => ?_); (try clear hTwo); (try go_simp); refine hK.out _ _ ?_ (fun hOne => ?_); (focus (first | exact hS1 | exact HK1.out _ _ (bal (Below.refl _ _) _) hOne | exact HST.out _ _ _ hOne | (simp [*, go_sem]; done) | fail)); clear hK K; (try simp only [Act.put, nA, nB, nC]); refine two_done (by kernel_rfl) ?_ _)); rotate_left 1; (focus ((try go_simp); refine hK.out _ _ ?_ ?_ (fun hOne hTwo => ?_); (focus (first | exact hS1 | exact HK1.out _ _ (bal (Below.refl _ _) _) hOne | exact HST.out _ _ _ hOne | (simp [*, go_sem]; done) | fail)); (focus (first | exact hS2 | exact HK2.out _ _ (bal (Below.refl _ _) _) hTwo | (simp [*, go_sem]; done) | fail)); clear hK K; (try simp only [Act.put, nA, nB, nC]); refine two_ready (i := 8) (by kernel_rfl) rfl (fun K hK => ?_); (rw [if_pos (by simp [Region.wanted])]; refine HPX.out.wpP W0.heap.size belA (by repeat (first | with_reducible assumption | with_reducible exact blknew _ _ | ((with_reducible refine blknew' _ _ _ ?_); (simp <;> omega)) | with_reducible refine blkdrew ?_ | with_reducible refine blkal ?_ _)) HDok.out hlP (.tmp 68) (.tmp 70) rfl rfl rfl ?_; intro g1 cap1 V1 hX1 hg1; have HX1 := Lib.hid hX1; have hS1 := HX1.out.cells.1; have hS2 := HX1.out.cells.2; have kR : V1.heap[W0.heap.size + 1]? = some (.cells #[.slice Ao l co] 32 (0, 0)) := (hg1.block _ (by simp <;> omega) (fun e => by have := HPlt.out _ e.symm; omega)).trans (by repeat (first | with_reducible assumption | with_reducible exact blknew _ _ | ((with_reducible refine blknew' _ _ _ ?_); (simp <;> omega)) | with_reducible refine blkdrew ?_ | with_reducible refine blkal ?_ _)); clear hX1 hg1); refine hK.out _ _ ?_ ?_ (fun hOne hTwo => ?_); (focus (first | exact hS1 | exact HK1.out _ _ (bal (Below.refl _ _) _) hOne | exact HST.out _ _ _ hOne | (simp [*, go_sem]; done) | fail)); (focus (first | exact hS2 | exact HK2.out _ _ (bal (Below.refl _ _) _) hTwo | (simp [*, go_sem]; done) | fail)); clear hK K; (try simp only [Act.put, nA, nB, nC]); refine two_ready (i := 15) (by kernel_rfl) rfl (fun K hK => ?_); (rw [if_pos (by simp [Region.wanted])]; refine HX1.out.wpR _ HFd.out (Below.refl _ _) kR hlR (.tmp 75) (.tmp 77) rfl rfl rfl ?_; intro g2 cap2 V2 hX2; have HX2 := Lib.hid hX2; have hS1 := HX2.out.cells.1; have hS2 := HX2.out.cells.2; have HSD := Lib.hid (HX2.out.stored hob); have hf2 := HSD.out.2.1; have hf3 := HSD.out.2.2.1; have hzb2 := HSD.out.2.2.2; clear hX2); refine hK.out _ _ ?_ ?_ (fun hOne hTwo => ?_); (focus (first | exact hS1 | exact HK1.out _ _ (bal (Below.refl _ _) _) hOne | exact HST.out _ _ _ hOne | (simp [*, go_sem]; done) | fail)); (focus (first | exact hS2 | exact HK2.out _ _ (bal (Below.refl _ _) _) hTwo | (simp [*, go_sem]; done) | fail)); clear hK K; (try simp only [Act.put, nA, nB, nC]); refine two_take 16 (some 79) (v := ?_) rfl (by kernel_rfl) (by kernel_rfl) (by kernel_rfl) (by kernel_rfl) (by decide) (by kernel_rfl) (fun _ _ _ h => h) (Or.inl ⟨by kernel_rfl, ?_⟩) (by assumption) (by assumption) ?_; rotate_left; (focus (intro w' hSw; (try dsimp only at hSw); go_simp; (try with_reducible rfl))); (try simp only [Act.put, nA, nB, nC]); refine two_take 17 (some 80) (v := ?_) rfl (by kernel_rfl) (by kernel_rfl) (by kernel_rfl) (by kernel_rfl) (by decide) (by kernel_rfl) (fun _ _ _ h => h) (Or.inl ⟨by kernel_rfl, ?_⟩) (by assumption) (by assumption) ?_; rotate_left; (focus (intro w' hSw; (try dsimp only at hSw); go_simp; (try with_reducible rfl))); (try simp only [Act.put, nA, nB, nC]); refine two_late (i := 18) (by kernel_rfl) rfl (by first | exact .inl rfl | exact .inr (by kernel_rfl)) (fun K hK => ?_); (try clear hTwo); (try go_simp); refine hK.out _ _ ?_ (fun hOne => ?_); (focus (first | exact hS1 | exact HK1.out _ _ (bal (Below.refl _ _) _) hOne | exact HST.out _ _ _ hOne | (simp [*, go_sem]; done) | fail)); clear hK K; (try simp only [Act.put, nA, nB, nC]); refine two_late (i := 19) (by kernel_rfl) rfl (by first | exact .inl rfl | exact .inr (by kernel_rfl)) (fun K hK => ?_); (try clear hTwo); (try go_simp); refine hK.out _ _ ?_ (fun hOne => ?_); (focus (first | exact hS1 | exact HK1.out _ _ (bal (Below.refl _ _) _) hOne | exact HST.out _ _ _ hOne | (simp [*, go_sem]; done) | fail)); clear hK K; (try simp only [Act.put, nA, nB, nC]); refine two_late (i := 20) (by kernel_rfl) rfl (by first | exact .inl rfl | exact .inr (by kernel_rfl)) (fun K hK => ?_); (try clear hTwo); (try go_simp); refine hK.out _ _ ?_ (fun hOne => ?_); (focus (first | exact hS1 | exact HK1.out _ _ (bal (Below.refl _ _) _) hOne | exact HST.out _ _ _ hOne | (simp [*, go_sem]; done) | fail)); clear hK K; (try simp only [Act.put, nA, nB, nC]); refine two_late (i := 21) (by kernel_rfl) rfl (by first | exact .inl rfl | exact .inr (by kernel_rfl)) (fun K hK => ?_); (try clear hTwo); (try go_simp); refine hK.out _ _ ?_ (fun hOne => ?_); (focus (first | exact hS1 | exact HK1.out _ _ (bal (Below.refl _ _) _) hOne | exact HST.out _ _ _ hOne | (simp [*, go_sem]; done) | fail)); clear hK K; (try simp only [Act.put, nA, nB, nC]); refine two_done (by kernel_rfl) ?_ _)); rotate_left 1)); rotate_left 2; (focus ((try go_simp); refine hK.out _ _ ?_ ?_ (fun hOne hTwo => ?_); (focus (first | exact hS1 | exact HK1.out _ _ (bal (Below.refl _ _) _) hOne | exact HST.out _ _ _ hOne | (simp [*, go_sem]; done) | fail)); (focus (first | exact hS2 | exact HK2.out _ _ (bal (Below.refl _ _) _) hTwo | (simp [*, go_sem]; done) | fail)); clear hK K; (try simp only [Act.put, nA, nB, nC]); refine two_ready (i := 7) (by kernel_rfl) rfl (fun K hK => ?_); (try go_simp); refine hK.out _ _ ?_ ?_ (fun hOne hTwo => ?_); (focus (first | exact hS1 | exact HK1.out _ _ (bal (Below.refl _ _) _) hOne | exact HST.out _ _ _ hOne | (simp [*, go_sem]; done) | fail)); (focus (first | exact hS2 | exact HK2.out _ _ (bal (Below.refl _ _) _) hTwo | (simp [*, go_sem]; done) | fail)); clear hK K; (try simp only [Act.put, nA, nB, nC]); refine two_ready (i := 8) (by kernel_rfl) rfl (fun K hK => ?_); (rw [if_pos (by simp [Region.wanted])]; refine HPX.out.wpP (W0.heap.size + 1) belA (by repeat (first | with_reducible assumption | with_reducible exact blknew _ _ | ((with_reducible refine blknew' _ _ _ ?_); (simp <;> omega)) | with_reducible refine blkdrew ?_ | with_reducible refine blkal ?_ _)) HDok.out hlP (.tmp 68) (.tmp 70) rfl rfl rfl ?_; intro g1 cap1 V1 hX1 hg1; have HX1 := Lib.hid hX1; have hS1 := HX1.out.cells.1; have hS2 := HX1.out.cells.2; have kR : V1.heap[W0.heap.size]? = some (.cells #[.slice Ao l co] 32 (0, 0)) := (hg1.block _ (by simp <;> omega) (fun e => by have := HPlt.out _ e.symm; omega)).trans (by repeat (first | with_reducible assumption | with_reducible exact blknew _ _ | ((with_reducible refine blknew' _ _ _ ?_); (simp <;> omega)) | with_reducible refine blkdrew ?_ | with_reducible refine blkal ?_ _)); clear hX1 hg1); refine hK.out _ _ ?_ ?_ (fun hOne hTwo => ?_); (focus (first | exact hS1 | exact HK1.out _ _ (bal (Below.refl _ _) _) hOne | exact HST.out _ _ _ hOne | (simp [*, go_sem]; done) | fail)); (focus (first | exact hS2 | exact HK2.out _ _ (bal (Below.refl _ _) _) hTwo | (simp [*, go_sem]; done) | fail)); clear hK K; (try simp only [Act.put, nA, nB, nC]); refine two_ready (i := 15) (by kernel_rfl) rfl (fun K hK => ?_); (rw [if_pos (by simp [Region.wanted])]; refine HX1.out.wpR _ HFd.out (Below.refl _ _) kR hlR (.tmp 75) (.tmp 77) rfl rfl rfl ?_; intro g2 cap2 V2 hX2; have HX2 := Lib.hid hX2; have hS1 := HX2.out.cells.1; have hS2 := HX2.out.cells.2; have HSD := Lib.hid (HX2.out.stored hob); have hf2 := HSD.out.2.1; have hf3 := HSD.out.2.2.1; have hzb2 := HSD.out.2.2.2; clear hX2); refine hK.out _ _ ?_ ?_ (fun hOne hTwo => ?_); (focus (first | exact hS1 | exact HK1.out _ _ (bal (Below.refl _ _) _) hOne | exact HST.out _ _ _ hOne | (simp [*, go_sem]; done) | fail)); (focus (first | exact hS2 | exact HK2.out _ _ (bal (Below.refl _ _) _) hTwo | (simp [*, go_sem]; done) | fail)); clear hK K; (try simp only [Act.put, nA, nB, nC]); refine two_take 16 (some 79) (v := ?_) rfl (by kernel_rfl) (by kernel_rfl) (by kernel_rfl) (by kernel_rfl) (by decide) (by kernel_rfl) (fun _ _ _ h => h) (Or.inl ⟨by kernel_rfl, ?_⟩) (by assumption) (by assumption) ?_; rotate_left; (focus (intro w' hSw; (try dsimp only at hSw); go_simp; (try with_reducible rfl))); (try simp only [Act.put, nA, nB, nC]); refine two_take 17 (some 80) (v := ?_) rfl (by kernel_rfl) (by kernel_rfl) (by kernel_rfl) (by kernel_rfl) (by decide) (by kernel_rfl) (fun _ _ _ h => h) (Or.inl ⟨by kernel_rfl, ?_⟩) (by assumption) (by assumption) ?_; rotate_left; (focus (intro w' hSw; (try dsimp only at hSw); go_simp; (try with_reducible rfl))); (try simp only [Act.put, nA, nB, nC]); refine two_late (i := 18) (by kernel_rfl) rfl (by first | exact .inl rfl | exact .inr (by kernel_rfl)) (fun K hK => ?_); (try clear hTwo); (try go_simp); refine hK.out _ _ ?_ (fun hOne => ?_); (focus (first | exact hS1 | exact HK1.out _ _ (bal (Below.refl _ _) _) hOne | exact HST.out _ _ _ hOne | (simp [*, go_sem]; done) | fail)); clear hK K; (try simp only [Act.put, nA, nB, nC]); refine two_late (i := 19) (by kernel_rfl) rfl (by first | exact .inl rfl | exact .inr (by kernel_rfl)) (fun K hK => ?_); (try clear hTwo); (try go_simp); refine hK.out _ _ ?_ (fun hOne => ?_); (focus (first | exact hS1 | exact HK1.out _ _ (bal (Below.refl _ _) _) hOne | exact HST.out _ _ _ hOne | (simp [*, go_sem]; done) | fail)); clear hK K; (try simp only [Act.put, nA, nB, nC]); refine two_late (i := 20) (by kernel_rfl) rfl (by first | exact .inl rfl | exact .inr (by kernel_rfl)) (fun K hK => ?_); (try clear hTwo); (try go_simp); refine hK.out _ _ ?_ (fun hOne => ?_); (focus (first | exact hS1 | exact HK1.out _ _ (bal (Below.refl _ _) _) hOne | exact HST.out _ _ _ hOne | (simp [*, go_sem]; done) | fail)); clear hK K; (try simp only [Act.put, nA, nB, nC]); refine two_late (i := 21) (by kernel_rfl) rfl (by first | exact .inl rfl | exact .inr (by kernel_rfl)) (fun K hK => ?_); (try clear hTwo); (try go_simp); refine hK.out _ _ ?_ (fun hOne => ?_); (focus (first | exact hS1 | exact HK1.out _ _ (bal (Below.refl _ _) _) hOne | exact HST.out _ _ _ hOne | (simp [*, go_sem]; done) | fail)); clear hK K; (try simp only [Act.put, nA, nB, nC]); refine two_done (by kernel_rfl) ?_ _)); rotate_left 1)
          all_goals (go_wp2_with fail; go_meet; exact ⟨Lib.hid HSD.out.1, hOne.2.1⟩)
        case rest =>
          obtain ⟨HE, c4⟩ := hcut
          obtain ⟨W2, rfl⟩ : ∃ z, z = wc := ⟨_, rfl⟩
          obtain ⟨vP1, vR1, FR1, ⟨j0, j1, j2, j5⟩, ⟨hLr, hob2⟩, hP1, hM1, hB1, hfp, hfr, _, _⟩ := HE.out
          obtain ⟨⟨m0, m1, _, _⟩, f0, f1, _, _⟩ := blk4p j0
          have mp := (blk1 j1).1
          have mk := (blk1 j2).1
          have m5 := (blk1 j5).1
          have zb := blklt j0
          have z0 := blklt j1
          have z1 := blklt j2
          have z5 := blklt j5
          have z4 := World.block_lt_of_cell? _ _ c4
          simp only at z4
          have J0 := Lib.hid j0
          have J1 := Lib.hid j1
          have J2 := Lib.hid j2
          have J5 := Lib.hid j5
          have HLR := Lib.hid hLr
          have HP1 := Lib.hid hP1
          have HM1 := Lib.hid hM1
          have HB1 := Lib.hid hB1
          have HFP := Lib.hid hfp
          have HFR := Lib.hid hfr
          have HL1 := Lib.hid (HL.out.step hM1 hfp hfr)
          clear j0 j1 j2 j5 hLr hP1 hM1 hB1 hfp hfr HPX cp ck c0 c1 c2 c3 c4' c5
          by_cases h0 : D.1 = 0
          · have hg2 : (D.1 == 0) = true := by simp [h0]
            have hpv : Hid ((g || pvG S l k) = G) := Lib.hid (by rw [← hG.out]; unfold pvG; rw [hD.out]; simp [h0])
            have hif : Hid (pvN S k = S) := Lib.hid (by unfold pvN; rw [hD.out, if_pos h0])
            clear h0
            go_wp2_with fail
            refine bodyPost_ret (v := .tuple #[]) (by simp [results, Try.results79, go_sem]) rfl ⟨rfl, ⟨some ⟨a1, o1, none⟩, cap, vP1, vR1, FR1, ?_, ?_, ?_, HB1.out⟩⟩
            · rw [hpv.out]; exact J0.out
            · rw [hXS.out, hD.out]; exact HP1.out
            · rw [hif.out]; exact HL1.out
          · have hg2 : (D.1 == 0) = false := by simp [h0]
            have hpv : Hid ((g || pvG S l k) = (G || matZ l l (pvYz S k))) := Lib.hid (by rw [← hG.out]; unfold pvG; rw [hD.out]; simp [h0, Bool.or_assoc])
            have hif : Hid (pvN S k = pvY S k) := Lib.hid (by unfold pvN; rw [hD.out, if_neg h0])
            have hYI : Hid (∀ i j, i < l → j < l → okFr (pvY S k i j)) := Lib.hid fun i j hi hj => by
              unfold pvY
              split
              · exact inF_ok (HS.out i hi j hj)
              · exact inF_ok (pvD_in HS.out hk hi hj)
            clear h0
            have eg : ∀ args w, (callFunc 126 args).run Try.prog w = .ok (.enter 126 args) w := enters_of Try.func126 (by kernel_rfl) rfl
            have HFI : Hid (∀ Wm, Below W2.heap.size W2 Wm → Fills 126 #[.pointer (some ⟨w.heap.size + 1, 0, none⟩), .pointer (some ⟨w.heap.size, 0, none⟩), .pointer (some ⟨b5, 0, none⟩)] l Wm.heap.size (fun g W => Fl b 0 Wm g W) (pvY S k) (pvYz S k)) := Lib.hid fun Wm hbm => pvFills hn hk HS.out (bblk hbm zb J0.out) (bblk hbm z0 J1.out) (bblk hbm z1 J2.out) (bblk hbm z5 J5.out) (HL1.out.step (Moves.below hbm) (fun _ e => .inl e) (fun _ e => .inl e)) ((by rw [hXS.out]; exact HLR.out : Lst shFr W2 (rowL l (pvX S k)) (.slice Ao l co)).below hbm) hob ⟨y0, hd3⟩
            go_wp2_with fail
            (refine last_region (S := (fun w' => w'.cell? ⟨w.heap.size, 0, none⟩ = some (.pointer (some ⟨b, 0, none⟩)) ∧ w'.cell? ⟨b, 1, none⟩ = some (.slice (some ⟨a1, o1, none⟩) l cap))) 10 (by kernel_rfl) ?_ (fun hHeld => ?_); (focus (first | exact hS | (simp [*, go_sem]; done) | fail)); refine last_take 0 (some 86) (v := ?_) rfl (by kernel_rfl) (by kernel_rfl) (by kernel_rfl) (by kernel_rfl) (by decide) (by kernel_rfl) (fun _ _ _ h => h) (Or.inl ⟨by kernel_rfl, ?_⟩) (by assumption) ?_; rotate_left; (focus (intro w' hSw; (try dsimp only at hSw); go_simp; (try with_reducible rfl))); (try simp only [Act.put, nA, nB, nC]); refine last_take 1 (some 87) (v := ?_) rfl (by kernel_rfl) (by kernel_rfl) (by kernel_rfl) (by kernel_rfl) (by decide) (by kernel_rfl) (fun _ _ _ h => h) (Or.inl ⟨by kernel_rfl, ?_⟩) (by assumption) ?_; rotate_left; (focus (intro w' hSw; (try dsimp only at hSw); go_simp; (try with_reducible rfl))); (try simp only [Act.put, nA, nB, nC]); refine last_take 2 (some 88) (v := ?_) rfl (by kernel_rfl) (by kernel_rfl) (by kernel_rfl) (by kernel_rfl) (by decide) (by kernel_rfl) (fun _ _ _ h => h) (Or.inl ⟨by kernel_rfl, ?_⟩) (by assumption) ?_; rotate_left; (focus (intro w' hSw; (try dsimp only at hSw); go_simp; (try with_reducible rfl))); (try simp only [Act.put, nA, nB, nC]); refine last_take 3 (some 89) (v := ?_) rfl (by kernel_rfl) (by kernel_rfl) (by kernel_rfl) (by kernel_rfl) (by decide) (by kernel_rfl) (fun _ _ _ h => h) (Or.inl ⟨by kernel_rfl, ?_⟩) (by assumption) ?_; rotate_left; (focus (intro w' hSw; (try dsimp only at hSw); go_simp; (try with_reducible rfl))); (try simp only [Act.put, nA, nB, nC]); refine last_take 4 (some 90) (v := ?_) rfl (by kernel_rfl) (by kernel_rfl) (by kernel_rfl) (by kernel_rfl) (by decide) (by kernel_rfl) (fun _ _ _ h => h) (Or.inl ⟨by kernel_rfl, ?_⟩) (by assumption) ?_; rotate_left; (focus (intro w' hSw; (try dsimp only at hSw); go_simp; (try with_reducible rfl))); (try simp only [Act.put, nA, nB, nC]); refine last_take 5 (some 91) (v := ?_) rfl (by kernel_rfl) (by kernel_rfl) (by kernel_rfl) (by kernel_rfl) (by decide) (by kernel_rfl) (fun _ _ _ h => h) (Or.inl ⟨by kernel_rfl, ?_⟩) (by assumption) ?_; rotate_left; (focus (intro w' hSw; (try dsimp only at hSw); go_simp; (try with_reducible rfl))); (try simp only [Act.put, nA, nB, nC]); refine last_take 6 (some 92) (v := ?_) rfl (by kernel_rfl) (by kernel_rfl) (by kernel_rfl) (by kernel_rfl) (by decide) (by kernel_rfl) (fun _ _ _ h => h) (Or.inl ⟨by kernel_rfl, ?_⟩) (by assumption) ?_; rotate_left; (focus (intro w' hSw; (try dsimp only at hSw); go_simp; (try with_reducible rfl))); (try simp only [Act.put, nA, nB, nC]); refine last_ready (i := 7) (by kernel_rfl) rfl (fun K hK => ?_); go_simp; (go_at_call 91; refine Calls.mono (matrix_any _ l 126 _ (fun g W => Fl b 0 _ g W) G (pvY S k) (pvYz S k) hn eg (fun g W W' h1 h2 => Below.trans h1 h2) (Fl.start (by first | assumption | simp [go_sem, *])) hYI.out (HFI.out _ belA)) ?_; rintro e0 w3 ⟨A3, cap3, F3, rfl, hO3, hR3, hz3⟩; have hm0 : W2.drew.cell? ⟨b, 0, none⟩ = some (.bool G) := (by first | assumption | simp [go_sem, *]); have hS := And.intro (hR3.keep hm0 (by simp) hHeld.1) (hR3.keep hm0 (by simp) hHeld.2); have HO3 := Lib.hid hO3; have HR3 := Lib.hid hR3; have K3 : Hid (w3.heap[b]? = _) := Lib.hid ((hR3.block b (by simpa using zb)).trans (blkset0 (blkdrew J0.out) 0 _)); have ff3 := (blk4p K3.out).2.2.1; have zb3 := blklt K3.out; clear hO3 hR3); go_wp2_with fail; refine hK.out _ _ ?_ (fun hHeld => ?_); (focus (first | exact hS | (simp [*, go_sem]; done) | fail)); clear hK K; (try simp only [Act.put, nA, nB, nC]); refine last_take 8 (some 94) (v := ?_) rfl (by kernel_rfl) (by kernel_rfl) (by kernel_rfl) (by kernel_rfl) (by decide) (by kernel_rfl) (fun _ _ _ h => h) (Or.inl ⟨by kernel_rfl, ?_⟩) (by assumption) ?_; rotate_left; (focus (intro w' hSw; (try dsimp only at hSw); go_simp; (try with_reducible rfl))); (try simp only [Act.put, nA, nB, nC]); refine last_take 9 (some 95) (v := ?_) rfl (by kernel_rfl) (by kernel_rfl) (by kernel_rfl) (by kernel_rfl) (by decide) (by kernel_rfl) (fun _ _ _ h => h) (Or.inl ⟨by kernel_rfl, ?_⟩) (by assumption) ?_; rotate_left; (focus (intro w' hSw; (try dsimp only at hSw); go_simp; (try with_reducible rfl))); (try simp only [Act.put, nA, nB, nC]); refine last_end (by kernel_rfl) rfl (fun K hK => ?_); (try go_simp); refine hK.out _ _ ?_; clear hK K hHeld; (try simp only [Act.put, nA, nB, nC]); refine last_done (by kernel_rfl) ?_ _)
            go_wp2_with fail
            have hk3 : Chg [b] W2 (w3.setCell ⟨b, 1, none⟩ (.slice A3 l cap3)) := (((Chg.of (bdrew1 (Below.refl _ _)) _ : Chg [b] W2 W2.drew)).trans HR3.out.chg).set (by simp) _
            have hO4 : Own (shL shFr) W2.heap.size (w3.setCell ⟨b, 1, none⟩ (.slice A3 l cap3)) (matL l l (pvY S k)) (.slice A3 l cap3) F3 := HO3.out.move (by simp) fun c h1 _ => Below.heap_setCell _ _ _ c (by simp at h1; show c ≠ b; omega)
            have hlt4 := HP1.out.lt
            refine bodyPost_end (v := .tuple #[]) (by simp [results, Try.results79, go_sem]) rfl ⟨rfl, ⟨A3, cap3, vP1, vR1, FR1, ?_, ?_, ?_, ?_⟩⟩
            · rw [hpv.out]; exact blkset0 K3.out 1 _
            · rw [hXS.out, hD.out]; exact HP1.out.keep fun c _ hl hne => hk3.2.2.2.2 c hl (by simpa using hne)
            · rw [hif.out]
              exact LstK.own hO4 fun q hq => ⟨by have := hO4.ge q hq; omega, fun e => by have := hO4.ge q hq; have := (hlt4.1 q e).2; omega, fun e => by have := hO4.ge q hq; have := (hlt4.2.1 q e).2; omega⟩
            · exact HB1.out.trans (hk3.below (by simpa using hB) (by omega))
end Go.Proofs.Ytekchdgpaemofaa
