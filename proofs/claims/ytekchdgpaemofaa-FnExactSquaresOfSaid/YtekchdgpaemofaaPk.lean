/- What is built while pivoting: the pivots, the rows and what is left. -/
import Derived.Test.YtekchdgpaemofaaPq
import Derived.OwnWalk
import Derived.Deep.AppendLies
namespace Go.Proofs.Ytekchdgpaemofaa
open Go.ChangeShapes Go.WideShapes Go.ChangeAt Go.RowKit
set_option linter.unusedVariables false
set_option linter.unusedSimpArgs false
attribute [local irreducible] Calls
theorem blk4p {w : World} {k : Nat} {t : TypeId} {a b c d : Value} (h : w.heap[k]? = some (.cells #[a, b, c, d] t (0, 0))) : (w.cell? ⟨k, 0, none⟩ = some a ∧ w.cell? ⟨k, 1, none⟩ = some b ∧ w.cell? ⟨k, 2, none⟩ = some c ∧ w.cell? ⟨k, 3, none⟩ = some d) ∧ (w.frozen? ⟨k, 0, none⟩ = false ∧ w.frozen? ⟨k, 1, none⟩ = false ∧ w.frozen? ⟨k, 2, none⟩ = false ∧ w.frozen? ⟨k, 3, none⟩ = false) := by
  simp [World.cell?, World.frozen?, h]
theorem blk5p {w : World} {k : Nat} {t : TypeId} {a b c d e : Value} (h : w.heap[k]? = some (.cells #[a, b, c, d, e] t (0, 0))) : (w.cell? ⟨k, 0, none⟩ = some a ∧ w.cell? ⟨k, 1, none⟩ = some b ∧ w.cell? ⟨k, 2, none⟩ = some c ∧ w.cell? ⟨k, 3, none⟩ = some d ∧ w.cell? ⟨k, 4, none⟩ = some e) ∧ (w.frozen? ⟨k, 0, none⟩ = false ∧ w.frozen? ⟨k, 1, none⟩ = false ∧ w.frozen? ⟨k, 2, none⟩ = false ∧ w.frozen? ⟨k, 3, none⟩ = false ∧ w.frozen? ⟨k, 4, none⟩ = false) := by
  simp [World.cell?, World.frozen?, h]
theorem ownsRow_keep {w w' : World} {base : Nat} {e : TypeId} {size n : Nat} {v : Value} {L : List Value} (h : w.ownsRow base e size v n L) (hk : ∀ q, v.ownBlock = some q → w'.heap[q]? = w.heap[q]?) : w'.ownsRow base e size v n L := by
  obtain ⟨h1, h2⟩ := h
  refine ⟨h1, ?_⟩
  rcases h2 with h2 | ⟨g, cap, cur, rfl, hg, hh, r⟩
  · exact .inl h2
  · exact .inr ⟨g, cap, cur, rfl, hg, (hk g rfl).trans hh, r⟩
theorem AppW.keepF {s : Sh} {B : Nat} {e : TypeId} {w w' : World} {v : Value} {xs : List s.T} {L : List Value} {F : List Nat} (h : AppW s B e w v xs L F) (hk : ∀ q, (v.ownBlock = some q ∨ q ∈ F) → w'.heap[q]? = w.heap[q]?) : AppW s B e w' v xs L F := by
  obtain ⟨h1, h2, h3, h4, h5⟩ := h
  exact ⟨ownsRow_keep h1 fun q hq => hk q (.inl hq), h2.keep fun b hb => hk b (.inr hb), h3, h4, h5⟩
theorem AppW.lt {s : Sh} {B : Nat} {e : TypeId} {w : World} {v : Value} {xs : List s.T} {L : List Value} {F : List Nat} (h : AppW s B e w v xs L F) : ∀ q, (v.ownBlock = some q ∨ q ∈ F) → B ≤ q ∧ q < w.heap.size := by
  intro q hq
  rcases hq with hq | hq
  · exact h.1.lt q hq
  · exact ⟨h.2.2.2.1 q hq, h.2.1.lt q hq⟩
theorem AppW.nextW {s : Sh} {B : Nat} {e : TypeId} {w w1 : World} {v : Value} {xs : List s.T} {L : List Value} {F : List Nat} (h : AppW s B e w v xs L F) {d : s.T} {c : List Value} {Fd : List Nat} (hd : s.own w d c Fd) (hN : Fd.Nodup) (hB : ∀ b ∈ Fd, B ≤ b)
    (hF : ∀ b ∈ Fd, b ∉ F) (hv : ∀ k, v.ownBlock = some k → k ∉ Fd) {g cap : Nat} (ho : w1.ownsRow B e s.sz (.slice (some ⟨g, 0, none⟩) (xs.length + 1) cap) (xs.length + 1) (L ++ c)) (hg : w.grownBy w1 v.ownBlock) (ha : v.ownBlock = some g ∨ g = w.heap.size) :
    AppW s B e w1 (.slice (some ⟨g, 0, none⟩) (xs.length + 1) cap) (xs ++ [d]) (L ++ c) (F ++ Fd) := by
  obtain ⟨h1, h2, h3, h4, h5⟩ := h
  have k1 : ∀ b ∈ F, w1.heap[b]? = w.heap[b]? := fun b hb => hg.block b (h2.lt b hb) (fun e => h5 b e.symm hb)
  have k2 : ∀ b ∈ Fd, w1.heap[b]? = w.heap[b]? := fun b hb => hg.block b (s.ownLt _ _ _ _ hd b hb) (fun e => hv b e.symm hb)
  refine ⟨by rw [List.length_append]; exact ho, (h2.keep k1).snoc (s.ownKeep _ _ _ _ _ k2 hd), ?_, ?_, ?_⟩
  · rw [List.nodup_append]
    exact ⟨h3, hN, fun a ha b hb e => hF b hb (e ▸ ha)⟩
  · intro b hb
    rcases List.mem_append.1 hb with hb | hb
    · exact h4 b hb
    · exact hB b hb
  · intro k hk
    have : g = k := by simpa [Value.ownBlock] using hk
    subst this
    intro hm
    rcases List.mem_append.1 hm with hm | hm
    · rcases ha with ha | ha
      · exact h5 g ha hm
      · have := h2.lt g hm; omega
    · rcases ha with ha | ha
      · exact hv g ha hm
      · have := s.ownLt _ _ _ _ hd g hm; omega
theorem AppW.mono {s : Sh} {B B' : Nat} {e : TypeId} {w : World} {v : Value} {xs : List s.T} {L : List Value} {F : List Nat} (h : AppW s B e w v xs L F) (hB : B' ≤ B) : AppW s B' e w v xs L F := by
  obtain ⟨⟨h0, h1⟩, h2, h3, h4, h5⟩ := h
  refine ⟨⟨h0, ?_⟩, h2, h3, fun b hb => Nat.le_trans hB (h4 b hb), h5⟩
  rcases h1 with h1 | ⟨g, cap, cur, e1, hg, r⟩
  · exact .inl h1
  · exact .inr ⟨g, cap, cur, e1, Nat.le_trans hB hg, r⟩
/-- A fraction is appended. -/
theorem wp_append_fr (w : World) {B : Nat} {v : Value} {Ps : List (Int × Int)} {LP : List Value} (hA : AppW shFr B 79 w v Ps LP []) {k : Nat} {d : Int × Int} {ty : TypeId} (hk : w.heap[k]? = some (.cells #[.int .i64 d.1, .int .i64 d.2] ty (0, 0))) (hd : okFr d) (hl : Ps.length < 1000) (hB : B ≤ w.heap.size)
    {o : Oper} {a : Act} {K : Act → World → Prop} {Q : Exit → Act → World → Prop} (s x : Operand) (ho : o.op = .call { callee := .builtin .append, args := #[s, x], argTypes := #[32, 32] }) (hs : a.eval s = v) (hx : a.eval x = .slice (some ⟨k, 0, none⟩) 1 1)
    (h : ∀ (g cap : Nat) w', AppW shFr B 79 w' (.slice (some ⟨g, 0, none⟩) (Ps.length + 1) cap) (Ps ++ [d]) (LP ++ [.int .i64 d.1, .int .i64 d.2]) [] → w.grownBy w' v.ownBlock → (v.ownBlock = some g ∨ g = w.heap.size) → K (a.put o.dst (.slice (some ⟨g, 0, none⟩) (Ps.length + 1) cap)) w') : o.wp Try.prog a w K Q := by
  obtain ⟨i1, z1, hi1, hz1, hs1, hb1, hl1⟩ := infoB_spec (P := Try.prog) (e := 79) (sz := 2) (bytes := 16) (by kernel_rfl)
  refine wp_append_lies w s x 32 ho B 79 i1 z1 2 16 Try.underlying32 hi1 hz1 hs1 hb1 hl1 (by decide) v Ps.length LP hs hA.1 ⟨k, 0, none⟩ 1 1 [.int .i64 d.1, .int .i64 d.2] hx rfl (World.news_of_block hk) (by simp [Value.oneCell']) (by decide) (by unfold maxLen; omega) (by omega) hB _ rfl ?_
  intro g cap w' ho1 hg ha _
  have := hA.nextW (s := shFr) (d := d) (Fd := []) ((flatFr.2 _ _ _ _).2 ⟨⟨rfl, hd⟩, rfl⟩) List.nodup_nil (by simp) (by simp) (by simp) ho1 hg ha
  exact h g cap w' this hg ha
/-- A row is appended. -/
theorem wp_append_row (w : World) {B : Nat} {v : Value} {Rs : List (List (Int × Int))} {LR : List Value} {FR : List Nat} (hA : AppW (shL shFr) B 32 w v Rs LR FR) {k : Nat} {xs : List (Int × Int)} {u : Value} {Fd : List Nat} {ty : TypeId} (hk : w.heap[k]? = some (.cells #[u] ty (0, 0))) (hu : u.oneCell' = true) (hO : Own shFr B w xs u Fd) (hF : ∀ q ∈ Fd, q ∉ FR ∧ v.ownBlock ≠ some q) (hl : Rs.length < 1000) (hB : B ≤ w.heap.size)
    {o : Oper} {a : Act} {K : Act → World → Prop} {Q : Exit → Act → World → Prop} (s x : Operand) (ho : o.op = .call { callee := .builtin .append, args := #[s, x], argTypes := #[26, 26] }) (hs : a.eval s = v) (hx : a.eval x = .slice (some ⟨k, 0, none⟩) 1 1)
    (h : ∀ (g cap : Nat) w', AppW (shL shFr) B 32 w' (.slice (some ⟨g, 0, none⟩) (Rs.length + 1) cap) (Rs ++ [xs]) (LR ++ [u]) (FR ++ Fd) → w.grownBy w' v.ownBlock → (v.ownBlock = some g ∨ g = w.heap.size) → K (a.put o.dst (.slice (some ⟨g, 0, none⟩) (Rs.length + 1) cap)) w') : o.wp Try.prog a w K Q := by
  obtain ⟨i1, z1, hi1, hz1, hs1, hb1, hl1⟩ := infoB_spec (P := Try.prog) (e := 32) (sz := 1) (bytes := 24) (by kernel_rfl)
  refine wp_append_lies w s x 26 ho B 32 i1 z1 1 24 Try.underlying26 hi1 hz1 hs1 hb1 hl1 (by decide) v Rs.length LR hs hA.1 ⟨k, 0, none⟩ 1 1 [u] hx rfl (World.news_of_block hk) (by simpa using hu) (by decide) (by unfold maxLen; omega) (by omega) hB _ rfl ?_
  intro g cap w' ho1 hg ha _
  have := hA.nextW (s := shL shFr) (d := xs) (Fd := Fd) hO.1 hO.2.1 hO.2.2 (fun b hb => (hF b hb).1) (fun q hq hm => (hF q hm).2 hq) ho1 hg ha
  exact h g cap w' this hg ha
/-- The pivots and the rows so far, beside the block b that holds them. -/
def PRs (B b : Nat) (w : World) (Ps : List (Int × Int)) (Rs : List (List (Int × Int))) (vP vR : Value) (FR : List Nat) : Prop :=
  (∃ LP, AppW shFr B 79 w vP Ps LP []) ∧ (∃ LR, AppW (shL shFr) B 32 w vR Rs LR FR) ∧ (∀ q, vP.ownBlock = some q → q ≠ b ∧ q ∉ FR ∧ vR.ownBlock ≠ some q) ∧ (∀ q, vR.ownBlock = some q → q ≠ b) ∧ b ∉ FR
theorem AppW.nil (s : Sh) (B : Nat) (e : TypeId) (w : World) : AppW s B e w (.slice none 0 0) ([] : List s.T) [] [] :=
  ⟨⟨by simp, .inl ⟨rfl, rfl⟩⟩, Rows.nil _ _, by simp, by simp, by simp⟩
theorem AppW.new (s : Sh) {B : Nat} {e : TypeId} {w : World} {g : Nat} (hg : w.heap[g]? = some (.cells #[] e (0, 0))) (hB : B ≤ g) : AppW s B e w (.slice (some ⟨g, 0, none⟩) 0 0) ([] : List s.T) [] [] :=
  ⟨⟨by simp, .inr ⟨g, 0, #[], rfl, hB, hg, Nat.le_refl _, Nat.zero_le _, by simp, by simp⟩⟩, Rows.nil _ _, by simp, by simp, by simp⟩
theorem growK {w w' : World} {v u : Value} {a : Addr} (hg : w.grownBy w' v.ownBlock) (hn : v.ownBlock ≠ some a.block) (h : w.cell? a = some u) : w'.cell? a = some u :=
  (World.cell?_of_block (hg.block a.block (World.block_lt_of_cell? _ _ h) (fun e => hn e.symm))).trans h
theorem PRs.nil (B b : Nat) (w : World) : PRs B b w [] [] (.slice none 0 0) (.slice none 0 0) [] :=
  ⟨⟨[], AppW.nil shFr B _ w⟩, ⟨[], AppW.nil (shL shFr) B _ w⟩, fun q hq => by simp [Value.ownBlock] at hq, fun q hq => by simp [Value.ownBlock] at hq, by simp⟩
theorem PRs.keep {B b : Nat} {w w' : World} {Ps : List (Int × Int)} {Rs : List (List (Int × Int))} {vP vR : Value} {FR : List Nat} (h : PRs B b w Ps Rs vP vR FR) (hk : ∀ c, B ≤ c → c < w.heap.size → c ≠ b → w'.heap[c]? = w.heap[c]?) : PRs B b w' Ps Rs vP vR FR := by
  obtain ⟨⟨LP, h1⟩, ⟨LR, h2⟩, h3, h4, h5⟩ := h
  refine ⟨⟨LP, h1.keepF fun q hq => ?_⟩, ⟨LR, h2.keepF fun q hq => ?_⟩, h3, h4, h5⟩
  · obtain ⟨a, b⟩ := h1.lt q hq
    refine hk q a b ?_
    rcases hq with hq | hq
    · exact (h3 q hq).1
    · cases hq
  · obtain ⟨a, b⟩ := h2.lt q hq
    refine hk q a b ?_
    rcases hq with hq | hq
    · exact h4 q hq
    · rintro rfl; exact h5 hq
theorem PRs.below {B b : Nat} {w w' : World} {Ps : List (Int × Int)} {Rs : List (List (Int × Int))} {vP vR : Value} {FR : List Nat} (h : PRs B b w Ps Rs vP vR FR) (hb : Below w.heap.size w w') : PRs B b w' Ps Rs vP vR FR := h.keep fun c _ hl _ => hb.block c hl
/-- Where all of it lies. -/
theorem PRs.lt {B b : Nat} {w : World} {Ps : List (Int × Int)} {Rs : List (List (Int × Int))} {vP vR : Value} {FR : List Nat} (h : PRs B b w Ps Rs vP vR FR) : (∀ q, vP.ownBlock = some q → B ≤ q ∧ q < w.heap.size) ∧ (∀ q, vR.ownBlock = some q → B ≤ q ∧ q < w.heap.size) ∧ ∀ q ∈ FR, B ≤ q ∧ q < w.heap.size := by
  obtain ⟨⟨LP, h1⟩, ⟨LR, h2⟩, _⟩ := h
  exact ⟨fun q hq => h1.lt q (.inl hq), fun q hq => h2.lt q (.inl hq), fun q hq => h2.lt q (.inr hq)⟩
theorem PRs.mono {B B' b : Nat} {w : World} {Ps : List (Int × Int)} {Rs : List (List (Int × Int))} {vP vR : Value} {FR : List Nat} (h : PRs B b w Ps Rs vP vR FR) (hB : B' ≤ B) : PRs B' b w Ps Rs vP vR FR := by
  obtain ⟨⟨LP, h1⟩, ⟨LR, h2⟩, h3⟩ := h
  exact ⟨⟨LP, h1.mono hB⟩, ⟨LR, h2.mono hB⟩, h3⟩
theorem PRs.form {B b : Nat} {w : World} {Ps : List (Int × Int)} {Rs : List (List (Int × Int))} {vP vR : Value} {FR : List Nat} (h : PRs B b w Ps Rs vP vR FR) : (∃ A cap, vP = .slice A Ps.length cap) ∧ ∃ A cap, vR = .slice A Rs.length cap := by
  obtain ⟨⟨LP, h1⟩, ⟨LR, h2⟩, _⟩ := h
  obtain ⟨A, cap, _, e, _⟩ := AppS.own ⟨_, _, h1⟩
  obtain ⟨A', cap', _, e', _⟩ := AppS.own ⟨_, _, h2⟩
  exact ⟨⟨A, cap, e⟩, A', cap', e'⟩
/-- What may change while a matrix that is left stays as it is. -/
def Moves (b : Nat) (vP vR : Value) (w w' : World) : Prop := (w'.os = w.os ∧ w'.tape = w.tape ∧ w'.output = w.output) ∧ w.heap.size ≤ w'.heap.size ∧ ∀ c, c < w.heap.size → c ≠ b → vP.ownBlock ≠ some c → vR.ownBlock ≠ some c → w'.heap[c]? = w.heap[c]?
def LstK (b : Nat) (vP vR : Value) (w : World) (xss : List (List (Int × Int))) (v : Value) : Prop := ∀ w', Moves b vP vR w w' → Lst (shL shFr) w' xss v
theorem Moves.refl (b : Nat) (vP vR : Value) (w : World) : Moves b vP vR w w := ⟨⟨rfl, rfl, rfl⟩, Nat.le_refl _, fun _ _ _ _ _ => rfl⟩
theorem Moves.of {b : Nat} {vP vR : Value} {w w' : World} (h : Chg [b] w w') : Moves b vP vR w w' := ⟨⟨h.1, h.2.1, h.2.2.1⟩, h.2.2.2.1, fun c hc hb _ _ => h.2.2.2.2 c hc (by simpa using hb)⟩
theorem Moves.below {b : Nat} {vP vR : Value} {w w' : World} (h : Below w.heap.size w w') : Moves b vP vR w w' := Moves.of (Chg.of h _)
theorem Moves.trans {b : Nat} {vP vR vP' vR' : Value} {w w1 w2 : World} (h : Moves b vP vR w w1) (k : Moves b vP' vR' w1 w2) (hP : ∀ q, vP'.ownBlock = some q → vP.ownBlock = some q ∨ w.heap.size ≤ q) (hR : ∀ q, vR'.ownBlock = some q → vR.ownBlock = some q ∨ w.heap.size ≤ q) : Moves b vP vR w w2 := by
  obtain ⟨⟨o1, o2, o3⟩, o4, o5⟩ := h
  obtain ⟨⟨p1, p2, p3⟩, p4, p5⟩ := k
  refine ⟨⟨p1.trans o1, p2.trans o2, p3.trans o3⟩, Nat.le_trans o4 p4, fun c hc hb h3 h4 => ?_⟩
  rw [p5 c (by omega) hb ?_ ?_]
  · exact o5 c hc hb h3 h4
  · intro e
    rcases hP c e with e | e
    · exact h3 e
    · omega
  · intro e
    rcases hR c e with e | e
    · exact h4 e
    · omega
theorem LstK.lst {b : Nat} {vP vR : Value} {w : World} {xss : List (List (Int × Int))} {v : Value} (h : LstK b vP vR w xss v) : Lst (shL shFr) w xss v := h w (Moves.refl _ _ _ _)
theorem LstK.step {b : Nat} {vP vR vP' vR' : Value} {w w1 : World} {xss : List (List (Int × Int))} {v : Value} (h : LstK b vP vR w xss v) (hm : Moves b vP vR w w1) (hP : ∀ q, vP'.ownBlock = some q → vP.ownBlock = some q ∨ w.heap.size ≤ q) (hR : ∀ q, vR'.ownBlock = some q → vR.ownBlock = some q ∨ w.heap.size ≤ q) : LstK b vP' vR' w1 xss v :=
  fun w2 h2 => h w2 (hm.trans h2 hP hR)
theorem LstK.own {b Bm : Nat} {vP vR : Value} {w : World} {xss : List (List (Int × Int))} {v : Value} {F : List Nat} (h : Own (shL shFr) Bm w xss v F) (hF : ∀ q ∈ F, q ≠ b ∧ vP.ownBlock ≠ some q ∧ vR.ownBlock ≠ some q) : LstK b vP vR w xss v := by
  intro w' hm
  have h2 : Own (shL shFr) Bm w' xss v F := ⟨(shL (shL shFr)).ownKeep _ _ _ _ _ (fun c hc => hm.2.2 c (h.lt c hc) (hF c hc).1 (hF c hc).2.1 (hF c hc).2.2) h.1, h.2⟩
  exact h2.lst
/-- What lies below all that is built. -/
theorem LstK.old {b B : Nat} {w w0 : World} {vP vR : Value} {xss : List (List (Int × Int))} {v : Value} (h : Lst (shL shFr) w0 xss v) (hb : w0.heap.size ≤ b) (hP : ∀ q, vP.ownBlock = some q → w0.heap.size ≤ q) (hR : ∀ q, vR.ownBlock = some q → w0.heap.size ≤ q) (hw : Below w0.heap.size w0 w) : LstK b vP vR w xss v := by
  intro w' hm
  refine h.below ⟨hm.1.1.trans hw.os, hm.1.2.1.trans hw.tape, hm.1.2.2.trans hw.output, Nat.le_trans hw.size hm.2.1, fun c hc => ?_⟩
  rw [hm.2.2 c (by have := hw.size; omega) (by omega) (fun e => by have := hP c e; omega) (fun e => by have := hR c e; omega)]
  exact hw.block c hc
/-- A place of what is left. -/
theorem left_at {w : World} {n : Nat} {S : Nat → Nat → Int × Int} {A : Option Addr} {cap : Nat} (h : Lst (shL shFr) w (matL n n S) (.slice A n cap)) (hn : n ≤ 8) (hS : ∀ i, i < n → ∀ j, j < n → inF (S i j)) {i j : Nat} (hi : i < n) (hj : j < n) :
    ∃ a1 o1 r1 p1 d1, A = some ⟨a1, o1, none⟩ ∧ n ≤ cap ∧ n ≤ d1 ∧ a1 < w.heap.size ∧ r1 < w.heap.size ∧ w.cell? ⟨a1, o1 + i, none⟩ = some (.slice (some ⟨r1, p1, none⟩) n d1) ∧ w.cell? ⟨r1, p1 + j * 2, none⟩ = some (.int .i64 (S i j).1) ∧ w.cell? ⟨r1, p1 + j * 2 + 1, none⟩ = some (.int .i64 (S i j).2) := by
  have hl : (matL n n S).length = n := matL_len _ _ _
  have h' : Lst (shL shFr) w (matL n n S) (.slice A (matL n n S).length cap) := by rw [hl]; exact h
  obtain ⟨a1, o1, r1, p1, d1, e, h1, h2, h3, h4, h5, h6, h7, h8⟩ := mat_at h' (SqM.mat hn hS) (i := i) (j := j) (by rw [hl]; exact hi) (by rw [hl]; exact hj)
  rw [hl] at h1 h2 h6
  rw [at2_mat S hi hj] at h7 h8
  exact ⟨a1, o1, r1, p1, d1, e, h1, h2, h3, h4, h6, h7, h8⟩
theorem chg_cell {b : Nat} {w w' : World} (h : Chg [b] w w') {a : Addr} {u : Value} (ha : a.block ≠ b) (hc : w.cell? a = some u) : w'.cell? a = some u :=
  (World.cell?_of_block (h.2.2.2.2 a.block (World.block_lt_of_cell? _ _ hc) (by simpa using ha))).trans hc
/-- A place of what is left: it lies apart from the block b. -/
theorem left_apart {w : World} {n b : Nat} {S : Nat → Nat → Int × Int} {vP vR : Value} {A : Option Addr} {cap : Nat} (h : LstK b vP vR w (matL n n S) (.slice A n cap)) (hn : n ≤ 8) (hS : ∀ i, i < n → ∀ j, j < n → inF (S i j)) {i j : Nat} (hi : i < n) (hj : j < n) :
    ∃ a1 o1 r1 p1 d1, A = some ⟨a1, o1, none⟩ ∧ n ≤ cap ∧ n ≤ d1 ∧ a1 < w.heap.size ∧ r1 < w.heap.size ∧ a1 ≠ b ∧ r1 ≠ b ∧ w.cell? ⟨a1, o1 + i, none⟩ = some (.slice (some ⟨r1, p1, none⟩) n d1) ∧ w.cell? ⟨r1, p1 + j * 2, none⟩ = some (.int .i64 (S i j).1) ∧ w.cell? ⟨r1, p1 + j * 2 + 1, none⟩ = some (.int .i64 (S i j).2) := by
  obtain ⟨a1, o1, r1, p1, d1, rfl, h1, h2, h3, h4, h5, h6, h7⟩ := left_at h.lst hn hS hi hj
  have hm : ∀ (p : Addr) (u : Value), p.block = b → Lst (shL shFr) (w.setCell p u) (matL n n S) (.slice (some ⟨a1, o1, none⟩) n cap) := fun p u hp => h _ (Moves.of (Chg.set (Chg.refl _ _) (by simp [hp]) u))
  have ha : a1 ≠ b := by
    rintro rfl
    obtain ⟨a2, o2, r2, p2, d2, e, _, _, _, _, k5, _, _⟩ := left_at (hm ⟨a1, o1 + i, none⟩ (.bool false) rfl) hn hS hi hj
    injection e with e
    injection e with e1 e2
    subst e1
    subst e2
    rw [World.cell?_setCell_same _ _ _ h5] at k5
    cases k5
  refine ⟨a1, o1, r1, p1, d1, rfl, h1, h2, h3, h4, ha, ?_, h5, h6, h7⟩
  rintro rfl
  obtain ⟨a2, o2, r2, p2, d2, e, _, _, _, _, k5, k6, _⟩ := left_at (hm ⟨r1, p1 + j * 2, none⟩ (.bool false) rfl) hn hS hi hj
  injection e with e
  injection e with e1 e2
  subst e1
  subst e2
  rw [World.cell?_setCell_far _ _ _ _ (fun e => ha e.symm), h5] at k5
  injection k5 with k5
  injection k5 with k5 _ _
  injection k5 with k5
  injection k5 with k5 k7
  subst k5
  subst k7
  rw [World.cell?_setCell_same _ _ _ h6] at k6
  cases k6
/-- All that is there behind some steps. -/
def PvI (B b n : Nat) (w0 : World) (G : Bool) (E : Nat → Nat → Int × Int) (Ps : List (Int × Int)) (Rs : List (List (Int × Int))) (V : World) : Prop :=
  ∃ A cap vP vR FR, V.heap[b]? = some (.cells #[.bool G, .slice A n cap, vP, vR] 86 (0, 0)) ∧ PRs B b V Ps Rs vP vR FR ∧ LstK b vP vR V (matL n n E) (.slice A n cap) ∧ Below B w0 V
theorem AppW.ownF {s : Sh} {B : Nat} {e : TypeId} {w : World} {v : Value} {xs : List s.T} {L : List Value} {F : List Nat} (h : AppW s B e w v xs L F) : ∃ A cap Fo, v = .slice A xs.length cap ∧ Own s B w xs v Fo ∧ ∀ q ∈ Fo, v.ownBlock = some q ∨ q ∈ F := by
  obtain ⟨h1, h2, h3, h4, h5⟩ := h
  obtain ⟨hl, h1⟩ := h1
  rcases h1 with ⟨rfl, h0⟩ | ⟨g, cap, cur, rfl, hg, hh, hc, hm, hs, ht⟩
  · have : xs = [] := List.length_eq_zero_iff.1 h0
    subst this
    exact ⟨none, 0, [], rfl, Own.nil s B w 0 (Nat.zero_le _) none, fun q hq => by cases hq⟩
  · refine ⟨_, _, g :: F, rfl, h2.own ⟨cur, hh, hs, by rw [hl]; exact ht⟩ hc hm (Nat.mul_le_mul_right _ hc) hg h4 (List.nodup_cons.2 ⟨h5 g rfl, h3⟩), fun q hq => ?_⟩
    rcases List.mem_cons.1 hq with rfl | hq
    · exact .inl rfl
    · exact .inr hq
/-- Two lists of one's own are returned, with a code. -/
def SqRet (w : World) (xs : List (Int × Int)) (ys : List (List (Int × Int))) (c : Int) (e : Ending) (w' : World) : Prop :=
  ∃ A cap A' cap' F F', e = .returned (.tuple #[.slice A xs.length cap, .slice A' ys.length cap', .int .i64 c]) ∧ Own shFr w.heap.size w' xs (.slice A xs.length cap) F ∧ Own (shL shFr) w.heap.size w' ys (.slice A' ys.length cap') F' ∧ (∀ q ∈ F, q ∉ F') ∧ Below w.heap.size w w'
theorem SqRet.nil {w w' : World} {A A' : Option Addr} {c : Int} (hb : Below w.heap.size w w') : SqRet w [] [] c (.returned (.tuple #[.slice A 0 0, .slice A' 0 0, .int .i64 c])) w' :=
  ⟨A, 0, A', 0, [], [], rfl, Own.nil _ _ _ 0 (Nat.zero_le _) _, Own.nil _ _ _ 0 (Nat.zero_le _) _, by simp, hb⟩
theorem PRs.two {b : Nat} {w W : World} {Ps : List (Int × Int)} {Rs : List (List (Int × Int))} {vP vR : Value} {FR : List Nat} {c : Int} (h : PRs w.heap.size b W Ps Rs vP vR FR) (hb : Below w.heap.size w W) : ∃ A cap A' cap', vP = .slice A Ps.length cap ∧ vR = .slice A' Rs.length cap' ∧ SqRet w Ps Rs c (.returned (.tuple #[vP, vR, .int .i64 c])) W := by
  obtain ⟨⟨LP, h1⟩, ⟨LR, h2⟩, h3, h4, h5⟩ := h
  obtain ⟨A, cap, F, rfl, hO, hF⟩ := h1.ownF
  obtain ⟨A', cap', F', rfl, hO', hF'⟩ := h2.ownF
  refine ⟨A, cap, A', cap', rfl, rfl, A, cap, A', cap', F, F', rfl, hO, hO', fun q hq hm => ?_, hb⟩
  rcases hF q hq with h | h
  · rcases hF' q hm with h' | h'
    · exact (h3 q h).2.2 h'
    · exact (h3 q h).2.1 h'
  · cases h
end Go.Proofs.Ytekchdgpaemofaa
