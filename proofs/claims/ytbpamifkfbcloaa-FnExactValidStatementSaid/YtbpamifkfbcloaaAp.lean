/- A slice that grows by append, its elements of one's own. -/
import Derived.Test.YtbpamifkfbcloaaNs
import Derived.Deep.AppendLies
namespace Go.Proofs.Ytbpamifkfbcloaa
open Go.RowKit
theorem ownsRow_move {w w' : World} {base : Nat} {e : TypeId} {size n : Nat} {v : Value} {L : List Value} (h : w.ownsRow base e size v n L) (hk : ∀ b, base ≤ b → b < w.heap.size → w'.heap[b]? = w.heap[b]?) : w'.ownsRow base e size v n L := by
  obtain ⟨h1, h2⟩ := h
  refine ⟨h1, ?_⟩
  rcases h2 with h2 | ⟨g, cap, cur, rfl, hg, hh, r⟩
  · exact .inl h2
  · exact .inr ⟨g, cap, cur, rfl, hg, (hk g hg (Array.getElem?_eq_some_iff.1 hh).1).trans hh, r⟩
/-- What has been appended so far: cells L, the elements' blocks F. -/
def AppW (s : Sh) (B : Nat) (e : TypeId) (w : World) (v : Value) (xs : List s.T) (L : List Value) (F : List Nat) : Prop :=
  w.ownsRow B e s.sz v xs.length L ∧ Rows s w xs L F ∧ F.Nodup ∧ (∀ b ∈ F, B ≤ b) ∧ (∀ k, v.ownBlock = some k → k ∉ F)
def AppS (s : Sh) (B : Nat) (e : TypeId) (w : World) (v : Value) (xs : List s.T) : Prop := ∃ L F, AppW s B e w v xs L F
theorem AppW.move {s : Sh} {B : Nat} {e : TypeId} {w w' : World} {v : Value} {xs : List s.T} {L : List Value} {F : List Nat} (h : AppW s B e w v xs L F) (hk : ∀ b, B ≤ b → b < w.heap.size → w'.heap[b]? = w.heap[b]?) : AppW s B e w' v xs L F := by
  obtain ⟨h1, h2, h3, h4, h5⟩ := h
  exact ⟨ownsRow_move h1 hk, h2.keep fun b hb => hk b (h4 b hb) (h2.lt b hb), h3, h4, h5⟩
theorem AppS.move {s : Sh} {B : Nat} {e : TypeId} {w w' : World} {v : Value} {xs : List s.T} (h : AppS s B e w v xs) (hk : ∀ b, B ≤ b → b < w.heap.size → w'.heap[b]? = w.heap[b]?) : AppS s B e w' v xs := by
  obtain ⟨L, F, h⟩ := h
  exact ⟨L, F, h.move hk⟩
theorem AppS.below {s : Sh} {B : Nat} {e : TypeId} {w w' : World} {v : Value} {xs : List s.T} (h : AppS s B e w v xs) (hb : Below w.heap.size w w') : AppS s B e w' v xs := h.move fun b _ hl => hb.block b hl
theorem AppS.new (s : Sh) {B : Nat} {e : TypeId} {w : World} {g : Nat} (hg : w.heap[g]? = some (.cells #[] e (0, 0))) (hB : B ≤ g) : AppS s B e w (.slice (some ⟨g, 0, none⟩) 0 0) ([] : List s.T) :=
  ⟨[], [], ⟨by simp, .inr ⟨g, 0, #[], rfl, hB, hg, Nat.le_refl _, Nat.zero_le _, by simp, by simp⟩⟩, Rows.nil _ _, by simp, by simp, by simp⟩
theorem AppS.nil (s : Sh) (B : Nat) (e : TypeId) (w : World) : AppS s B e w (.slice none 0 0) ([] : List s.T) :=
  ⟨[], [], ⟨by simp, .inl ⟨rfl, rfl⟩⟩, Rows.nil _ _, by simp, by simp, by simp⟩
/-- Behind the append of one element. -/
theorem AppW.next {s : Sh} {B : Nat} {e : TypeId} {w w1 : World} {v : Value} {xs : List s.T} {L : List Value} {F : List Nat} (h : AppW s B e w v xs L F) {d : s.T} {c : List Value} {Fd : List Nat} (hd : s.own w d c Fd) (hN : Fd.Nodup) (hB : ∀ b ∈ Fd, B ≤ b)
    (hF : ∀ b ∈ Fd, b ∉ F) (hv : ∀ k, v.ownBlock = some k → k ∉ Fd) {g cap : Nat} (ho : w1.ownsRow B e s.sz (.slice (some ⟨g, 0, none⟩) (xs.length + 1) cap) (xs.length + 1) (L ++ c)) (hg : w.grownBy w1 v.ownBlock) (ha : v.ownBlock = some g ∨ g = w.heap.size) :
    AppS s B e w1 (.slice (some ⟨g, 0, none⟩) (xs.length + 1) cap) (xs ++ [d]) := by
  obtain ⟨h1, h2, h3, h4, h5⟩ := h
  have k1 : ∀ b ∈ F, w1.heap[b]? = w.heap[b]? := fun b hb => hg.block b (h2.lt b hb) (fun e => h5 b e.symm hb)
  have k2 : ∀ b ∈ Fd, w1.heap[b]? = w.heap[b]? := fun b hb => hg.block b (s.ownLt _ _ _ _ hd b hb) (fun e => hv b e.symm hb)
  refine ⟨L ++ c, F ++ Fd, by rw [List.length_append]; exact ho, (h2.keep k1).snoc (s.ownKeep _ _ _ _ _ k2 hd), ?_, ?_, ?_⟩
  · rw [List.nodup_append]
    exact ⟨h3, hN, fun a ha b hb e => hF b hb (e ▸ ha)⟩
  · intro b hb
    rcases List.mem_append.1 hb with hb | hb
    · exact h4 b hb
    · exact hB b hb
  · intro k hk
    have : g = k := by simpa [Value.ownBlock] using hk
    subst this
    intro hm
    rcases List.mem_append.1 hm with hm | hm
    · rcases ha with ha | ha
      · exact h5 g ha hm
      · have := h2.lt g hm; omega
    · rcases ha with ha | ha
      · exact hv g ha hm
      · have := s.ownLt _ _ _ _ hd g hm; omega
/-- What is built lies as a list of one's own. -/
theorem AppS.own {s : Sh} {B : Nat} {e : TypeId} {w : World} {v : Value} {xs : List s.T} (h : AppS s B e w v xs) : ∃ A cap F, v = .slice A xs.length cap ∧ Own s B w xs v F := by
  obtain ⟨L, F, h1, h2, h3, h4, h5⟩ := h
  obtain ⟨hl, h1⟩ := h1
  rcases h1 with ⟨rfl, h0⟩ | ⟨g, cap, cur, rfl, hg, hh, hc, hm, hs, ht⟩
  · have : xs = [] := List.length_eq_zero_iff.1 h0
    subst this
    exact ⟨none, 0, [], rfl, Own.nil s B w 0 (Nat.zero_le _) none⟩
  · refine ⟨_, _, g :: F, rfl, h2.own ⟨cur, hh, hs, by rw [hl]; exact ht⟩ hc hm (Nat.mul_le_mul_right _ hc) hg h4 (List.nodup_cons.2 ⟨h5 g rfl, h3⟩)⟩
theorem AppS.ge {s : Sh} {B : Nat} {e : TypeId} {w : World} {v : Value} {xs : List s.T} (h : AppS s B e w v xs) : ∀ k, v.ownBlock = some k → B ≤ k ∧ k < w.heap.size := by
  obtain ⟨L, F, h1, _⟩ := h
  exact fun k hk => h1.lt k hk
/-- A growing slice leaves all that lies below its base. -/
theorem grown_below {w w1 : World} {v : Value} {B : Nat} (h : w.grownBy w1 v.ownBlock) (hv : ∀ k, v.ownBlock = some k → B ≤ k) (hB : B ≤ w.heap.size) : Below B w w1 :=
  ⟨h.os, h.tape, h.output, h.size, fun k hk => h.block k (by omega) (fun e => by have := hv k e.symm; omega)⟩
end Go.Proofs.Ytbpamifkfbcloaa
