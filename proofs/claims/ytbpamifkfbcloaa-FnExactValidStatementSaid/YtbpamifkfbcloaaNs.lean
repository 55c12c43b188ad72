/- Slices of slices: rows under construction, one row of many, what turns only some blocks. -/
import Derived.Test.YtbpamifkfbcloaaSl
namespace Go.Proofs.Ytbpamifkfbcloaa
open Go.RowKit

/-- Elements one after the other, each of one's own. -/
def Rows (s : Sh) (w : World) : List s.T → List Value → List Nat → Prop
  | [], L, F => L = [] ∧ F = []
  | d :: ds, L, F => ∃ c L' F1 F2, L = c ++ L' ∧ F = F1 ++ F2 ∧ s.own w d c F1 ∧ Rows s w ds L' F2
theorem Rows.nil (s : Sh) (w : World) : Rows s w [] [] [] := ⟨rfl, rfl⟩
theorem Rows.len {s : Sh} {w : World} {xs : List s.T} {L : List Value} {F : List Nat} (h : Rows s w xs L F) : L.length = xs.length * s.sz := by
  induction xs generalizing L F with
  | nil => rw [h.1]; simp
  | cons d ds ih =>
    obtain ⟨c, L', F1, F2, rfl, rfl, h1, h2⟩ := h
    rw [List.length_append, ih h2, s.len _ _ _ (s.ownRep _ _ _ _ h1), List.length_cons, Nat.add_mul]; omega
theorem Rows.keep {s : Sh} {w w' : World} {xs : List s.T} {L : List Value} {F : List Nat} (h : Rows s w xs L F) (hk : ∀ b ∈ F, w'.heap[b]? = w.heap[b]?) : Rows s w' xs L F := by
  induction xs generalizing L F with
  | nil => exact h
  | cons d ds ih =>
    obtain ⟨c, L', F1, F2, rfl, rfl, h1, h2⟩ := h
    exact ⟨c, L', F1, F2, rfl, rfl, s.ownKeep _ _ _ _ _ (fun b hb => hk b (by simp [hb])) h1, ih h2 (fun b hb => hk b (by simp [hb]))⟩
theorem Rows.lt {s : Sh} {w : World} {xs : List s.T} {L : List Value} {F : List Nat} (h : Rows s w xs L F) : ∀ b ∈ F, b < w.heap.size := by
  induction xs generalizing L F with
  | nil => rw [h.2]; simp
  | cons d ds ih =>
    obtain ⟨c, L', F1, F2, rfl, rfl, h1, h2⟩ := h
    intro b hb
    rcases List.mem_append.1 hb with hb | hb
    · exact s.ownLt _ _ _ _ h1 b hb
    · exact ih h2 b hb
theorem Rows.snoc {s : Sh} {w : World} {xs : List s.T} {L : List Value} {F : List Nat} (h : Rows s w xs L F) {d : s.T} {c : List Value} {Fd : List Nat} (hd : s.own w d c Fd) : Rows s w (xs ++ [d]) (L ++ c) (F ++ Fd) := by
  induction xs generalizing L F with
  | nil => obtain ⟨rfl, rfl⟩ := h; exact ⟨c, [], Fd, [], by simp, by simp, hd, rfl, rfl⟩
  | cons e es ih =>
    obtain ⟨c', L', F1, F2, rfl, rfl, h1, h2⟩ := h
    exact ⟨c', L' ++ c, F1, F2 ++ Fd, by simp, by simp, h1, ih h2⟩
theorem Rows.parts {s : Sh} {w : World} {xs : List s.T} {L : List Value} {F : List Nat} (h : Rows s w xs L F) : ∃ Fs : List (List Nat), F = Fs.flatten ∧ Fs.length = xs.length ∧ ∀ (i : Nat) (d : s.T), xs[i]? = some d → ∃ Fi, Fs[i]? = some Fi ∧ s.own w d ((L.drop (i * s.sz)).take s.sz) Fi := by
  induction xs generalizing L F with
  | nil => obtain ⟨rfl, rfl⟩ := h; exact ⟨[], rfl, rfl, by simp⟩
  | cons e es ih =>
    obtain ⟨c', L', F1, F2, rfl, rfl, h1, h2⟩ := h
    obtain ⟨Fs, rfl, h3, h4⟩ := ih h2
    have hl := s.len _ _ _ (s.ownRep _ _ _ _ h1)
    refine ⟨F1 :: Fs, rfl, by simp [h3], fun i d hi => ?_⟩
    cases i with
    | zero => simp at hi; subst hi; exact ⟨F1, rfl, by rw [Nat.zero_mul, List.drop_zero, ← hl, List.take_left]; exact h1⟩
    | succ i =>
      obtain ⟨Fi, h5, h6⟩ := h4 i d (by simpa using hi)
      refine ⟨Fi, by simpa using h5, ?_⟩
      rw [Nat.add_mul, Nat.one_mul, Nat.add_comm, ← List.drop_drop, ← hl, List.drop_left, hl]
      exact h6
theorem Rows.own {s : Sh} {w : World} {xs : List s.T} {L : List Value} {F : List Nat} (h : Rows s w xs L F) {g cap n : Nat} {t : TypeId} (hp : Part w g t cap L) (hn : xs.length ≤ n) (hm : n ≤ maxLen) (hs : xs.length * s.sz ≤ cap) {B : Nat} (hB : B ≤ g) (hF : ∀ b ∈ F, B ≤ b) (hN : (g :: F).Nodup) :
    Own s B w xs (.slice (some ⟨g, 0, none⟩) xs.length n) (g :: F) := by
  obtain ⟨cu, h1, h2, h3⟩ := hp
  have hL := h.len
  obtain ⟨Fs, rfl, h4, h5⟩ := h.parts
  refine ⟨⟨_, n, rfl, hn, hm, .inr ⟨g, cu, t, Fs, rfl, h1, by omega, rfl, h4, fun i d hi => ?_⟩⟩, hN, by simpa [hB] using hF⟩
  obtain ⟨Fi, h6, h7⟩ := h5 i d hi
  refine ⟨Fi, h6, ?_⟩
  have hil : i < xs.length := (List.getElem?_eq_some_iff.1 hi).1
  have e : (cu.toList.drop (i * s.sz)).take s.sz = (L.drop (i * s.sz)).take s.sz := by
    rw [← h3, List.drop_take, List.take_take]
    congr 1
    have : (i + 1) * s.sz ≤ xs.length * s.sz := Nat.mul_le_mul_right _ hil
    rw [Nat.add_mul] at this
    omega
  rw [e]; exact h7
/-- One row of a slice of slices that is one's own, and the whole with another row in its place. -/
theorem Own.row {s : Sh} {B : Nat} {w : World} {xss : List (List s.T)} {v : Value} {F : List Nat} (h : Own (shL s) B w xss v F) {j : Nat} {xs : List s.T} (hj : xss[j]? = some xs) :
    ∃ (g cap : Nat) (Fi : List Nat) (vi : Value), v = .slice (some ⟨g, 0, none⟩) xss.length cap ∧ w.cell? ⟨g, j, none⟩ = some vi ∧ w.frozen? ⟨g, j, none⟩ = false ∧ Own s B w xs vi Fi ∧ (∀ b ∈ Fi, b ∈ F) ∧ g ∉ Fi ∧ g ∈ F ∧
      ∀ (w' : World) (xs' : List s.T), (∀ b, b < w.heap.size → b ∉ Fi → w'.heap[b]? = w.heap[b]?) → Own s B w' xs' vi Fi → Own (shL s) B w' (xss.set j xs') v F := by
  obtain ⟨⟨A, cap, h1, h2, h3, h4⟩, hN, hB⟩ := h
  have hjl : j < xss.length := (List.getElem?_eq_some_iff.1 hj).1
  rcases h4 with ⟨rfl, _⟩ | ⟨g, cur, t, Fs, rfl, h5, h6, rfl, hl, h8⟩
  · simp at hjl
  · obtain ⟨Fi, h9, h10⟩ := h8 j xs hj
    have hcs : ∃ vi, (cur.toList.drop (j * 1)).take 1 = [vi] ∧ cur.toList[j]? = some vi := by
      have hlt : j < cur.toList.length := by simp at h6 ⊢; omega
      refine ⟨cur.toList[j], ?_, List.getElem?_eq_getElem hlt⟩
      rw [Nat.mul_one, List.drop_eq_getElem_cons hlt]; rfl
    obtain ⟨vi, h11, h12⟩ := hcs
    have h10' : (shL s).own w xs [vi] Fi := by rw [← h11]; exact h10
    have hmem : Fi ∈ Fs := List.mem_of_getElem? h9
    have hsub : ∀ b ∈ Fi, b ∈ Fs.flatten := fun b hb => List.mem_flatten.2 ⟨Fi, hmem, hb⟩
    have hN1 := (List.nodup_cons.1 hN).1
    have hN2 := (List.nodup_cons.1 hN).2
    have hnf := List.pairwise_flatten.1 hN2
    have hg : g ∉ Fi := fun hb => hN1 (hsub g hb)
    have hv : v = .slice (some ⟨g, 0, none⟩) xss.length cap := by simpa using h1
    refine ⟨g, cap, Fi, vi, hv, ?_, ?_, ⟨h10', hnf.1 Fi hmem, fun b hb => hB b (List.mem_cons_of_mem _ (hsub b hb))⟩, fun b hb => List.mem_cons_of_mem _ (hsub b hb), hg, by simp, fun w' xs' hk ho => ?_⟩
    · simp only [World.cell?, h5]; simpa using h12
    · simp [World.frozen?, h5]
    · refine ⟨⟨_, cap, by rw [hv]; simp, by simpa using h2, h3, .inr ⟨g, cur, t, Fs, rfl, ?_, by simpa using h6, rfl, by simpa using hl, fun i d hi => ?_⟩⟩, hN, hB⟩
      · rw [hk g (Array.getElem?_eq_some_iff.1 h5).1 hg]; exact h5
      · by_cases hij : i = j
        · subst hij
          rw [List.getElem?_set_self (by simpa using hjl)] at hi
          cases hi
          exact ⟨Fi, h9, by rw [show (shL s).sz = 1 from rfl, h11]; exact ho.1⟩
        · rw [List.getElem?_set_ne (fun e => hij e.symm)] at hi
          obtain ⟨Fk, h13, h14⟩ := h8 i d hi
          refine ⟨Fk, h13, (shL s).ownKeep _ _ _ _ _ (fun b hb => hk b ((shL s).ownLt _ _ _ _ h14 b hb) (fun hbi => ?_)) h14⟩
          have hpw := List.pairwise_iff_getElem.1 hnf.2
          obtain ⟨hi1, hi2⟩ := List.getElem?_eq_some_iff.1 h13
          obtain ⟨hj1, hj2⟩ := List.getElem?_eq_some_iff.1 h9
          rcases Nat.lt_or_gt_of_ne hij with hlt | hlt
          · have := hpw i j hi1 hj1 hlt
            rw [hi2, hj2] at this
            exact this b hb b hbi rfl
          · have := hpw j i hj1 hi1 hlt
            rw [hi2, hj2] at this
            exact this b hbi b hb rfl
/-- What a slice of slices holds. -/
theorem lstSS {s : Sh} {w : World} {xss : List (List s.T)} {v : Value} (h : Lst (shL s) w xss v) : ∃ (A : Option Addr) (cap : Nat), v = .slice A xss.length cap ∧ xss.length ≤ cap ∧ cap ≤ maxLen ∧
    (0 < xss.length → ∃ (bl off : Nat), A = some ⟨bl, off, none⟩ ∧ ∀ i, i < xss.length → ∃ (xs : List s.T) (vi : Value), xss[i]? = some xs ∧ Lst s w xs vi ∧ w.cell? ⟨bl, off + i, none⟩ = some vi) := by
  obtain ⟨A, cap, e, hc, hm, hel⟩ := rep_slice h
  refine ⟨A, cap, e, hc, hm, fun hp => ?_⟩
  obtain ⟨bl, off, rfl, h5⟩ := hel hp
  refine ⟨bl, off, rfl, fun i hi => ?_⟩
  obtain ⟨ec, h6, h7⟩ := h5 i xss[i] (List.getElem?_eq_getElem hi)
  have h8 := h6
  obtain ⟨A', cap', rfl, _⟩ := h6
  refine ⟨xss[i], _, List.getElem?_eq_getElem hi, h8, ?_⟩
  have := h7 0 (Nat.one_pos)
  simpa using this
theorem formSS {s : Sh} {w : World} {xss : List (List s.T)} {v : Value} (h : Lst (shL s) w xss v) : ∃ (A : Option Addr) (cap : Nat), v = .slice A xss.length cap ∧ xss.length ≤ cap ∧ cap ≤ maxLen := by
  obtain ⟨A, cap, e, hc, hm, _⟩ := rep_slice h
  exact ⟨A, cap, e, hc, hm⟩
/-! Worlds of which only some blocks have turned -/
theorem Chg.trans {F : List Nat} {w w1 w2 : World} (h : Chg F w w1) (k : Chg F w1 w2) : Chg F w w2 := by
  obtain ⟨a1, a2, a3, a4, a5⟩ := h
  obtain ⟨b1, b2, b3, b4, b5⟩ := k
  exact ⟨b1.trans a1, b2.trans a2, b3.trans a3, Nat.le_trans a4 b4, fun b hb hn => (b5 b (by omega) hn).trans (a5 b hb hn)⟩
theorem Chg.mono {F F' : List Nat} {w w1 : World} (h : Chg F w w1) (hF : ∀ b ∈ F, b ∈ F') : Chg F' w w1 :=
  ⟨h.1, h.2.1, h.2.2.1, h.2.2.2.1, fun b hb hn => h.2.2.2.2 b hb (fun x => hn (hF b x))⟩
theorem Chg.of {w w1 : World} (h : Below w.heap.size w w1) (F : List Nat) : Chg F w w1 := ⟨h.os, h.tape, h.output, h.size, fun b hb _ => h.block b hb⟩
theorem Chg.below {F : List Nat} {w w1 : World} (h : Chg F w w1) {B : Nat} (hB : ∀ b ∈ F, B ≤ b) (hw : B ≤ w.heap.size) : Below B w w1 :=
  ⟨h.1, h.2.1, h.2.2.1, by have := h.2.2.2.1; omega, fun b hb => h.2.2.2.2 b (by omega) (fun x => by have := hB b x; omega)⟩
theorem Chg.size {F : List Nat} {w w1 : World} (h : Chg F w w1) : w.heap.size ≤ w1.heap.size := h.2.2.2.1
/-- What is one's own stays so where others turn. -/
theorem Own.chg {s : Sh} {B : Nat} {w w' : World} {xs : List s.T} {v : Value} {F F' : List Nat} (h : Own s B w xs v F) (hc : Chg F' w w') (hd : ∀ b ∈ F, b ∉ F') : Own s B w' xs v F :=
  ⟨(shL s).ownKeep _ _ _ _ _ (fun b hb => hc.2.2.2.2 b ((shL s).ownLt _ _ _ _ h.1 b hb) (hd b hb)) h.1, h.2.1, h.2.2⟩
theorem Own.lt {s : Sh} {B : Nat} {w : World} {xs : List s.T} {v : Value} {F : List Nat} (h : Own s B w xs v F) : ∀ b ∈ F, b < w.heap.size := (shL s).ownLt _ _ _ _ h.1
theorem Own.ge {s : Sh} {B : Nat} {w : World} {xs : List s.T} {v : Value} {F : List Nat} (h : Own s B w xs v F) : ∀ b ∈ F, B ≤ b := h.2.2
theorem Own.nil (s : Sh) (B : Nat) (w : World) (cap : Nat) (hm : cap ≤ maxLen) (A : Option Addr) : Own s B w [] (.slice A 0 cap) [] :=
  ⟨⟨A, cap, rfl, Nat.zero_le _, hm, .inl ⟨rfl, rfl⟩⟩, by simp, by simp⟩
/-- A row of fractions with another one in a place. -/
theorem Own.put {B : Nat} {w : World} {xs : List (Int × Int)} {v : Value} {F : List Nat} (h : Own shFr B w xs v F) {j : Nat} (hj : j < xs.length) :
    ∃ (g cap : Nat), v = .slice (some ⟨g, 0, none⟩) xs.length cap ∧ F = [g] ∧ w.frozen? ⟨g, j * 2, none⟩ = false ∧ w.frozen? ⟨g, j * 2 + 1, none⟩ = false ∧ (∃ u, w.cell? ⟨g, j * 2, none⟩ = some u) ∧ (∃ u, w.cell? ⟨g, j * 2 + 1, none⟩ = some u) ∧ g < w.heap.size ∧
      ∀ d : Int × Int, okFr d → Own shFr B ((w.setCell ⟨g, j * 2, none⟩ (.int .i64 d.1)).setCell ⟨g, j * 2 + 1, none⟩ (.int .i64 d.2)) (xs.set j d) v F := by
  obtain ⟨⟨A, cap, h1, h2, h3, h4⟩, hN, hB⟩ := h
  rcases h4 with ⟨rfl, _⟩ | ⟨g, cur, t, Fs, rfl, h5, h6, rfl, hl, h8⟩
  · exact absurd hj (Nat.not_lt_zero j)
  have hz : Fs.flatten = [] := by
    rw [List.flatten_eq_nil_iff]
    intro l hll
    obtain ⟨i, hi, rfl⟩ := List.mem_iff_getElem.1 hll
    obtain ⟨Fi, h9, h10⟩ := h8 i xs[i] (List.getElem?_eq_getElem (by omega))
    rw [List.getElem?_eq_getElem hi] at h9
    cases h9
    exact ((flatFr.2 _ _ _ _).1 h10).2
  have h6' : xs.length * 2 ≤ cur.size := h6
  have hv : v = .slice (some ⟨g, 0, none⟩) xs.length cap := List.singleton_inj.1 h1
  have hg := (Array.getElem?_eq_some_iff.1 h5).1
  refine ⟨g, cap, hv, by rw [hz], by simp [World.frozen?, h5], by simp [World.frozen?, h5], ?_, ?_, hg, fun d hd => ?_⟩
  · refine ⟨cur[j * 2], ?_⟩; simp only [World.cell?, h5]; simp
  · refine ⟨cur[j * 2 + 1], ?_⟩; simp only [World.cell?, h5]; simp
  · have hsl : (xs.set j d).length = xs.length := List.length_set ..
    refine ⟨⟨_, cap, by rw [hv]; exact congrArg (fun n => [Value.slice (some ⟨g, 0, none⟩) n cap]) hsl.symm, Nat.le_trans (Nat.le_of_eq hsl) h2, h3, .inr ⟨g, (cur.setIfInBounds (j * 2) (.int .i64 d.1)).setIfInBounds (j * 2 + 1) (.int .i64 d.2), t, Fs, rfl, blkset0 (blkset0 h5 _ _) _ _, Nat.le_trans (Nat.mul_le_mul_right _ (Nat.le_of_eq hsl)) (by rw [Array.size_setIfInBounds, Array.size_setIfInBounds]; exact h6), rfl, hl.trans hsl.symm, fun i e (hi : (xs.set j d : List (Int × Int))[i]? = some e) => ?_⟩⟩, hN, hB⟩
    have hil : i < xs.length := hsl ▸ (List.getElem?_eq_some_iff.1 hi).1
    by_cases hij : i = j
    · subst hij
      rw [List.getElem?_set_self hj] at hi
      cases hi
      obtain ⟨Fi, h9, h10⟩ := h8 i xs[i] (List.getElem?_eq_getElem hil)
      obtain ⟨_, rfl⟩ := (flatFr.2 _ _ _ _).1 h10
      refine ⟨[], h9, (flatFr.2 _ _ _ _).2 ⟨⟨?_, hd⟩, rfl⟩⟩
      have e0 : (((cur.setIfInBounds (i * 2) (.int .i64 d.1)).setIfInBounds (i * 2 + 1) (.int .i64 d.2)).toList.drop (i * 2)).take 2 = [.int .i64 d.1, .int .i64 d.2] := by
        apply List.ext_getElem?
        intro k
        rw [List.getElem?_take]
        split
        · rw [List.getElem?_drop, Array.getElem?_toList]
          rcases (by omega : k = 0 ∨ k = 1) with rfl | rfl
          · rw [Array.getElem?_setIfInBounds_ne (by omega), Nat.add_zero, Array.getElem?_setIfInBounds_self_of_lt (by omega)]; rfl
          · rw [Array.getElem?_setIfInBounds_self_of_lt (by simp; omega)]; rfl
        · rw [List.getElem?_eq_none]; simp; omega
      exact e0
    · rw [List.getElem?_set_ne (fun e => hij e.symm)] at hi
      obtain ⟨Fi, h9, h10⟩ := h8 i e hi
      refine ⟨Fi, h9, ?_⟩
      obtain ⟨⟨h11, h12⟩, h13⟩ := (flatFr.2 _ _ _ _).1 h10
      refine (flatFr.2 _ _ _ _).2 ⟨⟨?_, h12⟩, h13⟩
      rw [← h11]
      apply List.ext_getElem?
      intro k
      rw [List.getElem?_take, List.getElem?_take]
      split
      · rename_i hk
        have hk : k < 2 := hk
        show (List.drop (i * 2) _)[k]? = (List.drop (i * 2) _)[k]?
        rw [List.getElem?_drop, List.getElem?_drop, Array.getElem?_toList, Array.getElem?_toList, Array.getElem?_setIfInBounds_ne (by omega), Array.getElem?_setIfInBounds_ne (by omega)]
      · rfl
/-- A row of elements with memory of their own, under construction in a block. -/
def RowsP (s : Sh) (B : Nat) (w : World) (g : Nat) (t : TypeId) (cap : Nat) (xs : List s.T) : Prop :=
  ∃ L F, Part w g t cap L ∧ Rows s w xs L F ∧ F.Nodup ∧ (∀ b ∈ F, g < b) ∧ B ≤ g
theorem RowsP.new {s : Sh} {w : World} {cu : Array Value} {t : TypeId} {cap : Nat} (h : cu.size = cap) : RowsP s w.heap.size (w.alloc (.cells cu t)) w.heap.size t cap [] :=
  ⟨[], [], Part.new h, Rows.nil _ _, by simp, by simp, Nat.le_refl _⟩
theorem RowsP.cell {s : Sh} {B : Nat} {w : World} {g : Nat} {t : TypeId} {cap : Nat} {xs : List s.T} (h : RowsP s B w g t cap xs) {p : Nat} (hp : p < cap) : (∃ u, w.cell? ⟨g, p, none⟩ = some u) ∧ w.frozen? ⟨g, p, none⟩ = false := by
  obtain ⟨L, F, h1, _⟩ := h
  exact h1.cell hp
theorem RowsP.lt {s : Sh} {B : Nat} {w : World} {g : Nat} {t : TypeId} {cap : Nat} {xs : List s.T} (h : RowsP s B w g t cap xs) : g < w.heap.size := by
  obtain ⟨L, F, h1, _⟩ := h
  exact h1.lt
theorem RowsP.push {s : Sh} {B : Nat} {w : World} {g : Nat} {t : TypeId} {cap : Nat} {xs : List s.T} (h : RowsP s B w g t cap xs) {X : Array Obj} {m k : Nat} {d : s.T} {u : Value} {Fd : List Nat} (hd : s.own (pls w X m) d [u] Fd) (hN : Fd.Nodup) (hF : ∀ b ∈ Fd, w.heap.size ≤ b)
    {p : Nat} (hp : p = xs.length * s.sz) (hc : p < cap) : RowsP s B (pls (w.setCell ⟨g, p, none⟩ u) X k) g t cap (xs ++ [d]) := by
  obtain ⟨L, F, h1, h2, h3, h4, h5⟩ := h
  have hg := h1.lt
  have hlt := h2.lt
  refine ⟨L ++ [u], F ++ Fd, (h1.push (by rw [h2.len]; exact hp) hc u).pls X k, (h2.keep (w' := pls (w.setCell ⟨g, p, none⟩ u) X k) fun b hb => ?_).snoc (s.ownKeep _ _ _ _ _ (fun b hb => ?_) hd), ?_, ?_, h5⟩
  · have hb1 := hlt b hb
    have hb2 := h4 b hb
    show ((w.setCell ⟨g, p, none⟩ u).heap ++ X)[b]? = _
    rw [Array.getElem?_append_left (by rw [setCell_size]; exact hb1)]
    exact Below.heap_setCell w _ u b (by simp; omega)
  · rw [pls_ge _ _ _ (by rw [setCell_size]; exact hF b hb), pls_ge _ _ _ (hF b hb), setCell_size]
  · rw [List.nodup_append]
    exact ⟨h3, hN, fun a ha b hb e => by have := hlt a ha; have := hF b hb; omega⟩
  · intro b hb
    rcases List.mem_append.1 hb with hb | hb
    · exact h4 b hb
    · have := hF b hb; omega
theorem RowsP.own {s : Sh} {B : Nat} {w : World} {g : Nat} {t : TypeId} {cap : Nat} {xs : List s.T} (h : RowsP s B w g t cap xs) {n : Nat} (hn : xs.length ≤ n) (hm : n ≤ maxLen) (hs : xs.length * s.sz ≤ cap) : ∃ F, Own s B w xs (.slice (some ⟨g, 0, none⟩) xs.length n) F := by
  obtain ⟨L, F, h1, h2, h3, h4, h5⟩ := h
  exact ⟨g :: F, h2.own h1 hn hm hs h5 (fun b hb => by have := h4 b hb; omega) (List.nodup_cons.2 ⟨fun hg => Nat.lt_irrefl _ (h4 g hg), h3⟩)⟩
theorem RowsP.step {s : Sh} {B : Nat} {w : World} {g : Nat} {t : TypeId} {cap : Nat} {xs : List s.T} {k : Nat} {d : s.T} (h : RowsP s B w g t cap (xs.take k)) (hx : xs[k]? = some d) {X : Array Obj} {m n : Nat} {u : Value} {Fd : List Nat} (hd : s.own (pls w X m) d [u] Fd) (hN : Fd.Nodup) (hF : ∀ b ∈ Fd, w.heap.size ≤ b)
    {p : Nat} (hp : p = k * s.sz) (hc : p < cap) : RowsP s B (pls (w.setCell ⟨g, p, none⟩ u) X n) g t cap (xs.take (k + 1)) := by
  rw [List.take_add_one, hx]
  exact h.push hd hN hF (by rw [take_len (Nat.le_of_lt (List.getElem?_eq_some_iff.1 hx).1)]; exact hp) hc
theorem RowsP.all {s : Sh} {B : Nat} {w : World} {g : Nat} {t : TypeId} {cap : Nat} {xs : List s.T} (h : RowsP s B w g t cap (xs.take xs.length)) {n : Nat} (hn : xs.length ≤ n) (hm : n ≤ maxLen) (hs : xs.length * s.sz ≤ cap) : ∃ F, Own s B w xs (.slice (some ⟨g, 0, none⟩) xs.length n) F := by
  rw [List.take_length] at h
  exact h.own hn hm hs
/-! How many rows and elements there are -/
def lenSS {α : Type} (xss : List (List α)) : Nat := (xss.map List.length).sum
def szRun {α : Type} (l : Int) : List (List α) → Int
  | [] => l
  | xs :: r => if l - xs.length < 0 then -1 else szRun (l - xs.length) r
def szSS {α : Type} (left : Int) (xss : List (List α)) : Int := if left - xss.length < 0 then -1 else szRun (left - xss.length) xss
theorem szRun_bd {α : Type} (xss : List (List α)) : ∀ l : Int, 0 ≤ l → -1 ≤ szRun l xss ∧ szRun l xss ≤ l ∧ (¬ szRun l xss < 0 → (lenSS xss : Int) ≤ l ∧ szRun l xss = l - lenSS xss) := by
  induction xss with
  | nil => intro l h; simp [szRun, lenSS]; omega
  | cons xs r ih =>
    intro l h
    unfold szRun
    split
    · omega
    · obtain ⟨h1, h2, h3⟩ := ih (l - xs.length) (by omega)
      have e : lenSS (xs :: r) = xs.length + lenSS r := by simp [lenSS]
      refine ⟨h1, by omega, fun h4 => ?_⟩
      obtain ⟨h5, h6⟩ := h3 h4
      rw [h6, e]
      omega
theorem szSS_bd {α : Type} {xss : List (List α)} {left : Int} (h1 : -1 ≤ left) (h2 : left ≤ 1048576) : -1 ≤ szSS left xss ∧ szSS left xss ≤ 1048576 := by
  unfold szSS
  split
  · omega
  · have := szRun_bd xss (left - xss.length) (by omega); omega
theorem szSS_pos {α : Type} {xss : List (List α)} {left : Int} (h : ¬ szSS left xss < 0) : (xss.length : Int) + lenSS xss ≤ left := by
  unfold szSS at h
  split at h
  · omega
  · rename_i hh
    obtain ⟨_, _, h3⟩ := szRun_bd xss (left - xss.length) (by omega)
    have := (h3 h).1
    omega
theorem lenSS_mem {α : Type} {xss : List (List α)} {xs : List α} (h : xs ∈ xss) : xs.length ≤ lenSS xss := by
  induction xss with
  | nil => cases h
  | cons y r ih =>
    simp [lenSS] at *
    rcases h with rfl | h
    · omega
    · have := ih h; omega
theorem Own.pre {s : Sh} {B B' : Nat} {W W' : World} {X Z : Array Obj} {m k : Nat} {xs : List s.T} {v : Value} {F : List Nat} (h : Own s B (pls W X m) xs v F) (hp : Pre X Z) (h1 : W.heap.size ≤ B) (h2 : W'.heap.size = W.heap.size) (h3 : B' ≤ B) : Own s B' (pls W' Z k) xs v F := by
  obtain ⟨Y, rfl⟩ := hp
  exact h.more h1 h2 h3
/-! The same, of fractions -/
theorem lstFrSS {w : World} {xss : List (List (Int × Int))} {v : Value} (h : Lst (shL shFr) w xss v) : ∃ (A : Option Addr) (cap : Nat), v = .slice A xss.length cap ∧ xss.length ≤ cap ∧ cap ≤ maxLen ∧
    (0 < xss.length → ∃ (bl off : Nat), A = some ⟨bl, off, none⟩ ∧ ∀ i, i < xss.length → ∃ (xs : List (Int × Int)) (vi : Value), xss[i]? = some xs ∧ Lst shFr w xs vi ∧ w.cell? ⟨bl, off + i, none⟩ = some vi) := lstSS h
theorem formFrSS {w : World} {xss : List (List (Int × Int))} {v : Value} (h : Lst (shL shFr) w xss v) : ∃ (A : Option Addr) (cap : Nat), v = .slice A xss.length cap ∧ xss.length ≤ cap ∧ cap ≤ maxLen := formSS h
theorem Own.rowFr {B : Nat} {w : World} {xss : List (List (Int × Int))} {v : Value} {F : List Nat} (h : Own (shL shFr) B w xss v F) {j : Nat} {xs : List (Int × Int)} (hj : xss[j]? = some xs) :
    ∃ (g cap : Nat) (Fi : List Nat) (vi : Value), v = .slice (some ⟨g, 0, none⟩) xss.length cap ∧ w.cell? ⟨g, j, none⟩ = some vi ∧ w.frozen? ⟨g, j, none⟩ = false ∧ Own shFr B w xs vi Fi ∧ (∀ b ∈ Fi, b ∈ F) ∧ g ∉ Fi ∧ g ∈ F ∧
      ∀ (w' : World) (xs' : List (Int × Int)), (∀ b, b < w.heap.size → b ∉ Fi → w'.heap[b]? = w.heap[b]?) → Own shFr B w' xs' vi Fi → Own (shL shFr) B w' (xss.set j xs') v F := Own.row h hj
end Go.Proofs.Ytbpamifkfbcloaa
