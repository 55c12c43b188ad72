/- Slices: make, stores into a row, rows of flat structs, what owns its memory. -/
import Derived.Test.YtbpamifkfbcloaaBase
import Derived.Test.YtbpamifkfbcloaaRep
import Derived.Laws.MakeOwn
namespace Go.Proofs.Ytbpamifkfbcloaa
open Go.RowKit

/-- What is known of an element's type: how many cells, how many bytes. -/
def infoB (P : Program) (e : TypeId) (sz bytes : Nat) : Bool :=
  match P.info? e with
  | some i => (match i.zero with | some z => decide (i.size = sz) && decide (i.bytes = bytes) && decide (z.cells.size = sz) | none => false)
  | none => false
theorem infoB_spec {P : Program} {e : TypeId} {sz bytes : Nat} (h : infoB P e sz bytes = true) : ∃ i z, P.info? e = some i ∧ i.zero = some z ∧ i.size = sz ∧ i.bytes = bytes ∧ z.cells.size = sz := by
  unfold infoB at h
  split at h
  · rename_i i hi
    split at h
    · rename_i z hz
      simp only [Bool.and_eq_true, decide_eq_true_eq] at h
      exact ⟨i, z, hi, hz, h.1.1, h.1.2, h.2⟩
    · cases h
  · cases h
/-- make: the new block's cells are some. -/
theorem mk_slice {P : Program} {t e : TypeId} {sz bytes : Nat} (ht : P.underlying t = some (.slice e)) (hi : infoB P e sz bytes = true) (n : Nat) (hb : bytes * n ≤ 281474976710656) (h63 : n ≤ 9223372036854775807) :
    ∃ cur : Array Value, cur.size = n * sz ∧ ∀ W : World, (Instr.makeSlice t (.int .i64 (n : Int)) (.int .i64 (n : Int))).run P W = .ok (.slice (some ⟨W.heap.size, 0, none⟩) n n) (W.alloc (.cells cur e)) := by
  obtain ⟨i, z, h1, h2, h3, h4, h5⟩ := infoB_spec hi
  subst h3 h4
  have hb' : (i.bytes : Int) * (n : Int) ≤ 281474976710656 := by
    have h : ((i.bytes * n : Nat) : Int) ≤ 281474976710656 := by omega
    rwa [Int.natCast_mul] at h
  refine ⟨madeCells z.cells (n * i.size), size_madeCells _ _, fun W => ?_⟩
  have hr := run_make (P := P) W t e i z ht h1 h2 .i64 .i64 n n (by omega) (by omega) hb' (by omega)
  simp only [Int.toNat_natCast] at hr
  exact hr

/-- Flat data: just these cells. -/
def Flat (s : Sh) (enc : s.T → List Value) (ok : s.T → Prop) : Prop :=
  (∀ w d cs, s.rep w d cs ↔ cs = enc d ∧ ok d) ∧ (∀ w d cs F, s.own w d cs F ↔ (cs = enc d ∧ ok d) ∧ F = [])
theorem flat_int (k : IntKind) : Flat (shI k) (fun n => [.int k n]) (fun n => (Lit.int k n).wf = true) := ⟨fun _ _ _ => Iff.rfl, fun _ _ _ _ => Iff.rfl⟩
theorem flat_pair {x y : Sh} {e1 : x.T → List Value} {e2 : y.T → List Value} {k1 : x.T → Prop} {k2 : y.T → Prop} (h1 : Flat x e1 k1) (h2 : Flat y e2 k2) : Flat (shP x y) (fun d => e1 d.1 ++ e2 d.2) (fun d => k1 d.1 ∧ k2 d.2) := by
  refine ⟨fun w d cs => ⟨?_, ?_⟩, fun w d cs F => ⟨?_, ?_⟩⟩
  · rintro ⟨c1, c2, rfl, g1, g2⟩
    obtain ⟨rfl, o1⟩ := (h1.1 _ _ _).1 g1
    obtain ⟨rfl, o2⟩ := (h2.1 _ _ _).1 g2
    exact ⟨rfl, o1, o2⟩
  · rintro ⟨rfl, o1, o2⟩
    exact ⟨_, _, rfl, (h1.1 _ _ _).2 ⟨rfl, o1⟩, (h2.1 _ _ _).2 ⟨rfl, o2⟩⟩
  · rintro ⟨c1, c2, F1, F2, rfl, rfl, g1, g2⟩
    obtain ⟨⟨rfl, o1⟩, rfl⟩ := (h1.2 _ _ _ _).1 g1
    obtain ⟨⟨rfl, o2⟩, rfl⟩ := (h2.2 _ _ _ _).1 g2
    exact ⟨⟨rfl, o1, o2⟩, rfl⟩
  · rintro ⟨⟨rfl, o1, o2⟩, rfl⟩
    exact ⟨_, _, [], [], rfl, rfl, (h1.2 _ _ _ _).2 ⟨⟨rfl, o1⟩, rfl⟩, (h2.2 _ _ _ _).2 ⟨⟨rfl, o2⟩, rfl⟩⟩
abbrev encFr (d : Int × Int) : List Value := [.int .i64 d.1, .int .i64 d.2]
abbrev okI (k : IntKind) (n : Int) : Prop := (Lit.int k n).wf = true
abbrev okFr (d : Int × Int) : Prop := okI .i64 d.1 ∧ okI .i64 d.2
abbrev encGr (d : Int × Int) : List Value := [.int .i64 d.1, .int .u32 d.2]
abbrev okGr (d : Int × Int) : Prop := okI .i64 d.1 ∧ okI .u32 d.2
abbrev encFlag (d : Int × (Int × Int)) : List Value := [.int .i64 d.1, .int .i64 d.2.1, .int .u32 d.2.2]
abbrev okFlag (d : Int × (Int × Int)) : Prop := okI .i64 d.1 ∧ okGr d.2
abbrev encTerm (d : (Int × (Int × Int)) × (Int × Int)) : List Value := [.int .i64 d.1.1, .int .i64 d.1.2.1, .int .u32 d.1.2.2, .int .i64 d.2.1, .int .i64 d.2.2]
abbrev okTerm (d : (Int × (Int × Int)) × (Int × Int)) : Prop := okFlag d.1 ∧ okFr d.2
theorem flatFr : Flat shFr encFr okFr := flat_pair (flat_int .i64) (flat_int .i64)
theorem flatGr : Flat shGr encGr okGr := flat_pair (flat_int .i64) (flat_int .u32)
theorem flatFlag : Flat shFlag encFlag okFlag := flat_pair (flat_int .i64) flatGr
theorem flatTerm : Flat shTerm encTerm okTerm := flat_pair flatFlag flatFr

/-- The element of a slice that a round loads: its cells. -/
theorem rep_slice {s : Sh} {w : World} {xs : List s.T} {v : Value} (h : Lst s w xs v) : ∃ (A : Option Addr) (cap : Nat), v = .slice A xs.length cap ∧ xs.length ≤ cap ∧ cap ≤ maxLen ∧
      (0 < xs.length → ∃ (bl off : Nat), A = some ⟨bl, off, none⟩ ∧ ∀ (i : Nat) (d : s.T), xs[i]? = some d → ∃ ec, s.rep w d ec ∧ ∀ j, j < s.sz → w.cell? ⟨bl, off + (i * s.sz + j), none⟩ = ec[j]?) := by
  obtain ⟨A, cap, h1, h2⟩ := h
  exact ⟨A, cap, by simpa using h1, h2⟩
theorem flat_el {s : Sh} {enc : s.T → List Value} {ok : s.T → Prop} (hf : Flat s enc ok) {w : World} {bl off : Nat} {xs : List s.T}
    (h : ∀ (i : Nat) (d : s.T), xs[i]? = some d → ∃ ec, s.rep w d ec ∧ ∀ j, j < s.sz → w.cell? ⟨bl, off + (i * s.sz + j), none⟩ = ec[j]?) {i : Nat} (hi : i < xs.length) :
    ok xs[i] ∧ ∀ j, j < s.sz → w.cell? ⟨bl, off + (i * s.sz + j), none⟩ = (enc xs[i])[j]? := by
  obtain ⟨ec, h1, h2⟩ := h i xs[i] (List.getElem?_eq_getElem hi)
  obtain ⟨rfl, h3⟩ := (hf.1 _ _ _).1 h1
  exact ⟨h3, h2⟩

/-- One cell behind a row's first ones. -/
theorem take_set {cur : Array Value} {p : Nat} (h : p < cur.size) (a : Value) : (cur.setIfInBounds p a).toList.take (p + 1) = cur.toList.take p ++ [a] := by
  rw [Array.toList_setIfInBounds, List.take_add_one]
  have h1 : (cur.toList.set p a)[p]? = some a := by rw [List.getElem?_set_self]; simpa using h
  rw [h1, List.take_set_of_le (Nat.le_refl _)]
  rfl
/-- A row of flat data that is one's own. -/
theorem own_of_row {s : Sh} {enc : s.T → List Value} {ok : s.T → Prop} (hf : Flat s enc ok) (hl : ∀ d, (enc d).length = s.sz) {w : World} {g cap : Nat} {cur : Array Value} {t : TypeId} {xs : List s.T} (h : w.heap[g]? = some (.cells cur t (0, 0)))
    (hc : xs.length ≤ cap) (hm : cap ≤ maxLen) (hs : xs.length * s.sz ≤ cur.size) (ht : cur.toList.take (xs.length * s.sz) = xs.flatMap enc) (hok : ∀ d ∈ xs, ok d) {B : Nat} (hB : B ≤ g) : Own s B w xs (.slice (some ⟨g, 0, none⟩) xs.length cap) [g] := by
  refine ⟨?_, by simp, by simpa using hB⟩
  refine ⟨_, cap, rfl, hc, hm, .inr ⟨g, cur, t, List.replicate xs.length [], rfl, h, hs, by simp, by simp, fun i d hi => ?_⟩⟩
  have hil : i < xs.length := (List.getElem?_eq_some_iff.1 hi).1
  have hpos := s.pos
  refine ⟨[], by rw [List.getElem?_replicate, if_pos hil], (hf.2 _ _ _ _).2 ⟨⟨?_, hok d (List.mem_of_getElem? hi)⟩, rfl⟩⟩
  have h1 : ((cur.toList.take (xs.length * s.sz)).drop (i * s.sz)).take s.sz = (cur.toList.drop (i * s.sz)).take s.sz := by
    rw [List.drop_take, List.take_take]
    congr 1
    have : (i + 1) * s.sz ≤ xs.length * s.sz := Nat.mul_le_mul_right _ hil
    rw [Nat.add_mul] at this
    omega
  rw [← h1, ht]
  clear h1 ht hs hok hm hc h
  induction xs generalizing i with
  | nil => simp at hil
  | cons x xs ih =>
    cases i with
    | zero =>
      simp at hi
      subst hi
      rw [Nat.zero_mul, List.drop_zero, List.flatMap_cons, ← hl x, List.take_left]
    | succ i =>
      rw [List.flatMap_cons, Nat.add_mul, Nat.one_mul, Nat.add_comm, ← List.drop_drop, List.drop_append_of_le_length (by rw [hl]; exact Nat.le_refl _), (List.drop_of_length_le (by rw [hl]; exact Nat.le_refl _) : List.drop s.sz (enc x) = []), List.nil_append]
      exact ih i (by simpa using hi) (by simpa using hil)
/-- A block whose first cells are known, the number of all of them too. -/
def Part (w : World) (g : Nat) (t : TypeId) (cap : Nat) (L : List Value) : Prop := ∃ cu : Array Value, w.heap[g]? = some (.cells cu t (0, 0)) ∧ cu.size = cap ∧ cu.toList.take L.length = L
theorem Part.new {w : World} {cu : Array Value} {t : TypeId} {cap : Nat} (h : cu.size = cap) : Part (w.alloc (.cells cu t)) w.heap.size t cap [] := ⟨cu, blknew _ _, h, by simp⟩
theorem Part.push {w : World} {g : Nat} {t : TypeId} {cap : Nat} {L : List Value} (h : Part w g t cap L) {p : Nat} (hp : p = L.length) (hc : p < cap) (u : Value) : Part (w.setCell ⟨g, p, none⟩ u) g t cap (L ++ [u]) := by
  obtain ⟨cu, h1, h2, h3⟩ := h
  subst hp
  refine ⟨_, blkset0 h1 _ u, by simp [h2], ?_⟩
  rw [List.length_append, List.length_singleton, take_set (by omega), h3]
theorem Part.pls {w : World} {g : Nat} {t : TypeId} {cap : Nat} {L : List Value} (h : Part w g t cap L) (X : Array Obj) (m : Nat) : Part (pls w X m) g t cap L := by
  obtain ⟨cu, h1, h2⟩ := h
  exact ⟨cu, pls_block _ _ h1, h2⟩
theorem Part.cell {w : World} {g : Nat} {t : TypeId} {cap : Nat} {L : List Value} (h : Part w g t cap L) {p : Nat} (hp : p < cap) : (∃ u, w.cell? ⟨g, p, none⟩ = some u) ∧ w.frozen? ⟨g, p, none⟩ = false := by
  obtain ⟨cu, h1, h2, _⟩ := h
  simp [World.cell?, World.frozen?, h1, h2, hp]
theorem Part.lt {w : World} {g : Nat} {t : TypeId} {cap : Nat} {L : List Value} (h : Part w g t cap L) : g < w.heap.size := by
  obtain ⟨cu, h1, _⟩ := h
  exact blklt h1
theorem Part.eq {w : World} {g : Nat} {t : TypeId} {cap : Nat} {L L' : List Value} (h : Part w g t cap L) (e : L = L') : Part w g t cap L' := e ▸ h
theorem Part.own {s : Sh} {enc : s.T → List Value} {ok : s.T → Prop} (hf : Flat s enc ok) (hl : ∀ d, (enc d).length = s.sz) {w : World} {g cap n : Nat} {t : TypeId} {xs : List s.T} (h : Part w g t cap (xs.flatMap enc))
    (hc : xs.length ≤ n) (hm : n ≤ maxLen) (hs : xs.length * s.sz ≤ cap) (hok : ∀ d ∈ xs, ok d) {B : Nat} (hB : B ≤ g) : Own s B w xs (.slice (some ⟨g, 0, none⟩) xs.length n) [g] := by
  obtain ⟨cu, h1, h2, h3⟩ := h
  have hL : (xs.flatMap enc).length = xs.length * s.sz := by
    clear h3 hok hs hc
    induction xs with
    | nil => simp
    | cons x xs ih => rw [List.flatMap_cons, List.length_append, ih, hl, List.length_cons, Nat.add_mul]; omega
  rw [hL] at h3
  exact own_of_row hf hl h1 hc hm (by omega) h3 hok hB
/-- What is one's own stays so while its blocks stay. -/
theorem Own.move {s : Sh} {B B' : Nat} {w w' : World} {xs : List s.T} {v : Value} {F : List Nat} (h : Own s B w xs v F) (hB : B' ≤ B) (hk : ∀ b, B ≤ b → b < w.heap.size → w'.heap[b]? = w.heap[b]?) : Own s B' w' xs v F :=
  ⟨(shL s).ownKeep _ _ _ _ _ (fun b hb => hk b (h.2.2 b hb) ((shL s).ownLt _ _ _ _ h.1 b hb)) h.1, h.2.1, fun b hb => Nat.le_trans hB (h.2.2 b hb)⟩
theorem Own.below {s : Sh} {B B' : Nat} {w w' : World} {xs : List s.T} {v : Value} {F : List Nat} (h : Own s B w xs v F) (hB : B' ≤ B) (hb : Below w.heap.size w w') : Own s B' w' xs v F :=
  h.move hB fun b _ hl => hb.block b hl
theorem pls_ge (W : World) (X : Array Obj) (m : Nat) {b : Nat} (h : W.heap.size ≤ b) : (pls W X m).heap[b]? = X[b - W.heap.size]? := by
  show (W.heap ++ X)[b]? = _
  rw [Array.getElem?_append_right h]
theorem Own.at {s : Sh} {B B' : Nat} {W W' : World} {X : Array Obj} {m k : Nat} {xs : List s.T} {v : Value} {F : List Nat} (h : Own s B (pls W X m) xs v F) (h1 : W.heap.size ≤ B) (h2 : W'.heap.size = W.heap.size) (h3 : B' ≤ B) : Own s B' (pls W' X k) xs v F :=
  h.move h3 fun b hb _ => by rw [pls_ge _ _ _ (by omega), pls_ge _ _ _ (by omega), h2]
theorem Own.more {s : Sh} {B B' : Nat} {W W' : World} {X Y : Array Obj} {m k : Nat} {xs : List s.T} {v : Value} {F : List Nat} (h : Own s B (pls W X m) xs v F) (h1 : W.heap.size ≤ B) (h2 : W'.heap.size = W.heap.size) (h3 : B' ≤ B) : Own s B' (pls W' (X ++ Y) k) xs v F :=
  h.move h3 fun b hb hl => by
    rw [pls_ge _ _ _ (by omega), pls_ge _ _ _ (by omega), h2, Array.getElem?_append_left]
    rw [pls_size] at hl
    omega
theorem len1 {L : List Value} {p : Nat} (h : L.length = p) (u : Value) : (L ++ [u]).length = p + 1 := by rw [List.length_append, h]; rfl
theorem flatMap_len {α : Type} {enc : α → List Value} {n : Nat} (hl : ∀ d, (enc d).length = n) (xs : List α) : (xs.flatMap enc).length = xs.length * n := by
  induction xs with
  | nil => simp
  | cons x xs ih => rw [List.flatMap_cons, List.length_append, ih, hl, List.length_cons, Nat.add_mul]; omega
theorem flatMap_take {α : Type} (enc : α → List Value) {xs : List α} {k : Nat} {d : α} (h : xs[k]? = some d) : (xs.take (k + 1)).flatMap enc = (xs.take k).flatMap enc ++ enc d := by
  rw [List.take_add_one, h, List.flatMap_append]; simp
/-- Two lists are the same. -/
def eqL {α : Type} [DecidableEq α] (xs ys : List α) : Bool := decide (xs = ys)
theorem eqL_t {α : Type} [DecidableEq α] {xs ys : List α} (h : xs = ys) : eqL xs ys = true := by simp [eqL, h]
theorem eqL_f {α : Type} [DecidableEq α] {xs ys : List α} (h : xs ≠ ys) : eqL xs ys = false := by simp [eqL, h]
theorem eqL_iff {α : Type} [DecidableEq α] {xs ys : List α} : eqL xs ys = true ↔ xs = ys := by simp [eqL]
theorem take_both {α : Type} {xs ys : List α} {k : Nat} {d : α} (h : xs.take k = ys.take k) (h1 : xs[k]? = some d) (h2 : ys[k]? = some d) : xs.take (k + 1) = ys.take (k + 1) := by
  rw [List.take_add_one, List.take_add_one, h, h1, h2]
theorem take_len {α : Type} {xs : List α} {k : Nat} (h : k ≤ xs.length) : (xs.take k).length = k := by rw [List.length_take]; omega
theorem oks_of {s : Sh} {enc : s.T → List Value} {ok : s.T → Prop} (hf : Flat s enc ok) {w : World} {xs : List s.T} {v : Value} (h : Lst s w xs v) : ∀ d ∈ xs, ok d := by
  intro d hd
  obtain ⟨A, cap, _, _, _, h4⟩ := rep_slice h
  obtain ⟨i, hi, rfl⟩ := List.mem_iff_getElem.1 hd
  obtain ⟨bl, off, _, h5⟩ := h4 (by omega)
  exact (flat_el hf h5 hi).1
/-- The index of the first that is so, -1 without one; whether one is so. -/
def idxI {α : Type} (P : α → Bool) (xs : List α) : Int := match xs.findIdx? P with | some i => (i : Int) | none => -1
def anyB {α : Type} (P : α → Bool) (xs : List α) : Bool := xs.any P
theorem idxI_at {α : Type} {P : α → Bool} {xs : List α} {k : Nat} {d : α} (h : ∀ a ∈ xs.take k, P a = false) (hd : xs[k]? = some d) (hp : P d = true) : idxI P xs = k := by
  have : xs.findIdx? P = some k := by
    rw [List.findIdx?_eq_some_iff_getElem]
    obtain ⟨hk, e⟩ := List.getElem?_eq_some_iff.1 hd
    refine ⟨hk, by rw [e]; exact hp, fun j hj => ?_⟩
    have := h xs[j] (List.mem_take_iff_getElem.2 ⟨j, by omega, rfl⟩)
    simp [this]
  unfold idxI
  rw [this]
theorem idxI_none {α : Type} {P : α → Bool} {xs : List α} (h : ∀ a ∈ xs, P a = false) : idxI P xs = -1 := by
  have : xs.findIdx? P = none := by rw [List.findIdx?_eq_none_iff]; simpa using h
  unfold idxI
  rw [this]
theorem anyB_f {α : Type} {P : α → Bool} {xs : List α} (h : anyB P xs = false) : ∀ a ∈ xs, P a = false := by simpa [anyB] using h
theorem idxI_any {α : Type} (P : α → Bool) (xs : List α) : decide (0 ≤ idxI P xs) = anyB P xs ∧ -1 ≤ idxI P xs ∧ idxI P xs ≤ xs.length := by
  unfold idxI anyB
  cases h : xs.findIdx? P with
  | none => rw [List.findIdx?_eq_none_iff] at h; simp; exact h
  | some i =>
    rw [List.findIdx?_eq_some_iff_getElem] at h
    obtain ⟨h1, h2, _⟩ := h
    have : xs.any P = true := List.any_eq_true.2 ⟨_, List.getElem_mem h1, h2⟩
    simp [this]; omega
theorem mem_take_succ {α : Type} {xs : List α} {k : Nat} {d : α} {Q : α → Prop} (h : ∀ a ∈ xs.take k, Q a) (hd : xs[k]? = some d) (hq : Q d) : ∀ a ∈ xs.take (k + 1), Q a := by
  rw [List.take_add_one, hd]
  intro a ha
  rcases List.mem_append.1 ha with ha | ha
  · exact h a ha
  · simp at ha; subst ha; exact hq
/-- What owning a slice of flat data says. -/
theorem own_flat {s : Sh} {enc : s.T → List Value} {ok : s.T → Prop} (hf : Flat s enc ok) {B : Nat} {w : World} {xs : List s.T} {v : Value} {F : List Nat} (h : Own s B w xs v F) :
    ∃ (A : Option Addr) (cap : Nat), v = .slice A xs.length cap ∧ xs.length ≤ cap ∧ cap ≤ maxLen ∧ ((xs = [] ∧ F = []) ∨ ∃ (g : Nat) (cu : Array Value) (t : TypeId), A = some ⟨g, 0, none⟩ ∧ F = [g] ∧ B ≤ g ∧ w.heap[g]? = some (.cells cu t (0, 0)) ∧ xs.length * s.sz ≤ cu.size) := by
  obtain ⟨⟨A, cap, h1, h2, h3, h4⟩, _, hB⟩ := h
  refine ⟨A, cap, by simpa using h1, h2, h3, ?_⟩
  rcases h4 with h4 | ⟨g, cu, t, Fs, rfl, h5, h6, rfl, h7, h8⟩
  · exact .inl h4
  · have hz : Fs.flatten = [] := by
      rw [List.flatten_eq_nil_iff]
      intro l hl
      obtain ⟨i, hi, rfl⟩ := List.mem_iff_getElem.1 hl
      obtain ⟨Fi, h9, h10⟩ := h8 i xs[i] (List.getElem?_eq_getElem (by omega))
      rw [List.getElem?_eq_getElem hi] at h9
      cases h9
      exact ((hf.2 _ _ _ _).1 h10).2
    exact .inr ⟨g, cu, t, rfl, by rw [hz], hB g (by simp), h5, h6⟩
/-- Only these blocks have turned. -/
def Chg (F : List Nat) (w w' : World) : Prop := w'.os = w.os ∧ w'.tape = w.tape ∧ w'.output = w.output ∧ w.heap.size ≤ w'.heap.size ∧ ∀ b, b < w.heap.size → b ∉ F → w'.heap[b]? = w.heap[b]?
theorem Chg.set {F : List Nat} {w wr : World} (h : Chg F w wr) {p : Addr} (hp : p.block ∈ F) (u : Value) : Chg F w (wr.setCell p u) := by
  obtain ⟨h1, h2, h3, h4, h5⟩ := h
  refine ⟨h1, h2, h3, by rw [setCell_size]; exact h4, fun b hb hn => ?_⟩
  rw [← h5 b hb hn]
  exact Below.heap_setCell wr p u b (fun e => hn (e ▸ hp))
theorem Chg.refl (F : List Nat) (w : World) : Chg F w w := ⟨rfl, rfl, rfl, Nat.le_refl _, fun _ _ _ => rfl⟩
end Go.Proofs.Ytbpamifkfbcloaa
