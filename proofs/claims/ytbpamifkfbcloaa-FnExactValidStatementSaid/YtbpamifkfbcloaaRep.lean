/- How data lie in memory, by the shape of their type: numbers, bools, structs (as pairs) and slices; that a readable argument lies so; that it lies so in every world above. -/
import Derived.Test.YtbpamifkfbcloaaBase
import Derived.ProofKit
namespace Go.Proofs.Ytbpamifkfbcloaa
open Go.RowKit Go.ChangeShapes Go.WideShapes

/-- A shape: its data, how many cells one takes, what the cells hold. -/
structure Sh where
  T : Type
  sz : Nat
  rep : World → T → List Value → Prop
  pos : 0 < sz
  len : ∀ w d cs, rep w d cs → cs.length = sz
  nb : ∀ w d cs, rep w d cs → ∀ v ∈ cs, ∀ x, v ≠ .bool x
  above : ∀ w w' d cs, (∀ (a : Addr) (v : Value), (∀ x, v ≠ .bool x) → w.cell? a = some v → w'.cell? a = some v) → rep w d cs → rep w' d cs
  /-- Memory of one's own: the data lie in just these blocks, each slice with elements in one block of its own. -/
  own : World → T → List Value → List Nat → Prop
  ownRep : ∀ w d cs F, own w d cs F → rep w d cs
  ownKeep : ∀ w w' d cs F, (∀ b ∈ F, w'.heap[b]? = w.heap[b]?) → own w d cs F → own w' d cs F
  ownLt : ∀ w d cs F, own w d cs F → ∀ b ∈ F, b < w.heap.size

theorem Sh.below (s : Sh) {w w' : World} (hb : Below w.heap.size w w') {d : s.T} {cs : List Value} (h : s.rep w d cs) : s.rep w' d cs := s.above w w' d cs (fun _ _ _ hc => bkeep hb hc) h

/-- A number of a kind. -/
abbrev shI (k : IntKind) : Sh where
  T := Int
  sz := 1
  rep := fun _ n cs => cs = [.int k n] ∧ (Lit.int k n).wf = true
  pos := Nat.one_pos
  len := fun _ _ _ h => by rw [h.1]; rfl
  nb := fun _ _ _ h v hv x => by rw [h.1] at hv; simp at hv; rw [hv]; simp
  above := fun _ _ _ _ _ h => h
  own := fun _ n cs F => (cs = [.int k n] ∧ (Lit.int k n).wf = true) ∧ F = []
  ownRep := fun _ _ _ _ h => h.1
  ownKeep := fun _ _ _ _ _ _ h => h
  ownLt := fun _ _ _ _ h b hb => by rw [h.2] at hb; cases hb
/-- A struct's first field and its others. -/
abbrev shP (x y : Sh) : Sh where
  T := x.T × y.T
  sz := x.sz + y.sz
  rep := fun w d cs => ∃ c1 c2, cs = c1 ++ c2 ∧ x.rep w d.1 c1 ∧ y.rep w d.2 c2
  pos := Nat.lt_of_lt_of_le x.pos (Nat.le_add_right _ _)
  len := fun w d cs h => by obtain ⟨c1, c2, rfl, h1, h2⟩ := h; rw [List.length_append, x.len _ _ _ h1, y.len _ _ _ h2]
  nb := fun w d cs h v hv => by
    obtain ⟨c1, c2, rfl, h1, h2⟩ := h
    rcases List.mem_append.1 hv with hv | hv
    · exact x.nb _ _ _ h1 v hv
    · exact y.nb _ _ _ h2 v hv
  above := fun w w' d cs hw h => by obtain ⟨c1, c2, e, h1, h2⟩ := h; exact ⟨c1, c2, e, x.above _ _ _ _ hw h1, y.above _ _ _ _ hw h2⟩
  own := fun w d cs F => ∃ c1 c2 F1 F2, cs = c1 ++ c2 ∧ F = F1 ++ F2 ∧ x.own w d.1 c1 F1 ∧ y.own w d.2 c2 F2
  ownRep := fun w d cs F h => by obtain ⟨c1, c2, F1, F2, e, _, h1, h2⟩ := h; exact ⟨c1, c2, e, x.ownRep _ _ _ _ h1, y.ownRep _ _ _ _ h2⟩
  ownKeep := fun w w' d cs F hw h => by
    obtain ⟨c1, c2, F1, F2, e, rfl, h1, h2⟩ := h
    exact ⟨c1, c2, F1, F2, e, rfl, x.ownKeep _ _ _ _ _ (fun b hb => hw b (by simp [hb])) h1, y.ownKeep _ _ _ _ _ (fun b hb => hw b (by simp [hb])) h2⟩
  ownLt := fun w d cs F h b hb => by
    obtain ⟨c1, c2, F1, F2, e, rfl, h1, h2⟩ := h
    rcases List.mem_append.1 hb with hb | hb
    · exact x.ownLt _ _ _ _ h1 b hb
    · exact y.ownLt _ _ _ _ h2 b hb
/-- A slice. -/
abbrev shL (e : Sh) : Sh where
  T := List e.T
  sz := 1
  rep := fun w xs cs => ∃ (A : Option Addr) (cap : Nat), cs = [.slice A xs.length cap] ∧ xs.length ≤ cap ∧ cap ≤ maxLen ∧
      (0 < xs.length → ∃ (bl off : Nat), A = some ⟨bl, off, none⟩ ∧ ∀ (i : Nat) (d : e.T), xs[i]? = some d → ∃ ec, e.rep w d ec ∧ ∀ j, j < e.sz → w.cell? ⟨bl, off + (i * e.sz + j), none⟩ = ec[j]?)
  pos := Nat.one_pos
  len := fun _ _ _ h => by obtain ⟨_, _, rfl, _⟩ := h; rfl
  nb := fun _ _ _ h v hv x => by obtain ⟨_, _, rfl, _⟩ := h; simp at hv; rw [hv]; simp
  above := fun w w' xs cs hw h => by
    obtain ⟨A, cap, h1, h2, h3, h4⟩ := h
    refine ⟨A, cap, h1, h2, h3, fun hp => ?_⟩
    obtain ⟨bl, off, rfl, h5⟩ := h4 hp
    refine ⟨bl, off, rfl, fun i d hi => ?_⟩
    obtain ⟨ec, g2, g3⟩ := h5 i d hi
    refine ⟨ec, e.above _ _ _ _ hw g2, fun j hj => ?_⟩
    have hg := g3 j hj
    have hjl : j < ec.length := by rw [e.len _ _ _ g2]; exact hj
    rw [List.getElem?_eq_getElem hjl] at hg ⊢
    exact hw _ _ (fun x => e.nb _ _ _ g2 _ (List.getElem_mem hjl) x) hg
  own := fun w xs cs F => ∃ (A : Option Addr) (cap : Nat), cs = [.slice A xs.length cap] ∧ xs.length ≤ cap ∧ cap ≤ maxLen ∧
      ((xs = [] ∧ F = []) ∨ ∃ (g : Nat) (cur : Array Value) (t : TypeId) (Fs : List (List Nat)), A = some ⟨g, 0, none⟩ ∧ w.heap[g]? = some (.cells cur t (0, 0)) ∧ xs.length * e.sz ≤ cur.size ∧ F = g :: Fs.flatten ∧ Fs.length = xs.length ∧
        ∀ (i : Nat) (d : e.T), xs[i]? = some d → ∃ Fi, Fs[i]? = some Fi ∧ e.own w d ((cur.toList.drop (i * e.sz)).take e.sz) Fi)
  ownRep := fun w xs cs F h => by
    obtain ⟨A, cap, h1, h2, h3, h4⟩ := h
    refine ⟨A, cap, h1, h2, h3, fun hp => ?_⟩
    rcases h4 with ⟨rfl, _⟩ | ⟨g, cur, t, Fs, rfl, h5, h6, h7, _, h8⟩
    · exact absurd hp (Nat.lt_irrefl 0)
    · refine ⟨g, 0, rfl, fun i d hi => ?_⟩
      obtain ⟨Fi, _, h9⟩ := h8 i d hi
      refine ⟨_, e.ownRep _ _ _ _ h9, fun j hj => ?_⟩
      rw [List.getElem?_take, if_pos hj, List.getElem?_drop, Nat.zero_add]
      unfold World.cell?
      simp [h5]
  ownKeep := fun w w' xs cs F hw h => by
    obtain ⟨A, cap, h1, h2, h3, h4⟩ := h
    refine ⟨A, cap, h1, h2, h3, ?_⟩
    rcases h4 with h4 | ⟨g, cur, t, Fs, rfl, h5, h6, rfl, hl, h8⟩
    · exact .inl h4
    · refine .inr ⟨g, cur, t, Fs, rfl, (hw g (by simp)).trans h5, h6, rfl, hl, fun i d hi => ?_⟩
      obtain ⟨Fi, h9, h10⟩ := h8 i d hi
      exact ⟨Fi, h9, e.ownKeep _ _ _ _ _ (fun b hb => hw b (List.mem_cons_of_mem _ (List.mem_flatten.2 ⟨Fi, List.mem_of_getElem? h9, hb⟩))) h10⟩
  ownLt := fun w xs cs F h b hb => by
    obtain ⟨A, cap, h1, h2, h3, h4⟩ := h
    rcases h4 with ⟨_, rfl⟩ | ⟨g, cur, t, Fs, rfl, h5, h6, rfl, hl, h8⟩
    · cases hb
    · rcases List.mem_cons.1 hb with rfl | hb
      · exact (Array.getElem?_eq_some_iff.1 h5).1
      · obtain ⟨Fi, h9, h10⟩ := List.mem_flatten.1 hb
        obtain ⟨i, hi, h11⟩ := List.mem_iff_getElem.1 h9
        obtain ⟨Fj, h12, h13⟩ := h8 i xs[i] (List.getElem?_eq_getElem (by omega))
        rw [List.getElem?_eq_getElem hi, h11] at h12
        exact e.ownLt _ _ _ _ h13 b (by cases h12; exact h10)

/-- What is read as a type lies by this shape. -/
def Reads (P : Program) (s : Sh) (t : TypeId) : Prop :=
  ∀ (H : Type) (enc : TypeId × Value → H) (w : World) (base : Nat) (spare : Nat → Bool) (held : Bool) (fuel : Nat) (cs : List Value) (x : DataW H × List MemPlace), DataW.trod enc P w base spare held fuel t cs = some x → ∃ d : s.T, s.rep w d cs
/-- The rest of a struct's fields, from an offset on. -/
def ReadsF (P : Program) (s : Sh) (fs : List Field) (off : Nat) : Prop :=
  ∀ (H : Type) (enc : TypeId × Value → H) (w : World) (base : Nat) (spare : Nat → Bool) (held : Bool) (cs : List Value), cs.length = off + s.sz →
    (∀ f ∈ fs, ∃ fuel x, DataW.trod enc P w base spare held fuel f.type ((cs.drop f.offset).take (P.cellsOf f.type)) = some x) → ∃ d : s.T, s.rep w d (cs.drop off)

theorem cells_at {w : World} {base : Nat} {a : Addr} {n : Nat} {cs : List Value} (hn : 0 < n) (h : w.cells? base a n = some cs) : a.spot = none ∧ cs.length = n ∧ ∀ j, j < n → w.cell? ⟨a.block, a.off + j, none⟩ = cs[j]? := by
  obtain ⟨_, hl, hc⟩ := World.cells?_some h
  obtain ⟨bl, off, sp⟩ := a
  have h0 := hc 0 hn
  have hs : sp = none := by
    have hx : cs[0]? = some (cs[0]'(by omega)) := List.getElem?_eq_getElem (by omega)
    rw [hx] at h0
    cases sp with
    | none => rfl
    | some q =>
      exfalso
      have : (Addr.add ⟨bl, off, some q⟩ 0) = ⟨bl, off, some q⟩ := rfl
      rw [this] at h0
      unfold World.cell? at h0
      split at h0 <;> simp_all
  subst hs
  refine ⟨rfl, hl, fun j hj => ?_⟩
  rw [← hc j hj]
  congr 1
  unfold Addr.add
  split
  · rename_i h; subst h; rfl
  · rfl

section
variable {P : Program}
theorem reads_int {t : TypeId} {k : IntKind} (hu : P.underlying t = some (.int k)) : Reads P (shI k) t := fun _ _ _ _ _ _ _ _ _ h => by
  obtain ⟨m, rfl, _, hw⟩ := DataW.trod_int hu h
  exact ⟨m, rfl, hw⟩
theorem reads_slice {s : Sh} {t e : TypeId} (hu : P.underlying t = some (.slice e)) (hc : P.cellsOf e = s.sz) (he : Reads P s e) : Reads P (shL s) t := fun H enc w base spare held fuel cs x ht => by
  have hpos := s.pos
  rcases DataW.trod_slice hu ht with ⟨rfl, _⟩ | ⟨a, len, cap, elems, rest, m, _, rfl, _, hb, hl, hm, hel, hi, _, _⟩
  · exact ⟨[], none, 0, rfl, Nat.le_refl _, Nat.zero_le _, fun h => absurd h (Nat.lt_irrefl 0)⟩
  · have hel : ∀ i, i < len → ∃ ec, w.cells? base (a.add (i * P.cellsOf e)) (P.cellsOf e) = some ec ∧ ∃ d : s.T, s.rep w d ec := by
      intro i hil
      have h1 := hi i hil
      rw [List.getElem?_eq_getElem (by omega)] at h1
      obtain ⟨ec, h2, h3⟩ := Option.bind_eq_some_iff.1 h1
      exact ⟨ec, h2, he H enc w base spare held m ec _ h3⟩
    by_cases h0 : len = 0
    · subst h0
      exact ⟨[], some a, cap, rfl, Nat.zero_le _, hm, fun h => absurd h (Nat.lt_irrefl 0)⟩
    · obtain ⟨ec0, h1, _⟩ := hel 0 (by omega)
      obtain ⟨hsp, _, _⟩ := cells_at (by omega) h1
      have hsp0 : a.spot = none := by simpa [Addr.add] using hsp
      have hd : ∀ i : Nat, ∃ d : s.T, i < len → ∃ ec, s.rep w d ec ∧ ∀ j, j < s.sz → w.cell? ⟨a.block, a.off + (i * s.sz + j), none⟩ = ec[j]? := by
        intro i
        by_cases hil : i < len
        · obtain ⟨ec, h2, d, h3⟩ := hel i hil
          obtain ⟨_, h4, h5⟩ := cells_at (by omega) h2
          refine ⟨d, fun _ => ⟨ec, h3, fun j hj => ?_⟩⟩
          rw [← h5 j (by omega), hc]
          congr 1
          unfold Addr.add
          split
          · rename_i hz; rw [hz]; simp
          · simp [Nat.add_assoc]
        · obtain ⟨_, _, d, _⟩ := hel 0 (by omega)
          exact ⟨d, fun h => absurd h hil⟩
      refine ⟨(List.range len).map fun i => Classical.choose (hd i), some a, cap, by simp, by simpa using hl, hm, fun _ => ⟨a.block, a.off, by rw [← hsp0], fun i d hid => ?_⟩⟩
      rw [List.getElem?_map] at hid
      have hil : i < len := by
        rcases Nat.lt_or_ge i len with h | h
        · exact h
        · rw [List.getElem?_eq_none (by simpa using h)] at hid; cases hid
      rw [List.getElem?_range hil] at hid
      simp only [Option.map_some, Option.some.injEq] at hid
      rw [← hid]
      exact Classical.choose_spec (hd i) hil
theorem readsF_one {s : Sh} {f : Field} {off : Nat} (h1 : f.offset = off) (hc : P.cellsOf f.type = s.sz) (h : Reads P s f.type) : ReadsF P s [f] off := fun H enc w base spare held cs hl hf => by
  obtain ⟨fuel, x, h2⟩ := hf f (by simp)
  obtain ⟨d, hd⟩ := h H enc w base spare held fuel _ x h2
  rw [hc, h1, List.take_of_length_le (by rw [List.length_drop]; omega)] at hd
  exact ⟨d, hd⟩
theorem readsF_cons {s r : Sh} {f : Field} {fs : List Field} {off : Nat} (h1 : f.offset = off) (hc : P.cellsOf f.type = s.sz) (h : Reads P s f.type) (hr : ReadsF P r fs (off + s.sz)) : ReadsF P (shP s r) (f :: fs) off := fun H enc w base spare held cs hl hf => by
  have hl' : cs.length = off + (s.sz + r.sz) := hl
  obtain ⟨fuel, x, h2⟩ := hf f (by simp)
  obtain ⟨d, hd⟩ := h H enc w base spare held fuel _ x h2
  obtain ⟨d2, hd2⟩ := hr H enc w base spare held cs (by omega) (fun f' hf' => hf f' (by simp [hf']))
  rw [hc, h1] at hd
  exact ⟨(d, d2), _, _, by rw [← List.drop_drop, List.take_append_drop], hd, hd2⟩
theorem reads_struct {s : Sh} {t : TypeId} {fs : Array Field} (hu : P.underlying t = some (.struct fs)) (hc : P.cellsOf t = s.sz) (hF : ReadsF P s fs.toList 0) : Reads P s t := fun H enc w base spare held fuel cs x ht => by
  obtain ⟨xs, m, _, _, hl, hxl, hf⟩ := DataW.trod_struct hu ht
  have := hF H enc w base spare held cs (by omega) (fun f hfm => by
    obtain ⟨i, hil, hif⟩ := List.mem_iff_getElem.1 hfm
    have hil' : i < fs.size := by simpa using hil
    have h1 := hf i f (by rw [← hif]; simp [hil'])
    rw [List.getElem?_eq_getElem (by omega)] at h1
    exact ⟨_, _, h1⟩)
  simpa using this

variable {H : Type} {enc : TypeId × Value → H} {w : World} {base : Nat} {spare : Nat → Bool} {held : Bool}
/-- A readable argument lies in memory by its shape: a struct, a slice, a number. -/
theorem arg_struct {r : Reach} {b0 : Nat} {s : Sh} {t : TypeId} {fs : Array Field} {v : Value} {d : DataW H} {ps : List MemPlace} (hu : P.underlying t = some (.struct fs)) (hs : Reads P s t)
    (hv : Value.okWide P w r b0 t v) (h : DataW.Trod enc P w base spare held t v d ps) : ∃ (d : s.T) (cs : List Value), v = .agg cs.toArray ∧ s.rep w d cs := by
  obtain ⟨cs, rfl, _⟩ := okWide_struct hu hv
  obtain ⟨fuel, hf⟩ := h
  obtain ⟨d, hd⟩ := hs H enc w base spare held fuel _ _ hf
  exact ⟨d, cs.toList, rfl, hd⟩
theorem arg_slice {r : Reach} {b0 : Nat} {s : Sh} {t e : TypeId} {v : Value} {d : DataW H} {ps : List MemPlace} (hu : P.underlying t = some (.slice e)) (hs : Reads P (shL s) t)
    (hv : Value.okWide P w r b0 t v) (h : DataW.Trod enc P w base spare held t v d ps) : ∃ d : List s.T, (shL s).rep w d [v] := by
  obtain ⟨fuel, hf⟩ := h
  obtain ⟨d, A, cap, hd⟩ := hs H enc w base spare held fuel _ _ hf
  have hv1 : v = .slice A d.length cap := by
    have h1 := hd.1
    cases v <;> simp [Value.cells] at h1 ⊢
    · exact h1
    · simp [Value.okWide, hu, Cell.okWide, Cell.ok] at hv
  exact ⟨d, A, cap, by rw [hv1], hd.2⟩
end

/-- The shapes of this program's plain data. -/
def shFr : Sh := shP (shI .i64) (shI .i64)
def shGr : Sh := shP (shI .i64) (shI .u32)
def shFlag : Sh := shP (shI .i64) shGr
def shTerm : Sh := shP shFlag shFr
def shSum : Sh := shP shGr (shP (shI .i64) (shL shTerm))
def shState : Sh := shP (shL shGr) (shP shSum shFr)
def shBlock : Sh := shP (shL shFlag) (shL (shL shFr))
def shCert : Sh := shP (shI .i64) (shL shBlock)
/-- A slice's value lies as a list. -/
def Lst (s : Sh) (w : World) (xs : List s.T) (v : Value) : Prop := (shL s).rep w xs [v]
/-- A slice of one's own, in new blocks. -/
def Own (s : Sh) (B : Nat) (w : World) (xs : List s.T) (v : Value) (F : List Nat) : Prop := (shL s).own w xs [v] F ∧ F.Nodup ∧ ∀ b ∈ F, B ≤ b
theorem Own.lst {s : Sh} {B : Nat} {w : World} {xs : List s.T} {v : Value} {F : List Nat} (h : Own s B w xs v F) : Lst s w xs v := (shL s).ownRep _ _ _ _ h.1
theorem Lst.below {s : Sh} {w w' : World} {xs : List s.T} {v : Value} (h : Lst s w xs v) (hb : Below w.heap.size w w') : Lst s w' xs v := (shL s).below hb h
/-- A mark (a bool) is set in an old cell, and new blocks are laid. -/
def Fl (b o : Nat) (w : World) (g : Bool) (wr : World) : Prop := Below w.heap.size (w.setCell ⟨b, o, none⟩ (.bool g)) wr
section
variable {b o : Nat} {w wr : World} {g g0 : Bool}
theorem Fl.start (h : w.cell? ⟨b, o, none⟩ = some (.bool g)) : Fl b o w g w := by unfold Fl; rw [setCell_same _ _ _ h]; exact Below.refl _ _
theorem Fl.flag (h : Fl b o w g wr) (h0 : w.cell? ⟨b, o, none⟩ = some (.bool g0)) : wr.cell? ⟨b, o, none⟩ = some (.bool g) := by
  have hb : b < w.heap.size := World.block_lt_of_cell? _ _ h0
  rw [Below.cell h (p := ⟨b, o, none⟩) hb]
  exact World.cell?_setCell_same w _ _ h0
theorem Fl.frozen (h : Fl b o w g wr) {a : Addr} (ha : a.block < w.heap.size) : wr.frozen? a = w.frozen? a := by
  rw [Below.frozen h ha, World.frozen?_setCell]
theorem Fl.keep (h : Fl b o w g wr) (h0 : w.cell? ⟨b, o, none⟩ = some (.bool g0)) {a : Addr} {u : Value} (hu : ∀ x, u ≠ .bool x) (ha : w.cell? a = some u) : wr.cell? a = some u := by
  have hb : a.block < w.heap.size := World.block_lt_of_cell? _ _ ha
  rw [Below.cell h hb, World.cell?_setCell_other, ha]
  rintro rfl
  rw [h0] at ha
  exact hu g0 (by simpa using ha.symm)
theorem Fl.lst {s : Sh} {xs : List s.T} {v : Value} (hL : Lst s w xs v) (h : Fl b o w g wr) (h0 : w.cell? ⟨b, o, none⟩ = some (.bool g0)) : Lst s wr xs v :=
  (shL s).above _ _ _ _ (fun _ _ hu ha => h.keep h0 hu ha) hL
theorem Fl.size (h : Fl b o w g wr) : w.heap.size ≤ wr.heap.size := by have := Below.size h; rwa [setCell_size] at this
theorem Fl.trans {w2 : World} {g' : Bool} (h : Fl b o w g wr) (k : Fl b o wr g' w2) : Fl b o w g' w2 := bthen_set h k (setCell_twice _ _ _ _)
theorem Fl.raw (h : Fl b o w g wr) : Below (w.setCell ⟨b, o, none⟩ (.bool g)).heap.size (w.setCell ⟨b, o, none⟩ (.bool g)) wr := by
  rw [setCell_size]; exact h
theorem Fl.both (h : Fl b o w g wr) (g' : Bool) : Below (w.setCell ⟨b, o, none⟩ (.bool g')).heap.size (w.setCell ⟨b, o, none⟩ (.bool g')) (wr.setCell ⟨b, o, none⟩ (.bool g')) := by
  have := bsetBoth h ⟨b, o, none⟩ (.bool g')
  rwa [setCell_twice, ← setCell_size w ⟨b, o, none⟩ (.bool g')] at this
theorem Fl.below {w2 : World} (h : Fl b o w g wr) (k : Below wr.heap.size wr w2) : Fl b o w g w2 := Below.trans h (k.mono h.size)
end
theorem i64_wf {n : Int} (h : (Lit.int .i64 n).wf = true) : -9223372036854775808 ≤ n ∧ n ≤ 9223372036854775807 := by
  simpa [Lit.wf, IntKind.min, IntKind.max, IntKind.signed, IntKind.bits] using h
theorem u32_wf {n : Int} (h : (Lit.int .u32 n).wf = true) : 0 ≤ n ∧ n ≤ 4294967295 := by
  simpa [Lit.wf, IntKind.min, IntKind.max, IntKind.signed, IntKind.bits] using h
/-- A fraction's two cells. -/
theorem rep_fr {w : World} {d : shFr.T} {cs : List Value} (h : shFr.rep w d cs) : cs = [.int .i64 d.1, .int .i64 d.2] ∧ (-9223372036854775808 ≤ d.1 ∧ d.1 ≤ 9223372036854775807) ∧ (-9223372036854775808 ≤ d.2 ∧ d.2 ≤ 9223372036854775807) := by
  obtain ⟨c1, c2, rfl, ⟨rfl, h1⟩, ⟨rfl, h2⟩⟩ := h
  exact ⟨rfl, i64_wf h1, i64_wf h2⟩
theorem rep_gr {w : World} {d : shGr.T} {cs : List Value} (h : shGr.rep w d cs) : cs = [.int .i64 d.1, .int .u32 d.2] ∧ (-9223372036854775808 ≤ d.1 ∧ d.1 ≤ 9223372036854775807) ∧ (0 ≤ d.2 ∧ d.2 ≤ 4294967295) := by
  obtain ⟨c1, c2, rfl, ⟨rfl, h1⟩, ⟨rfl, h2⟩⟩ := h
  exact ⟨rfl, i64_wf h1, u32_wf h2⟩
/-- A sum's four cells. -/
theorem rep_sum {w : World} {d : shSum.T} {cs : List Value} (h : shSum.rep w d cs) : ∃ v, cs = [.int .i64 d.1.1, .int .u32 d.1.2, .int .i64 d.2.1, v] ∧ Lst shTerm w d.2.2 v := by
  obtain ⟨c1, c2, rfl, ⟨c3, c4, rfl, ⟨rfl, h1⟩, ⟨rfl, h2⟩⟩, ⟨c5, c6, rfl, ⟨rfl, h3⟩, h4⟩⟩ := h
  have h5 := h4
  obtain ⟨A, cap, rfl, _⟩ := h4
  exact ⟨_, rfl, h5⟩
/-- A statement's seven cells. -/
theorem rep_state {w : World} {d : shState.T} {cs : List Value} (h : shState.rep w d cs) : ∃ v v', cs = [v, .int .i64 d.2.1.1.1, .int .u32 d.2.1.1.2, .int .i64 d.2.1.2.1, v', .int .i64 d.2.2.1, .int .i64 d.2.2.2] ∧ Lst shGr w d.1 v ∧ Lst shTerm w d.2.1.2.2 v' := by
  obtain ⟨c1, c2, rfl, h1, ⟨c3, c4, rfl, h2, h3⟩⟩ := h
  obtain ⟨v', rfl, h4⟩ := rep_sum h2
  obtain ⟨rfl, _, _⟩ := rep_fr h3
  have h5 := h1
  obtain ⟨A, cap, rfl, _⟩ := h1
  exact ⟨_, v', rfl, h5, h4⟩
end Go.Proofs.Ytbpamifkfbcloaa
