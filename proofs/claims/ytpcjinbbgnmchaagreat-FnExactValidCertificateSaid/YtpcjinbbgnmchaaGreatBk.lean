/- Blocks of certificates: what a slice of them holds; the size of many; rows of them under construction. -/
import Derived.Test.YtpcjinbbgnmchaaGreatSl
namespace Go.Proofs.YtpcjinbbgnmchaaGreat
open Go.RowKit
abbrev Blk := List (Int × (Int × Int)) × List (List (Int × Int))
theorem lstBlock {w : World} {bs : List Blk} {v : Value} (h : Lst shBlock w bs v) : ∃ (A : Option Addr) (cap : Nat), v = .slice A bs.length cap ∧ bs.length ≤ cap ∧ cap ≤ maxLen ∧
    (0 < bs.length → ∃ (bl off : Nat), A = some ⟨bl, off, none⟩ ∧ ∀ i, i < bs.length → ∃ (b : Blk) (vf vm : Value), bs[i]? = some b ∧ Lst shFlag w b.1 vf ∧ Lst (shL shFr) w b.2 vm ∧ w.cell? ⟨bl, off + i * 2, none⟩ = some vf ∧ w.cell? ⟨bl, off + i * 2 + 1, none⟩ = some vm) := by
  obtain ⟨A, cap, e, hc, hm, hel⟩ := rep_slice h
  refine ⟨A, cap, e, hc, hm, fun hp => ?_⟩
  obtain ⟨bl, off, rfl, h5⟩ := hel hp
  refine ⟨bl, off, rfl, fun i hi => ?_⟩
  obtain ⟨ec, ⟨c1, c2, rfl, h6, h7⟩, h8⟩ := h5 i bs[i] (List.getElem?_eq_getElem hi)
  have k6 := h6
  have k7 := h7
  obtain ⟨A', cap', rfl, _⟩ := h6
  obtain ⟨A'', cap'', rfl, _⟩ := h7
  exact ⟨bs[i], _, _, List.getElem?_eq_getElem hi, k6, k7, h8 0 (by decide), h8 1 (by decide)⟩
theorem formBlock {w : World} {bs : List Blk} {v : Value} (h : Lst shBlock w bs v) : ∃ (A : Option Addr) (cap : Nat), v = .slice A bs.length cap ∧ bs.length ≤ cap ∧ cap ≤ maxLen := by
  obtain ⟨A, cap, e, hc, hm, _⟩ := rep_slice h
  exact ⟨A, cap, e, hc, hm⟩
/-- A certificate's two cells. -/
theorem rep_cert {w : World} {d : shCert.T} {cs : List Value} (h : shCert.rep w d cs) : ∃ v, cs = [.int .i64 d.1, v] ∧ Lst shBlock w d.2 v := by
  obtain ⟨c1, c2, rfl, ⟨rfl, h1⟩, h2⟩ := h
  have h5 := h2
  obtain ⟨A, cap, rfl, _⟩ := h2
  exact ⟨_, rfl, h5⟩
/-- Two cells more. -/
theorem RowsP.push2 {s : Sh} {B : Nat} {w : World} {g : Nat} {t : TypeId} {cap : Nat} {xs : List s.T} (h : RowsP s B w g t cap xs) {X : Array Obj} {m k : Nat} {d : s.T} {u u' : Value} {Fd : List Nat} (hd : s.own (pls w X m) d [u, u'] Fd) (hN : Fd.Nodup) (hF : ∀ b ∈ Fd, w.heap.size ≤ b)
    {p : Nat} (hp : p = xs.length * s.sz) (hc : p + 1 < cap) : RowsP s B (pls ((w.setCell ⟨g, p, none⟩ u).setCell ⟨g, p + 1, none⟩ u') X k) g t cap (xs ++ [d]) := by
  obtain ⟨L, F, h1, h2, h3, h4, h5⟩ := h
  have hg := h1.lt
  have hlt := h2.lt
  have hL : p = L.length := by rw [h2.len]; exact hp
  have hsz : ((w.setCell ⟨g, p, none⟩ u).setCell ⟨g, p + 1, none⟩ u').heap.size = w.heap.size := by rw [setCell_size, setCell_size]
  have q2 := (h1.push hL (by omega) u).push (p := p + 1) (by rw [List.length_append, ← hL]; rfl) hc u'
  rw [List.append_assoc] at q2
  refine ⟨L ++ [u, u'], F ++ Fd, q2.pls X k, (h2.keep (w' := pls ((w.setCell ⟨g, p, none⟩ u).setCell ⟨g, p + 1, none⟩ u') X k) fun b hb => ?_).snoc (s.ownKeep _ _ _ _ _ (fun b hb => ?_) hd), ?_, ?_, h5⟩
  · have hb1 := hlt b hb
    have hb2 := h4 b hb
    show (((w.setCell ⟨g, p, none⟩ u).setCell ⟨g, p + 1, none⟩ u').heap ++ X)[b]? = _
    rw [Array.getElem?_append_left (by rw [hsz]; exact hb1), Below.heap_setCell _ _ u' b (by simp; omega)]
    exact Below.heap_setCell w _ u b (by simp; omega)
  · rw [pls_ge _ _ _ (by rw [hsz]; exact hF b hb), pls_ge _ _ _ (hF b hb), hsz]
  · rw [List.nodup_append]
    exact ⟨h3, hN, fun a ha b hb e => by have := hlt a ha; have := hF b hb; omega⟩
  · intro b hb
    rcases List.mem_append.1 hb with hb | hb
    · exact h4 b hb
    · have := hF b hb; omega
theorem RowsP.step2 {s : Sh} {B : Nat} {w : World} {g : Nat} {t : TypeId} {cap : Nat} {xs : List s.T} {k : Nat} {d : s.T} (h : RowsP s B w g t cap (xs.take k)) (hx : xs[k]? = some d) {X : Array Obj} {m n : Nat} {u u' : Value} {Fd : List Nat} (hd : s.own (pls w X m) d [u, u'] Fd) (hN : Fd.Nodup) (hF : ∀ b ∈ Fd, w.heap.size ≤ b)
    {p : Nat} (hp : p = k * s.sz) (hc : p + 1 < cap) : RowsP s B (pls ((w.setCell ⟨g, p, none⟩ u).setCell ⟨g, p + 1, none⟩ u') X n) g t cap (xs.take (k + 1)) := by
  rw [List.take_add_one, hx]
  exact h.push2 hd hN hF (by rw [take_len (Nat.le_of_lt (List.getElem?_eq_some_iff.1 hx).1)]; exact hp) hc
/-! The size of blocks -/
def szBl (left : Int) (b : Blk) : Int := szSS (szI left b.1.length) b.2
def szBlRun (l : Int) : List Blk → Int
  | [] => l
  | b :: r => if szBl l b < 0 then -1 else szBlRun (szBl l b) r
def szBs (left : Int) (bs : List Blk) : Int := if left - bs.length < 0 then -1 else szBlRun (left - bs.length) bs
theorem szSS_le {α : Type} {xss : List (List α)} {left : Int} (h : -1 ≤ left) : szSS left xss ≤ left := by
  unfold szSS
  split
  · omega
  · have := szRun_bd xss (left - xss.length) (by omega); omega
theorem szBl_bd {b : Blk} {l : Int} (h : -1 ≤ l) : -1 ≤ szBl l b ∧ szBl l b ≤ l ∧ (¬ szBl l b < 0 → (b.1.length : Int) ≤ l ∧ (b.2.length : Int) + lenSS b.2 ≤ l) := by
  have h1 : -1 ≤ szI l b.1.length ∧ szI l b.1.length ≤ l := by unfold szI; split <;> omega
  have h2 := szSS_le (xss := b.2) h1.1
  have h3 : -1 ≤ szSS (szI l b.1.length) b.2 := by
    unfold szSS
    split
    · omega
    · have := szRun_bd b.2 (szI l b.1.length - b.2.length) (by omega); omega
  refine ⟨h3, Int.le_trans h2 h1.2, fun hn => ?_⟩
  have h4 := szSS_pos (xss := b.2) (left := szI l b.1.length) hn
  have h5 : (b.1.length : Int) ≤ l := by unfold szI at h4; split at h4 <;> omega
  exact ⟨h5, by omega⟩
theorem szBlRun_bd (bs : List Blk) : ∀ l : Int, 0 ≤ l → -1 ≤ szBlRun l bs ∧ szBlRun l bs ≤ l ∧ (¬ szBlRun l bs < 0 → ∀ b ∈ bs, (b.1.length : Int) ≤ l ∧ (b.2.length : Int) + lenSS b.2 ≤ l) := by
  induction bs with
  | nil => intro l h; simp [szBlRun]; omega
  | cons b r ih =>
    intro l h
    obtain ⟨h1, h2, h3⟩ := szBl_bd (b := b) (l := l) (by omega)
    unfold szBlRun
    split
    · omega
    · rename_i hh
      obtain ⟨h4, h5, h6⟩ := ih (szBl l b) (by omega)
      refine ⟨h4, by omega, fun hn c hc => ?_⟩
      rcases List.mem_cons.1 hc with rfl | hc
      · exact h3 hh
      · have := h6 hn c hc; omega
theorem szBs_bd {bs : List Blk} {left : Int} (h1 : -1 ≤ left) (h2 : left ≤ 1048576) : -1 ≤ szBs left bs ∧ szBs left bs ≤ 1048576 := by
  unfold szBs
  split
  · omega
  · have := szBlRun_bd bs (left - bs.length) (by omega); omega
theorem szBs_pos {bs : List Blk} {left : Int} (h : ¬ szBs left bs < 0) : (bs.length : Int) ≤ left ∧ ∀ b ∈ bs, (b.1.length : Int) ≤ left ∧ (b.2.length : Int) + lenSS b.2 ≤ left := by
  unfold szBs at h
  split at h
  · omega
  · rename_i hh
    refine ⟨by omega, fun b hb => ?_⟩
    have := (szBlRun_bd bs (left - bs.length) (by omega)).2.2 h b hb
    omega
end Go.Proofs.YtpcjinbbgnmchaaGreat
