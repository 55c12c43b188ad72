import Derived.WalkKit
import Derived.KernelRfl
import Derived.Deep.QuietTactic
import Derived.BigQuiet
import Derived.Lib.Hide
import Derived.ProofKit
import Derived.Laws.MakeOwn
import Derived.Carry
import Derived.Deep.RegionHeld3
import Derived.Laws.StructEq
import Derived.Deep.AppendLies
import Derived.Lib.SliceRun
import Derived.Test.YtekchdgpaemofaaGreatRows
import Derived.Test.YtekchdgpaemofaaGreatProg
namespace Go.Proofs.YtekchdgpaemofaaGreat
open Go.RowKit

theorem ret_int {k : IntKind} {a b : Int} (h : a = b) : Ending.returned (.int k a) = .returned (.int k b) := by rw [h]
theorem ret_bool {a b : Bool} (h : a = b) : Ending.returned (.bool a) = .returned (.bool b) := by rw [h]


theorem bcell {W w1 : World} (hb : Below W.heap.size W w1) : (∀ b o, b < W.heap.size → w1.cell? ⟨b, o, none⟩ = W.cell? ⟨b, o, none⟩) ∧ (∀ b o, b < W.heap.size → w1.frozen? ⟨b, o, none⟩ = W.frozen? ⟨b, o, none⟩) :=
  ⟨fun b o h => hb.cell (p := ⟨b, o, none⟩) h, fun b o h => hb.frozen (p := ⟨b, o, none⟩) h⟩

theorem bdrew {B : Nat} {a w : World} (h : Below B a w) (n : Nat) : Below B a (w.drewN n) := ⟨h.os, h.tape, h.output, h.size, h.block⟩

theorem bdrew1 {B : Nat} {a w : World} (h : Below B a w) : Below B a w.drew := ⟨h.os, h.tape, h.output, h.size, h.block⟩
theorem bsetr {B : Nat} {w : World} {p : Addr} {u v : Value} (h : u = v) : Below B (w.setCell p u) (w.setCell p v) := h ▸ Below.refl _ _
theorem bal {w W : World} (h : Below w.heap.size w W) (o : Obj) : Below w.heap.size w (W.alloc o) := h.alloc h.size o
theorem bkeep {w w1 : World} (h : Below w.heap.size w w1) {a : Addr} {v : Value} (hc : w.cell? a = some v) : w1.cell? a = some v := (h.cell (World.block_lt_of_cell? w a hc)).trans hc
@[simp, go_sem] theorem setCell_size (w : World) (p : Addr) (v : Value) : (w.setCell p v).heap.size = w.heap.size := by simp [World.setCell]

/-! ### A world with blocks laid behind it: what a callee leaves of a world that it did not turn -/
def pls (w : World) (X : Array Obj) (m : Nat) : World := { w with heap := w.heap ++ X, drawn := m }
theorem plsOf {w w1 : World} (h : Below w.heap.size w w1) : ∃ X m, w1 = pls w X m := by
  refine ⟨w1.heap.extract w.heap.size w1.heap.size, w1.drawn, ?_⟩
  obtain ⟨hp, tp, dr, os, ou⟩ := w1
  have h1 := h.os; have h2 := h.tape; have h3 := h.output; have h4 := h.size; have h5 := h.block
  simp only at h1 h2 h3 h4 h5
  subst h1 h2 h3
  unfold pls
  congr 1
  apply Array.ext_getElem?
  intro i
  rw [Array.getElem?_append]
  split
  · rename_i hi; exact h5 i hi
  · rw [Array.getElem?_extract]
    split
    · congr 1; omega
    · rename_i h6 h7; rw [Array.getElem?_eq_none]; simp only at h7 ⊢; omega
theorem plsOfS {w w1 : World} {p : Addr} {v : Value} (h : Below w.heap.size (w.setCell p v) w1) : ∃ X m, w1 = pls (w.setCell p v) X m :=
  plsOf (by rw [setCell_size]; exact h)
theorem bsz {w w1 : World} {p : Addr} {v : Value} (h : Below (w.setCell p v).heap.size (w.setCell p v) w1) : Below w.heap.size (w.setCell p v) w1 := by
  rw [setCell_size] at h; exact h
theorem bpls {B : Nat} {a w : World} (h : Below B a w) (hB : B ≤ w.heap.size) (X : Array Obj) (m : Nat) : Below B a (pls w X m) :=
  h.trans ⟨rfl, rfl, rfl, by simp [pls], fun k hk => by show (w.heap ++ X)[k]? = _; rw [Array.getElem?_append_left (by omega)]⟩
theorem bpl {w W : World} (h : Below w.heap.size w W) (X : Array Obj) (m : Nat) : Below w.heap.size w (pls W X m) := bpls h h.size X m
@[go_sem] theorem lt_plus1 {a b c1 : Nat} (h : a < b) : a < b + c1 := by omega
@[go_sem] theorem lt_plus2 {a b c1 c2 : Nat} (h : a < b) : a < b + c1 + c2 := by omega
@[go_sem] theorem lt_plus3 {a b c1 c2 c3 : Nat} (h : a < b) : a < b + c1 + c2 + c3 := by omega
@[go_sem] theorem lt_plus4 {a b c1 c2 c3 c4 : Nat} (h : a < b) : a < b + c1 + c2 + c3 + c4 := by omega
@[go_sem] theorem lt_plus5 {a b c1 c2 c3 c4 c5 : Nat} (h : a < b) : a < b + c1 + c2 + c3 + c4 + c5 := by omega
@[go_sem] theorem lt_plus6 {a b c1 c2 c3 c4 c5 c6 : Nat} (h : a < b) : a < b + c1 + c2 + c3 + c4 + c5 + c6 := by omega
@[go_sem] theorem lt_plus7 {a b c1 c2 c3 c4 c5 c6 c7 : Nat} (h : a < b) : a < b + c1 + c2 + c3 + c4 + c5 + c6 + c7 := by omega
@[go_sem] theorem lt_plus8 {a b c1 c2 c3 c4 c5 c6 c7 c8 : Nat} (h : a < b) : a < b + c1 + c2 + c3 + c4 + c5 + c6 + c7 + c8 := by omega
@[go_sem] theorem lt_plus9 {a b c1 c2 c3 c4 c5 c6 c7 c8 c9 : Nat} (h : a < b) : a < b + c1 + c2 + c3 + c4 + c5 + c6 + c7 + c8 + c9 := by omega
section
variable (w : World) (X Y : Array Obj) (m k : Nat)
@[simp, go_sem] theorem pls_size : (pls w X m).heap.size = w.heap.size + X.size := by simp [pls]
@[simp, go_sem] theorem pls_pls : pls (pls w X m) Y k = pls w (X ++ Y) k := by simp [pls]
@[go_sem] theorem pls_drew : (pls w X m).drew = pls w X (m + 1) := rfl
@[go_sem] theorem pls_drewN : (pls w X m).drewN k = pls w X (m + k) := rfl
@[go_sem] theorem drew_pls : pls w.drew X m = pls w X m := rfl
@[go_sem] theorem drewN_pls : pls (w.drewN k) X m = pls w X m := rfl
@[go_sem] theorem pls_cell (n i : Nat) (h : n < w.heap.size) : (pls w X m).cell? ⟨n, i, none⟩ = w.cell? ⟨n, i, none⟩ := World.cell?_of_block (by show (w.heap ++ X)[n]? = _; rw [Array.getElem?_append_left h])
@[go_sem] theorem pls_frozen (n i : Nat) (h : n < w.heap.size) : (pls w X m).frozen? ⟨n, i, none⟩ = w.frozen? ⟨n, i, none⟩ := World.frozen?_of_block (by show (w.heap ++ X)[n]? = _; rw [Array.getElem?_append_left h])
theorem pls_setCell' (p : Addr) (v : Value) (h : p.block < w.heap.size) : (pls w X m).setCell p v = pls (w.setCell p v) X m := by
  unfold pls World.setCell
  congr 1
  apply Array.ext_getElem?
  intro j
  simp only [Array.getElem?_modify, Array.getElem?_append, Array.size_modify]
  by_cases hj : p.block = j
  · subst hj; simp [h]
  · simp only [if_neg hj]
@[go_sem] theorem pls_setCell (n i : Nat) (v : Value) (h : n < w.heap.size) : (pls w X m).setCell ⟨n, i, none⟩ v = pls (w.setCell ⟨n, i, none⟩ v) X m := pls_setCell' w X m _ v h
theorem pls_block {w : World} {n : Nat} {x : Obj} (h : w.heap[n]? = some x) : (pls w X m).heap[n]? = some x := by
  show (w.heap ++ X)[n]? = _; rw [Array.getElem?_append_left (Array.getElem?_eq_some_iff.1 h).1]; exact h
end

theorem bapp (w : World) (X Y : Array Obj) (m k : Nat) : Below (pls w X m).heap.size (pls w X m) (pls w (X ++ Y) k) := by
  have h := bpl (Below.refl (pls w X m).heap.size (pls w X m)) Y k
  rw [pls_pls] at h
  exact h
def Pre (X Z : Array Obj) : Prop := ∃ Y, Z = X ++ Y
theorem Pre.refl (X : Array Obj) : Pre X X := ⟨#[], by simp⟩
theorem Pre.base (X Z : Array Obj) : Pre X (X ++ Z) := ⟨Z, rfl⟩
theorem Pre.cons (A : Array Obj) {X Z : Array Obj} (h : Pre X Z) : Pre (A ++ X) (A ++ Z) := by
  obtain ⟨Y, rfl⟩ := h
  exact ⟨Y, by rw [Array.append_assoc]⟩
theorem bpre {w : World} {X Z : Array Obj} {m k : Nat} (h : Pre X Z) : Below (pls w X m).heap.size (pls w X m) (pls w Z k) := by
  obtain ⟨Y, rfl⟩ := h
  exact bapp w X Y m k
theorem qsv {P : Program} {f : FuncId} {args : Array Value} {w : World} {n : Nat} {v u : Value} (h : Calls P f args (w.drewN n) fun e w' => e = .returned v ∧ w.drewN n = w') (hv : v = u) :
    Calls P f args (w.drewN n) fun e w'' => e = .returned u ∧ ∃ m, w'' = w.drewN m :=
  h.mono fun _ _ ⟨he, hm⟩ => ⟨by rw [he, hv], n, hm.symm⟩

/-! Blocks known whole -/
theorem bblk {B : Nat} {w w1 : World} (h : Below B w w1) {k : Nat} (hk : k < B) {x : Option Obj} (hx : w.heap[k]? = x) : w1.heap[k]? = x := (h.block k hk).trans hx
theorem blkset {w : World} {k : Nat} {x : Option Obj} (hx : w.heap[k]? = x) {p : Addr} (hp : k ≠ p.block) (u : Value) : (w.setCell p u).heap[k]? = x := (Below.heap_setCell w p u k hp).trans hx
theorem blksetN {w : World} {k : Nat} {x : Option Obj} {p : Addr} (hp : k ≠ p.block) (hx : w.heap[k]? = x) (u : Value) : (w.setCell p u).heap[k]? = x := blkset hx hp u
theorem blkal {w : World} {k : Nat} {x : Obj} (hx : w.heap[k]? = some x) (o : Obj) : (w.alloc o).heap[k]? = some x := (Below.heap_alloc w o k (Array.getElem?_eq_some_iff.1 hx).1).trans hx
theorem blknew (w : World) (o : Obj) : (w.alloc o).heap[w.heap.size]? = some o := heap_alloc_new w o
theorem blknew' (w : World) (o : Obj) (k : Nat) (hk : k = w.heap.size) : (w.alloc o).heap[k]? = some o := by subst hk; exact blknew w o
theorem blk1 {w : World} {k : Nat} {t : TypeId} {u : Value} (h : w.heap[k]? = some (.cells #[u] t (0, 0))) : w.cell? ⟨k, 0, none⟩ = some u ∧ w.frozen? ⟨k, 0, none⟩ = false := by
  simp [World.cell?, World.frozen?, h]
theorem blk2 {w : World} {k : Nat} {t : TypeId} {u v : Value} (h : w.heap[k]? = some (.cells #[u, v] t (0, 0))) : w.cell? ⟨k, 0, none⟩ = some u ∧ w.cell? ⟨k, 1, none⟩ = some v ∧ w.frozen? ⟨k, 0, none⟩ = false ∧ w.frozen? ⟨k, 1, none⟩ = false := by
  simp [World.cell?, World.frozen?, h]
theorem blk3 {w : World} {k : Nat} {t : TypeId} {u v x : Value} (h : w.heap[k]? = some (.cells #[u, v, x] t (0, 0))) : w.cell? ⟨k, 0, none⟩ = some u ∧ w.cell? ⟨k, 1, none⟩ = some v ∧ w.cell? ⟨k, 2, none⟩ = some x ∧ w.frozen? ⟨k, 0, none⟩ = false ∧ w.frozen? ⟨k, 1, none⟩ = false ∧ w.frozen? ⟨k, 2, none⟩ = false := by
  simp [World.cell?, World.frozen?, h]
theorem blkset0 {w : World} {k : Nat} {t : TypeId} {cs : Array Value} (h : w.heap[k]? = some (.cells cs t (0, 0))) (i : Nat) (u : Value) : (w.setCell ⟨k, i, none⟩ u).heap[k]? = some (.cells (cs.setIfInBounds i u) t (0, 0)) := by
  simp only [World.setCell, Array.getElem?_modify, if_true, h]; rfl
theorem blkset1 {w : World} {k : Nat} {t : TypeId} {v : Value} (h : w.heap[k]? = some (.cells #[v] t (0, 0))) (u : Value) : (w.setCell ⟨k, 0, none⟩ u).heap[k]? = some (.cells #[u] t (0, 0)) := blkset0 h 0 u
theorem blkset2 {w : World} {k : Nat} {t : TypeId} {u v : Value} (h : w.heap[k]? = some (.cells #[u, v] t (0, 0))) (a b : Value) : ((w.setCell ⟨k, 0, none⟩ a).setCell ⟨k, 1, none⟩ b).heap[k]? = some (.cells #[a, b] t (0, 0)) := blkset0 (blkset0 h 0 a) 1 b
theorem blklt {w : World} {k : Nat} {x : Obj} (hx : w.heap[k]? = some x) : k < w.heap.size := (Array.getElem?_eq_some_iff.1 hx).1


theorem bsetBoth {B : Nat} {a w : World} (h : Below B a w) (p : Addr) (v : Value) : Below B (a.setCell p v) (w.setCell p v) := by
  refine ⟨h.os, h.tape, h.output, by simpa [World.setCell] using h.size, fun k hk => ?_⟩
  simp only [World.setCell, Array.getElem?_modify]
  rw [h.block k hk]

theorem bthen {w w1 w2 : World} (h : Below w.heap.size w w1) (k : Below w1.heap.size w1 w2) : Below w.heap.size w w2 := h.trans (k.mono h.size)

theorem bthen_set {w w1 w2 : World} {p : Addr} {u v : Value} (h : Below w.heap.size (w.setCell p u) w1) (k : Below w1.heap.size (w1.setCell p v) w2) (huv : (w.setCell p u).setCell p v = w.setCell p v) : Below w.heap.size (w.setCell p v) w2 := by
  have h1 := bsetBoth h p v
  rw [huv] at h1
  have hs : w.heap.size ≤ w1.heap.size := by have := h.size; rw [setCell_size] at this; exact this
  exact h1.trans (k.mono hs)

@[go_sem] theorem setCell_twice (w : World) (p : Addr) (u v : Value) : (w.setCell p u).setCell p v = w.setCell p v := by
  simp only [World.setCell]
  congr 1
  apply Array.ext_getElem?
  intro i
  simp only [Array.getElem?_modify]
  split
  · cases h : w.heap[i]? with
    | none => rfl
    | some o =>
      cases o <;> simp
      split <;> simp
  · rfl

theorem setCell_same (w : World) (p : Addr) (v : Value) (h : w.cell? p = some v) : w.setCell p v = w := by
  unfold World.setCell
  have hh : ∀ H : Array Obj, H = w.heap → { w with heap := H } = w := fun H e => by subst e; rfl
  apply hh
  apply Array.ext_getElem?
  intro i
  simp only [Array.getElem?_modify]
  split
  · rename_i hi
    subst hi
    unfold World.cell? at h
    cases hq : w.heap[p.block]? with
    | none => rfl
    | some o =>
      rw [hq] at h
      cases o <;> simp at h ⊢
      obtain ⟨hs, hc⟩ := h
      intro _
      apply Array.ext_getElem?
      intro j
      rw [Array.getElem?_setIfInBounds]
      split
      · rename_i hj; subst hj; split
        · rw [hc]
        · rename_i hlt; rw [Array.getElem?_eq_none (by omega)] at hc; cases hc
      · rfl
  · rfl

def pickI (z : Bool) (a b : Int) : Int := if z then a else b
def lowP (p q : Int) : Int := if q < 0 then -(p.tdiv (Int.gcd p q)) else p.tdiv (Int.gcd p q)
def lowQ (p q : Int) : Int := if q < 0 then -(q.tdiv (Int.gcd p q)) else q.tdiv (Int.gcd p q)
theorem tdiv_bd (p : Int) (g : Nat) (h : -9223372036854775808 < p) (h2 : p ≤ 9223372036854775807) : -9223372036854775808 < p.tdiv g ∧ p.tdiv g ≤ 9223372036854775807 := by
  have h1 : (p.tdiv g).natAbs = p.natAbs / g := by rw [Int.natAbs_tdiv]; rfl
  have h3 := Nat.div_le_self p.natAbs g
  omega
def absI (n : Int) : Int := n.natAbs
theorem absI_bd (n : Int) : 0 ≤ absI n ∧ (absI n = n ∨ absI n = -n) := by unfold absI; omega
theorem gcd_absI (p q : Int) : Int.gcd (absI p) q = Int.gcd p q := by simp [absI, Int.gcd]
def smallB (p q : Int) : Bool := decide (absI p ≤ 1000000000) && decide (q ≤ 1000000000)

theorem mul_bd (x y : Int) (h1 : -1000000000 ≤ x) (h2 : x ≤ 1000000000) (h3 : -1000000000 ≤ y) (h4 : y ≤ 1000000000) : -1000000000000000000 ≤ x * y ∧ x * y ≤ 1000000000000000000 := by
  have a : (x * y).natAbs ≤ 1000000000 * 1000000000 := by
    rw [Int.natAbs_mul]
    exact Nat.mul_le_mul (by omega) (by omega)
  omega
theorem gcd_pos' (p q : Int) (hq : q ≠ 0) : 0 < (Int.gcd p q : Int) := by
  have := Int.gcd_pos_of_ne_zero_right p hq
  omega
theorem gcd_le' (p q : Int) (hq : q ≠ 0) : (Int.gcd p q : Int) ≤ q.natAbs := by
  have h := Int.gcd_dvd_right p q
  have := Int.natAbs_dvd_natAbs.2 h
  have h2 := Nat.le_of_dvd (by omega) this
  simp at h2
  omega
theorem gcd_step (x y : Int) : Int.gcd y (x.tmod y) = Int.gcd x y := by
  rw [Int.gcd_comm x y]
  have h : x.tmod y = x + y * (-(x.tdiv y)) := by
    have := Int.tmod_add_tdiv_mul x y
    rw [Int.mul_neg, Int.mul_comm y]
    omega
  rw [h, Int.gcd_add_mul_left_right]
def keptP (p q : Int) : Int := if smallB p q then p else 0
def keptQ (p q : Int) : Int := if smallB p q then q else 1
def resP (p q : Int) : Int := if smallB p q then p else 0
def resQ (p q : Int) : Int := if smallB p q then q else 0
def resC (p q : Int) : Int := if smallB p q then 0 else 3
def addX (p q r s : Int) : Int := lowP (p * s + r * q) (q * s)
def addY (p q r s : Int) : Int := lowQ (p * s + r * q) (q * s)
def mulX (p q r s : Int) : Int := lowP (p * r) (q * s)
def mulY (p q r s : Int) : Int := lowQ (p * r) (q * s)
def divX (p q r s : Int) : Int := lowP (p * s) (q * r)
def divY (p q r s : Int) : Int := lowQ (p * s) (q * r)
def inB (n a b : Int) : Bool := decide (a ≤ n ∧ n ≤ b)
theorem inB_t {n a b : Int} (h1 : a ≤ n) (h2 : n ≤ b) : inB n a b = true := by simp [inB, h1, h2]
theorem inB_iff {n a b : Int} : inB n a b = true ↔ a ≤ n ∧ n ≤ b := by simp [inB]
def frOk (p q : Int) : Bool := decide (0 < q) && decide (-1000000000 ≤ p) && decide (p ≤ 1000000000) && decide (q ≤ 1000000000) && decide (Int.gcd p q = 1)
theorem frOk_iff (p q : Int) : frOk p q = true ↔ 0 < q ∧ -1000000000 ≤ p ∧ p ≤ 1000000000 ∧ q ≤ 1000000000 ∧ Int.gcd p q = 1 := by
  simp [frOk, and_assoc]
theorem lowP_bd (p q : Int) (h : -9223372036854775808 < p) (h2 : p ≤ 9223372036854775807) : -9223372036854775808 < lowP p q ∧ lowP p q ≤ 9223372036854775807 := by
  have h1 : (p.tdiv (Int.gcd p q)).natAbs = p.natAbs / Int.gcd p q := by rw [Int.natAbs_tdiv]; rfl
  have h3 := Nat.div_le_self p.natAbs (Int.gcd p q)
  unfold lowP
  split <;> omega
end Go.Proofs.YtekchdgpaemofaaGreat

/- How data lie in memory, by the shape of their type: numbers, bools, structs (as pairs) and slices; that a readable argument lies so; that it lies so in every world above. -/
namespace Go.Proofs.YtekchdgpaemofaaGreat
open Go.RowKit Go.ChangeShapes Go.WideShapes

structure Sh where
  T : Type
  sz : Nat
  rep : World → T → List Value → Prop
  pos : 0 < sz
  len : ∀ w d cs, rep w d cs → cs.length = sz
  nb : ∀ w d cs, rep w d cs → ∀ v ∈ cs, ∀ x, v ≠ .bool x
  above : ∀ w w' d cs, (∀ (a : Addr) (v : Value), (∀ x, v ≠ .bool x) → w.cell? a = some v → w'.cell? a = some v) → rep w d cs → rep w' d cs
  /-- Memory of one's own: the data lie in just these blocks, each slice with elements in one block of its own. -/
  own : World → T → List Value → List Nat → Prop
  ownRep : ∀ w d cs F, own w d cs F → rep w d cs
  ownKeep : ∀ w w' d cs F, (∀ b ∈ F, w'.heap[b]? = w.heap[b]?) → own w d cs F → own w' d cs F
  ownLt : ∀ w d cs F, own w d cs F → ∀ b ∈ F, b < w.heap.size

theorem Sh.below (s : Sh) {w w' : World} (hb : Below w.heap.size w w') {d : s.T} {cs : List Value} (h : s.rep w d cs) : s.rep w' d cs := s.above w w' d cs (fun _ _ _ hc => bkeep hb hc) h

abbrev shI (k : IntKind) : Sh where
  T := Int
  sz := 1
  rep := fun _ n cs => cs = [.int k n] ∧ (Lit.int k n).wf = true
  pos := Nat.one_pos
  len := fun _ _ _ h => by rw [h.1]; rfl
  nb := fun _ _ _ h v hv x => by rw [h.1] at hv; simp at hv; rw [hv]; simp
  above := fun _ _ _ _ _ h => h
  own := fun _ n cs F => (cs = [.int k n] ∧ (Lit.int k n).wf = true) ∧ F = []
  ownRep := fun _ _ _ _ h => h.1
  ownKeep := fun _ _ _ _ _ _ h => h
  ownLt := fun _ _ _ _ h b hb => by rw [h.2] at hb; cases hb
abbrev shP (x y : Sh) : Sh where
  T := x.T × y.T
  sz := x.sz + y.sz
  rep := fun w d cs => ∃ c1 c2, cs = c1 ++ c2 ∧ x.rep w d.1 c1 ∧ y.rep w d.2 c2
  pos := Nat.lt_of_lt_of_le x.pos (Nat.le_add_right _ _)
  len := fun w d cs h => by obtain ⟨c1, c2, rfl, h1, h2⟩ := h; rw [List.length_append, x.len _ _ _ h1, y.len _ _ _ h2]
  nb := fun w d cs h v hv => by
    obtain ⟨c1, c2, rfl, h1, h2⟩ := h
    rcases List.mem_append.1 hv with hv | hv
    · exact x.nb _ _ _ h1 v hv
    · exact y.nb _ _ _ h2 v hv
  above := fun w w' d cs hw h => by obtain ⟨c1, c2, e, h1, h2⟩ := h; exact ⟨c1, c2, e, x.above _ _ _ _ hw h1, y.above _ _ _ _ hw h2⟩
  own := fun w d cs F => ∃ c1 c2 F1 F2, cs = c1 ++ c2 ∧ F = F1 ++ F2 ∧ x.own w d.1 c1 F1 ∧ y.own w d.2 c2 F2
  ownRep := fun w d cs F h => by obtain ⟨c1, c2, F1, F2, e, _, h1, h2⟩ := h; exact ⟨c1, c2, e, x.ownRep _ _ _ _ h1, y.ownRep _ _ _ _ h2⟩
  ownKeep := fun w w' d cs F hw h => by
    obtain ⟨c1, c2, F1, F2, e, rfl, h1, h2⟩ := h
    exact ⟨c1, c2, F1, F2, e, rfl, x.ownKeep _ _ _ _ _ (fun b hb => hw b (by simp [hb])) h1, y.ownKeep _ _ _ _ _ (fun b hb => hw b (by simp [hb])) h2⟩
  ownLt := fun w d cs F h b hb => by
    obtain ⟨c1, c2, F1, F2, e, rfl, h1, h2⟩ := h
    rcases List.mem_append.1 hb with hb | hb
    · exact x.ownLt _ _ _ _ h1 b hb
    · exact y.ownLt _ _ _ _ h2 b hb
abbrev shL (e : Sh) : Sh where
  T := List e.T
  sz := 1
  rep := fun w xs cs => ∃ (A : Option Addr) (cap : Nat), cs = [.slice A xs.length cap] ∧ xs.length ≤ cap ∧ cap ≤ maxLen ∧
      (0 < xs.length → ∃ (bl off : Nat), A = some ⟨bl, off, none⟩ ∧ ∀ (i : Nat) (d : e.T), xs[i]? = some d → ∃ ec, e.rep w d ec ∧ ∀ j, j < e.sz → w.cell? ⟨bl, off + (i * e.sz + j), none⟩ = ec[j]?)
  pos := Nat.one_pos
  len := fun _ _ _ h => by obtain ⟨_, _, rfl, _⟩ := h; rfl
  nb := fun _ _ _ h v hv x => by obtain ⟨_, _, rfl, _⟩ := h; simp at hv; rw [hv]; simp
  above := fun w w' xs cs hw h => by
    obtain ⟨A, cap, h1, h2, h3, h4⟩ := h
    refine ⟨A, cap, h1, h2, h3, fun hp => ?_⟩
    obtain ⟨bl, off, rfl, h5⟩ := h4 hp
    refine ⟨bl, off, rfl, fun i d hi => ?_⟩
    obtain ⟨ec, g2, g3⟩ := h5 i d hi
    refine ⟨ec, e.above _ _ _ _ hw g2, fun j hj => ?_⟩
    have hg := g3 j hj
    have hjl : j < ec.length := by rw [e.len _ _ _ g2]; exact hj
    rw [List.getElem?_eq_getElem hjl] at hg ⊢
    exact hw _ _ (fun x => e.nb _ _ _ g2 _ (List.getElem_mem hjl) x) hg
  own := fun w xs cs F => ∃ (A : Option Addr) (cap : Nat), cs = [.slice A xs.length cap] ∧ xs.length ≤ cap ∧ cap ≤ maxLen ∧
      ((xs = [] ∧ F = []) ∨ ∃ (g : Nat) (cur : Array Value) (t : TypeId) (Fs : List (List Nat)), A = some ⟨g, 0, none⟩ ∧ w.heap[g]? = some (.cells cur t (0, 0)) ∧ xs.length * e.sz ≤ cur.size ∧ F = g :: Fs.flatten ∧ Fs.length = xs.length ∧
        ∀ (i : Nat) (d : e.T), xs[i]? = some d → ∃ Fi, Fs[i]? = some Fi ∧ e.own w d ((cur.toList.drop (i * e.sz)).take e.sz) Fi)
  ownRep := fun w xs cs F h => by
    obtain ⟨A, cap, h1, h2, h3, h4⟩ := h
    refine ⟨A, cap, h1, h2, h3, fun hp => ?_⟩
    rcases h4 with ⟨rfl, _⟩ | ⟨g, cur, t, Fs, rfl, h5, h6, h7, _, h8⟩
    · exact absurd hp (Nat.lt_irrefl 0)
    · refine ⟨g, 0, rfl, fun i d hi => ?_⟩
      obtain ⟨Fi, _, h9⟩ := h8 i d hi
      refine ⟨_, e.ownRep _ _ _ _ h9, fun j hj => ?_⟩
      rw [List.getElem?_take, if_pos hj, List.getElem?_drop, Nat.zero_add]
      unfold World.cell?
      simp [h5]
  ownKeep := fun w w' xs cs F hw h => by
    obtain ⟨A, cap, h1, h2, h3, h4⟩ := h
    refine ⟨A, cap, h1, h2, h3, ?_⟩
    rcases h4 with h4 | ⟨g, cur, t, Fs, rfl, h5, h6, rfl, hl, h8⟩
    · exact .inl h4
    · refine .inr ⟨g, cur, t, Fs, rfl, (hw g (by simp)).trans h5, h6, rfl, hl, fun i d hi => ?_⟩
      obtain ⟨Fi, h9, h10⟩ := h8 i d hi
      exact ⟨Fi, h9, e.ownKeep _ _ _ _ _ (fun b hb => hw b (List.mem_cons_of_mem _ (List.mem_flatten.2 ⟨Fi, List.mem_of_getElem? h9, hb⟩))) h10⟩
  ownLt := fun w xs cs F h b hb => by
    obtain ⟨A, cap, h1, h2, h3, h4⟩ := h
    rcases h4 with ⟨_, rfl⟩ | ⟨g, cur, t, Fs, rfl, h5, h6, rfl, hl, h8⟩
    · cases hb
    · rcases List.mem_cons.1 hb with rfl | hb
      · exact (Array.getElem?_eq_some_iff.1 h5).1
      · obtain ⟨Fi, h9, h10⟩ := List.mem_flatten.1 hb
        obtain ⟨i, hi, h11⟩ := List.mem_iff_getElem.1 h9
        obtain ⟨Fj, h12, h13⟩ := h8 i xs[i] (List.getElem?_eq_getElem (by omega))
        rw [List.getElem?_eq_getElem hi, h11] at h12
        exact e.ownLt _ _ _ _ h13 b (by cases h12; exact h10)

def Reads (P : Program) (s : Sh) (t : TypeId) : Prop :=
  ∀ (H : Type) (enc : TypeId × Value → H) (w : World) (base : Nat) (spare : Nat → Bool) (held : Bool) (fuel : Nat) (cs : List Value) (x : DataW H × List MemPlace), DataW.trod enc P w base spare held fuel t cs = some x → ∃ d : s.T, s.rep w d cs
def ReadsF (P : Program) (s : Sh) (fs : List Field) (off : Nat) : Prop :=
  ∀ (H : Type) (enc : TypeId × Value → H) (w : World) (base : Nat) (spare : Nat → Bool) (held : Bool) (cs : List Value), cs.length = off + s.sz →
    (∀ f ∈ fs, ∃ fuel x, DataW.trod enc P w base spare held fuel f.type ((cs.drop f.offset).take (P.cellsOf f.type)) = some x) → ∃ d : s.T, s.rep w d (cs.drop off)

theorem cells_at {w : World} {base : Nat} {a : Addr} {n : Nat} {cs : List Value} (hn : 0 < n) (h : w.cells? base a n = some cs) : a.spot = none ∧ cs.length = n ∧ ∀ j, j < n → w.cell? ⟨a.block, a.off + j, none⟩ = cs[j]? := by
  obtain ⟨_, hl, hc⟩ := World.cells?_some h
  obtain ⟨bl, off, sp⟩ := a
  have h0 := hc 0 hn
  have hs : sp = none := by
    have hx : cs[0]? = some (cs[0]'(by omega)) := List.getElem?_eq_getElem (by omega)
    rw [hx] at h0
    cases sp with
    | none => rfl
    | some q =>
      exfalso
      have : (Addr.add ⟨bl, off, some q⟩ 0) = ⟨bl, off, some q⟩ := rfl
      rw [this] at h0
      unfold World.cell? at h0
      split at h0 <;> simp_all
  subst hs
  refine ⟨rfl, hl, fun j hj => ?_⟩
  rw [← hc j hj]
  congr 1
  unfold Addr.add
  split
  · rename_i h; subst h; rfl
  · rfl

section
variable {P : Program}
theorem reads_int {t : TypeId} {k : IntKind} (hu : P.underlying t = some (.int k)) : Reads P (shI k) t := fun _ _ _ _ _ _ _ _ _ h => by
  obtain ⟨m, rfl, _, hw⟩ := DataW.trod_int hu h
  exact ⟨m, rfl, hw⟩
theorem reads_slice {s : Sh} {t e : TypeId} (hu : P.underlying t = some (.slice e)) (hc : P.cellsOf e = s.sz) (he : Reads P s e) : Reads P (shL s) t := fun H enc w base spare held fuel cs x ht => by
  have hpos := s.pos
  rcases DataW.trod_slice hu ht with ⟨rfl, _⟩ | ⟨a, len, cap, elems, rest, m, _, rfl, _, hb, hl, hm, hel, hi, _, _⟩
  · exact ⟨[], none, 0, rfl, Nat.le_refl _, Nat.zero_le _, fun h => absurd h (Nat.lt_irrefl 0)⟩
  · have hel : ∀ i, i < len → ∃ ec, w.cells? base (a.add (i * P.cellsOf e)) (P.cellsOf e) = some ec ∧ ∃ d : s.T, s.rep w d ec := by
      intro i hil
      have h1 := hi i hil
      rw [List.getElem?_eq_getElem (by omega)] at h1
      obtain ⟨ec, h2, h3⟩ := Option.bind_eq_some_iff.1 h1
      exact ⟨ec, h2, he H enc w base spare held m ec _ h3⟩
    by_cases h0 : len = 0
    · subst h0
      exact ⟨[], some a, cap, rfl, Nat.zero_le _, hm, fun h => absurd h (Nat.lt_irrefl 0)⟩
    · obtain ⟨ec0, h1, _⟩ := hel 0 (by omega)
      obtain ⟨hsp, _, _⟩ := cells_at (by omega) h1
      have hsp0 : a.spot = none := by simpa [Addr.add] using hsp
      have hd : ∀ i : Nat, ∃ d : s.T, i < len → ∃ ec, s.rep w d ec ∧ ∀ j, j < s.sz → w.cell? ⟨a.block, a.off + (i * s.sz + j), none⟩ = ec[j]? := by
        intro i
        by_cases hil : i < len
        · obtain ⟨ec, h2, d, h3⟩ := hel i hil
          obtain ⟨_, h4, h5⟩ := cells_at (by omega) h2
          refine ⟨d, fun _ => ⟨ec, h3, fun j hj => ?_⟩⟩
          rw [← h5 j (by omega), hc]
          congr 1
          unfold Addr.add
          split
          · rename_i hz; rw [hz]; simp
          · simp [Nat.add_assoc]
        · obtain ⟨_, _, d, _⟩ := hel 0 (by omega)
          exact ⟨d, fun h => absurd h hil⟩
      refine ⟨(List.range len).map fun i => Classical.choose (hd i), some a, cap, by simp, by simpa using hl, hm, fun _ => ⟨a.block, a.off, by rw [← hsp0], fun i d hid => ?_⟩⟩
      rw [List.getElem?_map] at hid
      have hil : i < len := by
        rcases Nat.lt_or_ge i len with h | h
        · exact h
        · rw [List.getElem?_eq_none (by simpa using h)] at hid; cases hid
      rw [List.getElem?_range hil] at hid
      simp only [Option.map_some, Option.some.injEq] at hid
      rw [← hid]
      exact Classical.choose_spec (hd i) hil
theorem readsF_one {s : Sh} {f : Field} {off : Nat} (h1 : f.offset = off) (hc : P.cellsOf f.type = s.sz) (h : Reads P s f.type) : ReadsF P s [f] off := fun H enc w base spare held cs hl hf => by
  obtain ⟨fuel, x, h2⟩ := hf f (by simp)
  obtain ⟨d, hd⟩ := h H enc w base spare held fuel _ x h2
  rw [hc, h1, List.take_of_length_le (by rw [List.length_drop]; omega)] at hd
  exact ⟨d, hd⟩
theorem readsF_cons {s r : Sh} {f : Field} {fs : List Field} {off : Nat} (h1 : f.offset = off) (hc : P.cellsOf f.type = s.sz) (h : Reads P s f.type) (hr : ReadsF P r fs (off + s.sz)) : ReadsF P (shP s r) (f :: fs) off := fun H enc w base spare held cs hl hf => by
  have hl' : cs.length = off + (s.sz + r.sz) := hl
  obtain ⟨fuel, x, h2⟩ := hf f (by simp)
  obtain ⟨d, hd⟩ := h H enc w base spare held fuel _ x h2
  obtain ⟨d2, hd2⟩ := hr H enc w base spare held cs (by omega) (fun f' hf' => hf f' (by simp [hf']))
  rw [hc, h1] at hd
  exact ⟨(d, d2), _, _, by rw [← List.drop_drop, List.take_append_drop], hd, hd2⟩
theorem reads_struct {s : Sh} {t : TypeId} {fs : Array Field} (hu : P.underlying t = some (.struct fs)) (hc : P.cellsOf t = s.sz) (hF : ReadsF P s fs.toList 0) : Reads P s t := fun H enc w base spare held fuel cs x ht => by
  obtain ⟨xs, m, _, _, hl, hxl, hf⟩ := DataW.trod_struct hu ht
  have := hF H enc w base spare held cs (by omega) (fun f hfm => by
    obtain ⟨i, hil, hif⟩ := List.mem_iff_getElem.1 hfm
    have hil' : i < fs.size := by simpa using hil
    have h1 := hf i f (by rw [← hif]; simp [hil'])
    rw [List.getElem?_eq_getElem (by omega)] at h1
    exact ⟨_, _, h1⟩)
  simpa using this

variable {H : Type} {enc : TypeId × Value → H} {w : World} {base : Nat} {spare : Nat → Bool} {held : Bool}
theorem arg_struct {r : Reach} {b0 : Nat} {s : Sh} {t : TypeId} {fs : Array Field} {v : Value} {d : DataW H} {ps : List MemPlace} (hu : P.underlying t = some (.struct fs)) (hs : Reads P s t)
    (hv : Value.okWide P w r b0 t v) (h : DataW.Trod enc P w base spare held t v d ps) : ∃ (d : s.T) (cs : List Value), v = .agg cs.toArray ∧ s.rep w d cs := by
  obtain ⟨cs, rfl, _⟩ := okWide_struct hu hv
  obtain ⟨fuel, hf⟩ := h
  obtain ⟨d, hd⟩ := hs H enc w base spare held fuel _ _ hf
  exact ⟨d, cs.toList, rfl, hd⟩
end

def shFr : Sh := shP (shI .i64) (shI .i64)
def shGr : Sh := shP (shI .i64) (shI .u32)
def shFlag : Sh := shP (shI .i64) shGr
def shBlock : Sh := shP (shL shFlag) (shL (shL shFr))
def Lst (s : Sh) (w : World) (xs : List s.T) (v : Value) : Prop := (shL s).rep w xs [v]
def Own (s : Sh) (B : Nat) (w : World) (xs : List s.T) (v : Value) (F : List Nat) : Prop := (shL s).own w xs [v] F ∧ F.Nodup ∧ ∀ b ∈ F, B ≤ b
theorem Own.lst {s : Sh} {B : Nat} {w : World} {xs : List s.T} {v : Value} {F : List Nat} (h : Own s B w xs v F) : Lst s w xs v := (shL s).ownRep _ _ _ _ h.1
theorem Lst.below {s : Sh} {w w' : World} {xs : List s.T} {v : Value} (h : Lst s w xs v) (hb : Below w.heap.size w w') : Lst s w' xs v := (shL s).below hb h
def Fl (b o : Nat) (w : World) (g : Bool) (wr : World) : Prop := Below w.heap.size (w.setCell ⟨b, o, none⟩ (.bool g)) wr
section
variable {b o : Nat} {w wr : World} {g g0 : Bool}
theorem Fl.start (h : w.cell? ⟨b, o, none⟩ = some (.bool g)) : Fl b o w g w := by unfold Fl; rw [setCell_same _ _ _ h]; exact Below.refl _ _
theorem Fl.flag (h : Fl b o w g wr) (h0 : w.cell? ⟨b, o, none⟩ = some (.bool g0)) : wr.cell? ⟨b, o, none⟩ = some (.bool g) := by
  have hb : b < w.heap.size := World.block_lt_of_cell? _ _ h0
  rw [Below.cell h (p := ⟨b, o, none⟩) hb]
  exact World.cell?_setCell_same w _ _ h0
theorem Fl.frozen (h : Fl b o w g wr) {a : Addr} (ha : a.block < w.heap.size) : wr.frozen? a = w.frozen? a := by
  rw [Below.frozen h ha, World.frozen?_setCell]
theorem Fl.keep (h : Fl b o w g wr) (h0 : w.cell? ⟨b, o, none⟩ = some (.bool g0)) {a : Addr} {u : Value} (hu : ∀ x, u ≠ .bool x) (ha : w.cell? a = some u) : wr.cell? a = some u := by
  have hb : a.block < w.heap.size := World.block_lt_of_cell? _ _ ha
  rw [Below.cell h hb, World.cell?_setCell_other, ha]
  rintro rfl
  rw [h0] at ha
  exact hu g0 (by simpa using ha.symm)
theorem Fl.lst {s : Sh} {xs : List s.T} {v : Value} (hL : Lst s w xs v) (h : Fl b o w g wr) (h0 : w.cell? ⟨b, o, none⟩ = some (.bool g0)) : Lst s wr xs v :=
  (shL s).above _ _ _ _ (fun _ _ hu ha => h.keep h0 hu ha) hL
theorem Fl.size (h : Fl b o w g wr) : w.heap.size ≤ wr.heap.size := by have := Below.size h; rwa [setCell_size] at this
theorem Fl.trans {w2 : World} {g' : Bool} (h : Fl b o w g wr) (k : Fl b o wr g' w2) : Fl b o w g' w2 := bthen_set h k (setCell_twice _ _ _ _)
theorem Fl.raw (h : Fl b o w g wr) : Below (w.setCell ⟨b, o, none⟩ (.bool g)).heap.size (w.setCell ⟨b, o, none⟩ (.bool g)) wr := by
  rw [setCell_size]; exact h
theorem Fl.both (h : Fl b o w g wr) (g' : Bool) : Below (w.setCell ⟨b, o, none⟩ (.bool g')).heap.size (w.setCell ⟨b, o, none⟩ (.bool g')) (wr.setCell ⟨b, o, none⟩ (.bool g')) := by
  have := bsetBoth h ⟨b, o, none⟩ (.bool g')
  rwa [setCell_twice, ← setCell_size w ⟨b, o, none⟩ (.bool g')] at this
theorem Fl.below {w2 : World} (h : Fl b o w g wr) (k : Below wr.heap.size wr w2) : Fl b o w g w2 := Below.trans h (k.mono h.size)
end
theorem i64_wf {n : Int} (h : (Lit.int .i64 n).wf = true) : -9223372036854775808 ≤ n ∧ n ≤ 9223372036854775807 := by
  simpa [Lit.wf, IntKind.min, IntKind.max, IntKind.signed, IntKind.bits] using h
theorem u32_wf {n : Int} (h : (Lit.int .u32 n).wf = true) : 0 ≤ n ∧ n ≤ 4294967295 := by
  simpa [Lit.wf, IntKind.min, IntKind.max, IntKind.signed, IntKind.bits] using h
theorem rep_gr {w : World} {d : shGr.T} {cs : List Value} (h : shGr.rep w d cs) : cs = [.int .i64 d.1, .int .u32 d.2] ∧ (-9223372036854775808 ≤ d.1 ∧ d.1 ≤ 9223372036854775807) ∧ (0 ≤ d.2 ∧ d.2 ≤ 4294967295) := by
  obtain ⟨c1, c2, rfl, ⟨rfl, h1⟩, ⟨rfl, h2⟩⟩ := h
  exact ⟨rfl, i64_wf h1, u32_wf h2⟩
end Go.Proofs.YtekchdgpaemofaaGreat

/- Slices: make, stores into a row, rows of flat structs, what owns its memory. -/
namespace Go.Proofs.YtekchdgpaemofaaGreat
open Go.RowKit

def infoB (P : Program) (e : TypeId) (sz bytes : Nat) : Bool :=
  match P.info? e with
  | some i => (match i.zero with | some z => decide (i.size = sz) && decide (i.bytes = bytes) && decide (z.cells.size = sz) | none => false)
  | none => false
theorem infoB_spec {P : Program} {e : TypeId} {sz bytes : Nat} (h : infoB P e sz bytes = true) : ∃ i z, P.info? e = some i ∧ i.zero = some z ∧ i.size = sz ∧ i.bytes = bytes ∧ z.cells.size = sz := by
  unfold infoB at h
  split at h
  · rename_i i hi
    split at h
    · rename_i z hz
      simp only [Bool.and_eq_true, decide_eq_true_eq] at h
      exact ⟨i, z, hi, hz, h.1.1, h.1.2, h.2⟩
    · cases h
  · cases h
theorem mk_slice {P : Program} {t e : TypeId} {sz bytes : Nat} (ht : P.underlying t = some (.slice e)) (hi : infoB P e sz bytes = true) (n : Nat) (hb : bytes * n ≤ 281474976710656) (h63 : n ≤ 9223372036854775807) :
    ∃ cur : Array Value, cur.size = n * sz ∧ ∀ W : World, (Instr.makeSlice t (.int .i64 (n : Int)) (.int .i64 (n : Int))).run P W = .ok (.slice (some ⟨W.heap.size, 0, none⟩) n n) (W.alloc (.cells cur e)) := by
  obtain ⟨i, z, h1, h2, h3, h4, h5⟩ := infoB_spec hi
  subst h3 h4
  have hb' : (i.bytes : Int) * (n : Int) ≤ 281474976710656 := by
    have h : ((i.bytes * n : Nat) : Int) ≤ 281474976710656 := by omega
    rwa [Int.natCast_mul] at h
  refine ⟨madeCells z.cells (n * i.size), size_madeCells _ _, fun W => ?_⟩
  have hr := run_make (P := P) W t e i z ht h1 h2 .i64 .i64 n n (by omega) (by omega) hb' (by omega)
  simp only [Int.toNat_natCast] at hr
  exact hr

def Flat (s : Sh) (enc : s.T → List Value) (ok : s.T → Prop) : Prop :=
  (∀ w d cs, s.rep w d cs ↔ cs = enc d ∧ ok d) ∧ (∀ w d cs F, s.own w d cs F ↔ (cs = enc d ∧ ok d) ∧ F = [])
theorem flat_int (k : IntKind) : Flat (shI k) (fun n => [.int k n]) (fun n => (Lit.int k n).wf = true) := ⟨fun _ _ _ => Iff.rfl, fun _ _ _ _ => Iff.rfl⟩
theorem flat_pair {x y : Sh} {e1 : x.T → List Value} {e2 : y.T → List Value} {k1 : x.T → Prop} {k2 : y.T → Prop} (h1 : Flat x e1 k1) (h2 : Flat y e2 k2) : Flat (shP x y) (fun d => e1 d.1 ++ e2 d.2) (fun d => k1 d.1 ∧ k2 d.2) := by
  refine ⟨fun w d cs => ⟨?_, ?_⟩, fun w d cs F => ⟨?_, ?_⟩⟩
  · rintro ⟨c1, c2, rfl, g1, g2⟩
    obtain ⟨rfl, o1⟩ := (h1.1 _ _ _).1 g1
    obtain ⟨rfl, o2⟩ := (h2.1 _ _ _).1 g2
    exact ⟨rfl, o1, o2⟩
  · rintro ⟨rfl, o1, o2⟩
    exact ⟨_, _, rfl, (h1.1 _ _ _).2 ⟨rfl, o1⟩, (h2.1 _ _ _).2 ⟨rfl, o2⟩⟩
  · rintro ⟨c1, c2, F1, F2, rfl, rfl, g1, g2⟩
    obtain ⟨⟨rfl, o1⟩, rfl⟩ := (h1.2 _ _ _ _).1 g1
    obtain ⟨⟨rfl, o2⟩, rfl⟩ := (h2.2 _ _ _ _).1 g2
    exact ⟨⟨rfl, o1, o2⟩, rfl⟩
  · rintro ⟨⟨rfl, o1, o2⟩, rfl⟩
    exact ⟨_, _, [], [], rfl, rfl, (h1.2 _ _ _ _).2 ⟨⟨rfl, o1⟩, rfl⟩, (h2.2 _ _ _ _).2 ⟨⟨rfl, o2⟩, rfl⟩⟩
abbrev encFr (d : Int × Int) : List Value := [.int .i64 d.1, .int .i64 d.2]
abbrev okI (k : IntKind) (n : Int) : Prop := (Lit.int k n).wf = true
abbrev okFr (d : Int × Int) : Prop := okI .i64 d.1 ∧ okI .i64 d.2
abbrev encGr (d : Int × Int) : List Value := [.int .i64 d.1, .int .u32 d.2]
abbrev okGr (d : Int × Int) : Prop := okI .i64 d.1 ∧ okI .u32 d.2
abbrev encFlag (d : Int × (Int × Int)) : List Value := [.int .i64 d.1, .int .i64 d.2.1, .int .u32 d.2.2]
abbrev okFlag (d : Int × (Int × Int)) : Prop := okI .i64 d.1 ∧ okGr d.2
theorem flatFr : Flat shFr encFr okFr := flat_pair (flat_int .i64) (flat_int .i64)
theorem flatGr : Flat shGr encGr okGr := flat_pair (flat_int .i64) (flat_int .u32)
theorem flatFlag : Flat shFlag encFlag okFlag := flat_pair (flat_int .i64) flatGr
theorem rep_slice {s : Sh} {w : World} {xs : List s.T} {v : Value} (h : Lst s w xs v) : ∃ (A : Option Addr) (cap : Nat), v = .slice A xs.length cap ∧ xs.length ≤ cap ∧ cap ≤ maxLen ∧
      (0 < xs.length → ∃ (bl off : Nat), A = some ⟨bl, off, none⟩ ∧ ∀ (i : Nat) (d : s.T), xs[i]? = some d → ∃ ec, s.rep w d ec ∧ ∀ j, j < s.sz → w.cell? ⟨bl, off + (i * s.sz + j), none⟩ = ec[j]?) := by
  obtain ⟨A, cap, h1, h2⟩ := h
  exact ⟨A, cap, by simpa using h1, h2⟩
theorem flat_el {s : Sh} {enc : s.T → List Value} {ok : s.T → Prop} (hf : Flat s enc ok) {w : World} {bl off : Nat} {xs : List s.T}
    (h : ∀ (i : Nat) (d : s.T), xs[i]? = some d → ∃ ec, s.rep w d ec ∧ ∀ j, j < s.sz → w.cell? ⟨bl, off + (i * s.sz + j), none⟩ = ec[j]?) {i : Nat} (hi : i < xs.length) :
    ok xs[i] ∧ ∀ j, j < s.sz → w.cell? ⟨bl, off + (i * s.sz + j), none⟩ = (enc xs[i])[j]? := by
  obtain ⟨ec, h1, h2⟩ := h i xs[i] (List.getElem?_eq_getElem hi)
  obtain ⟨rfl, h3⟩ := (hf.1 _ _ _).1 h1
  exact ⟨h3, h2⟩

theorem take_set {cur : Array Value} {p : Nat} (h : p < cur.size) (a : Value) : (cur.setIfInBounds p a).toList.take (p + 1) = cur.toList.take p ++ [a] := by
  rw [Array.toList_setIfInBounds, List.take_add_one]
  have h1 : (cur.toList.set p a)[p]? = some a := by rw [List.getElem?_set_self]; simpa using h
  rw [h1, List.take_set_of_le (Nat.le_refl _)]
  rfl
theorem own_of_row {s : Sh} {enc : s.T → List Value} {ok : s.T → Prop} (hf : Flat s enc ok) (hl : ∀ d, (enc d).length = s.sz) {w : World} {g cap : Nat} {cur : Array Value} {t : TypeId} {xs : List s.T} (h : w.heap[g]? = some (.cells cur t (0, 0)))
    (hc : xs.length ≤ cap) (hm : cap ≤ maxLen) (hs : xs.length * s.sz ≤ cur.size) (ht : cur.toList.take (xs.length * s.sz) = xs.flatMap enc) (hok : ∀ d ∈ xs, ok d) {B : Nat} (hB : B ≤ g) : Own s B w xs (.slice (some ⟨g, 0, none⟩) xs.length cap) [g] := by
  refine ⟨?_, by simp, by simpa using hB⟩
  refine ⟨_, cap, rfl, hc, hm, .inr ⟨g, cur, t, List.replicate xs.length [], rfl, h, hs, by simp, by simp, fun i d hi => ?_⟩⟩
  have hil : i < xs.length := (List.getElem?_eq_some_iff.1 hi).1
  have hpos := s.pos
  refine ⟨[], by rw [List.getElem?_replicate, if_pos hil], (hf.2 _ _ _ _).2 ⟨⟨?_, hok d (List.mem_of_getElem? hi)⟩, rfl⟩⟩
  have h1 : ((cur.toList.take (xs.length * s.sz)).drop (i * s.sz)).take s.sz = (cur.toList.drop (i * s.sz)).take s.sz := by
    rw [List.drop_take, List.take_take]
    congr 1
    have : (i + 1) * s.sz ≤ xs.length * s.sz := Nat.mul_le_mul_right _ hil
    rw [Nat.add_mul] at this
    omega
  rw [← h1, ht]
  clear h1 ht hs hok hm hc h
  induction xs generalizing i with
  | nil => simp at hil
  | cons x xs ih =>
    cases i with
    | zero =>
      simp at hi
      subst hi
      rw [Nat.zero_mul, List.drop_zero, List.flatMap_cons, ← hl x, List.take_left]
    | succ i =>
      rw [List.flatMap_cons, Nat.add_mul, Nat.one_mul, Nat.add_comm, ← List.drop_drop, List.drop_append_of_le_length (by rw [hl]; exact Nat.le_refl _), (List.drop_of_length_le (by rw [hl]; exact Nat.le_refl _) : List.drop s.sz (enc x) = []), List.nil_append]
      exact ih i (by simpa using hi) (by simpa using hil)
def Part (w : World) (g : Nat) (t : TypeId) (cap : Nat) (L : List Value) : Prop := ∃ cu : Array Value, w.heap[g]? = some (.cells cu t (0, 0)) ∧ cu.size = cap ∧ cu.toList.take L.length = L
theorem Part.new {w : World} {cu : Array Value} {t : TypeId} {cap : Nat} (h : cu.size = cap) : Part (w.alloc (.cells cu t)) w.heap.size t cap [] := ⟨cu, blknew _ _, h, by simp⟩
theorem Part.push {w : World} {g : Nat} {t : TypeId} {cap : Nat} {L : List Value} (h : Part w g t cap L) {p : Nat} (hp : p = L.length) (hc : p < cap) (u : Value) : Part (w.setCell ⟨g, p, none⟩ u) g t cap (L ++ [u]) := by
  obtain ⟨cu, h1, h2, h3⟩ := h
  subst hp
  refine ⟨_, blkset0 h1 _ u, by simp [h2], ?_⟩
  rw [List.length_append, List.length_singleton, take_set (by omega), h3]
theorem Part.pls {w : World} {g : Nat} {t : TypeId} {cap : Nat} {L : List Value} (h : Part w g t cap L) (X : Array Obj) (m : Nat) : Part (pls w X m) g t cap L := by
  obtain ⟨cu, h1, h2⟩ := h
  exact ⟨cu, pls_block _ _ h1, h2⟩
theorem Part.cell {w : World} {g : Nat} {t : TypeId} {cap : Nat} {L : List Value} (h : Part w g t cap L) {p : Nat} (hp : p < cap) : (∃ u, w.cell? ⟨g, p, none⟩ = some u) ∧ w.frozen? ⟨g, p, none⟩ = false := by
  obtain ⟨cu, h1, h2, _⟩ := h
  simp [World.cell?, World.frozen?, h1, h2, hp]
theorem Part.lt {w : World} {g : Nat} {t : TypeId} {cap : Nat} {L : List Value} (h : Part w g t cap L) : g < w.heap.size := by
  obtain ⟨cu, h1, _⟩ := h
  exact blklt h1
theorem Part.eq {w : World} {g : Nat} {t : TypeId} {cap : Nat} {L L' : List Value} (h : Part w g t cap L) (e : L = L') : Part w g t cap L' := e ▸ h
theorem Part.own {s : Sh} {enc : s.T → List Value} {ok : s.T → Prop} (hf : Flat s enc ok) (hl : ∀ d, (enc d).length = s.sz) {w : World} {g cap n : Nat} {t : TypeId} {xs : List s.T} (h : Part w g t cap (xs.flatMap enc))
    (hc : xs.length ≤ n) (hm : n ≤ maxLen) (hs : xs.length * s.sz ≤ cap) (hok : ∀ d ∈ xs, ok d) {B : Nat} (hB : B ≤ g) : Own s B w xs (.slice (some ⟨g, 0, none⟩) xs.length n) [g] := by
  obtain ⟨cu, h1, h2, h3⟩ := h
  have hL : (xs.flatMap enc).length = xs.length * s.sz := by
    clear h3 hok hs hc
    induction xs with
    | nil => simp
    | cons x xs ih => rw [List.flatMap_cons, List.length_append, ih, hl, List.length_cons, Nat.add_mul]; omega
  rw [hL] at h3
  exact own_of_row hf hl h1 hc hm (by omega) h3 hok hB
theorem Own.move {s : Sh} {B B' : Nat} {w w' : World} {xs : List s.T} {v : Value} {F : List Nat} (h : Own s B w xs v F) (hB : B' ≤ B) (hk : ∀ b, B ≤ b → b < w.heap.size → w'.heap[b]? = w.heap[b]?) : Own s B' w' xs v F :=
  ⟨(shL s).ownKeep _ _ _ _ _ (fun b hb => hk b (h.2.2 b hb) ((shL s).ownLt _ _ _ _ h.1 b hb)) h.1, h.2.1, fun b hb => Nat.le_trans hB (h.2.2 b hb)⟩
theorem Own.below {s : Sh} {B B' : Nat} {w w' : World} {xs : List s.T} {v : Value} {F : List Nat} (h : Own s B w xs v F) (hB : B' ≤ B) (hb : Below w.heap.size w w') : Own s B' w' xs v F :=
  h.move hB fun b _ hl => hb.block b hl
theorem pls_ge (W : World) (X : Array Obj) (m : Nat) {b : Nat} (h : W.heap.size ≤ b) : (pls W X m).heap[b]? = X[b - W.heap.size]? := by
  show (W.heap ++ X)[b]? = _
  rw [Array.getElem?_append_right h]
theorem Own.at {s : Sh} {B B' : Nat} {W W' : World} {X : Array Obj} {m k : Nat} {xs : List s.T} {v : Value} {F : List Nat} (h : Own s B (pls W X m) xs v F) (h1 : W.heap.size ≤ B) (h2 : W'.heap.size = W.heap.size) (h3 : B' ≤ B) : Own s B' (pls W' X k) xs v F :=
  h.move h3 fun b hb _ => by rw [pls_ge _ _ _ (by omega), pls_ge _ _ _ (by omega), h2]
theorem Own.more {s : Sh} {B B' : Nat} {W W' : World} {X Y : Array Obj} {m k : Nat} {xs : List s.T} {v : Value} {F : List Nat} (h : Own s B (pls W X m) xs v F) (h1 : W.heap.size ≤ B) (h2 : W'.heap.size = W.heap.size) (h3 : B' ≤ B) : Own s B' (pls W' (X ++ Y) k) xs v F :=
  h.move h3 fun b hb hl => by
    rw [pls_ge _ _ _ (by omega), pls_ge _ _ _ (by omega), h2, Array.getElem?_append_left]
    rw [pls_size] at hl
    omega
theorem len1 {L : List Value} {p : Nat} (h : L.length = p) (u : Value) : (L ++ [u]).length = p + 1 := by rw [List.length_append, h]; rfl
theorem flatMap_len {α : Type} {enc : α → List Value} {n : Nat} (hl : ∀ d, (enc d).length = n) (xs : List α) : (xs.flatMap enc).length = xs.length * n := by
  induction xs with
  | nil => simp
  | cons x xs ih => rw [List.flatMap_cons, List.length_append, ih, hl, List.length_cons, Nat.add_mul]; omega
theorem flatMap_take {α : Type} (enc : α → List Value) {xs : List α} {k : Nat} {d : α} (h : xs[k]? = some d) : (xs.take (k + 1)).flatMap enc = (xs.take k).flatMap enc ++ enc d := by
  rw [List.take_add_one, h, List.flatMap_append]; simp
theorem take_len {α : Type} {xs : List α} {k : Nat} (h : k ≤ xs.length) : (xs.take k).length = k := by rw [List.length_take]; omega
theorem oks_of {s : Sh} {enc : s.T → List Value} {ok : s.T → Prop} (hf : Flat s enc ok) {w : World} {xs : List s.T} {v : Value} (h : Lst s w xs v) : ∀ d ∈ xs, ok d := by
  intro d hd
  obtain ⟨A, cap, _, _, _, h4⟩ := rep_slice h
  obtain ⟨i, hi, rfl⟩ := List.mem_iff_getElem.1 hd
  obtain ⟨bl, off, _, h5⟩ := h4 (by omega)
  exact (flat_el hf h5 hi).1
def idxI {α : Type} (P : α → Bool) (xs : List α) : Int := match xs.findIdx? P with | some i => (i : Int) | none => -1
def anyB {α : Type} (P : α → Bool) (xs : List α) : Bool := xs.any P
theorem idxI_at {α : Type} {P : α → Bool} {xs : List α} {k : Nat} {d : α} (h : ∀ a ∈ xs.take k, P a = false) (hd : xs[k]? = some d) (hp : P d = true) : idxI P xs = k := by
  have : xs.findIdx? P = some k := by
    rw [List.findIdx?_eq_some_iff_getElem]
    obtain ⟨hk, e⟩ := List.getElem?_eq_some_iff.1 hd
    refine ⟨hk, by rw [e]; exact hp, fun j hj => ?_⟩
    have := h xs[j] (List.mem_take_iff_getElem.2 ⟨j, by omega, rfl⟩)
    simp [this]
  unfold idxI
  rw [this]
theorem idxI_none {α : Type} {P : α → Bool} {xs : List α} (h : ∀ a ∈ xs, P a = false) : idxI P xs = -1 := by
  have : xs.findIdx? P = none := by rw [List.findIdx?_eq_none_iff]; simpa using h
  unfold idxI
  rw [this]
theorem anyB_f {α : Type} {P : α → Bool} {xs : List α} (h : anyB P xs = false) : ∀ a ∈ xs, P a = false := by simpa [anyB] using h
theorem idxI_any {α : Type} (P : α → Bool) (xs : List α) : decide (0 ≤ idxI P xs) = anyB P xs ∧ -1 ≤ idxI P xs ∧ idxI P xs ≤ xs.length := by
  unfold idxI anyB
  cases h : xs.findIdx? P with
  | none => rw [List.findIdx?_eq_none_iff] at h; simp; exact h
  | some i =>
    rw [List.findIdx?_eq_some_iff_getElem] at h
    obtain ⟨h1, h2, _⟩ := h
    have : xs.any P = true := List.any_eq_true.2 ⟨_, List.getElem_mem h1, h2⟩
    simp [this]; omega
theorem mem_take_succ {α : Type} {xs : List α} {k : Nat} {d : α} {Q : α → Prop} (h : ∀ a ∈ xs.take k, Q a) (hd : xs[k]? = some d) (hq : Q d) : ∀ a ∈ xs.take (k + 1), Q a := by
  rw [List.take_add_one, hd]
  intro a ha
  rcases List.mem_append.1 ha with ha | ha
  · exact h a ha
  · simp at ha; subst ha; exact hq
theorem own_flat {s : Sh} {enc : s.T → List Value} {ok : s.T → Prop} (hf : Flat s enc ok) {B : Nat} {w : World} {xs : List s.T} {v : Value} {F : List Nat} (h : Own s B w xs v F) :
    ∃ (A : Option Addr) (cap : Nat), v = .slice A xs.length cap ∧ xs.length ≤ cap ∧ cap ≤ maxLen ∧ ((xs = [] ∧ F = []) ∨ ∃ (g : Nat) (cu : Array Value) (t : TypeId), A = some ⟨g, 0, none⟩ ∧ F = [g] ∧ B ≤ g ∧ w.heap[g]? = some (.cells cu t (0, 0)) ∧ xs.length * s.sz ≤ cu.size) := by
  obtain ⟨⟨A, cap, h1, h2, h3, h4⟩, _, hB⟩ := h
  refine ⟨A, cap, by simpa using h1, h2, h3, ?_⟩
  rcases h4 with h4 | ⟨g, cu, t, Fs, rfl, h5, h6, rfl, h7, h8⟩
  · exact .inl h4
  · have hz : Fs.flatten = [] := by
      rw [List.flatten_eq_nil_iff]
      intro l hl
      obtain ⟨i, hi, rfl⟩ := List.mem_iff_getElem.1 hl
      obtain ⟨Fi, h9, h10⟩ := h8 i xs[i] (List.getElem?_eq_getElem (by omega))
      rw [List.getElem?_eq_getElem hi] at h9
      cases h9
      exact ((hf.2 _ _ _ _).1 h10).2
    exact .inr ⟨g, cu, t, rfl, by rw [hz], hB g (by simp), h5, h6⟩
def Chg (F : List Nat) (w w' : World) : Prop := w'.os = w.os ∧ w'.tape = w.tape ∧ w'.output = w.output ∧ w.heap.size ≤ w'.heap.size ∧ ∀ b, b < w.heap.size → b ∉ F → w'.heap[b]? = w.heap[b]?
theorem Chg.set {F : List Nat} {w wr : World} (h : Chg F w wr) {p : Addr} (hp : p.block ∈ F) (u : Value) : Chg F w (wr.setCell p u) := by
  obtain ⟨h1, h2, h3, h4, h5⟩ := h
  refine ⟨h1, h2, h3, by rw [setCell_size]; exact h4, fun b hb hn => ?_⟩
  rw [← h5 b hb hn]
  exact Below.heap_setCell wr p u b (fun e => hn (e ▸ hp))
theorem Chg.refl (F : List Nat) (w : World) : Chg F w w := ⟨rfl, rfl, rfl, Nat.le_refl _, fun _ _ _ => rfl⟩
end Go.Proofs.YtekchdgpaemofaaGreat

/- The end of every law: what is asked of a call that answers true and turns nothing that was there. -/
namespace Go.Proofs.YtekchdgpaemofaaGreat
open Go.RowKit Go.ChangeShapes Go.WideShapes

section
variable {H : Type} {enc : TypeId × Value → H} {P : Program}
theorem trodAll_above (hl : laidOutB P = true) {W W' : World} (hb : Below W.heap.size W W') : ∀ (ts : List TypeId) (vs : List Value) (ds : List (DataW H)) (ps : List MemPlace),
    (∀ t ∈ ts, P.readableRec t = true ∧ t < P.types.size) → DataW.TrodAll enc P W 0 (fun _ => true) true ts vs ds ps → (∀ x ∈ ps, x.block < W.heap.size) →
    DataW.TrodAll enc P W' 0 (fun b => decide (b < W.heap.size)) true ts vs ds ps
  | [], [], [], _, _, h, _ => h
  | t :: ts, v :: vs, d :: ds, ps, hr, h, hp => by
    obtain ⟨p, q, h1, h2, rfl⟩ := h
    exact ⟨p, q, Below.trod hl (hr t (by simp)).1 (hr t (by simp)).2 h1 hb (fun x hx => hp x (by simp [hx])),
      trodAll_above hl hb ts vs ds q (fun t' ht' => hr t' (by simp [ht'])) h2 (fun x hx => hp x (by simp [hx])), rfl⟩
  | [], _ :: _, _, _, _, h, _ => h.elim
  | [], [], _ :: _, _, _, h, _ => h.elim
  | _ :: _, [], _, _, _, h, _ => h.elim
  | _ :: _, _ :: _, [], _, _, h, _ => h.elim

theorem law_post {f : Func} {s : ChangeSpec} {W W' : World} {args : Array Value} {ds gs : List (DataW H)} {before : List MemPlace} {tb : TypeId} (hl : laidOutB P = true)
    (hr0 : (f.params.toList.all fun t => P.readableRec t && decide (t < P.types.size)) = true) (hv : s.vars = []) (ht : f.resultTypes = #[tb]) (hb : P.underlying tb = some .bool)
    (hW : DataW.Whole enc P f.params.toList s.vars false W args.toList ds gs before) (hfn : s.fn H (ds ++ gs) = { results := [.lit (.bool true)], args := ds }) (hB : Below W.heap.size W W') :
    s.post enc P f false true false false W args (.bool true) W' := by
  have hr : ∀ t ∈ f.params.toList, P.readableRec t = true ∧ t < P.types.size := fun t ht => by
    have := List.all_eq_true.1 hr0 t ht
    simpa using this
  have hlt := hW.lt
  have hW' := hW
  obtain ⟨p, q, h1, h2, rfl, _, _⟩ := hW
  rw [hv] at h2
  have hq : q = [] ∧ gs = [] := by
    cases gs with
    | nil => exact ⟨h2, rfl⟩
    | cons g gs => exact h2.elim
  obtain ⟨rfl, rfl⟩ := hq
  refine ⟨ds, [], p ++ [], [], p, [], hW', ?_, ?_, ?_, hB.frame _, fun h => by cases h⟩
  · rw [hfn, ht]
    exact trodAll_mk1 (shut_bool hb true)
  · rw [hfn]
    exact trodAll_above hl hB _ _ _ _ hr h1 (fun x hx => hlt x (by simp [hx]))
  · rw [hfn, hv]
    exact rfl
end
end Go.Proofs.YtekchdgpaemofaaGreat

/- What all laws share: the knob, the layout of types, the count of what is left. -/
namespace Go.Proofs.YtekchdgpaemofaaGreat
open Go.ChangeShapes Go.WideShapes Go.ChangeAt Go.RowKit
theorem tryOwn : ownKnob Tryz.prog.godebug = none := by kernel_rfl
theorem tryLaid : laidOutB Tryz.prog = true := by kernel_rfl
def szI (left n : Int) : Int := if left - n < 0 then -1 else left - n
theorem szI_bd {left n : Int} (h1 : -1 ≤ left) (h2 : left ≤ 1048576) (h3 : 0 ≤ n) : -1 ≤ szI left n ∧ szI left n ≤ 1048576 := by unfold szI; split <;> omega
theorem readsFr : Reads Tryz.prog shFr 67 :=
  reads_struct Tryz.underlying67 (by kernel_rfl) (readsF_cons rfl (by kernel_rfl) (reads_int Tryz.underlying2) (readsF_one rfl (by kernel_rfl) (reads_int Tryz.underlying2)))
theorem readsGr : Reads Tryz.prog shGr 45 :=
  reads_struct Tryz.underlying45 (by kernel_rfl) (readsF_cons rfl (by kernel_rfl) (reads_int Tryz.underlying2) (readsF_one rfl (by kernel_rfl) (reads_int Tryz.underlying26)))
theorem readsFlag : Reads Tryz.prog shFlag 113 :=
  reads_struct Tryz.underlying113 (by kernel_rfl) (readsF_cons rfl (by kernel_rfl) (reads_int Tryz.underlying2) (readsF_one rfl (by kernel_rfl) readsGr))
theorem readsFlagS : Reads Tryz.prog (shL shFlag) 22 := reads_slice Tryz.underlying22 (by kernel_rfl) readsFlag
theorem readsFrS : Reads Tryz.prog (shL shFr) 100 := reads_slice Tryz.underlying100 (by kernel_rfl) readsFr
theorem readsFrSS : Reads Tryz.prog (shL (shL shFr)) 23 := reads_slice Tryz.underlying23 (by kernel_rfl) readsFrS
theorem readsBlock : Reads Tryz.prog shBlock 51 :=
  reads_struct Tryz.underlying51 (by kernel_rfl) (readsF_cons rfl (by kernel_rfl) readsFlagS (readsF_one rfl (by kernel_rfl) readsFrSS))
end Go.Proofs.YtekchdgpaemofaaGreat

/- One operation of a region that draws its order, its slot told. -/
namespace Go.Proofs.YtekchdgpaemofaaGreat
theorem rg_take {P : Program} {ops : Array Oper} {Q : Exit → Act → World → Prop} {md : Region.Mode} {S : World → Prop} (i : Nat) (N : Option Tmp) {oi : Oper} {v : Value} {fuel : Nat} {listed : Array Bool} {a : Act} {w : World} (hi : ops[i]? = some oi)
    (hs : Region.noSelect ops = true) (hf : Region.free md ops listed i = true) (hr : (Region.ready md ops listed).contains i = true) (hN : oi.dst = N)
    (hQ : ∀ c a w, Q (.panic c) (a.put N v) w → Q (.panic c) a w) (hy : YieldsIf P ops S oi v a) (hS : S w)
    (h : wpAnyH P md ops Q S fuel (listed.setIfInBounds i true) (a.put N v) w) : wpAnyH P md ops Q S (fuel + 1) listed a w := by
  subst hN
  exact wpAnyH_take hi hs hf hr hQ hy hS h
theorem rt {P : Program} {ops : Array Oper} {Q : Exit → Act → World → Prop} {md : Region.Mode} {S : World → Prop} (i : Nat) (N : Option Tmp) {oi : Oper} {v : Value} {fuel : Nat} {listed : Array Bool} {a : Act} {w : World} (hi : ops[i]? = some oi) (hN : oi.dst = N)
    (hv : ∀ w, S w → (execOp a.eval oi).run P w = .ok (.value v) w) (h : wpAnyH P md ops Q S fuel (listed.setIfInBounds i true) (a.put N v) w)
    (hs : Region.noSelect ops = true := by kernel_rfl) (hf : Region.free md ops listed i = true := by kernel_rfl) (hr : (Region.ready md ops listed).contains i = true := by kernel_rfl) (hg : Region.wanted oi (yielded ops a.tmps) = true := by kernel_rfl)
    (hQ : ∀ c a w, Q (.panic c) (a.put N v) w → Q (.panic c) a w := by exact fun _ _ _ h => h) (hS : S w := by assumption) : wpAnyH P md ops Q S (fuel + 1) listed a w :=
  rg_take i N hi hs hf hr hN hQ (Or.inl ⟨hg, hv⟩) hS h
theorem nA {α : Type _} (xs : List α) (i : Nat) (a : α) : xs.toArray.setIfInBounds i a = (xs.set i a).toArray := List.setIfInBounds_toArray ..
theorem nB {α : Type _} (x : α) (xs : List α) (a : α) : (x :: xs).set 0 a = a :: xs := rfl
theorem nC {α : Type _} (x : α) (xs : List α) (i : Nat) (a : α) : (x :: xs).set (i + 1) a = x :: xs.set i a := rfl
end Go.Proofs.YtekchdgpaemofaaGreat

/- '==' and '!=' at this program's flat structs. -/
namespace Go.Proofs.YtekchdgpaemofaaGreat
open Go.RowKit
def eq2 (a b c d : Int) : Bool := decide (a = c ∧ b = d)
def eq3 (a b c d e f : Int) : Bool := decide (a = d ∧ b = e ∧ c = f)
def eq5 (a b c d e f g h i j : Int) : Bool := decide (a = f ∧ b = g ∧ c = h ∧ d = i ∧ e = j)
theorem eq2_self (a b : Int) : eq2 a b a b = true := by simp [eq2]
@[go_sem high] theorem eqlGraph (a b c d : Int) (w : World) : (binOp .eql 28 (.agg #[.int .i64 a, .int .u32 b]) (.agg #[.int .i64 c, .int .u32 d])).run Tryz.prog w = .ok (.bool (eq2 a b c d)) w := by
  have hS : Tryz.prog.underlying 28 = some (.struct (Tryz.prog.fieldsOf 28)) := by kernel_rfl
  have hp : Tryz.prog.stoodInHeld 28 = false := by kernel_rfl
  have u1 := Tryz.underlying2
  have u2 := Tryz.underlying26
  rw [run_eql_struct, show (10000 : Nat) = 9999 + 1 from rfl, run_equalIn_struct w 9999 _ _ _ hS hp]
  simp only [Program.fieldsOf, Tryz.underlying28]
  go_simp
  unfold eq2
  by_cases h1 : a = c <;> by_cases h2 : b = d <;> simp [h1, h2]
@[go_sem high] theorem neqGraph (a b c d : Int) (w : World) : (binOp .neq 28 (.agg #[.int .i64 a, .int .u32 b]) (.agg #[.int .i64 c, .int .u32 d])).run Tryz.prog w = .ok (.bool (!eq2 a b c d)) w := by
  have h := eqlGraph a b c d w
  rw [run_eql_struct] at h
  rw [run_neq_struct]
  cases hr : (Op.equalIn 10000 28 (.agg #[.int .i64 a, .int .u32 b]) (.agg #[.int .i64 c, .int .u32 d])).run Tryz.prog w with
  | ok v w' => rw [hr] at h; simp only [Result.andThen_ok, Result.ok.injEq, Value.bool.injEq] at h ⊢; rw [h.1]; exact ⟨rfl, h.2⟩
  | halt x w' => rw [hr] at h; simp [Result.andThen] at h
@[go_sem high] theorem eqlFraction (a b c d : Int) (w : World) : (binOp .eql 54 (.agg #[.int .i64 a, .int .i64 b]) (.agg #[.int .i64 c, .int .i64 d])).run Tryz.prog w = .ok (.bool (eq2 a b c d)) w := by
  have hS : Tryz.prog.underlying 54 = some (.struct (Tryz.prog.fieldsOf 54)) := by kernel_rfl
  have hp : Tryz.prog.stoodInHeld 54 = false := by kernel_rfl
  have u1 := Tryz.underlying2
  rw [run_eql_struct, show (10000 : Nat) = 9999 + 1 from rfl, run_equalIn_struct w 9999 _ _ _ hS hp]
  simp only [Program.fieldsOf, Tryz.underlying54]
  go_simp
  unfold eq2
  by_cases h1 : a = c <;> by_cases h2 : b = d <;> simp [h1, h2]
@[go_sem high] theorem neqFraction (a b c d : Int) (w : World) : (binOp .neq 54 (.agg #[.int .i64 a, .int .i64 b]) (.agg #[.int .i64 c, .int .i64 d])).run Tryz.prog w = .ok (.bool (!eq2 a b c d)) w := by
  have h := eqlFraction a b c d w
  rw [run_eql_struct] at h
  rw [run_neq_struct]
  cases hr : (Op.equalIn 10000 54 (.agg #[.int .i64 a, .int .i64 b]) (.agg #[.int .i64 c, .int .i64 d])).run Tryz.prog w with
  | ok v w' => rw [hr] at h; simp only [Result.andThen_ok, Result.ok.injEq, Value.bool.injEq] at h ⊢; rw [h.1]; exact ⟨rfl, h.2⟩
  | halt x w' => rw [hr] at h; simp [Result.andThen] at h
@[go_sem high] theorem eqlFlag (a b c d e f : Int) (w : World) : (binOp .eql 104 (.agg #[.int .i64 a, .int .i64 b, .int .u32 c]) (.agg #[.int .i64 d, .int .i64 e, .int .u32 f])).run Tryz.prog w = .ok (.bool (eq3 a b c d e f)) w := by
  have hS : Tryz.prog.underlying 104 = some (.struct (Tryz.prog.fieldsOf 104)) := by kernel_rfl
  have hp : Tryz.prog.stoodInHeld 104 = false := by kernel_rfl
  have u1 := Tryz.underlying2
  have u2 := Tryz.underlying26
  rw [run_eql_struct, show (10000 : Nat) = 9999 + 1 from rfl, run_equalIn_struct w 9999 _ _ _ hS hp]
  simp only [Program.fieldsOf, Tryz.underlying104]
  go_simp
  unfold eq3
  by_cases h1 : a = d <;> by_cases h2 : b = e <;> by_cases h3 : c = f <;> simp [h1, h2, h3]
@[go_sem high] theorem neqFlag (a b c d e f : Int) (w : World) : (binOp .neq 104 (.agg #[.int .i64 a, .int .i64 b, .int .u32 c]) (.agg #[.int .i64 d, .int .i64 e, .int .u32 f])).run Tryz.prog w = .ok (.bool (!eq3 a b c d e f)) w := by
  have h := eqlFlag a b c d e f w
  rw [run_eql_struct] at h
  rw [run_neq_struct]
  cases hr : (Op.equalIn 10000 104 (.agg #[.int .i64 a, .int .i64 b, .int .u32 c]) (.agg #[.int .i64 d, .int .i64 e, .int .u32 f])).run Tryz.prog w with
  | ok v w' => rw [hr] at h; simp only [Result.andThen_ok, Result.ok.injEq, Value.bool.injEq] at h ⊢; rw [h.1]; exact ⟨rfl, h.2⟩
  | halt x w' => rw [hr] at h; simp [Result.andThen] at h
@[go_sem high] theorem eqlTerm (a b c d e f g h i j : Int) (w : World) : (binOp .eql 173 (.agg #[.int .i64 a, .int .i64 b, .int .u32 c, .int .i64 d, .int .i64 e]) (.agg #[.int .i64 f, .int .i64 g, .int .u32 h, .int .i64 i, .int .i64 j])).run Tryz.prog w = .ok (.bool (eq5 a b c d e f g h i j)) w := by
  have hS : Tryz.prog.underlying 173 = some (.struct (Tryz.prog.fieldsOf 173)) := by kernel_rfl
  have hp : Tryz.prog.stoodInHeld 173 = false := by kernel_rfl
  have u1 := Tryz.underlying2
  have u2 := Tryz.underlying26
  rw [run_eql_struct, show (10000 : Nat) = 9999 + 1 from rfl, run_equalIn_struct w 9999 _ _ _ hS hp]
  simp only [Program.fieldsOf, Tryz.underlying173]
  go_simp
  unfold eq5
  by_cases h1 : a = f <;> by_cases h2 : b = g <;> by_cases h3 : c = h <;> by_cases h4 : d = i <;> by_cases h5 : e = j <;> simp [h1, h2, h3, h4, h5]
@[go_sem high] theorem neqTerm (a b c d e f g h i j : Int) (w : World) : (binOp .neq 173 (.agg #[.int .i64 a, .int .i64 b, .int .u32 c, .int .i64 d, .int .i64 e]) (.agg #[.int .i64 f, .int .i64 g, .int .u32 h, .int .i64 i, .int .i64 j])).run Tryz.prog w = .ok (.bool (!eq5 a b c d e f g h i j)) w := by
  have h' := eqlTerm a b c d e f g h i j w
  rw [run_eql_struct] at h'
  rw [run_neq_struct]
  cases hr : (Op.equalIn 10000 173 (.agg #[.int .i64 a, .int .i64 b, .int .u32 c, .int .i64 d, .int .i64 e]) (.agg #[.int .i64 f, .int .i64 g, .int .u32 h, .int .i64 i, .int .i64 j])).run Tryz.prog w with
  | ok v w' => rw [hr] at h'; simp only [Result.andThen_ok, Result.ok.injEq, Value.bool.injEq] at h' ⊢; rw [h'.1]; exact ⟨rfl, h'.2⟩
  | halt x w' => rw [hr] at h'; simp [Result.andThen] at h'
@[go_sem] theorem gdGraph : Tryz.prog.eqGuardType Tryz.prog.depth 28 = false := by kernel_rfl
@[go_sem] theorem gdFraction : Tryz.prog.eqGuardType Tryz.prog.depth 54 = false := by kernel_rfl
@[go_sem] theorem gdFlag : Tryz.prog.eqGuardType Tryz.prog.depth 104 = false := by kernel_rfl
@[go_sem] theorem gdTerm : Tryz.prog.eqGuardType Tryz.prog.depth 173 = false := by kernel_rfl
end Go.Proofs.YtekchdgpaemofaaGreat

/- Slices of slices: rows under construction, one row of many, what turns only some blocks. -/
namespace Go.Proofs.YtekchdgpaemofaaGreat
open Go.RowKit

def Rows (s : Sh) (w : World) : List s.T → List Value → List Nat → Prop
  | [], L, F => L = [] ∧ F = []
  | d :: ds, L, F => ∃ c L' F1 F2, L = c ++ L' ∧ F = F1 ++ F2 ∧ s.own w d c F1 ∧ Rows s w ds L' F2
theorem Rows.nil (s : Sh) (w : World) : Rows s w [] [] [] := ⟨rfl, rfl⟩
theorem Rows.len {s : Sh} {w : World} {xs : List s.T} {L : List Value} {F : List Nat} (h : Rows s w xs L F) : L.length = xs.length * s.sz := by
  induction xs generalizing L F with
  | nil => rw [h.1]; simp
  | cons d ds ih =>
    obtain ⟨c, L', F1, F2, rfl, rfl, h1, h2⟩ := h
    rw [List.length_append, ih h2, s.len _ _ _ (s.ownRep _ _ _ _ h1), List.length_cons, Nat.add_mul]; omega
theorem Rows.keep {s : Sh} {w w' : World} {xs : List s.T} {L : List Value} {F : List Nat} (h : Rows s w xs L F) (hk : ∀ b ∈ F, w'.heap[b]? = w.heap[b]?) : Rows s w' xs L F := by
  induction xs generalizing L F with
  | nil => exact h
  | cons d ds ih =>
    obtain ⟨c, L', F1, F2, rfl, rfl, h1, h2⟩ := h
    exact ⟨c, L', F1, F2, rfl, rfl, s.ownKeep _ _ _ _ _ (fun b hb => hk b (by simp [hb])) h1, ih h2 (fun b hb => hk b (by simp [hb]))⟩
theorem Rows.lt {s : Sh} {w : World} {xs : List s.T} {L : List Value} {F : List Nat} (h : Rows s w xs L F) : ∀ b ∈ F, b < w.heap.size := by
  induction xs generalizing L F with
  | nil => rw [h.2]; simp
  | cons d ds ih =>
    obtain ⟨c, L', F1, F2, rfl, rfl, h1, h2⟩ := h
    intro b hb
    rcases List.mem_append.1 hb with hb | hb
    · exact s.ownLt _ _ _ _ h1 b hb
    · exact ih h2 b hb
theorem Rows.snoc {s : Sh} {w : World} {xs : List s.T} {L : List Value} {F : List Nat} (h : Rows s w xs L F) {d : s.T} {c : List Value} {Fd : List Nat} (hd : s.own w d c Fd) : Rows s w (xs ++ [d]) (L ++ c) (F ++ Fd) := by
  induction xs generalizing L F with
  | nil => obtain ⟨rfl, rfl⟩ := h; exact ⟨c, [], Fd, [], by simp, by simp, hd, rfl, rfl⟩
  | cons e es ih =>
    obtain ⟨c', L', F1, F2, rfl, rfl, h1, h2⟩ := h
    exact ⟨c', L' ++ c, F1, F2 ++ Fd, by simp, by simp, h1, ih h2⟩
theorem Rows.parts {s : Sh} {w : World} {xs : List s.T} {L : List Value} {F : List Nat} (h : Rows s w xs L F) : ∃ Fs : List (List Nat), F = Fs.flatten ∧ Fs.length = xs.length ∧ ∀ (i : Nat) (d : s.T), xs[i]? = some d → ∃ Fi, Fs[i]? = some Fi ∧ s.own w d ((L.drop (i * s.sz)).take s.sz) Fi := by
  induction xs generalizing L F with
  | nil => obtain ⟨rfl, rfl⟩ := h; exact ⟨[], rfl, rfl, by simp⟩
  | cons e es ih =>
    obtain ⟨c', L', F1, F2, rfl, rfl, h1, h2⟩ := h
    obtain ⟨Fs, rfl, h3, h4⟩ := ih h2
    have hl := s.len _ _ _ (s.ownRep _ _ _ _ h1)
    refine ⟨F1 :: Fs, rfl, by simp [h3], fun i d hi => ?_⟩
    cases i with
    | zero => simp at hi; subst hi; exact ⟨F1, rfl, by rw [Nat.zero_mul, List.drop_zero, ← hl, List.take_left]; exact h1⟩
    | succ i =>
      obtain ⟨Fi, h5, h6⟩ := h4 i d (by simpa using hi)
      refine ⟨Fi, by simpa using h5, ?_⟩
      rw [Nat.add_mul, Nat.one_mul, Nat.add_comm, ← List.drop_drop, ← hl, List.drop_left, hl]
      exact h6
theorem Rows.own {s : Sh} {w : World} {xs : List s.T} {L : List Value} {F : List Nat} (h : Rows s w xs L F) {g cap n : Nat} {t : TypeId} (hp : Part w g t cap L) (hn : xs.length ≤ n) (hm : n ≤ maxLen) (hs : xs.length * s.sz ≤ cap) {B : Nat} (hB : B ≤ g) (hF : ∀ b ∈ F, B ≤ b) (hN : (g :: F).Nodup) :
    Own s B w xs (.slice (some ⟨g, 0, Option.none⟩) xs.length n) (g :: F) := by
  obtain ⟨cu, h1, h2, h3⟩ := hp
  have hL := h.len
  obtain ⟨Fs, rfl, h4, h5⟩ := h.parts
  refine ⟨⟨_, n, rfl, hn, hm, .inr ⟨g, cu, t, Fs, rfl, h1, by omega, rfl, h4, fun i d hi => ?_⟩⟩, hN, by simpa [hB] using hF⟩
  obtain ⟨Fi, h6, h7⟩ := h5 i d hi
  refine ⟨Fi, h6, ?_⟩
  have hil : i < xs.length := (List.getElem?_eq_some_iff.1 hi).1
  have e : (cu.toList.drop (i * s.sz)).take s.sz = (L.drop (i * s.sz)).take s.sz := by
    rw [← h3, List.drop_take, List.take_take]
    congr 1
    have : (i + 1) * s.sz ≤ xs.length * s.sz := Nat.mul_le_mul_right _ hil
    rw [Nat.add_mul] at this
    omega
  rw [e]; exact h7
theorem Own.row {s : Sh} {B : Nat} {w : World} {xss : List (List s.T)} {v : Value} {F : List Nat} (h : Own (shL s) B w xss v F) {j : Nat} {xs : List s.T} (hj : xss[j]? = some xs) :
    ∃ (g cap : Nat) (Fi : List Nat) (vi : Value), v = .slice (some ⟨g, 0, none⟩) xss.length cap ∧ w.cell? ⟨g, j, none⟩ = some vi ∧ w.frozen? ⟨g, j, none⟩ = false ∧ Own s B w xs vi Fi ∧ (∀ b ∈ Fi, b ∈ F) ∧ g ∉ Fi ∧ g ∈ F ∧
      ∀ (w' : World) (xs' : List s.T), (∀ b, b < w.heap.size → b ∉ Fi → w'.heap[b]? = w.heap[b]?) → Own s B w' xs' vi Fi → Own (shL s) B w' (xss.set j xs') v F := by
  obtain ⟨⟨A, cap, h1, h2, h3, h4⟩, hN, hB⟩ := h
  have hjl : j < xss.length := (List.getElem?_eq_some_iff.1 hj).1
  rcases h4 with ⟨rfl, _⟩ | ⟨g, cur, t, Fs, rfl, h5, h6, rfl, hl, h8⟩
  · simp at hjl
  · obtain ⟨Fi, h9, h10⟩ := h8 j xs hj
    have hcs : ∃ vi, (cur.toList.drop (j * 1)).take 1 = [vi] ∧ cur.toList[j]? = some vi := by
      have hlt : j < cur.toList.length := by simp at h6 ⊢; omega
      refine ⟨cur.toList[j], ?_, List.getElem?_eq_getElem hlt⟩
      rw [Nat.mul_one, List.drop_eq_getElem_cons hlt]; rfl
    obtain ⟨vi, h11, h12⟩ := hcs
    have h10' : (shL s).own w xs [vi] Fi := by rw [← h11]; exact h10
    have hmem : Fi ∈ Fs := List.mem_of_getElem? h9
    have hsub : ∀ b ∈ Fi, b ∈ Fs.flatten := fun b hb => List.mem_flatten.2 ⟨Fi, hmem, hb⟩
    have hN1 := (List.nodup_cons.1 hN).1
    have hN2 := (List.nodup_cons.1 hN).2
    have hnf := List.pairwise_flatten.1 hN2
    have hg : g ∉ Fi := fun hb => hN1 (hsub g hb)
    have hv : v = .slice (some ⟨g, 0, none⟩) xss.length cap := by simpa using h1
    refine ⟨g, cap, Fi, vi, hv, ?_, ?_, ⟨h10', hnf.1 Fi hmem, fun b hb => hB b (List.mem_cons_of_mem _ (hsub b hb))⟩, fun b hb => List.mem_cons_of_mem _ (hsub b hb), hg, by simp, fun w' xs' hk ho => ?_⟩
    · simp only [World.cell?, h5]; simpa using h12
    · simp [World.frozen?, h5]
    · refine ⟨⟨_, cap, by rw [hv]; simp, by simpa using h2, h3, .inr ⟨g, cur, t, Fs, rfl, ?_, by simpa using h6, rfl, by simpa using hl, fun i d hi => ?_⟩⟩, hN, hB⟩
      · rw [hk g (Array.getElem?_eq_some_iff.1 h5).1 hg]; exact h5
      · by_cases hij : i = j
        · subst hij
          rw [List.getElem?_set_self (by simpa using hjl)] at hi
          cases hi
          exact ⟨Fi, h9, by rw [show (shL s).sz = 1 from rfl, h11]; exact ho.1⟩
        · rw [List.getElem?_set_ne (fun e => hij e.symm)] at hi
          obtain ⟨Fk, h13, h14⟩ := h8 i d hi
          refine ⟨Fk, h13, (shL s).ownKeep _ _ _ _ _ (fun b hb => hk b ((shL s).ownLt _ _ _ _ h14 b hb) (fun hbi => ?_)) h14⟩
          have hpw := List.pairwise_iff_getElem.1 hnf.2
          obtain ⟨hi1, hi2⟩ := List.getElem?_eq_some_iff.1 h13
          obtain ⟨hj1, hj2⟩ := List.getElem?_eq_some_iff.1 h9
          rcases Nat.lt_or_gt_of_ne hij with hlt | hlt
          · have := hpw i j hi1 hj1 hlt
            rw [hi2, hj2] at this
            exact this b hb b hbi rfl
          · have := hpw j i hj1 hi1 hlt
            rw [hi2, hj2] at this
            exact this b hbi b hb rfl
theorem lstSS {s : Sh} {w : World} {xss : List (List s.T)} {v : Value} (h : Lst (shL s) w xss v) : ∃ (A : Option Addr) (cap : Nat), v = .slice A xss.length cap ∧ xss.length ≤ cap ∧ cap ≤ maxLen ∧
    (0 < xss.length → ∃ (bl off : Nat), A = some ⟨bl, off, none⟩ ∧ ∀ i, i < xss.length → ∃ (xs : List s.T) (vi : Value), xss[i]? = some xs ∧ Lst s w xs vi ∧ w.cell? ⟨bl, off + i, none⟩ = some vi) := by
  obtain ⟨A, cap, e, hc, hm, hel⟩ := rep_slice h
  refine ⟨A, cap, e, hc, hm, fun hp => ?_⟩
  obtain ⟨bl, off, rfl, h5⟩ := hel hp
  refine ⟨bl, off, rfl, fun i hi => ?_⟩
  obtain ⟨ec, h6, h7⟩ := h5 i xss[i] (List.getElem?_eq_getElem hi)
  have h8 := h6
  obtain ⟨A', cap', rfl, _⟩ := h6
  refine ⟨xss[i], _, List.getElem?_eq_getElem hi, h8, ?_⟩
  have := h7 0 (Nat.one_pos)
  simpa using this
theorem formSS {s : Sh} {w : World} {xss : List (List s.T)} {v : Value} (h : Lst (shL s) w xss v) : ∃ (A : Option Addr) (cap : Nat), v = .slice A xss.length cap ∧ xss.length ≤ cap ∧ cap ≤ maxLen := by
  obtain ⟨A, cap, e, hc, hm, _⟩ := rep_slice h
  exact ⟨A, cap, e, hc, hm⟩
/-! Worlds of which only some blocks have turned -/
theorem Chg.trans {F : List Nat} {w w1 w2 : World} (h : Chg F w w1) (k : Chg F w1 w2) : Chg F w w2 := by
  obtain ⟨a1, a2, a3, a4, a5⟩ := h
  obtain ⟨b1, b2, b3, b4, b5⟩ := k
  exact ⟨b1.trans a1, b2.trans a2, b3.trans a3, Nat.le_trans a4 b4, fun b hb hn => (b5 b (by omega) hn).trans (a5 b hb hn)⟩
theorem Chg.mono {F F' : List Nat} {w w1 : World} (h : Chg F w w1) (hF : ∀ b ∈ F, b ∈ F') : Chg F' w w1 :=
  ⟨h.1, h.2.1, h.2.2.1, h.2.2.2.1, fun b hb hn => h.2.2.2.2 b hb (fun x => hn (hF b x))⟩
theorem Chg.of {w w1 : World} (h : Below w.heap.size w w1) (F : List Nat) : Chg F w w1 := ⟨h.os, h.tape, h.output, h.size, fun b hb _ => h.block b hb⟩
theorem Chg.below {F : List Nat} {w w1 : World} (h : Chg F w w1) {B : Nat} (hB : ∀ b ∈ F, B ≤ b) (hw : B ≤ w.heap.size) : Below B w w1 :=
  ⟨h.1, h.2.1, h.2.2.1, by have := h.2.2.2.1; omega, fun b hb => h.2.2.2.2 b (by omega) (fun x => by have := hB b x; omega)⟩
theorem Chg.size {F : List Nat} {w w1 : World} (h : Chg F w w1) : w.heap.size ≤ w1.heap.size := h.2.2.2.1
theorem Own.chg {s : Sh} {B : Nat} {w w' : World} {xs : List s.T} {v : Value} {F F' : List Nat} (h : Own s B w xs v F) (hc : Chg F' w w') (hd : ∀ b ∈ F, b ∉ F') : Own s B w' xs v F :=
  ⟨(shL s).ownKeep _ _ _ _ _ (fun b hb => hc.2.2.2.2 b ((shL s).ownLt _ _ _ _ h.1 b hb) (hd b hb)) h.1, h.2.1, h.2.2⟩
theorem Own.lt {s : Sh} {B : Nat} {w : World} {xs : List s.T} {v : Value} {F : List Nat} (h : Own s B w xs v F) : ∀ b ∈ F, b < w.heap.size := (shL s).ownLt _ _ _ _ h.1
theorem Own.ge {s : Sh} {B : Nat} {w : World} {xs : List s.T} {v : Value} {F : List Nat} (h : Own s B w xs v F) : ∀ b ∈ F, B ≤ b := h.2.2
theorem Own.nil (s : Sh) (B : Nat) (w : World) (cap : Nat) (hm : cap ≤ maxLen) (A : Option Addr) : Own s B w [] (.slice A 0 cap) [] :=
  ⟨⟨A, cap, rfl, Nat.zero_le _, hm, .inl ⟨rfl, rfl⟩⟩, by simp, by simp⟩
theorem Own.put {B : Nat} {w : World} {xs : List (Int × Int)} {v : Value} {F : List Nat} (h : Own shFr B w xs v F) {j : Nat} (hj : j < xs.length) :
    ∃ (g cap : Nat), v = .slice (some ⟨g, 0, none⟩) xs.length cap ∧ F = [g] ∧ w.frozen? ⟨g, j * 2, none⟩ = false ∧ w.frozen? ⟨g, j * 2 + 1, none⟩ = false ∧ (∃ u, w.cell? ⟨g, j * 2, none⟩ = some u) ∧ (∃ u, w.cell? ⟨g, j * 2 + 1, none⟩ = some u) ∧ g < w.heap.size ∧
      ∀ d : Int × Int, okFr d → Own shFr B ((w.setCell ⟨g, j * 2, none⟩ (.int .i64 d.1)).setCell ⟨g, j * 2 + 1, none⟩ (.int .i64 d.2)) (xs.set j d) v F := by
  obtain ⟨⟨A, cap, h1, h2, h3, h4⟩, hN, hB⟩ := h
  rcases h4 with ⟨rfl, _⟩ | ⟨g, cur, t, Fs, rfl, h5, h6, rfl, hl, h8⟩
  · exact absurd hj (Nat.not_lt_zero j)
  have hz : Fs.flatten = [] := by
    rw [List.flatten_eq_nil_iff]
    intro l hll
    obtain ⟨i, hi, rfl⟩ := List.mem_iff_getElem.1 hll
    obtain ⟨Fi, h9, h10⟩ := h8 i xs[i] (List.getElem?_eq_getElem (by omega))
    rw [List.getElem?_eq_getElem hi] at h9
    cases h9
    exact ((flatFr.2 _ _ _ _).1 h10).2
  have h6' : xs.length * 2 ≤ cur.size := h6
  have hv : v = .slice (some ⟨g, 0, none⟩) xs.length cap := List.singleton_inj.1 h1
  have hg := (Array.getElem?_eq_some_iff.1 h5).1
  refine ⟨g, cap, hv, by rw [hz], by simp [World.frozen?, h5], by simp [World.frozen?, h5], ?_, ?_, hg, fun d hd => ?_⟩
  · refine ⟨cur[j * 2], ?_⟩; simp only [World.cell?, h5]; simp
  · refine ⟨cur[j * 2 + 1], ?_⟩; simp only [World.cell?, h5]; simp
  · have hsl : (xs.set j d).length = xs.length := List.length_set ..
    refine ⟨⟨_, cap, by rw [hv]; exact congrArg (fun n => [Value.slice (some ⟨g, 0, none⟩) n cap]) hsl.symm, Nat.le_trans (Nat.le_of_eq hsl) h2, h3, .inr ⟨g, (cur.setIfInBounds (j * 2) (.int .i64 d.1)).setIfInBounds (j * 2 + 1) (.int .i64 d.2), t, Fs, rfl, blkset0 (blkset0 h5 _ _) _ _, Nat.le_trans (Nat.mul_le_mul_right _ (Nat.le_of_eq hsl)) (by rw [Array.size_setIfInBounds, Array.size_setIfInBounds]; exact h6), rfl, hl.trans hsl.symm, fun i e (hi : (xs.set j d : List (Int × Int))[i]? = some e) => ?_⟩⟩, hN, hB⟩
    have hil : i < xs.length := hsl ▸ (List.getElem?_eq_some_iff.1 hi).1
    by_cases hij : i = j
    · subst hij
      rw [List.getElem?_set_self hj] at hi
      cases hi
      obtain ⟨Fi, h9, h10⟩ := h8 i xs[i] (List.getElem?_eq_getElem hil)
      obtain ⟨_, rfl⟩ := (flatFr.2 _ _ _ _).1 h10
      refine ⟨[], h9, (flatFr.2 _ _ _ _).2 ⟨⟨?_, hd⟩, rfl⟩⟩
      have e0 : (((cur.setIfInBounds (i * 2) (.int .i64 d.1)).setIfInBounds (i * 2 + 1) (.int .i64 d.2)).toList.drop (i * 2)).take 2 = [.int .i64 d.1, .int .i64 d.2] := by
        apply List.ext_getElem?
        intro k
        rw [List.getElem?_take]
        split
        · rw [List.getElem?_drop, Array.getElem?_toList]
          rcases (by omega : k = 0 ∨ k = 1) with rfl | rfl
          · rw [Array.getElem?_setIfInBounds_ne (by omega), Nat.add_zero, Array.getElem?_setIfInBounds_self_of_lt (by omega)]; rfl
          · rw [Array.getElem?_setIfInBounds_self_of_lt (by simp; omega)]; rfl
        · rw [List.getElem?_eq_none]; simp; omega
      exact e0
    · rw [List.getElem?_set_ne (fun e => hij e.symm)] at hi
      obtain ⟨Fi, h9, h10⟩ := h8 i e hi
      refine ⟨Fi, h9, ?_⟩
      obtain ⟨⟨h11, h12⟩, h13⟩ := (flatFr.2 _ _ _ _).1 h10
      refine (flatFr.2 _ _ _ _).2 ⟨⟨?_, h12⟩, h13⟩
      rw [← h11]
      apply List.ext_getElem?
      intro k
      rw [List.getElem?_take, List.getElem?_take]
      split
      · rename_i hk
        have hk : k < 2 := hk
        show (List.drop (i * 2) _)[k]? = (List.drop (i * 2) _)[k]?
        rw [List.getElem?_drop, List.getElem?_drop, Array.getElem?_toList, Array.getElem?_toList, Array.getElem?_setIfInBounds_ne (by omega), Array.getElem?_setIfInBounds_ne (by omega)]
      · rfl
def RowsP (s : Sh) (B : Nat) (w : World) (g : Nat) (t : TypeId) (cap : Nat) (xs : List s.T) : Prop :=
  ∃ L F, Part w g t cap L ∧ Rows s w xs L F ∧ F.Nodup ∧ (∀ b ∈ F, g < b) ∧ B ≤ g
theorem RowsP.new {s : Sh} {w : World} {cu : Array Value} {t : TypeId} {cap : Nat} (h : cu.size = cap) : RowsP s w.heap.size (w.alloc (.cells cu t)) w.heap.size t cap [] :=
  ⟨[], [], Part.new h, Rows.nil _ _, by simp, by simp, Nat.le_refl _⟩
theorem RowsP.cell {s : Sh} {B : Nat} {w : World} {g : Nat} {t : TypeId} {cap : Nat} {xs : List s.T} (h : RowsP s B w g t cap xs) {p : Nat} (hp : p < cap) : (∃ u, w.cell? ⟨g, p, none⟩ = some u) ∧ w.frozen? ⟨g, p, none⟩ = false := by
  obtain ⟨L, F, h1, _⟩ := h
  exact h1.cell hp
theorem RowsP.lt {s : Sh} {B : Nat} {w : World} {g : Nat} {t : TypeId} {cap : Nat} {xs : List s.T} (h : RowsP s B w g t cap xs) : g < w.heap.size := by
  obtain ⟨L, F, h1, _⟩ := h
  exact h1.lt
theorem RowsP.push {s : Sh} {B : Nat} {w : World} {g : Nat} {t : TypeId} {cap : Nat} {xs : List s.T} (h : RowsP s B w g t cap xs) {X : Array Obj} {m k : Nat} {d : s.T} {u : Value} {Fd : List Nat} (hd : s.own (pls w X m) d [u] Fd) (hN : Fd.Nodup) (hF : ∀ b ∈ Fd, w.heap.size ≤ b)
    {p : Nat} (hp : p = xs.length * s.sz) (hc : p < cap) : RowsP s B (pls (w.setCell ⟨g, p, none⟩ u) X k) g t cap (xs ++ [d]) := by
  obtain ⟨L, F, h1, h2, h3, h4, h5⟩ := h
  have hg := h1.lt
  have hlt := h2.lt
  refine ⟨L ++ [u], F ++ Fd, (h1.push (by rw [h2.len]; exact hp) hc u).pls X k, (h2.keep (w' := pls (w.setCell ⟨g, p, none⟩ u) X k) fun b hb => ?_).snoc (s.ownKeep _ _ _ _ _ (fun b hb => ?_) hd), ?_, ?_, h5⟩
  · have hb1 := hlt b hb
    have hb2 := h4 b hb
    show ((w.setCell ⟨g, p, none⟩ u).heap ++ X)[b]? = _
    rw [Array.getElem?_append_left (by rw [setCell_size]; exact hb1)]
    exact Below.heap_setCell w _ u b (by simp; omega)
  · rw [pls_ge _ _ _ (by rw [setCell_size]; exact hF b hb), pls_ge _ _ _ (hF b hb), setCell_size]
  · rw [List.nodup_append]
    exact ⟨h3, hN, fun a ha b hb e => by have := hlt a ha; have := hF b hb; omega⟩
  · intro b hb
    rcases List.mem_append.1 hb with hb | hb
    · exact h4 b hb
    · have := hF b hb; omega
theorem RowsP.own {s : Sh} {B : Nat} {w : World} {g : Nat} {t : TypeId} {cap : Nat} {xs : List s.T} (h : RowsP s B w g t cap xs) {n : Nat} (hn : xs.length ≤ n) (hm : n ≤ maxLen) (hs : xs.length * s.sz ≤ cap) : ∃ F, Own s B w xs (.slice (some ⟨g, 0, none⟩) xs.length n) F := by
  obtain ⟨L, F, h1, h2, h3, h4, h5⟩ := h
  exact ⟨g :: F, h2.own h1 hn hm hs h5 (fun b hb => by have := h4 b hb; omega) (List.nodup_cons.2 ⟨fun hg => Nat.lt_irrefl _ (h4 g hg), h3⟩)⟩
theorem RowsP.step {s : Sh} {B : Nat} {w : World} {g : Nat} {t : TypeId} {cap : Nat} {xs : List s.T} {k : Nat} {d : s.T} (h : RowsP s B w g t cap (xs.take k)) (hx : xs[k]? = some d) {X : Array Obj} {m n : Nat} {u : Value} {Fd : List Nat} (hd : s.own (pls w X m) d [u] Fd) (hN : Fd.Nodup) (hF : ∀ b ∈ Fd, w.heap.size ≤ b)
    {p : Nat} (hp : p = k * s.sz) (hc : p < cap) : RowsP s B (pls (w.setCell ⟨g, p, none⟩ u) X n) g t cap (xs.take (k + 1)) := by
  rw [List.take_add_one, hx]
  exact h.push hd hN hF (by rw [take_len (Nat.le_of_lt (List.getElem?_eq_some_iff.1 hx).1)]; exact hp) hc
theorem RowsP.all {s : Sh} {B : Nat} {w : World} {g : Nat} {t : TypeId} {cap : Nat} {xs : List s.T} (h : RowsP s B w g t cap (xs.take xs.length)) {n : Nat} (hn : xs.length ≤ n) (hm : n ≤ maxLen) (hs : xs.length * s.sz ≤ cap) : ∃ F, Own s B w xs (.slice (some ⟨g, 0, none⟩) xs.length n) F := by
  rw [List.take_length] at h
  exact h.own hn hm hs
/-! How many rows and elements there are -/
def lenSS {α : Type} (xss : List (List α)) : Nat := (xss.map List.length).sum
def szRun {α : Type} (l : Int) : List (List α) → Int
  | [] => l
  | xs :: r => if l - xs.length < 0 then -1 else szRun (l - xs.length) r
def szSS {α : Type} (left : Int) (xss : List (List α)) : Int := if left - xss.length < 0 then -1 else szRun (left - xss.length) xss
theorem szRun_bd {α : Type} (xss : List (List α)) : ∀ l : Int, 0 ≤ l → -1 ≤ szRun l xss ∧ szRun l xss ≤ l ∧ (¬ szRun l xss < 0 → (lenSS xss : Int) ≤ l ∧ szRun l xss = l - lenSS xss) := by
  induction xss with
  | nil => intro l h; simp [szRun, lenSS]; omega
  | cons xs r ih =>
    intro l h
    unfold szRun
    split
    · omega
    · obtain ⟨h1, h2, h3⟩ := ih (l - xs.length) (by omega)
      have e : lenSS (xs :: r) = xs.length + lenSS r := by simp [lenSS]
      refine ⟨h1, by omega, fun h4 => ?_⟩
      obtain ⟨h5, h6⟩ := h3 h4
      rw [h6, e]
      omega
theorem szSS_bd {α : Type} {xss : List (List α)} {left : Int} (h1 : -1 ≤ left) (h2 : left ≤ 1048576) : -1 ≤ szSS left xss ∧ szSS left xss ≤ 1048576 := by
  unfold szSS
  split
  · omega
  · have := szRun_bd xss (left - xss.length) (by omega); omega
theorem szSS_pos {α : Type} {xss : List (List α)} {left : Int} (h : ¬ szSS left xss < 0) : (xss.length : Int) + lenSS xss ≤ left := by
  unfold szSS at h
  split at h
  · omega
  · rename_i hh
    obtain ⟨_, _, h3⟩ := szRun_bd xss (left - xss.length) (by omega)
    have := (h3 h).1
    omega
theorem lenSS_mem {α : Type} {xss : List (List α)} {xs : List α} (h : xs ∈ xss) : xs.length ≤ lenSS xss := by
  induction xss with
  | nil => cases h
  | cons y r ih =>
    simp [lenSS] at *
    rcases h with rfl | h
    · omega
    · have := ih h; omega
theorem Own.pre {s : Sh} {B B' : Nat} {W W' : World} {X Z : Array Obj} {m k : Nat} {xs : List s.T} {v : Value} {F : List Nat} (h : Own s B (pls W X m) xs v F) (hp : Pre X Z) (h1 : W.heap.size ≤ B) (h2 : W'.heap.size = W.heap.size) (h3 : B' ≤ B) : Own s B' (pls W' Z k) xs v F := by
  obtain ⟨Y, rfl⟩ := hp
  exact h.more h1 h2 h3
/-! The same, of fractions -/
theorem lstFrSS {w : World} {xss : List (List (Int × Int))} {v : Value} (h : Lst (shL shFr) w xss v) : ∃ (A : Option Addr) (cap : Nat), v = .slice A xss.length cap ∧ xss.length ≤ cap ∧ cap ≤ maxLen ∧
    (0 < xss.length → ∃ (bl off : Nat), A = some ⟨bl, off, none⟩ ∧ ∀ i, i < xss.length → ∃ (xs : List (Int × Int)) (vi : Value), xss[i]? = some xs ∧ Lst shFr w xs vi ∧ w.cell? ⟨bl, off + i, none⟩ = some vi) := lstSS h
theorem formFrSS {w : World} {xss : List (List (Int × Int))} {v : Value} (h : Lst (shL shFr) w xss v) : ∃ (A : Option Addr) (cap : Nat), v = .slice A xss.length cap ∧ xss.length ≤ cap ∧ cap ≤ maxLen := formSS h
theorem Own.rowFr {B : Nat} {w : World} {xss : List (List (Int × Int))} {v : Value} {F : List Nat} (h : Own (shL shFr) B w xss v F) {j : Nat} {xs : List (Int × Int)} (hj : xss[j]? = some xs) :
    ∃ (g cap : Nat) (Fi : List Nat) (vi : Value), v = .slice (some ⟨g, 0, none⟩) xss.length cap ∧ w.cell? ⟨g, j, none⟩ = some vi ∧ w.frozen? ⟨g, j, none⟩ = false ∧ Own shFr B w xs vi Fi ∧ (∀ b ∈ Fi, b ∈ F) ∧ g ∉ Fi ∧ g ∈ F ∧
      ∀ (w' : World) (xs' : List (Int × Int)), (∀ b, b < w.heap.size → b ∉ Fi → w'.heap[b]? = w.heap[b]?) → Own shFr B w' xs' vi Fi → Own (shL shFr) B w' (xss.set j xs') v F := Own.row h hj
end Go.Proofs.YtekchdgpaemofaaGreat

/- What a slice of Graph holds. -/
namespace Go.Proofs.YtekchdgpaemofaaGreat
open Go.RowKit
end Go.Proofs.YtekchdgpaemofaaGreat

/- What a slice of Fraction holds. -/
namespace Go.Proofs.YtekchdgpaemofaaGreat
open Go.RowKit
theorem lstFraction {w : World} {xs : List (Int × Int)} {v : Value} (h : Lst shFr w xs v) : ∃ (A : Option Addr) (cap : Nat), v = .slice A xs.length cap ∧ xs.length ≤ cap ∧ cap ≤ maxLen ∧ (∀ d ∈ xs, okFr d) ∧
    (0 < xs.length → ∃ (bl off : Nat), A = some ⟨bl, off, none⟩ ∧ ∀ i, i < xs.length → ∃ d : Int × Int, xs[i]? = some d ∧ okFr d ∧ w.cell? ⟨bl, off + i * 2, none⟩ = some (.int .i64 d.1) ∧ w.cell? ⟨bl, off + i * 2 + 1, none⟩ = some (.int .i64 d.2)) := by
  have hoks := oks_of flatFr h
  obtain ⟨A, cap, e, hc, hm, hel⟩ := rep_slice h
  refine ⟨A, cap, e, hc, hm, hoks, fun hp => ?_⟩
  obtain ⟨bl, off, e2, hel⟩ := hel hp
  refine ⟨bl, off, e2, fun i hi => ?_⟩
  obtain ⟨h1, h2⟩ := flat_el flatFr hel hi
  exact ⟨xs[i], List.getElem?_eq_getElem hi, h1, h2 0 (by decide), h2 1 (by decide)⟩
theorem formFraction {w : World} {xs : List (Int × Int)} {v : Value} (h : Lst shFr w xs v) : ∃ (A : Option Addr) (cap : Nat), v = .slice A xs.length cap ∧ xs.length ≤ cap ∧ cap ≤ maxLen := by
  obtain ⟨A, cap, e, hc, hm, _⟩ := rep_slice h
  exact ⟨A, cap, e, hc, hm⟩
end Go.Proofs.YtekchdgpaemofaaGreat

/- What a slice of Flag holds. -/
namespace Go.Proofs.YtekchdgpaemofaaGreat
open Go.RowKit
theorem lstFlag {w : World} {xs : List (Int × (Int × Int))} {v : Value} (h : Lst shFlag w xs v) : ∃ (A : Option Addr) (cap : Nat), v = .slice A xs.length cap ∧ xs.length ≤ cap ∧ cap ≤ maxLen ∧ (∀ d ∈ xs, okFlag d) ∧
    (0 < xs.length → ∃ (bl off : Nat), A = some ⟨bl, off, none⟩ ∧ ∀ i, i < xs.length → ∃ d : Int × (Int × Int), xs[i]? = some d ∧ okFlag d ∧ w.cell? ⟨bl, off + i * 3, none⟩ = some (.int .i64 d.1) ∧ w.cell? ⟨bl, off + i * 3 + 1, none⟩ = some (.int .i64 d.2.1) ∧ w.cell? ⟨bl, off + i * 3 + 2, none⟩ = some (.int .u32 d.2.2)) := by
  have hoks := oks_of flatFlag h
  obtain ⟨A, cap, e, hc, hm, hel⟩ := rep_slice h
  refine ⟨A, cap, e, hc, hm, hoks, fun hp => ?_⟩
  obtain ⟨bl, off, e2, hel⟩ := hel hp
  refine ⟨bl, off, e2, fun i hi => ?_⟩
  obtain ⟨h1, h2⟩ := flat_el flatFlag hel hi
  exact ⟨xs[i], List.getElem?_eq_getElem hi, h1, h2 0 (by decide), h2 1 (by decide), h2 2 (by decide)⟩
theorem formFlag {w : World} {xs : List (Int × (Int × Int))} {v : Value} (h : Lst shFlag w xs v) : ∃ (A : Option Addr) (cap : Nat), v = .slice A xs.length cap ∧ xs.length ≤ cap ∧ cap ≤ maxLen := by
  obtain ⟨A, cap, e, hc, hm, _⟩ := rep_slice h
  exact ⟨A, cap, e, hc, hm⟩
end Go.Proofs.YtekchdgpaemofaaGreat

/- What a slice of Term holds. -/
namespace Go.Proofs.YtekchdgpaemofaaGreat
open Go.RowKit
end Go.Proofs.YtekchdgpaemofaaGreat

/- A slice that grows by append, its elements of one's own. -/
namespace Go.Proofs.YtekchdgpaemofaaGreat
open Go.RowKit
theorem ownsRow_move {w w' : World} {base : Nat} {e : TypeId} {size n : Nat} {v : Value} {L : List Value} (h : w.ownsRow base e size v n L) (hk : ∀ b, base ≤ b → b < w.heap.size → w'.heap[b]? = w.heap[b]?) : w'.ownsRow base e size v n L := by
  obtain ⟨h1, h2⟩ := h
  refine ⟨h1, ?_⟩
  rcases h2 with h2 | ⟨g, cap, cur, rfl, hg, hh, r⟩
  · exact .inl h2
  · exact .inr ⟨g, cap, cur, rfl, hg, (hk g hg (Array.getElem?_eq_some_iff.1 hh).1).trans hh, r⟩
def AppW (s : Sh) (B : Nat) (e : TypeId) (w : World) (v : Value) (xs : List s.T) (L : List Value) (F : List Nat) : Prop :=
  w.ownsRow B e s.sz v xs.length L ∧ Rows s w xs L F ∧ F.Nodup ∧ (∀ b ∈ F, B ≤ b) ∧ (∀ k, v.ownBlock = some k → k ∉ F)
def AppS (s : Sh) (B : Nat) (e : TypeId) (w : World) (v : Value) (xs : List s.T) : Prop := ∃ L F, AppW s B e w v xs L F
theorem AppW.move {s : Sh} {B : Nat} {e : TypeId} {w w' : World} {v : Value} {xs : List s.T} {L : List Value} {F : List Nat} (h : AppW s B e w v xs L F) (hk : ∀ b, B ≤ b → b < w.heap.size → w'.heap[b]? = w.heap[b]?) : AppW s B e w' v xs L F := by
  obtain ⟨h1, h2, h3, h4, h5⟩ := h
  exact ⟨ownsRow_move h1 hk, h2.keep fun b hb => hk b (h4 b hb) (h2.lt b hb), h3, h4, h5⟩
theorem AppS.move {s : Sh} {B : Nat} {e : TypeId} {w w' : World} {v : Value} {xs : List s.T} (h : AppS s B e w v xs) (hk : ∀ b, B ≤ b → b < w.heap.size → w'.heap[b]? = w.heap[b]?) : AppS s B e w' v xs := by
  obtain ⟨L, F, h⟩ := h
  exact ⟨L, F, h.move hk⟩
theorem AppS.below {s : Sh} {B : Nat} {e : TypeId} {w w' : World} {v : Value} {xs : List s.T} (h : AppS s B e w v xs) (hb : Below w.heap.size w w') : AppS s B e w' v xs := h.move fun b _ hl => hb.block b hl
theorem AppS.new (s : Sh) {B : Nat} {e : TypeId} {w : World} {g : Nat} (hg : w.heap[g]? = some (.cells #[] e (0, 0))) (hB : B ≤ g) : AppS s B e w (.slice (some ⟨g, 0, none⟩) 0 0) ([] : List s.T) :=
  ⟨[], [], ⟨by simp, .inr ⟨g, 0, #[], rfl, hB, hg, Nat.le_refl _, Nat.zero_le _, by simp, by simp⟩⟩, Rows.nil _ _, by simp, by simp, by simp⟩
theorem AppS.nil (s : Sh) (B : Nat) (e : TypeId) (w : World) : AppS s B e w (.slice none 0 0) ([] : List s.T) :=
  ⟨[], [], ⟨by simp, .inl ⟨rfl, rfl⟩⟩, Rows.nil _ _, by simp, by simp, by simp⟩
theorem AppW.next {s : Sh} {B : Nat} {e : TypeId} {w w1 : World} {v : Value} {xs : List s.T} {L : List Value} {F : List Nat} (h : AppW s B e w v xs L F) {d : s.T} {c : List Value} {Fd : List Nat} (hd : s.own w d c Fd) (hN : Fd.Nodup) (hB : ∀ b ∈ Fd, B ≤ b)
    (hF : ∀ b ∈ Fd, b ∉ F) (hv : ∀ k, v.ownBlock = some k → k ∉ Fd) {g cap : Nat} (ho : w1.ownsRow B e s.sz (.slice (some ⟨g, 0, none⟩) (xs.length + 1) cap) (xs.length + 1) (L ++ c)) (hg : w.grownBy w1 v.ownBlock) (ha : v.ownBlock = some g ∨ g = w.heap.size) :
    AppS s B e w1 (.slice (some ⟨g, 0, none⟩) (xs.length + 1) cap) (xs ++ [d]) := by
  obtain ⟨h1, h2, h3, h4, h5⟩ := h
  have k1 : ∀ b ∈ F, w1.heap[b]? = w.heap[b]? := fun b hb => hg.block b (h2.lt b hb) (fun e => h5 b e.symm hb)
  have k2 : ∀ b ∈ Fd, w1.heap[b]? = w.heap[b]? := fun b hb => hg.block b (s.ownLt _ _ _ _ hd b hb) (fun e => hv b e.symm hb)
  refine ⟨L ++ c, F ++ Fd, by rw [List.length_append]; exact ho, (h2.keep k1).snoc (s.ownKeep _ _ _ _ _ k2 hd), ?_, ?_, ?_⟩
  · rw [List.nodup_append]
    exact ⟨h3, hN, fun a ha b hb e => hF b hb (e ▸ ha)⟩
  · intro b hb
    rcases List.mem_append.1 hb with hb | hb
    · exact h4 b hb
    · exact hB b hb
  · intro k hk
    have : g = k := by simpa [Value.ownBlock] using hk
    subst this
    intro hm
    rcases List.mem_append.1 hm with hm | hm
    · rcases ha with ha | ha
      · exact h5 g ha hm
      · have := h2.lt g hm; omega
    · rcases ha with ha | ha
      · exact hv g ha hm
      · have := s.ownLt _ _ _ _ hd g hm; omega
theorem AppS.own {s : Sh} {B : Nat} {e : TypeId} {w : World} {v : Value} {xs : List s.T} (h : AppS s B e w v xs) : ∃ A cap F, v = .slice A xs.length cap ∧ Own s B w xs v F := by
  obtain ⟨L, F, h1, h2, h3, h4, h5⟩ := h
  obtain ⟨hl, h1⟩ := h1
  rcases h1 with ⟨rfl, h0⟩ | ⟨g, cap, cur, rfl, hg, hh, hc, hm, hs, ht⟩
  · have : xs = [] := List.length_eq_zero_iff.1 h0
    subst this
    exact ⟨none, 0, [], rfl, Own.nil s B w 0 (Nat.zero_le _) none⟩
  · refine ⟨_, _, g :: F, rfl, h2.own ⟨cur, hh, hs, by rw [hl]; exact ht⟩ hc hm (Nat.mul_le_mul_right _ hc) hg h4 (List.nodup_cons.2 ⟨h5 g rfl, h3⟩)⟩
theorem AppS.ge {s : Sh} {B : Nat} {e : TypeId} {w : World} {v : Value} {xs : List s.T} (h : AppS s B e w v xs) : ∀ k, v.ownBlock = some k → B ≤ k ∧ k < w.heap.size := by
  obtain ⟨L, F, h1, _⟩ := h
  exact fun k hk => h1.lt k hk
theorem grown_below {w w1 : World} {v : Value} {B : Nat} (h : w.grownBy w1 v.ownBlock) (hv : ∀ k, v.ownBlock = some k → B ≤ k) (hB : B ≤ w.heap.size) : Below B w w1 :=
  ⟨h.os, h.tape, h.output, h.size, fun k hk => h.block k (by omega) (fun e => by have := hv k e.symm; omega)⟩
end Go.Proofs.YtekchdgpaemofaaGreat

/- A slice of flat data that grows by append. -/
namespace Go.Proofs.YtekchdgpaemofaaGreat
open Go.RowKit
theorem AppS.flat {s : Sh} {enc : s.T → List Value} {ok : s.T → Prop} (hf : Flat s enc ok) {B : Nat} {e : TypeId} {w : World} {v : Value} {xs : List s.T} (h : AppS s B e w v xs) :
    ∃ L, w.ownsRow B e s.sz v xs.length L ∧ ∀ (d : s.T), ok d → ∀ (g cap : Nat) (w1 : World), w1.ownsRow B e s.sz (.slice (some ⟨g, 0, none⟩) (xs.length + 1) cap) (xs.length + 1) (L ++ enc d) → w.grownBy w1 v.ownBlock → (v.ownBlock = some g ∨ g = w.heap.size) →
      AppS s B e w1 (.slice (some ⟨g, 0, none⟩) (xs.length + 1) cap) (xs ++ [d]) := by
  obtain ⟨L, F, hA⟩ := h
  exact ⟨L, hA.1, fun d hd g cap w1 ho hg ha => hA.next (Fd := []) (c := enc d) ((hf.2 _ _ _ _).2 ⟨⟨rfl, hd⟩, rfl⟩) (by simp) (by simp) (by simp) (by simp) ho hg ha⟩
end Go.Proofs.YtekchdgpaemofaaGreat

/- Flat rows of one's own, cell by cell: to set an element. -/
namespace Go.Proofs.YtekchdgpaemofaaGreat
open Go.RowKit
set_option linter.unusedVariables false
def setRun (cur : Array Value) (p : Nat) : List Value → Array Value
  | [] => cur
  | v :: vs => setRun (cur.setIfInBounds p v) (p + 1) vs
theorem setRun_size (vs : List Value) (cur : Array Value) (p : Nat) : (setRun cur p vs).size = cur.size := by
  induction vs generalizing cur p with
  | nil => rfl
  | cons v vs ih => rw [setRun, ih, Array.size_setIfInBounds]
theorem setRun_at (vs : List Value) (cur : Array Value) (p q : Nat) (h : p + vs.length ≤ cur.size) : (setRun cur p vs)[q]? = if p ≤ q ∧ q < p + vs.length then vs[q - p]? else cur[q]? := by
  induction vs generalizing cur p with
  | nil => rw [setRun, if_neg (by simp only [List.length_nil]; omega)]
  | cons v vs ih =>
    rw [List.length_cons] at h
    rw [setRun, ih _ _ (by rw [Array.size_setIfInBounds]; omega), List.length_cons, Array.getElem?_setIfInBounds]
    by_cases h1 : p + 1 ≤ q ∧ q < p + 1 + vs.length
    · rw [if_pos h1, if_pos (by omega), show q - p = (q - (p + 1)) + 1 by omega, List.getElem?_cons_succ]
    · rw [if_neg h1]
      by_cases h2 : p = q
      · subst h2
        rw [if_pos rfl, if_pos (by omega), if_pos (by omega), Nat.sub_self, List.getElem?_cons_zero]
      · rw [if_neg h2, if_neg (by omega)]
theorem setCells_blk (g : Nat) (t : TypeId) (vs : List Value) : ∀ (w : World) (cur : Array Value) (o : Nat), w.heap[g]? = some (.cells cur t (0, 0)) → (w.setCells g o vs).heap[g]? = some (.cells (setRun cur o vs) t (0, 0)) := by
  induction vs with
  | nil => intro w cur o h; exact h
  | cons v vs ih => intro w cur o h; exact ih _ _ _ (blkset0 h o v)
theorem run_clear_flat {P : Program} (w : World) (t e : TypeId) (z : Value) (ht : P.underlying t = some (.slice e)) (hv : ∀ w, (zeroValue e).run P w = .ok z w) (h1 : ∀ v ∈ z.cells.toList, v.oneCell' = true) {g : Nat} {cur : Array Value} {tt : TypeId} (hh : w.heap[g]? = some (.cells cur tt (0, 0))) (o n c : Nat) (hs : o + n * z.cells.size ≤ cur.size) :
    ∃ vs : List Value, vs.length = n * z.cells.size ∧ ∀ ty, (Builtin.clear_ #[t] ty #[.slice (some ⟨g, o, none⟩) n c]).run P w = .ok (.tuple #[]) (w.setCells g o vs) := by
  rcases Nat.eq_zero_or_pos n with rfl | hn
  · exact ⟨[], by simp, fun ty => by simp [Builtin.clear_, run_underlying ht, World.setCells]⟩
  · have hlen : (Builtin.zeroCells z.cells n).toList.length = n * z.cells.size := by simp [Builtin.zeroCells]
    refine ⟨(Builtin.zeroCells z.cells n).toList, hlen, fun ty => ?_⟩
    have hst := run_storeCells_cells (P := P) g o (Builtin.zeroCells z.cells n).toList 0 w (by
      intro j hj
      rw [hlen] at hj
      simp only [World.cell?, hh, Nat.add_zero]
      rw [Array.getElem?_eq_getElem (by omega)]
      rfl) (by intro j _; simp [World.frozen?, hh]) (by
      intro v hv'
      simp only [Builtin.zeroCells, Array.toList_map, List.mem_map] at hv'
      obtain ⟨i, hi, rfl⟩ := hv'
      have hi' : i < n * z.cells.size := by simpa using hi
      have hz : 0 < z.cells.size := by
        rcases Nat.eq_zero_or_pos z.cells.size with h | h
        · rw [h] at hi'; simp at hi'
        · exact h
      have hm : i % z.cells.size < z.cells.size := Nat.mod_lt _ hz
      rw [getElem!_pos z.cells _ hm]
      exact h1 _ (by rw [Array.mem_toList_iff]; exact Array.getElem_mem hm))
    simp only [Nat.add_zero] at hst
    obtain ⟨m, rfl⟩ : ∃ m, n = m + 1 := ⟨n - 1, by omega⟩
    simp [Builtin.clear_, run_underlying ht, hv, hst]
end Go.Proofs.YtekchdgpaemofaaGreat

/- Small words for the walks of laws: cells of a block known whole. -/
namespace Go.Proofs.YtekchdgpaemofaaGreat
open Go.ChangeShapes Go.WideShapes Go.RowKit
theorem blkdrew {w : World} {k : Nat} {x : Option Obj} (h : w.heap[k]? = x) : w.drew.heap[k]? = x := h
theorem blkc1 {w : World} {k : Nat} {t : TypeId} {a : Value} (h : w.heap[k]? = some (.cells #[a] t (0, 0))) : w.cell? ⟨k, 0, none⟩ = some a := by simp [World.cell?, h]
theorem blkc2 {w : World} {k : Nat} {t : TypeId} {a b : Value} (h : w.heap[k]? = some (.cells #[a, b] t (0, 0))) : w.cell? ⟨k, 0, none⟩ = some a ∧ w.cell? ⟨k, 1, none⟩ = some b := by simp [World.cell?, h]
theorem blkc3 {w : World} {k : Nat} {t : TypeId} {a b c : Value} (h : w.heap[k]? = some (.cells #[a, b, c] t (0, 0))) : w.cell? ⟨k, 0, none⟩ = some a ∧ w.cell? ⟨k, 1, none⟩ = some b ∧ w.cell? ⟨k, 2, none⟩ = some c := by simp [World.cell?, h]
theorem belA {P : Prop} (h : P := by (try with_reducible refine bsz ?_); repeat (first | with_reducible exact Below.refl _ _ | ((with_reducible refine bpre ?_); (try simp only [Array.append_assoc]); repeat (first | with_reducible exact Pre.refl _ | with_reducible exact Pre.base _ _ | with_reducible refine Pre.cons _ ?_)) | with_reducible assumption | ((with_reducible refine bsetr ?_); rfl) | with_reducible refine Below.setCell ?_ (by simp <;> omega) _ | with_reducible refine bpl ?_ _ _ | with_reducible refine bal ?_ _ | with_reducible refine bdrew1 ?_ | with_reducible refine bdrew ?_ _)) : P := h
theorem blkA {P : Prop} (h : P := by repeat (first | with_reducible assumption | with_reducible refine pls_block _ _ ?_ | with_reducible apply blkset2 | with_reducible apply blkset1 | ((with_reducible refine blksetN ?_ ?_ _); (focus (simp <;> omega))) | with_reducible exact blknew _ _ | ((with_reducible refine blknew' _ _ _ ?_); (simp <;> omega)) | with_reducible refine blkal ?_ _)) : P := h
end Go.Proofs.YtekchdgpaemofaaGreat
