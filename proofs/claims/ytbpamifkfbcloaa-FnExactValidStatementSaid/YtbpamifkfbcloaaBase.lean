/- Small words and lemmas that the walks of this claim share: endings, worlds below a block, plain arithmetic of fractions. -/
import Derived.WalkKit
import Derived.KernelRfl
import Derived.Deep.QuietTactic
import Derived.BigQuiet
import Derived.Lib.Hide
namespace Go.Proofs.Ytbpamifkfbcloaa
open Go.RowKit

theorem ret_int {k : IntKind} {a b : Int} (h : a = b) : Ending.returned (.int k a) = .returned (.int k b) := by rw [h]
theorem ret_bool {a b : Bool} (h : a = b) : Ending.returned (.bool a) = .returned (.bool b) := by rw [h]


theorem bcell {W w1 : World} (hb : Below W.heap.size W w1) : (∀ b o, b < W.heap.size → w1.cell? ⟨b, o, none⟩ = W.cell? ⟨b, o, none⟩) ∧ (∀ b o, b < W.heap.size → w1.frozen? ⟨b, o, none⟩ = W.frozen? ⟨b, o, none⟩) :=
  ⟨fun b o h => hb.cell (p := ⟨b, o, none⟩) h, fun b o h => hb.frozen (p := ⟨b, o, none⟩) h⟩

theorem bdrew {B : Nat} {a w : World} (h : Below B a w) (n : Nat) : Below B a (w.drewN n) := ⟨h.os, h.tape, h.output, h.size, h.block⟩

theorem bdrew1 {B : Nat} {a w : World} (h : Below B a w) : Below B a w.drew := ⟨h.os, h.tape, h.output, h.size, h.block⟩
theorem bsetr {B : Nat} {w : World} {p : Addr} {u v : Value} (h : u = v) : Below B (w.setCell p u) (w.setCell p v) := h ▸ Below.refl _ _
theorem bal {w W : World} (h : Below w.heap.size w W) (o : Obj) : Below w.heap.size w (W.alloc o) := h.alloc h.size o
theorem bkeep {w w1 : World} (h : Below w.heap.size w w1) {a : Addr} {v : Value} (hc : w.cell? a = some v) : w1.cell? a = some v := (h.cell (World.block_lt_of_cell? w a hc)).trans hc
theorem bkeepf {w w1 : World} (h : Below w.heap.size w w1) {a : Addr} {v : Bool} (ha : a.block < w.heap.size) (hc : w.frozen? a = v) : w1.frozen? a = v := (h.frozen ha).trans hc

@[simp, go_sem] theorem setCell_size (w : World) (p : Addr) (v : Value) : (w.setCell p v).heap.size = w.heap.size := by simp [World.setCell]

/-! ### A world with blocks laid behind it: what a callee leaves of a world that it did not turn -/
def pls (w : World) (X : Array Obj) (m : Nat) : World := { w with heap := w.heap ++ X, drawn := m }
theorem plsOf {w w1 : World} (h : Below w.heap.size w w1) : ∃ X m, w1 = pls w X m := by
  refine ⟨w1.heap.extract w.heap.size w1.heap.size, w1.drawn, ?_⟩
  obtain ⟨hp, tp, dr, os, ou⟩ := w1
  have h1 := h.os; have h2 := h.tape; have h3 := h.output; have h4 := h.size; have h5 := h.block
  simp only at h1 h2 h3 h4 h5
  subst h1 h2 h3
  unfold pls
  congr 1
  apply Array.ext_getElem?
  intro i
  rw [Array.getElem?_append]
  split
  · rename_i hi; exact h5 i hi
  · rw [Array.getElem?_extract]
    split
    · congr 1; omega
    · rename_i h6 h7; rw [Array.getElem?_eq_none]; simp only at h7 ⊢; omega
theorem plsOfS {w w1 : World} {p : Addr} {v : Value} (h : Below w.heap.size (w.setCell p v) w1) : ∃ X m, w1 = pls (w.setCell p v) X m :=
  plsOf (by rw [setCell_size]; exact h)
theorem bsz {w w1 : World} {p : Addr} {v : Value} (h : Below (w.setCell p v).heap.size (w.setCell p v) w1) : Below w.heap.size (w.setCell p v) w1 := by
  rw [setCell_size] at h; exact h
theorem bpls {B : Nat} {a w : World} (h : Below B a w) (hB : B ≤ w.heap.size) (X : Array Obj) (m : Nat) : Below B a (pls w X m) :=
  h.trans ⟨rfl, rfl, rfl, by simp [pls], fun k hk => by show (w.heap ++ X)[k]? = _; rw [Array.getElem?_append_left (by omega)]⟩
theorem bpl {w W : World} (h : Below w.heap.size w W) (X : Array Obj) (m : Nat) : Below w.heap.size w (pls W X m) := bpls h h.size X m
@[go_sem] theorem lt_plus1 {a b c1 : Nat} (h : a < b) : a < b + c1 := by omega
@[go_sem] theorem lt_plus2 {a b c1 c2 : Nat} (h : a < b) : a < b + c1 + c2 := by omega
@[go_sem] theorem lt_plus3 {a b c1 c2 c3 : Nat} (h : a < b) : a < b + c1 + c2 + c3 := by omega
@[go_sem] theorem lt_plus4 {a b c1 c2 c3 c4 : Nat} (h : a < b) : a < b + c1 + c2 + c3 + c4 := by omega
@[go_sem] theorem lt_plus5 {a b c1 c2 c3 c4 c5 : Nat} (h : a < b) : a < b + c1 + c2 + c3 + c4 + c5 := by omega
@[go_sem] theorem lt_plus6 {a b c1 c2 c3 c4 c5 c6 : Nat} (h : a < b) : a < b + c1 + c2 + c3 + c4 + c5 + c6 := by omega
@[go_sem] theorem lt_plus7 {a b c1 c2 c3 c4 c5 c6 c7 : Nat} (h : a < b) : a < b + c1 + c2 + c3 + c4 + c5 + c6 + c7 := by omega
@[go_sem] theorem lt_plus8 {a b c1 c2 c3 c4 c5 c6 c7 c8 : Nat} (h : a < b) : a < b + c1 + c2 + c3 + c4 + c5 + c6 + c7 + c8 := by omega
@[go_sem] theorem lt_plus9 {a b c1 c2 c3 c4 c5 c6 c7 c8 c9 : Nat} (h : a < b) : a < b + c1 + c2 + c3 + c4 + c5 + c6 + c7 + c8 + c9 := by omega
section
variable (w : World) (X Y : Array Obj) (m k : Nat)
@[simp, go_sem] theorem pls_size : (pls w X m).heap.size = w.heap.size + X.size := by simp [pls]
@[simp, go_sem] theorem pls_pls : pls (pls w X m) Y k = pls w (X ++ Y) k := by simp [pls]
@[go_sem] theorem pls_drew : (pls w X m).drew = pls w X (m + 1) := rfl
@[go_sem] theorem pls_drewN : (pls w X m).drewN k = pls w X (m + k) := rfl
@[go_sem] theorem drew_pls : pls w.drew X m = pls w X m := rfl
@[go_sem] theorem drewN_pls : pls (w.drewN k) X m = pls w X m := rfl
@[go_sem] theorem pls_cell (n i : Nat) (h : n < w.heap.size) : (pls w X m).cell? ⟨n, i, none⟩ = w.cell? ⟨n, i, none⟩ := World.cell?_of_block (by show (w.heap ++ X)[n]? = _; rw [Array.getElem?_append_left h])
@[go_sem] theorem pls_frozen (n i : Nat) (h : n < w.heap.size) : (pls w X m).frozen? ⟨n, i, none⟩ = w.frozen? ⟨n, i, none⟩ := World.frozen?_of_block (by show (w.heap ++ X)[n]? = _; rw [Array.getElem?_append_left h])
theorem pls_setCell' (p : Addr) (v : Value) (h : p.block < w.heap.size) : (pls w X m).setCell p v = pls (w.setCell p v) X m := by
  unfold pls World.setCell
  congr 1
  apply Array.ext_getElem?
  intro j
  simp only [Array.getElem?_modify, Array.getElem?_append, Array.size_modify]
  by_cases hj : p.block = j
  · subst hj; simp [h]
  · simp only [if_neg hj]
@[go_sem] theorem pls_setCell (n i : Nat) (v : Value) (h : n < w.heap.size) : (pls w X m).setCell ⟨n, i, none⟩ v = pls (w.setCell ⟨n, i, none⟩ v) X m := pls_setCell' w X m _ v h
theorem pls_block {w : World} {n : Nat} {x : Obj} (h : w.heap[n]? = some x) : (pls w X m).heap[n]? = some x := by
  show (w.heap ++ X)[n]? = _; rw [Array.getElem?_append_left (Array.getElem?_eq_some_iff.1 h).1]; exact h
end

theorem bapp (w : World) (X Y : Array Obj) (m k : Nat) : Below (pls w X m).heap.size (pls w X m) (pls w (X ++ Y) k) := by
  have h := bpl (Below.refl (pls w X m).heap.size (pls w X m)) Y k
  rw [pls_pls] at h
  exact h
/-- One array opens another one. -/
def Pre (X Z : Array Obj) : Prop := ∃ Y, Z = X ++ Y
theorem Pre.refl (X : Array Obj) : Pre X X := ⟨#[], by simp⟩
theorem Pre.base (X Z : Array Obj) : Pre X (X ++ Z) := ⟨Z, rfl⟩
theorem Pre.cons (A : Array Obj) {X Z : Array Obj} (h : Pre X Z) : Pre (A ++ X) (A ++ Z) := by
  obtain ⟨Y, rfl⟩ := h
  exact ⟨Y, by rw [Array.append_assoc]⟩
theorem bpre {w : World} {X Z : Array Obj} {m k : Nat} (h : Pre X Z) : Below (pls w X m).heap.size (pls w X m) (pls w Z k) := by
  obtain ⟨Y, rfl⟩ := h
  exact bapp w X Y m k
/-- A contract that leaves the world alone, for a region that draws its order. -/
theorem qsv {P : Program} {f : FuncId} {args : Array Value} {w : World} {n : Nat} {v u : Value} (h : Calls P f args (w.drewN n) fun e w' => e = .returned v ∧ w.drewN n = w') (hv : v = u) :
    Calls P f args (w.drewN n) fun e w'' => e = .returned u ∧ ∃ m, w'' = w.drewN m :=
  h.mono fun _ _ ⟨he, hm⟩ => ⟨by rw [he, hv], n, hm.symm⟩

/-! Blocks known whole -/
theorem bblk {B : Nat} {w w1 : World} (h : Below B w w1) {k : Nat} (hk : k < B) {x : Option Obj} (hx : w.heap[k]? = x) : w1.heap[k]? = x := (h.block k hk).trans hx
theorem blkset {w : World} {k : Nat} {x : Option Obj} (hx : w.heap[k]? = x) {p : Addr} (hp : k ≠ p.block) (u : Value) : (w.setCell p u).heap[k]? = x := (Below.heap_setCell w p u k hp).trans hx
theorem blksetN {w : World} {k : Nat} {x : Option Obj} {p : Addr} (hp : k ≠ p.block) (hx : w.heap[k]? = x) (u : Value) : (w.setCell p u).heap[k]? = x := blkset hx hp u
theorem blkal {w : World} {k : Nat} {x : Obj} (hx : w.heap[k]? = some x) (o : Obj) : (w.alloc o).heap[k]? = some x := (Below.heap_alloc w o k (Array.getElem?_eq_some_iff.1 hx).1).trans hx
theorem blknew (w : World) (o : Obj) : (w.alloc o).heap[w.heap.size]? = some o := heap_alloc_new w o
theorem blknew' (w : World) (o : Obj) (k : Nat) (hk : k = w.heap.size) : (w.alloc o).heap[k]? = some o := by subst hk; exact blknew w o
theorem blk1 {w : World} {k : Nat} {t : TypeId} {u : Value} (h : w.heap[k]? = some (.cells #[u] t (0, 0))) : w.cell? ⟨k, 0, none⟩ = some u ∧ w.frozen? ⟨k, 0, none⟩ = false := by
  simp [World.cell?, World.frozen?, h]
theorem blk2 {w : World} {k : Nat} {t : TypeId} {u v : Value} (h : w.heap[k]? = some (.cells #[u, v] t (0, 0))) : w.cell? ⟨k, 0, none⟩ = some u ∧ w.cell? ⟨k, 1, none⟩ = some v ∧ w.frozen? ⟨k, 0, none⟩ = false ∧ w.frozen? ⟨k, 1, none⟩ = false := by
  simp [World.cell?, World.frozen?, h]
theorem blk3 {w : World} {k : Nat} {t : TypeId} {u v x : Value} (h : w.heap[k]? = some (.cells #[u, v, x] t (0, 0))) : w.cell? ⟨k, 0, none⟩ = some u ∧ w.cell? ⟨k, 1, none⟩ = some v ∧ w.cell? ⟨k, 2, none⟩ = some x ∧ w.frozen? ⟨k, 0, none⟩ = false ∧ w.frozen? ⟨k, 1, none⟩ = false ∧ w.frozen? ⟨k, 2, none⟩ = false := by
  simp [World.cell?, World.frozen?, h]
theorem blkset0 {w : World} {k : Nat} {t : TypeId} {cs : Array Value} (h : w.heap[k]? = some (.cells cs t (0, 0))) (i : Nat) (u : Value) : (w.setCell ⟨k, i, none⟩ u).heap[k]? = some (.cells (cs.setIfInBounds i u) t (0, 0)) := by
  simp only [World.setCell, Array.getElem?_modify, if_true, h]; rfl
theorem blkset1 {w : World} {k : Nat} {t : TypeId} {v : Value} (h : w.heap[k]? = some (.cells #[v] t (0, 0))) (u : Value) : (w.setCell ⟨k, 0, none⟩ u).heap[k]? = some (.cells #[u] t (0, 0)) := blkset0 h 0 u
theorem blkset2 {w : World} {k : Nat} {t : TypeId} {u v : Value} (h : w.heap[k]? = some (.cells #[u, v] t (0, 0))) (a b : Value) : ((w.setCell ⟨k, 0, none⟩ a).setCell ⟨k, 1, none⟩ b).heap[k]? = some (.cells #[a, b] t (0, 0)) := blkset0 (blkset0 h 0 a) 1 b
theorem blklt {w : World} {k : Nat} {x : Obj} (hx : w.heap[k]? = some x) : k < w.heap.size := (Array.getElem?_eq_some_iff.1 hx).1


/-- One store on both sides. -/
theorem bsetBoth {B : Nat} {a w : World} (h : Below B a w) (p : Addr) (v : Value) : Below B (a.setCell p v) (w.setCell p v) := by
  refine ⟨h.os, h.tape, h.output, by simpa [World.setCell] using h.size, fun k hk => ?_⟩
  simp only [World.setCell, Array.getElem?_modify]
  rw [h.block k hk]

theorem bthen {w w1 w2 : World} (h : Below w.heap.size w w1) (k : Below w1.heap.size w1 w2) : Below w.heap.size w w2 := h.trans (k.mono h.size)

/-- Two steps, each with a store into one old cell. -/
theorem bthen_set {w w1 w2 : World} {p : Addr} {u v : Value} (h : Below w.heap.size (w.setCell p u) w1) (k : Below w1.heap.size (w1.setCell p v) w2) (huv : (w.setCell p u).setCell p v = w.setCell p v) : Below w.heap.size (w.setCell p v) w2 := by
  have h1 := bsetBoth h p v
  rw [huv] at h1
  have hs : w.heap.size ≤ w1.heap.size := by have := h.size; rw [setCell_size] at this; exact this
  exact h1.trans (k.mono hs)

@[go_sem] theorem setCell_twice (w : World) (p : Addr) (u v : Value) : (w.setCell p u).setCell p v = w.setCell p v := by
  simp only [World.setCell]
  congr 1
  apply Array.ext_getElem?
  intro i
  simp only [Array.getElem?_modify]
  split
  · cases h : w.heap[i]? with
    | none => rfl
    | some o =>
      cases o <;> simp
      split <;> simp
  · rfl

/-- A cell that is stored what it holds. -/
theorem setCell_same (w : World) (p : Addr) (v : Value) (h : w.cell? p = some v) : w.setCell p v = w := by
  unfold World.setCell
  have hh : ∀ H : Array Obj, H = w.heap → { w with heap := H } = w := fun H e => by subst e; rfl
  apply hh
  apply Array.ext_getElem?
  intro i
  simp only [Array.getElem?_modify]
  split
  · rename_i hi
    subst hi
    unfold World.cell? at h
    cases hq : w.heap[p.block]? with
    | none => rfl
    | some o =>
      rw [hq] at h
      cases o <;> simp at h ⊢
      obtain ⟨hs, hc⟩ := h
      intro _
      apply Array.ext_getElem?
      intro j
      rw [Array.getElem?_setIfInBounds]
      split
      · rename_i hj; subst hj; split
        · rw [hc]
        · rename_i hlt; rw [Array.getElem?_eq_none (by omega)] at hc; cases hc
      · rfl
  · rfl

/-- A choice that the walk does not take apart. -/
def pickI (z : Bool) (a b : Int) : Int := if z then a else b
theorem pickI_t (a b : Int) : pickI true a b = a := rfl
theorem pickI_f (a b : Int) : pickI false a b = b := rfl

/-! ### Fractions: plain arithmetic -/
def lowP (p q : Int) : Int := if q < 0 then -(p.tdiv (Int.gcd p q)) else p.tdiv (Int.gcd p q)
def lowQ (p q : Int) : Int := if q < 0 then -(q.tdiv (Int.gcd p q)) else q.tdiv (Int.gcd p q)
theorem tdiv_bd (p : Int) (g : Nat) (h : -9223372036854775808 < p) (h2 : p ≤ 9223372036854775807) : -9223372036854775808 < p.tdiv g ∧ p.tdiv g ≤ 9223372036854775807 := by
  have h1 : (p.tdiv g).natAbs = p.natAbs / g := by rw [Int.natAbs_tdiv]; rfl
  have h3 := Nat.div_le_self p.natAbs g
  omega
/-- The size of a number. -/
def absI (n : Int) : Int := n.natAbs
theorem absI_bd (n : Int) : 0 ≤ absI n ∧ (absI n = n ∨ absI n = -n) := by unfold absI; omega
theorem gcd_absI (p q : Int) : Int.gcd (absI p) q = Int.gcd p q := by simp [absI, Int.gcd]
/-- The parts are small enough. -/
def smallB (p q : Int) : Bool := decide (absI p ≤ 1000000000) && decide (q ≤ 1000000000)

theorem mul_bd (x y : Int) (h1 : -1000000000 ≤ x) (h2 : x ≤ 1000000000) (h3 : -1000000000 ≤ y) (h4 : y ≤ 1000000000) : -1000000000000000000 ≤ x * y ∧ x * y ≤ 1000000000000000000 := by
  have a : (x * y).natAbs ≤ 1000000000 * 1000000000 := by
    rw [Int.natAbs_mul]
    exact Nat.mul_le_mul (by omega) (by omega)
  omega
theorem gcd_pos' (p q : Int) (hq : q ≠ 0) : 0 < (Int.gcd p q : Int) := by
  have := Int.gcd_pos_of_ne_zero_right p hq
  omega
theorem gcd_le' (p q : Int) (hq : q ≠ 0) : (Int.gcd p q : Int) ≤ q.natAbs := by
  have h := Int.gcd_dvd_right p q
  have := Int.natAbs_dvd_natAbs.2 h
  have h2 := Nat.le_of_dvd (by omega) this
  simp at h2
  omega
theorem gcd_step (x y : Int) : Int.gcd y (x.tmod y) = Int.gcd x y := by
  rw [Int.gcd_comm x y]
  have h : x.tmod y = x + y * (-(x.tdiv y)) := by
    have := Int.tmod_add_tdiv_mul x y
    rw [Int.mul_neg, Int.mul_comm y]
    omega
  rw [h, Int.gcd_add_mul_left_right]
/-- What 'kept' makes of a fraction. -/
def keptP (p q : Int) : Int := if smallB p q then p else 0
def keptQ (p q : Int) : Int := if smallB p q then q else 1
/-- A fraction in lowest terms with a code: too great ones are none. -/
def resP (p q : Int) : Int := if smallB p q then p else 0
def resQ (p q : Int) : Int := if smallB p q then q else 0
def resC (p q : Int) : Int := if smallB p q then 0 else 3
theorem pick_resP (p q : Int) : pickI (!smallB p q) 0 (keptP p q) = resP p q := by unfold pickI keptP resP; cases smallB p q <;> rfl
theorem pick_resQ (p q : Int) : pickI (!smallB p q) 0 (keptQ p q) = resQ p q := by unfold pickI keptQ resQ; cases smallB p q <;> rfl
theorem pick_resC (p q : Int) : pickI (!smallB p q) 3 0 = resC p q := by unfold pickI resC; cases smallB p q <;> rfl
def addX (p q r s : Int) : Int := lowP (p * s + r * q) (q * s)
def addY (p q r s : Int) : Int := lowQ (p * s + r * q) (q * s)
def mulX (p q r s : Int) : Int := lowP (p * r) (q * s)
def mulY (p q r s : Int) : Int := lowQ (p * r) (q * s)
def divX (p q r s : Int) : Int := lowP (p * s) (q * r)
def divY (p q r s : Int) : Int := lowQ (p * s) (q * r)
/-- A number within bounds. -/
def inB (n a b : Int) : Bool := decide (a ≤ n ∧ n ≤ b)
theorem inB_t {n a b : Int} (h1 : a ≤ n) (h2 : n ≤ b) : inB n a b = true := by simp [inB, h1, h2]
theorem inB_f {n a b : Int} (h : ¬ (a ≤ n ∧ n ≤ b)) : inB n a b = false := by simpa [inB] using h
theorem inB_iff {n a b : Int} : inB n a b = true ↔ a ≤ n ∧ n ≤ b := by simp [inB]
/-- 'FractionOf': the numbers are right. -/
def ofOk (p q : Int) : Bool := !(q == 0) && inB p (-1000000000000000000) 1000000000000000000 && inB q (-1000000000000000000) 1000000000000000000
def okP (z : Bool) (x y : Int) : Int := if z then resP x y else 0
def okQ (z : Bool) (x y : Int) : Int := if z then resQ x y else 0
def okC (z : Bool) (e x y : Int) : Int := if z then resC x y else e
/-- A valid fraction. -/
def frOk (p q : Int) : Bool := decide (0 < q) && decide (-1000000000 ≤ p) && decide (p ≤ 1000000000) && decide (q ≤ 1000000000) && decide (Int.gcd p q = 1)
def divE (p q r s : Int) : Int := if frOk p q && frOk r s then 4 else 1
theorem frOk_iff (p q : Int) : frOk p q = true ↔ 0 < q ∧ -1000000000 ≤ p ∧ p ≤ 1000000000 ∧ q ≤ 1000000000 ∧ Int.gcd p q = 1 := by
  simp [frOk, and_assoc]
theorem lowP_bd (p q : Int) (h : -9223372036854775808 < p) (h2 : p ≤ 9223372036854775807) : -9223372036854775808 < lowP p q ∧ lowP p q ≤ 9223372036854775807 := by
  have h1 : (p.tdiv (Int.gcd p q)).natAbs = p.natAbs / Int.gcd p q := by rw [Int.natAbs_tdiv]; rfl
  have h3 := Nat.div_le_self p.natAbs (Int.gcd p q)
  unfold lowP
  split <;> omega
end Go.Proofs.Ytbpamifkfbcloaa
