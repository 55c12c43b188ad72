/- The product of two sums in a flag, in plain words. -/
import Derived.Test.YtpcjinbbgnmchaaGreatBw
import Derived.Test.YtpcjinbbgnmchaaGreatOv
namespace Go.Proofs.YtpcjinbbgnmchaaGreat
open Go.ChangeShapes Go.WideShapes Go.RowKit
set_option linter.unusedVariables false
set_option linter.unusedSimpArgs false
attribute [local irreducible] Calls
/-- All flags, each with its fraction. -/
def ovB (L : List Flg) (D : Flg → Int × Int) : List Trm := L.map fun h => (h, D h)
def anyF (z : Flg → Bool) (L : List Flg) : Bool := L.any z
theorem ovB_eq (L : List Flg) (D : Flg → Int × Int) : ovX L D = ovB L D := rfl
theorem anyF_eq (L : List Flg) (z : Flg → Bool) : anyZ z L = anyF z L := rfl
theorem anyF_succ {z : Flg → Bool} {L : List Flg} {k : Nat} {d : Flg} (h : L[k]? = some d) : anyF z (L.take (k + 1)) = (anyF z (L.take k) || z d) := by
  unfold anyF
  rw [List.take_add_one, h, List.any_append]
  simp
theorem ov_take {L : List Flg} {D : Flg → Int × Int} {i : Nat} {d : Flg} (h : L[i]? = some d) : (ovB L D)[i]? = some (d, D d) := by
  unfold ovB
  rw [List.getElem?_map, h]
  rfl
theorem ovB_len (L : List Flg) (D : Flg → Int × Int) : (ovB L D).length = L.length := List.length_map _
theorem flags_pw (tn : Nat) (te : Int) (n : Nat) (gs : List (Int × Int)) (D : Flg → Int × Int) : List.Pairwise ltE (ovB (flagsF tn te n gs) D) := by
  unfold ovB flagsF flagsL leastsL
  refine List.pairwise_map.2 ?_
  refine List.pairwise_map.2 ?_
  refine List.Pairwise.filter _ ?_
  refine List.pairwise_map.2 ?_
  exact List.pairwise_lt_range.imp fun {a b} h => by
    show ((a : Int) < b)
    omega
/-- One more product: what is kept, and whether something was too large. -/
def mpS (J : Trm → Trm → Int × Int) (s : (Int × Int) × Bool) (x y : Trm) : (Int × Int) × Bool :=
  (kD (addO s.1 (kD (mulO (J x y) (kD (mulO x.2 y.2))))), ((s.2 || noB (mulO x.2 y.2)) || noB (mulO (J x y) (kD (mulO x.2 y.2)))) || noB (addO s.1 (kD (mulO (J x y) (kD (mulO x.2 y.2))))))
def mpR (J : Trm → Trm → Int × Int) (x : Trm) (ys : List Trm) (s : (Int × Int) × Bool) : (Int × Int) × Bool := ys.foldl (fun s y => mpS J s x y) s
def mpF (J : Trm → Trm → Int × Int) (ys xs : List Trm) : (Int × Int) × Bool := xs.foldl (fun s x => mpR J x ys s) ((0, 1), false)
/-- The product, if nothing is too large. -/
def mpO (J : Trm → Trm → Int × Int) (o : Option (Int × Int)) (x y : Trm) : Option (Int × Int) := o.bind fun a => (mulO x.2 y.2).bind fun p => (mulO (J x y) p).bind fun m => addO a m
def moR (J : Trm → Trm → Int × Int) (x : Trm) (ys : List Trm) (o : Option (Int × Int)) : Option (Int × Int) := ys.foldl (fun o y => mpO J o x y) o
def moF (J : Trm → Trm → Int × Int) (ys xs : List Trm) : Option (Int × Int) := xs.foldl (fun o x => moR J x ys o) (some (0, 1))
theorem Tr.mp {J : Trm → Trm → Int × Int} {o : Option (Int × Int)} {d : Int × Int} {g : Bool} (h : Tr o d g) {x y : Trm} (hx : inF x.2) (hy : inF y.2) (hj : inF (J x y)) : Tr (mpO J o x y) (mpS J (d, g) x y).1 (mpS J (d, g) x y).2 := by
  unfold mpO mpS
  cases hh : mulO x.2 y.2 with
  | some p =>
    have hp := mulO_in hx.2.2.1 hy.2.2.1 hh
    have := h.dot hj hp
    simp only [noB_some, Bool.or_false]
    exact this
  | none =>
    have e : (o.bind fun a => (none : Option (Int × Int)).bind fun p => (mulO (J x y) p).bind fun m => addO a m) = none := by cases o <;> rfl
    rw [e]
    simp only [noB_none, Bool.or_true, Bool.true_or]
    exact ⟨kaddI h.1 (kmulI hj zero_in), fun h => (by cases h), fun _ => rfl⟩
theorem mpR_tr {J : Trm → Trm → Int × Int} {x : Trm} {ys : List Trm} (hx : inF x.2) (hy : ∀ y ∈ ys, inF y.2 ∧ inF (J x y)) {o : Option (Int × Int)} {s : (Int × Int) × Bool} (h : Tr o s.1 s.2) : Tr (moR J x ys o) (mpR J x ys s).1 (mpR J x ys s).2 := by
  unfold moR mpR
  induction ys generalizing o s with
  | nil => exact h
  | cons y ys ih =>
    obtain ⟨h1, h2⟩ := hy y (List.mem_cons_self ..)
    exact ih (fun z hz => hy z (List.mem_cons_of_mem _ hz)) (Tr.mp (g := s.2) h hx h1 h2)
theorem mpF_tr {J : Trm → Trm → Int × Int} {ys xs : List Trm} (hx : ∀ x ∈ xs, inF x.2 ∧ ∀ y ∈ ys, inF y.2 ∧ inF (J x y)) : Tr (moF J ys xs) (mpF J ys xs).1 (mpF J ys xs).2 := by
  have go : ∀ (xs : List Trm) (o : Option (Int × Int)) (s : (Int × Int) × Bool), (∀ x ∈ xs, inF x.2 ∧ ∀ y ∈ ys, inF y.2 ∧ inF (J x y)) → Tr o s.1 s.2 → Tr (xs.foldl (fun o x => moR J x ys o) o) (xs.foldl (fun s x => mpR J x ys s) s).1 (xs.foldl (fun s x => mpR J x ys s) s).2 := by
    intro xs
    induction xs with
    | nil => exact fun o s _ h => h
    | cons x xs ih =>
      intro o s hx h
      obtain ⟨h1, h2⟩ := hx x (List.mem_cons_self ..)
      exact ih _ _ (fun z hz => hx z (List.mem_cons_of_mem _ hz)) (mpR_tr h1 h2 h)
  exact go xs _ _ hx Tr.zero
theorem mpR_succ {J : Trm → Trm → Int × Int} {x y : Trm} {ys : List Trm} {s : (Int × Int) × Bool} {k : Nat} (h : ys[k]? = some y) : mpR J x (ys.take (k + 1)) s = mpS J (mpR J x (ys.take k) s) x y := by
  unfold mpR
  rw [List.take_add_one, h, List.foldl_append]
  rfl
theorem mpF_succ {J : Trm → Trm → Int × Int} {x : Trm} {ys xs : List Trm} {k : Nat} (h : xs[k]? = some x) : mpF J ys (xs.take (k + 1)) = mpR J x ys (mpF J ys (xs.take k)) := by
  unfold mpF
  rw [List.take_add_one, h, List.foldl_append]
  rfl
theorem moR_succ {J : Trm → Trm → Int × Int} {x y : Trm} {ys : List Trm} {s : Option (Int × Int)} {k : Nat} (h : ys[k]? = some y) : moR J x (ys.take (k + 1)) s = mpO J (moR J x (ys.take k) s) x y := by
  unfold moR
  rw [List.take_add_one, h, List.foldl_append]
  rfl
theorem moF_succ {J : Trm → Trm → Int × Int} {x : Trm} {ys xs : List Trm} {k : Nat} (h : xs[k]? = some x) : moF J ys (xs.take (k + 1)) = moR J x ys (moF J ys (xs.take k)) := by
  unfold moF
  rw [List.take_add_one, h, List.foldl_append]
  rfl
theorem moR_no {J : Trm → Trm → Int × Int} {x : Trm} {ys : List Trm} : moR J x ys none = none := by
  unfold moR
  exact foldl_none _ (fun _ => rfl) ys
theorem moF_none {J : Trm → Trm → Int × Int} {x : Trm} {ys xs : List Trm} {i k : Nat} (hx : xs[i]? = some x) (h : moR J x (ys.take k) (moF J ys (xs.take i)) = none) : moF J ys xs = none := by
  have h1 : moR J x ys (moF J ys (xs.take i)) = none := by
    have gen : ∀ (o : Option (Int × Int)), moR J x ys o = moR J x (ys.drop k) (moR J x (ys.take k) o) := fun o => by
      unfold moR
      rw [← List.foldl_append, List.take_append_drop]
    have e := gen (moF J ys (xs.take i))
    rw [e, h]
    exact moR_no
  have h2 : moF J ys (xs.take (i + 1)) = none := by rw [moF_succ hx]; exact h1
  have gen : ∀ L : List Trm, L.foldl (fun o x => moR J x ys o) none = none := fun L => by
    induction L with
    | nil => rfl
    | cons z L ih =>
      rw [List.foldl_cons, moR_no]
      exact ih
  have e : xs = xs.take (i + 1) ++ xs.drop (i + 1) := (List.take_append_drop _ _).symm
  have h3 : moF J ys xs = (xs.drop (i + 1)).foldl (fun o x => moR J x ys o) (moF J ys (xs.take (i + 1))) := by
    unfold moF
    rw [← List.foldl_append, List.take_append_drop]
  rw [h3, h2]
  exact gen _
/-- What is told of each of all flags, if nothing is too large. -/
theorem ov_bad {L : List Flg} {O : Flg → Option (Int × Int)} {D : Flg → Int × Int} {z : Flg → Bool} (h : ∀ d ∈ L, Tr (O d) (D d) (z d)) {d : Flg} (hd : d ∈ L) (hn : O d = none) : anyF z L = true := by
  unfold anyF
  refine List.any_eq_true.2 ⟨d, hd, ?_⟩
  cases hz : z d with
  | true => rfl
  | false =>
    have := (h d hd).2.1 hz
    rw [hn] at this
    cases this
theorem ov_good {L : List Flg} {O : Flg → Option (Int × Int)} {D : Flg → Int × Int} {z : Flg → Bool} (h : ∀ d ∈ L, Tr (O d) (D d) (z d)) {d : Flg} (hd : d ∈ L) {v : Int × Int} (hn : O d = some v) : z d = false ∧ D d = v := by
  cases hz : z d with
  | true =>
    have := (h d hd).2.2 hz
    rw [hn] at this
    cases this
  | false =>
    have := (h d hd).2.1 hz
    rw [hn] at this
    exact ⟨rfl, (Option.some.inj this).symm⟩
end Go.Proofs.YtpcjinbbgnmchaaGreat
