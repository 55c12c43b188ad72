import Derived.Test.YtekchdgpaemofaaGreatYySl
namespace Go.Proofs.YtekchdgpaemofaaGreat
def inF (d : Int × Int) : Prop := -1000000000 ≤ d.1 ∧ d.1 ≤ 1000000000 ∧ 1 ≤ d.2 ∧ d.2 ≤ 1000000000
def smallO (p q : Int) : Option (Int × Int) := if smallB p q then some (p, q) else none
def addO (a b : Int × Int) : Option (Int × Int) := smallO (addX a.1 a.2 b.1 b.2) (addY a.1 a.2 b.1 b.2)
def mulO (a b : Int × Int) : Option (Int × Int) := smallO (mulX a.1 a.2 b.1 b.2) (mulY a.1 a.2 b.1 b.2)
def divO (a b : Int × Int) : Option (Int × Int) := smallO (divX a.1 a.2 b.1 b.2) (divY a.1 a.2 b.1 b.2)
def kD (o : Option (Int × Int)) : Int × Int := o.getD (0, 1)
def rD (o : Option (Int × Int)) : Int × Int := o.getD (0, 0)
def rC (o : Option (Int × Int)) : Int := if o.isSome then 0 else 3
def noB {α : Type} (o : Option α) : Bool := o.isNone
theorem kD_small (p q : Int) : (kD (smallO p q)).1 = keptP p q ∧ (kD (smallO p q)).2 = keptQ p q := by
  unfold kD smallO keptP keptQ; cases smallB p q <;> exact ⟨rfl, rfl⟩
theorem rD_small (p q : Int) : (rD (smallO p q)).1 = resP p q ∧ (rD (smallO p q)).2 = resQ p q ∧ rC (smallO p q) = resC p q := by
  unfold rD rC smallO resP resQ resC; cases smallB p q <;> exact ⟨rfl, rfl, rfl⟩
theorem noB_small (p q : Int) : noB (smallO p q) = !smallB p q := by unfold noB smallO; cases smallB p q <;> rfl
theorem noB_some {α : Type} (a : α) : noB (some a) = false := rfl
theorem noB_none {α : Type} : noB (none : Option α) = true := rfl
theorem lowQ_pos (p q : Int) (hq : q ≠ 0) : 1 ≤ lowQ p q := by
  have hg := gcd_pos' p q hq
  obtain ⟨c, hc⟩ := Int.gcd_dvd_right p q
  have h1 : q.tdiv (Int.gcd p q) = c := by
    conv => lhs; lhs; rw [hc]
    exact Int.mul_tdiv_cancel_left _ (by omega)
  unfold lowQ
  rw [h1]
  have hs := hc
  generalize (Int.gcd p q : Int) = g at hs hg
  split
  · rename_i hn
    have : c < 0 := by
      rcases Int.lt_trichotomy c 0 with h | h | h
      · exact h
      · subst h; omega
      · have := Int.mul_pos hg h; omega
    omega
  · rename_i hn
    have : 0 < c := by
      rcases Int.lt_trichotomy c 0 with h | h | h
      · have := Int.mul_neg_of_pos_of_neg hg h; omega
      · subst h; omega
      · exact h
    omega
theorem smallO_in {p q : Int} {z : Int × Int} (h : smallO p q = some z) (hq : 1 ≤ q) : inF z := by
  unfold smallO at h
  split at h
  · rename_i hs
    cases h
    simp only [smallB, Bool.and_eq_true, decide_eq_true_eq] at hs
    have := absI_bd p
    exact ⟨by simp only; omega, by simp only; omega, hq, hs.2⟩
  · cases h
theorem addO_in {a b z : Int × Int} (ha : 1 ≤ a.2) (hb : 1 ≤ b.2) (h : addO a b = some z) : inF z := by
  have := Int.mul_pos (show 0 < a.2 by omega) (show 0 < b.2 by omega)
  exact smallO_in h (lowQ_pos _ _ (by omega))
theorem mulO_in {a b z : Int × Int} (ha : 1 ≤ a.2) (hb : 1 ≤ b.2) (h : mulO a b = some z) : inF z := by
  have := Int.mul_pos (show 0 < a.2 by omega) (show 0 < b.2 by omega)
  exact smallO_in h (lowQ_pos _ _ (by omega))
theorem zero_in : inF (0, 1) := by unfold inF; decide
theorem kD_in {o : Option (Int × Int)} (h : ∀ z, o = some z → inF z) : inF (kD o) := by
  cases o with
  | none => exact zero_in
  | some z => exact h z rfl
theorem kaddI {a b : Int × Int} (ha : inF a) (hb : inF b) : inF (kD (addO a b)) := kD_in fun _ h => addO_in ha.2.2.1 hb.2.2.1 h
theorem kmulI {a b : Int × Int} (ha : inF a) (hb : inF b) : inF (kD (mulO a b)) := kD_in fun _ h => mulO_in ha.2.2.1 hb.2.2.1 h
theorem inF_of_ok {d : Int × Int} (h : frOk d.1 d.2 = true) : inF d := by
  rw [frOk_iff] at h; exact ⟨h.2.1, h.2.2.1, by omega, h.2.2.2.1⟩
def listOk (xs : List (Int × Int)) : Bool := decide (xs.length ≤ 256) && xs.all fun d => frOk d.1 d.2
theorem listOk_iff {xs : List (Int × Int)} : listOk xs = true ↔ xs.length ≤ 256 ∧ ∀ d ∈ xs, frOk d.1 d.2 = true := by
  simp [listOk]
theorem listOk_in {xs : List (Int × Int)} (h : listOk xs = true) : ∀ d ∈ xs, inF d := fun d hd => inF_of_ok ((listOk_iff.1 h).2 d hd)
def dotS (o : Option (Int × Int)) (x y : Int × Int) : Option (Int × Int) := o.bind fun a => (mulO x y).bind fun m => addO a m
def dotO (xs ys : List (Int × Int)) : Option (Int × Int) := (xs.zip ys).foldl (fun o d => dotS o d.1 d.2) (some (0, 1))
def Tr (o : Option (Int × Int)) (d : Int × Int) (g : Bool) : Prop := inF d ∧ (g = false → o = some d) ∧ (g = true → o = none)
theorem Tr.zero : Tr (some (0, 1)) (0, 1) false := ⟨zero_in, fun _ => rfl, fun h => by cases h⟩
theorem Tr.add {o : Option (Int × Int)} {d : Int × Int} {g : Bool} (h : Tr o d g) {b : Int × Int} (hb : inF b) : Tr (o.bind fun a => addO a b) (kD (addO d b)) (g || noB (addO d b)) := by
  obtain ⟨h1, h2, h3⟩ := h
  refine ⟨kaddI h1 hb, fun hg => ?_, fun hg => ?_⟩
  · rw [Bool.or_eq_false_iff] at hg
    rw [h2 hg.1]
    show addO d b = _
    cases hh : addO d b with
    | none => rw [hh] at hg; cases hg.2
    | some z => rfl
  · cases g with
    | true => rw [h3 rfl]; rfl
    | false =>
      rw [h2 rfl]
      show addO d b = none
      cases hh : addO d b with
      | none => rfl
      | some z => rw [hh] at hg; cases hg
theorem Tr.dot {o : Option (Int × Int)} {d : Int × Int} {g : Bool} (h : Tr o d g) {x y : Int × Int} (hx : inF x) (hy : inF y) :
    Tr (dotS o x y) (kD (addO d (kD (mulO x y)))) ((g || noB (mulO x y)) || noB (addO d (kD (mulO x y)))) := by
  have hm := kmulI hx hy
  cases hh : mulO x y with
  | some m =>
    have e : dotS o x y = o.bind fun a => addO a m := by unfold dotS; rw [hh]; rfl
    have e2 : kD (some m) = m := rfl
    rw [e, e2, noB_some, Bool.or_false]
    exact h.add (mulO_in hx.2.2.1 hy.2.2.1 hh)
  | none =>
    have e : dotS o x y = none := by unfold dotS; rw [hh]; cases o <;> rfl
    rw [e, noB_none, Bool.or_true, Bool.true_or]
    exact ⟨kaddI h.1 zero_in, fun h => (by cases h), fun _ => rfl⟩
theorem zip_take {α β : Type} (xs : List α) (ys : List β) (k : Nat) : (xs.zip ys).take k = (xs.take k).zip (ys.take k) := by
  induction xs generalizing ys k with
  | nil => simp
  | cons x xs ih =>
    cases ys with
    | nil => simp
    | cons y ys =>
      cases k with
      | zero => simp
      | succ k => simp [ih]
def guardO (z : Bool) (A : Option (Int × Int)) : Option (Int × Int) := if z then none else A
theorem Tr.dotIf {z : Bool} {A : Option (Int × Int)} {d : Int × Int} {g : Bool} (h : Tr (guardO z A) d g) {x y : Int × Int} (hx : inF x) (hy : inF y) :
    Tr (guardO z (dotS A x y)) (kD (addO d (kD (mulO x y)))) ((g || noB (mulO x y)) || noB (addO d (kD (mulO x y)))) := by
  cases z
  · exact Tr.dot h hx hy
  · exact Tr.dot (o := none) h hx hy
theorem dotO_take {xs ys : List (Int × Int)} {k : Nat} {x y : Int × Int} (h : xs[k]? = some x) (h' : ys[k]? = some y) : dotO (xs.take (k + 1)) (ys.take (k + 1)) = dotS (dotO (xs.take k) (ys.take k)) x y := by
  unfold dotO
  rw [← zip_take, ← zip_take, List.take_add_one]
  have : (xs.zip ys)[k]? = some (x, y) := by rw [List.getElem?_zip_eq_some]; exact ⟨h, h'⟩
  rw [this, List.foldl_append]; rfl
theorem dotO_len (xs ys : List (Int × Int)) : dotO xs (ys.take xs.length) = dotO xs ys := by
  unfold dotO
  congr 1
  induction xs generalizing ys with
  | nil => simp
  | cons x xs ih => cases ys with
    | nil => simp
    | cons y ys => simp [ih]
theorem foldl_none {α β : Type} (f : Option α → β → Option α) (h : ∀ b, f none b = none) (xs : List β) : xs.foldl f none = none := by
  induction xs with
  | nil => rfl
  | cons x xs ih => rw [List.foldl_cons, h, ih]
theorem dotO_none {xs ys : List (Int × Int)} {k : Nat} (h : dotO (xs.take k) (ys.take k) = none) : dotO xs ys = none := by
  unfold dotO at h ⊢
  rw [← zip_take] at h
  have : xs.zip ys = (xs.zip ys).take k ++ (xs.zip ys).drop k := (List.take_append_drop k _).symm
  rw [this, List.foldl_append, h]
  exact foldl_none _ (fun _ => rfl) _
theorem Tr.told {o : Option (Int × Int)} {d : Int × Int} {g : Bool} (h : Tr o d g) : pickI g 0 d.1 = (rD o).1 ∧ pickI g 0 d.2 = (rD o).2 ∧ pickI g 3 0 = rC o := by
  cases g with
  | true => rw [h.2.2 rfl]; exact ⟨rfl, rfl, rfl⟩
  | false => rw [h.2.1 rfl]; exact ⟨rfl, rfl, rfl⟩
def cP (c : Int) (o : Option (Int × Int)) : Int := if c = 0 then (rD o).1 else 0
def cQ (c : Int) (o : Option (Int × Int)) : Int := if c = 0 then (rD o).2 else 0
def cC (c : Int) (o : Option (Int × Int)) : Int := if c = 0 then rC o else c
theorem cP_0 (o : Option (Int × Int)) : cP 0 o = (rD o).1 := rfl
theorem cQ_0 (o : Option (Int × Int)) : cQ 0 o = (rD o).2 := rfl
theorem cC_0 (o : Option (Int × Int)) : cC 0 o = rC o := rfl
@[go_sem] theorem rC_some (z : Int × Int) : rC (some z) = 0 := rfl
@[go_sem] theorem rC_none : rC none = 3 := rfl
@[go_sem] theorem rD_some (z : Int × Int) : rD (some z) = z := rfl
@[go_sem] theorem rD_none : rD none = (0, 0) := rfl
def formS (xs : List (Int × Int)) (o : Option (Int × Int)) (row : List (Int × Int)) (x : Int × Int) : Option (Int × Int) := o.bind fun a => (dotO row xs).bind fun r => (mulO r x).bind fun p => addO a p
theorem Tr.form {o : Option (Int × Int)} {d : Int × Int} {g : Bool} (h : Tr o d g) {xs row : List (Int × Int)} {x d1 : Int × Int} {g1 : Bool} (h1 : Tr (guardO g (dotO row xs)) d1 g1) (hx : inF x) :
    Tr (formS xs o row x) (kD (addO d (kD (mulO d1 x)))) ((g1 || noB (mulO d1 x)) || noB (addO d (kD (mulO d1 x)))) := by
  cases g1 with
  | true =>
    rw [Bool.true_or, Bool.true_or]
    refine ⟨kaddI h.1 (kmulI h1.1 hx), fun h => (by cases h), fun _ => ?_⟩
    have h2 := h1.2.2 rfl
    cases g with
    | true => rw [h.2.2 rfl]; rfl
    | false =>
      rw [h.2.1 rfl]
      show (dotO row xs).bind _ = none
      rw [show dotO row xs = none from h2]; rfl
  | false =>
    have h2 := h1.2.1 rfl
    cases g with
    | true => cases h2
    | false =>
      have h3 : dotO row xs = some d1 := h2
      have h4 := h.2.1 rfl
      have e : formS xs o row x = dotS o d1 x := by unfold formS dotS; rw [h3]; rfl
      rw [e]
      exact h.dot h1.1 hx
theorem dotO_in {xs ys : List (Int × Int)} {r : Int × Int} (hx : ∀ d ∈ xs, inF d) (hy : ∀ d ∈ ys, inF d) (h : dotO xs ys = some r) : inF r := by
  have key : ∀ (l : List ((Int × Int) × (Int × Int))) (o : Option (Int × Int)), (∀ p ∈ l, inF p.1 ∧ inF p.2) → (∀ a, o = some a → inF a) → ∀ r, l.foldl (fun o d => dotS o d.1 d.2) o = some r → inF r := by
    intro l
    induction l with
    | nil => intro o _ ho r h; exact ho r h
    | cons p l ih =>
      intro o hl ho r h
      refine ih _ (fun q hq => hl q (List.mem_cons_of_mem _ hq)) (fun a ha => ?_) r h
      obtain ⟨b, hb, h2⟩ := Option.bind_eq_some_iff.1 ha
      obtain ⟨m, hm, h3⟩ := Option.bind_eq_some_iff.1 h2
      obtain ⟨h4, h5⟩ := hl p (by simp)
      exact addO_in (ho b hb).2.2.1 (mulO_in h4.2.2.1 h5.2.2.1 hm).2.2.1 h3
  refine key (xs.zip ys) (some (0, 1)) (fun p hp => ?_) (fun a ha => by cases ha; exact zero_in) r h
  obtain ⟨a, b⟩ := p
  exact ⟨hx a (List.of_mem_zip hp).1, hy b (List.of_mem_zip hp).2⟩
end Go.Proofs.YtekchdgpaemofaaGreat
