import Derived.Test.YtekchdgpaemofaaGreatYyBb
import Derived.Test.YtekchdgpaemofaaGreatYyJf
import Derived.Test.YtekchdgpaemofaaGreatYyVs
import Derived.Test.YtekchdgpaemofaaGreatYyMt
namespace Go.Proofs.YtekchdgpaemofaaGreat
open Go.ChangeShapes Go.WideShapes Go.RowKit
set_option linter.unusedVariables false
set_option linter.unusedSimpArgs false
theorem AvI.yesP {P : List Int → Bool} {X : List Int → Int × Int} {Ls : List (List Int)} {D : Int} {a : Nat} {d : Int × Int} {L : List Int} {N : Int} (h : AvI P X Ls D a d) (hL : Ls[a]? = some L) (hP : P L = true) (hX : Vl (X L) N D) (hN : 0 ≤ N ∧ N ≤ 100) (hD : 1 ≤ D ∧ D ≤ 100) (ha : a ≤ 1000) :
    inF (X L) ∧ ∃ d', addO d (X L) = some d' ∧ AvI P X Ls D (a + 1) d' := by
  obtain ⟨h1, h2, M, hM, m1, m2⟩ := h
  have hs := hM.add hX
  obtain ⟨s1, s2⟩ := hs.small hD.1 (by omega) (by omega)
  refine ⟨(hX.small hD.1 (by omega) (by omega)).2, _, smallO_of s1, s2, ?_, _, hs, by omega, by push_cast; omega⟩
  have e : addO d (X L) = some (addX d.1 d.2 (X L).1 (X L).2, addY d.1 d.2 (X L).1 (X L).2) := smallO_of s1
  rw [List.take_add_one, hL, List.foldl_append, h2]
  simp only [Option.toList, List.foldl_cons, List.foldl_nil]
  unfold avS
  rw [if_pos hP]
  show (false || noB (addO d (X L)), kD (addO d (X L))) = _
  rw [e]
  rfl
theorem AvI.allP {P : List Int → Bool} {X : List Int → Int × Int} {Ls : List (List Int)} {D : Int} (hX : ∀ L ∈ Ls, P L = true → ∃ N, Vl (X L) N D ∧ 0 ≤ N ∧ N ≤ 100) (hD : 1 ≤ D ∧ D ≤ 100) (hl : Ls.length ≤ 1000) : ∀ a ≤ Ls.length, ∃ d, AvI P X Ls D a d := by
  intro a
  induction a with
  | zero => exact fun _ => ⟨_, AvI.start P X Ls D⟩
  | succ a ih =>
    intro ha
    obtain ⟨d, hd⟩ := ih (by omega)
    have hL : Ls[a]? = some Ls[a] := List.getElem?_eq_getElem (by omega)
    cases hP : P Ls[a] with
    | false => exact ⟨d, hd.no hL hP⟩
    | true =>
      obtain ⟨N, h1, h2⟩ := hX _ (List.getElem_mem _) hP
      obtain ⟨_, d', _, h3⟩ := hd.yesP hL hP h1 h2 hD (by omega)
      exact ⟨d', h3⟩
theorem AvI.divP {P : List Int → Bool} {X : List Int → Int × Int} {Ls : List (List Int)} {D : Int} {a : Nat} {d : Int × Int} (h : AvI P X Ls D a d) (hD : 1 ≤ D ∧ D ≤ 100) (ha : a ≤ 1000) {c : Int} (hc : 1 ≤ c ∧ c ≤ 1000) : ∃ r, divO d (c, 1) = some r ∧ inF r := by
  obtain ⟨h1, h2, M, hM, m1, m2⟩ := h
  have hv := hM.div hc.1
  have hq : 1 ≤ D * c ∧ D * c ≤ 100000 := by
    have a1 : 1 * 1 ≤ D * c := Int.mul_le_mul hD.1 hc.1 (by omega) (by omega)
    have a2 : D * c ≤ 100 * 1000 := Int.mul_le_mul hD.2 hc.2 (by omega) (by omega)
    omega
  obtain ⟨s1, s2⟩ := hv.small hq.1 (by omega) (by omega)
  exact ⟨_, smallO_of s1, s2⟩
def paX (q : Nat) (f h x : Flg) : Int × Int := jns (ptB x.1.toNat x.2.2 f) (ptB x.1.toNat x.2.2 h) x.1.toNat x.2.1.toNat q q
theorem pa_vl {f h : Flg} {k n q : Nat} {e : Int} (hk : k ≤ 3) (hn : n ≤ 5) (hkq : k + q + q ≤ n) (L : List Int) :
    ∃ N : Int, Vl (paX q f h (avF k e n L)) N (jnA k n q q : Nat) ∧ (0 ≤ N ∧ N ≤ 100) := by
  have hb := jn_bd hn hk hkq (ptB k (onE e (L ++ rstI L n)) f) (ptB k (onE e (L ++ rstI L n)) h)
  exact ⟨((jnM (ptB k (onE e (L ++ rstI L n)) f) (ptB k (onE e (L ++ rstI L n)) h) k n q q : Nat) : Int), jns_vl hn hk hkq _ _, by omega, by omega⟩
theorem jnA_bd {k n q : Nat} (hk : k ≤ 3) (hn : n ≤ 5) (hkq : k + q + q ≤ n) : (1 : Int) ≤ (jnA k n q q : Nat) ∧ ((jnA k n q q : Nat) : Int) ≤ 100 := by
  have hb := jn_bd hn hk hkq (fun _ => true) (fun _ => true)
  omega
theorem lsts_lenP {n k : Nat} (hn : n ≤ 5) (hk : k ≤ 3) : (lsts n k []).length ≤ 120 := by
  have h1 := lists_cnt hn hk
  rw [lists_eq hn hk] at h1
  have h2 := lisI_bd n k hn (by omega)
  omega
def paS (k n q : Nat) (te e : Int) (f h : Flg) : Bool × (Int × Int) := (lsts n k []).foldl (avS (avP k te e n) (fun L => paX q f h (avF k e n L))) (false, (0, 1))
def paV (k n q : Nat) (te e : Int) (f h : Flg) : Int × Int := kD (divO (paS k n q te e f h).2 (lisI n k, 1))
theorem pa_inv {f h : Flg} {k n q : Nat} {e te : Int} (hk : k ≤ 3) (hn : n ≤ 5) (hkq : k + q + q ≤ n) : ∀ a ≤ (lsts n k []).length, ∃ d, AvI (avP k te e n) (fun L => paX q f h (avF k e n L)) (lsts n k []) (jnA k n q q : Nat) a d :=
  AvI.allP (fun L _ _ => pa_vl hk hn hkq L) (jnA_bd hk hn hkq) (by have := lsts_lenP hn hk; omega)
theorem pa_end {f h : Flg} {k n q : Nat} {e te : Int} {d : Int × Int} (hk : k ≤ 3) (hn : n ≤ 5) (hkq : k + q + q ≤ n)
    (hd : AvI (avP k te e n) (fun L => paX q f h (avF k e n L)) (lsts n k []) (jnA k n q q : Nat) (lsts n k []).length d) :
    inF d ∧ paS k n q te e f h = (false, d) ∧ divO d (lisI n k, 1) = some (paV k n q te e f h) ∧ inF (paV k n q te e f h) := by
  have h2 := hd.2.1
  rw [List.take_length] at h2
  have hc := lisI_pos hn (show k ≤ n by omega)
  obtain ⟨r, h3, h4⟩ := hd.divP (jnA_bd hk hn hkq) (by have := lsts_lenP hn hk; omega) (c := lisI n k) ⟨hc.1, by omega⟩
  have e1 : paV k n q te e f h = r := by
    unfold paV paS
    rw [h2, h3]
    rfl
  rw [e1]
  exact ⟨hd.1, h2, h3, h4⟩
theorem pa_all {k n q : Nat} {e te : Int} (f h : Flg) (hk : k ≤ 3) (hn : n ≤ 5) (hkq : k + q + q ≤ n) : ∃ d, inF d ∧ paS k n q te e f h = (false, d) ∧ divO d (lisI n k, 1) = some (paV k n q te e f h) ∧ inF (paV k n q te e f h) := by
  obtain ⟨d, hd⟩ := pa_inv (f := f) (h := h) (e := e) (te := te) hk hn hkq _ (Nat.le_refl _)
  exact ⟨d, pa_end hk hn hkq hd⟩
theorem avS_mark (P : List Int → Bool) (X : List Int → Int × Int) (Ls : List (List Int)) (g : Bool) (s : Bool × (Int × Int)) : Ls.foldl (avS P X) (g || s.1, s.2) = (g || (Ls.foldl (avS P X) s).1, (Ls.foldl (avS P X) s).2) := by
  induction Ls generalizing s with
  | nil => rfl
  | cons L Ls ih =>
    simp only [List.foldl_cons]
    have : avS P X (g || s.1, s.2) L = (g || (avS P X s L).1, (avS P X s L).2) := by
      unfold avS
      split
      · simp [Bool.or_assoc]
      · rfl
    rw [this]
    exact ih _
theorem pa_mark (k n q : Nat) (te e : Int) (f h : Flg) (g : Bool) : (lsts n k []).foldl (avS (avP k te e n) (fun L => paX q f h (avF k e n L))) (g, (0, 1)) = (g || (paS k n q te e f h).1, (paS k n q te e f h).2) := by
  have := avS_mark (avP k te e n) (fun L => paX q f h (avF k e n L)) (lsts n k []) g (false, (0, 1))
  simp only [Bool.or_false] at this
  exact this
def paD (fs : List Flg) (n : Nat) (e : Int) (i j : Nat) : Int × Int := paV (hdF fs).1.toNat n ((hdF fs).2.1.toNat - (hdF fs).1.toNat) (tyE (hdF fs)) e (fs.getD i (hdF fs)) (fs.getD j (hdF fs))
def Fam (fs : List Flg) (k q : Nat) : Prop := 0 < fs.length ∧ fs.length ≤ 8 ∧ k ≤ 3 ∧ ∀ a ∈ fs, flV a = true ∧ okFlag a ∧ a.1 = k ∧ a.2.1 = ((k + q : Nat) : Int)
theorem Fam.head {fs : List Flg} {k q : Nat} (h : Fam fs k q) : fs[0]? = some (hdF fs) ∧ (hdF fs).1 = k ∧ (hdF fs).2.1 = ((k + q : Nat) : Int) ∧ flV (hdF fs) = true ∧ okFlag (hdF fs) := by
  obtain ⟨h0, _, _, h2⟩ := h
  have e : fs[0]? = some (fs[0]'h0) := List.getElem?_eq_getElem h0
  have e2 : hdF fs = fs[0]'h0 := hdF_eq e
  rw [e2]
  obtain ⟨a1, a2, a3, a4⟩ := h2 _ (List.getElem_mem h0)
  exact ⟨e, a3, a4, a1, a2⟩
theorem paD_eq {fs : List Flg} {k q n : Nat} {e : Int} (h : Fam fs k q) {i j : Nat} {f g : Flg} (hi : fs[i]? = some f) (hj : fs[j]? = some g) : paD fs n e i j = paV k n q (tyE (hdF fs)) e f g := by
  obtain ⟨_, h1, h2, _⟩ := h.head
  unfold paD
  rw [h1, h2, List.getD_eq_getElem?_getD, List.getD_eq_getElem?_getD, hi, hj, Int.toNat_natCast, Int.toNat_natCast, Nat.add_sub_cancel_left]
  rfl
theorem paD_in {fs : List Flg} {k q n : Nat} {e : Int} (h : Fam fs k q) (hn : n ≤ 5) (hkq : k + q + q ≤ n) {i j : Nat} (hi : i < fs.length) (hj : j < fs.length) : inF (paD fs n e i j) := by
  rw [paD_eq h (List.getElem?_eq_getElem hi) (List.getElem?_eq_getElem hj)]
  obtain ⟨d, _, _, _, h4⟩ := pa_all (te := tyE (hdF fs)) (e := e) fs[i] fs[j] h.2.2.1 hn hkq
  exact h4
end Go.Proofs.YtekchdgpaemofaaGreat
