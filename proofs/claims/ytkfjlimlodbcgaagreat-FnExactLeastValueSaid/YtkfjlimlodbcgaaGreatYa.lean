/- The least coefficient: comparing fractions, the plain law. -/
import Derived.Test.YtkfjlimlodbcgaaGreatCo
import Derived.Test.YtkfjlimlodbcgaaGreatFm
import Derived.Test.YtkfjlimlodbcgaaGreatFd
import Derived.Test.YtkfjlimlodbcgaaGreatFb
namespace Go.Proofs.YtkfjlimlodbcgaaGreat
open Go.ChangeShapes Go.WideShapes Go.RowKit
set_option linter.unusedVariables false
set_option linter.unusedSimpArgs false
attribute [local irreducible] Calls
def cmpY (a b : Int) : Int := if a < b then -1 else if b < a then 1 else 0
theorem isNaNy_any (a : Int) (w : World) : Calls Tryz.prog 93 #[.int .i64 a] w fun e w' => e = .returned (.bool false) ∧ w = w' := by
  have h : (a != a) = false := by simp
  go_enter Tryz.func93, Tryz.ntmps93
  go_wp2_with fail
  go_ret
  exact ⟨rfl, rfl⟩
theorem cmpy_any (a b : Int) (w : World) : Calls Tryz.prog 60 #[.int .i64 a, .int .i64 b] w fun e w' => e = .returned (.int .i64 (cmpY a b)) ∧ w = w' := by
  by_cases h1 : a < b
  · have hr : Hid (cmpY a b = -1) := Lib.hid (if_pos h1)
    go_enter Tryz.func60, Tryz.ntmps60
    go_wp2_with (first | (go_at_call 93; refine Calls.mono (isNaNy_any _ _) ?_; rintro e w1 ⟨rfl, rfl⟩))
    go_ret
    exact ⟨ret_int (by rw [hr.out]), rfl⟩
  · by_cases h2 : b < a
    · have hr : Hid (cmpY a b = 1) := Lib.hid (by simp [cmpY, h1, h2])
      have h3 : ¬ a < b := h1
      go_enter Tryz.func60, Tryz.ntmps60
      go_wp2_with (first | (go_at_call 93; refine Calls.mono (isNaNy_any _ _) ?_; rintro e w1 ⟨rfl, rfl⟩))
      go_ret
      exact ⟨ret_int (by rw [hr.out]), rfl⟩
    · have hr : Hid (cmpY a b = 0) := Lib.hid (by simp [cmpY, h1, h2])
      go_enter Tryz.func60, Tryz.ntmps60
      go_wp2_with (first | (go_at_call 93; refine Calls.mono (isNaNy_any _ _) ?_; rintro e w1 ⟨rfl, rfl⟩))
      go_ret
      exact ⟨ret_int (by rw [hr.out]), rfl⟩
theorem compareF_any (x y : Int × Int) (w : World) (hx : inF x) (hy : inF y) : Calls Tryz.prog 31 #[.agg #[.int .i64 x.1, .int .i64 x.2], .agg #[.int .i64 y.1, .int .i64 y.2]] w fun e w' => e = .returned (.int .i64 (cmpY (x.1 * y.2) (y.1 * x.2))) ∧ Below w.heap.size w w' := by
  obtain ⟨x1, x2, x3, x4⟩ := hx
  obtain ⟨y1, y2, y3, y4⟩ := hy
  obtain ⟨b1, b2⟩ := mul_bd x.1 y.2 x1 x2 (by omega) y4
  obtain ⟨b3, b4⟩ := mul_bd y.1 x.2 y1 y2 (by omega) x4
  go_enter Tryz.func31, Tryz.ntmps31
  go_wp2_with (first | (go_at_call 60; refine Calls.mono (cmpy_any _ _ _) ?_; rintro e w1 ⟨rfl, rfl⟩))
  exact bodyPost_ret (v := .int .i64 (cmpY (x.1 * y.2) (y.1 * x.2))) (by simp [results, Tryz.results31, go_sem]) rfl ⟨rfl, (by (try with_reducible refine bsz ?_); repeat (first | with_reducible exact Below.refl _ _ | ((with_reducible refine bpre ?_); (try simp only [Array.append_assoc]); repeat (first | with_reducible exact Pre.refl _ | with_reducible exact Pre.base _ _ | with_reducible refine Pre.cons _ ?_)) | with_reducible assumption | ((with_reducible refine bsetr ?_); rfl) | with_reducible refine Below.setCell ?_ (by simp <;> omega) _ | with_reducible refine bpl ?_ _ _ | with_reducible refine bal ?_ _ | with_reducible refine bdrew1 ?_ | with_reducible refine bdrew ?_ _))⟩
theorem scompareF_any (x y : Int × Int) (w : World) (hx : inF x) (hy : inF y) : Calls Tryz.prog 25 #[.agg #[.int .i64 x.1, .int .i64 x.2], .agg #[.int .i64 y.1, .int .i64 y.2]] w fun e w' => e = .returned (.int .i64 (cmpY (x.1 * y.2) (y.1 * x.2))) ∧ Below w.heap.size w w' := by
  obtain ⟨x1, x2, x3, x4⟩ := hx
  obtain ⟨y1, y2, y3, y4⟩ := hy
  obtain ⟨b1, b2⟩ := mul_bd x.1 y.2 x1 x2 (by omega) y4
  obtain ⟨b3, b4⟩ := mul_bd y.1 x.2 y1 y2 (by omega) x4
  by_cases h1 : x.1 * y.2 < y.1 * x.2
  · have hr : Hid (cmpY (x.1 * y.2) (y.1 * x.2) = -1) := Lib.hid (if_pos h1)
    go_enter Tryz.func25, Tryz.ntmps25
    go_wp2_with fail
    exact bodyPost_ret (v := .int .i64 (-1)) (by simp [results, Tryz.results25, go_sem]) rfl ⟨by rw [hr.out], (by (try with_reducible refine bsz ?_); repeat (first | with_reducible exact Below.refl _ _ | ((with_reducible refine bpre ?_); (try simp only [Array.append_assoc]); repeat (first | with_reducible exact Pre.refl _ | with_reducible exact Pre.base _ _ | with_reducible refine Pre.cons _ ?_)) | with_reducible assumption | ((with_reducible refine bsetr ?_); rfl) | with_reducible refine Below.setCell ?_ (by simp <;> omega) _ | with_reducible refine bpl ?_ _ _ | with_reducible refine bal ?_ _ | with_reducible refine bdrew1 ?_ | with_reducible refine bdrew ?_ _))⟩
  · by_cases h2 : y.1 * x.2 < x.1 * y.2
    · have hr : Hid (cmpY (x.1 * y.2) (y.1 * x.2) = 1) := Lib.hid (by simp [cmpY, h1, h2])
      go_enter Tryz.func25, Tryz.ntmps25
      go_wp2_with fail
      exact bodyPost_ret (v := .int .i64 1) (by simp [results, Tryz.results25, go_sem]) rfl ⟨by rw [hr.out], (by (try with_reducible refine bsz ?_); repeat (first | with_reducible exact Below.refl _ _ | ((with_reducible refine bpre ?_); (try simp only [Array.append_assoc]); repeat (first | with_reducible exact Pre.refl _ | with_reducible exact Pre.base _ _ | with_reducible refine Pre.cons _ ?_)) | with_reducible assumption | ((with_reducible refine bsetr ?_); rfl) | with_reducible refine Below.setCell ?_ (by simp <;> omega) _ | with_reducible refine bpl ?_ _ _ | with_reducible refine bal ?_ _ | with_reducible refine bdrew1 ?_ | with_reducible refine bdrew ?_ _))⟩
    · have hr : Hid (cmpY (x.1 * y.2) (y.1 * x.2) = 0) := Lib.hid (by simp [cmpY, h1, h2])
      go_enter Tryz.func25, Tryz.ntmps25
      go_wp2_with fail
      exact bodyPost_ret (v := .int .i64 0) (by simp [results, Tryz.results25, go_sem]) rfl ⟨by rw [hr.out], (by (try with_reducible refine bsz ?_); repeat (first | with_reducible exact Below.refl _ _ | ((with_reducible refine bpre ?_); (try simp only [Array.append_assoc]); repeat (first | with_reducible exact Pre.refl _ | with_reducible exact Pre.base _ _ | with_reducible refine Pre.cons _ ?_)) | with_reducible assumption | ((with_reducible refine bsetr ?_); rfl) | with_reducible refine Below.setCell ?_ (by simp <;> omega) _ | with_reducible refine bpl ?_ _ _ | with_reducible refine bal ?_ _ | with_reducible refine bdrew1 ?_ | with_reducible refine bdrew ?_ _))⟩
abbrev setQ (w : World) (q : Nat) (y : Int × Int) (x : Flg) : World := ((((w.setCell ⟨q, 0, none⟩ (.int .i64 y.1)).setCell ⟨q, 1, none⟩ (.int .i64 y.2)).setCell ⟨q + 1, 0, none⟩ (.int .i64 x.1)).setCell ⟨q + 1, 1, none⟩ (.int .i64 x.2.1)).setCell ⟨q + 1, 2, none⟩ (.int .u32 x.2.2)
theorem setQ_facts {w : World} {q : Nat} {m y : Int × Int} {f x : Flg} (kq : w.heap[q]? = some (.cells #[.int .i64 m.1, .int .i64 m.2] 32 (0, 0))) (kf : w.heap[q + 1]? = some (.cells #[.int .i64 f.1, .int .i64 f.2.1, .int .u32 f.2.2] 35 (0, 0))) :
    (setQ w q y x).heap[q]? = some (.cells #[.int .i64 y.1, .int .i64 y.2] 32 (0, 0)) ∧ (setQ w q y x).heap[q + 1]? = some (.cells #[.int .i64 x.1, .int .i64 x.2.1, .int .u32 x.2.2] 35 (0, 0)) ∧
      (∀ (c : Nat) (o : Obj), c ≠ q → c ≠ q + 1 → w.heap[c]? = some o → (setQ w q y x).heap[c]? = some o) ∧ Chg [q, q + 1] w (setQ w q y x) ∧ ∀ (B : Nat) (a : World), Below B a w → B ≤ q → Below B a (setQ w q y x) := by
  refine ⟨?_, ?_, fun c o h1 h2 h => ?_, ?_, fun B a h hB => ?_⟩
  · exact blkset (blkset (blkset (blkset2 kq _ _) (by show q ≠ q + 1; omega) _) (by show q ≠ q + 1; omega) _) (by show q ≠ q + 1; omega) _
  · exact blkset0 (blkset0 (blkset0 (blkset (blkset kf (by show q + 1 ≠ q; omega) _) (by show q + 1 ≠ q; omega) _) 0 _) 1 _) 2 _
  · exact blkset (blkset (blkset (blkset (blkset h (by show c ≠ q; exact h1) _) (by show c ≠ q; exact h1) _) (by show c ≠ q + 1; exact h2) _) (by show c ≠ q + 1; exact h2) _) (by show c ≠ q + 1; exact h2) _
  · exact (((((Chg.refl [q, q + 1] w).set (p := ⟨q, 0, none⟩) (by simp) _).set (p := ⟨q, 1, none⟩) (by simp) _).set (p := ⟨q + 1, 0, none⟩) (by simp) _).set (p := ⟨q + 1, 1, none⟩) (by simp) _).set (p := ⟨q + 1, 2, none⟩) (by simp) _
  · exact Below.setCell (Below.setCell (Below.setCell (Below.setCell (Below.setCell h (by show B ≤ q; omega) _) (by show B ≤ q; omega) _) (by show B ≤ q + 1; omega) _) (by show B ≤ q + 1; omega) _) (by show B ≤ q + 1; omega) _
/-- The least one so far, and its flag. -/
def lvB (b : (Int × Int) × Flg) (c : Int × Int) (f : Flg) : (Int × Int) × Flg := if cmpY (c.1 * b.1.2) (b.1.1 * c.2) < 0 then (c, f) else b
def lvA (C : Flg → Int × Int) (L : List Flg) : Nat → (Int × Int) × Flg
  | 0 => ((0, 0), (0, (0, 0)))
  | a + 1 => if a = 0 then (C (L.getD a (0, (0, 0))), L.getD a (0, (0, 0))) else lvB (lvA C L a) (C (L.getD a (0, (0, 0)))) (L.getD a (0, (0, 0)))
theorem lvA_zero {C : Flg → Int × Int} {L : List Flg} {f : Flg} (h : L[0]? = some f) : lvA C L 1 = (C f, f) := by
  simp [lvA, List.getD_eq_getElem?_getD, h]
theorem lvA_succ {C : Flg → Int × Int} {L : List Flg} {a : Nat} {f : Flg} (h : L[a]? = some f) (ha : 0 < a) : lvA C L (a + 1) = lvB (lvA C L a) (C f) f := by
  rw [lvA, if_neg (by omega), List.getD_eq_getElem?_getD, h]
  rfl
theorem coefR_in {tn te s : Int} {xs : List Trm} {f : Flg} (hs : sumOk tn te s xs = true) (hv : flV f = true) (hf : fitsB f tn te s = true) : inF (coefR tn te s xs f) := by
  have hc : coefC tn te s xs f = 0 := by unfold coefC; rw [hs, hv, hf]; rfl
  unfold coefR
  rw [if_pos hc]
  unfold coefO
  split
  · rename_i t ht
    exact inF_of_ok (okT_iff.1 (sumOk_mem hs (List.mem_of_find?_eq_some ht))).2.2.2.1
  · exact zero_in
/-- The code and what is returned. -/
def lvP (tn te s : Int) (xs : List Trm) (gs : List (Int × Int)) : Int := if sumOk tn te s xs then forbC gs else 1
def lvC (tn te s : Int) (xs : List Trm) (gs : List (Int × Int)) : Int := if lvP tn te s xs gs = 0 then (if (flagsL tn.toNat te s.toNat gs).length ≤ 64 then (if (flagsL tn.toNat te s.toNat gs).length = 0 then 6 else 0) else 3) else lvP tn te s xs gs
def lvR (tn te s : Int) (xs : List Trm) (gs : List (Int × Int)) : (Int × Int) × Flg := if lvC tn te s xs gs = 0 then lvA (coefR tn te s xs) (flagsF tn.toNat te s.toNat gs) (flagsL tn.toNat te s.toNat gs).length else ((0, 0), (0, (0, 0)))
theorem lvR_no {tn te s : Int} {xs : List Trm} {gs : List (Int × Int)} {c : Int} (h : lvC tn te s xs gs = c) (hc : c ≠ 0) : lvR tn te s xs gs = ((0, 0), (0, (0, 0))) := by
  unfold lvR
  rw [h, if_neg hc]
theorem lowT_t : ((List.range 4).all fun k => (List.range 6).all fun n => if k ≤ n then (List.range (2 ^ tri n)).all fun e => decide (lowE k ((e : Nat) : Int) = onE ((e : Nat) : Int) (seqI k)) else true) = true := by decide +kernel
theorem lowE_tyE {k n : Nat} {e : Int} (h0 : 0 ≤ e) (h1 : e < limN n) (hk : k ≤ 3) (hkn : k ≤ n) (hn : n ≤ 5) : lowE k e = onE e (seqI k) := by
  have h := lowT_t
  simp only [List.all_eq_true, List.mem_range] at h
  have h2 := h k (by omega) n (by omega)
  rw [if_pos hkn] at h2
  simp only [List.all_eq_true, List.mem_range, decide_eq_true_eq] at h2
  rw [limN_nat (by omega)] at h1
  have h3 := h2 e.toNat (by omega)
  rw [show ((e.toNat : Nat) : Int) = e by omega] at h3
  exact h3
theorem lv_fits {tnN sN : Nat} {te : Int} {gs : List (Int × Int)} (ht : tnN ≤ 3) (hts : tnN ≤ sN) (hs : sN ≤ 5) {f : Flg} (hm : f ∈ flagsF tnN te sN gs) : fitsB f tnN te sN = true := by
  obtain ⟨e, he, rfl⟩ := List.mem_map.1 hm
  obtain ⟨h1, h2, h3, _⟩ := flagsL_mem hs he
  refine fitsB_iff.2 ⟨rfl, rfl, ?_⟩
  show onE e (seqI tnN) = te
  rw [← h3]
  exact (lowE_tyE h1 h2 ht hts hs).symm
end Go.Proofs.YtkfjlimlodbcgaaGreat
