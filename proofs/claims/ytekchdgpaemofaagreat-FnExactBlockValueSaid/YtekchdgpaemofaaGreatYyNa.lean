import Derived.Test.YtekchdgpaemofaaGreatYyQb
import Derived.Test.YtekchdgpaemofaaGreatYySm
import Derived.Test.YtekchdgpaemofaaGreatYyLi
namespace Go.Proofs.YtekchdgpaemofaaGreat
open Go.ChangeShapes Go.WideShapes Go.ChangeAt Go.RowKit
set_option linter.unusedVariables false
set_option linter.unusedSimpArgs false
attribute [local irreducible] Calls
def bvS (o : Option (Int × Int)) (row t : List (Int × Int)) : Option (Int × Int) := o.bind fun a => (dotO row t).bind fun r => addO a r
def bvT (M P : List (List (Int × Int))) (k : Nat) : Option (Int × Int) := ((M.zip P).take k).foldl (fun o d => bvS o d.1 d.2) (some (0, 1))
def bvO (M P : List (List (Int × Int))) : Option (Int × Int) := (M.zip P).foldl (fun o d => bvS o d.1 d.2) (some (0, 1))
theorem bvT_succ {M P : List (List (Int × Int))} {k : Nat} {row t : List (Int × Int)} (h : M[k]? = some row) (h' : P[k]? = some t) : bvT M P (k + 1) = bvS (bvT M P k) row t := by
  unfold bvT
  rw [List.take_add_one]
  have : (M.zip P)[k]? = some (row, t) := by rw [List.getElem?_zip_eq_some]; exact ⟨h, h'⟩
  rw [this, List.foldl_append]; rfl
theorem bvT_all {M P : List (List (Int × Int))} {k : Nat} (hk : M.length ≤ k) : bvT M P k = bvO M P := by
  unfold bvT bvO
  rw [List.take_of_length_le (by rw [List.length_zip]; omega)]
theorem bvT_none {M P : List (List (Int × Int))} {k : Nat} (h : bvT M P k = none) : bvO M P = none := by
  unfold bvT at h
  unfold bvO
  have : M.zip P = (M.zip P).take k ++ (M.zip P).drop k := (List.take_append_drop k _).symm
  rw [this, List.foldl_append, h]
  exact foldl_none _ (fun _ => rfl) _
theorem Tr.bv {g G g9 : Bool} {o : Option (Int × Int)} {d d9 : Int × Int} {row t : List (Int × Int)} (h : Tr (guardO g o) d G) (h1 : Tr (guardO G (dotO row t)) d9 g9) : Tr (guardO g (bvS o row t)) (kD (addO d d9)) (g9 || noB (addO d d9)) := by
  refine ⟨kaddI h.1 h1.1, fun hf => ?_, fun ht => ?_⟩
  · rw [Bool.or_eq_false_iff] at hf
    have e9 := h1.2.1 hf.1
    cases G
    · have e0 := h.2.1 rfl
      cases g
      · have e1 : o = some d := e0
        have e2 : dotO row t = some d9 := e9
        show bvS o row t = _
        unfold bvS
        rw [e1, e2]
        show addO d d9 = _
        cases hh : addO d d9 with
        | none => rw [hh] at hf; cases hf.2
        | some z => rfl
      · cases e0
    · cases e9
  · cases g
    · show bvS o row t = none
      cases G
      · have e1 : o = some d := h.2.1 rfl
        cases g9
        · have e2 : dotO row t = some d9 := h1.2.1 rfl
          unfold bvS
          rw [e1, e2]
          show addO d d9 = none
          cases hh : addO d d9 with
          | none => rfl
          | some z => rw [hh] at ht; cases ht
        · have e2 : dotO row t = none := h1.2.2 rfl
          unfold bvS
          rw [e1, e2]
          rfl
      · have e1 : o = none := h.2.2 rfl
        rw [e1]
        rfl
    · rfl
theorem Fl.blkq {b o : Nat} {w w' : World} {g : Bool} {x : Obj} {q : Nat} (h : Fl b o w g w') (hk : w.heap[q]? = some x) (hqb : q ≠ b) : w'.heap[q]? = some x :=
  (Below.block h q (by have := blklt hk; exact this)).trans (blkset hk hqb _)
theorem Fl.blks {b : Nat} {w w' : World} {g g0 : Bool} {t : TypeId} (h : Fl b 0 w g w') (hk : w.heap[b]? = some (.cells #[.bool g0] t (0, 0))) : w'.heap[b]? = some (.cells #[.bool g] t (0, 0)) :=
  (Below.block h b (by have := blklt hk; exact this)).trans (blkset1 hk _)
theorem Fl.bel {b o : Nat} {w0 w w' : World} {g : Bool} (h : Fl b o w g w') (hb : w0.heap.size ≤ b) (hw : Below w0.heap.size w0 w) : Below w0.heap.size w0 w' :=
  Below.trans (Below.setCell hw hb _) (Below.mono h hw.size)
theorem matP {N : Nat} {E : Nat → Nat → Int × Int} (hE : ∀ i j, i < N → j < N → inF (E i j)) {j : Nat} (hj : j < N) : ∃ t, (matL N N E)[j]? = some t ∧ t.length = N ∧ ∀ d ∈ t, inF d := by
  refine ⟨_, matL_get E hj, by simp [rowL], fun d hd => ?_⟩
  simp only [rowL, List.mem_map, List.mem_range] at hd
  obtain ⟨i, hi, rfl⟩ := hd
  exact hE j i hj hi
set_option maxHeartbeats 2000000 in
theorem block_any (w w0 : World) (b k q n : Nat) (e : Int) (g : Bool) (fs : List Flg) (mt : List (List (Int × Int))) (v u : Value) (hF : Fam fs k q) (hn : n ≤ 5) (hkq : k + q + q ≤ n) (hL : Lst shFlag w0 fs v) (hM : Lst (shL shFr) w0 mt u) (hml : mt.length = fs.length) (hmr : ∀ r ∈ mt, r.length = fs.length ∧ ∀ d ∈ r, inF d) (hW : Below w0.heap.size w0 w) (hb0 : w0.heap.size ≤ b) (hb : w.heap[b]? = some (.cells #[.bool g] 129 (0, 0))) :
    Calls Tryz.prog 91 #[.pointer (some ⟨b, 0, none⟩), .agg #[v, u], .agg #[.int .i64 n, .int .u32 e]] w fun r w' => FrRet b 0 (guardO g (bvO mt (matL fs.length fs.length (paD fs n e)))) w r w' := by
  have HL := Lib.hid hL
  obtain ⟨A0, cap0, rfl, _, _⟩ := formFlag hL
  obtain ⟨A1, cap1, rfl, hc1, hm1, helM⟩ := lstFrSS hM
  obtain ⟨P, hP⟩ : ∃ P, Hid (matL fs.length fs.length (paD fs n e) = P) := ⟨_, Lib.hid rfl⟩
  obtain ⟨N, hN⟩ : ∃ N, Hid (fs.length = N) := ⟨_, Lib.hid rfl⟩
  have hN8 : 0 < N ∧ N ≤ 8 := by rw [← hN.out]; exact ⟨hF.1, hF.2.1⟩
  have HPA : Hid (∀ V, Below w.heap.size w V → Calls Tryz.prog 83 #[.pointer (some ⟨b, 0, none⟩), .slice A0 N cap0, .agg #[.int .i64 n, .int .u32 e]] V fun r w' => ∃ A cap F, r = .returned (.slice A N cap) ∧ Own (shL shFr) V.heap.size w' P (.slice A N cap) F ∧ Below V.heap.size V w') := Lib.hid fun V hV => by
    have := pairAverages_any V w0 b k q n e g fs _ hF hn hkq HL.out (hW.trans (hV.mono hW.size)) hb0 (bblk hV (blklt hb) hb)
    rw [hP.out, hN.out] at this
    exact this
  have HPI : Hid (∀ j, j < N → ∃ t, P[j]? = some t ∧ t.length = N ∧ ∀ d ∈ t, inF d) := Lib.hid fun j hj => by
    rw [← hP.out, hN.out]
    exact matP (fun i j hi hj => paD_in hF hn hkq (by rw [hN.out]; exact hi) (by rw [hN.out]; exact hj)) hj
  have HPL : Hid (P.length = N) := Lib.hid (by rw [← hP.out, matL_len]; exact hN.out)
  rw [hN.out] at hml
  have HMR : Hid (∀ r ∈ mt, r.length = N ∧ ∀ d ∈ r, inF d) := Lib.hid (by rw [← hN.out]; exact hmr)
  rw [hml] at helM hc1 ⊢
  rw [hN.out] at hP ⊢
  rw [hP.out]
  have HEM := Lib.hid helM
  have HML := Lib.hid hml
  have HW := Lib.hid hW
  have HBB := Lib.hid hb
  have yb := blklt hb
  obtain ⟨hN0, hN2⟩ := hN8
  clear hF hL hM hmr hW helM hml hb hc1 hm1
  go_enter Tryz.func91, Tryz.ntmps91
  go_wp2_with fail
  refine Calls.mono (HPA.out _ belA) ?_
  rintro e1 w4 ⟨A4, cap4, F4, rfl, hO4, hb4⟩
  have HB4 := Lib.hid (show Below w.heap.size w w4 from Below.trans belA (hb4.mono (by simp <;> omega)))
  have HK0 : Hid (w4.heap[w.heap.size]? = some (.cells #[.slice A0 N cap0, .slice A1 N cap1] 58 (0, 0))) := Lib.hid (bblk hb4 (by simp <;> omega) blkA)
  have HK2 : Hid (w4.heap[w.heap.size + 1 + 1]? = some (.cells #[.int .i64 0, .int .i64 0] 54 (0, 0))) := Lib.hid (bblk hb4 (by simp <;> omega) blkA)
  have HO4 := Lib.hid hO4
  clear hO4 hb4
  go_wp2_with fail
  refine Calls.mono (zero_any _) ?_
  rintro e1 w5 ⟨rfl, hb5⟩
  have HB5 := Lib.hid (HB4.out.trans (hb5.mono HB4.out.size))
  have HK05 := Lib.hid (bblk hb5 (blklt HK0.out) HK0.out)
  have HK25 := Lib.hid (bblk hb5 (blklt HK2.out) HK2.out)
  have HO5 := Lib.hid (HO4.out.below (Nat.le_refl _) hb5)
  have HW5 := Lib.hid (HW.out.trans (HB5.out.mono HW.out.size))
  have HBB5 := Lib.hid (bblk HB5.out yb HBB.out)
  have yb5 := blklt HBB5.out
  obtain ⟨p0, p1⟩ := blkc2 HK05.out
  have y0 := blklt HK05.out
  have y2 := blklt HK25.out
  have hz5 := HB5.out.size
  obtain ⟨s5, f5⟩ := blk1 HBB5.out
  have HS5 := Lib.hid s5
  have HF5 := Lib.hid f5
  obtain ⟨Q, hQ⟩ : ∃ Q, w5.heap.size = Q := ⟨_, rfl⟩
  have y0q : w.heap.size < Q := by omega
  have y2q : w.heap.size + 1 + 1 < Q := by omega
  have ybq : b < Q := by omega
  clear hb5 s5 f5 HK0 HK2 HO4
  go_wp2_with fail
  go_loopw [20] (fun i wr => ∃ (a : Nat) (d : Int × Int) (G : Bool), a ≤ N ∧ i = .int .i64 a ∧ Hid (Tr (guardO g (bvT mt P a)) d G) ∧ Hid (Fl b 0 w5 G wr) ∧ wr.heap[Q]? = some (.cells #[.int .i64 d.1, .int .i64 d.2] 54 (0, 0)) ∧ wr.heap[w.heap.size + 1 + 1]? = some (.cells #[.int .i64 0, .int .i64 0] 54 (0, 0))) (fun i _ => N - (intOf i).toNat)
  case atStart =>
    have k2 := HK25.out
    refine ⟨0, (0, 1), g, Nat.zero_le _, rfl, Lib.hid ?_, Lib.hid ((Fl.start HS5.out).below belA), blknew' _ _ _ hQ.symm, blkA⟩
    cases g
    · exact Tr.zero
    · exact ⟨zero_in, fun h => (by cases h), fun _ => rfl⟩
  case round =>
    obtain ⟨a, d, G, ha, rfl, hI, hFl, kq, kr⟩ := hrel
    obtain ⟨W0, rfl⟩ : ∃ x, x = wr := ⟨_, rfl⟩
    obtain ⟨q0, q1⟩ := blkc2 kq
    have yq := blklt kq
    have yr := blklt kr
    have KQ := Lib.hid kq
    have KR := Lib.hid kr
    have hzF := hFl.out.size
    by_cases hlt : a < N
    · have hk8 : (a : Int) < (N : Int) := by omega
      obtain ⟨bl, off, rfl, hel⟩ := HEM.out hN0
      obtain ⟨row, vi, hr, hLr, c0⟩ := hel a (by first | exact hlt | (have := HML.out; omega))
      obtain ⟨Ar, capr, rfl, _, _⟩ := formFraction hLr
      obtain ⟨trow, ht, htl, hti⟩ := HPI.out a hlt
      obtain ⟨gt, capt, Ft, vt, hvt, ct, _, hOt, _⟩ := HO5.out.rowFr ht
      injection hvt with e1 e2 e3
      subst e1
      subst e3
      obtain ⟨At, capt2, rfl, _, _⟩ := formFraction hOt.lst
      obtain ⟨hrl, hri⟩ := HMR.out row (List.mem_of_getElem? hr)
      have HRI := Lib.hid hri
      have HTI := Lib.hid hti
      have HR := Lib.hid (Fl.lst (hLr.below HW5.out) hFl.out HS5.out)
      have HT := Lib.hid (Fl.lst hOt.lst hFl.out HS5.out)
      replace c0 := hFl.out.keep HS5.out (by simp) (bkeep HW5.out c0)
      replace ct := hFl.out.keep HS5.out (by simp) ct
      have zc := World.block_lt_of_cell? _ _ c0
      have zt := World.block_lt_of_cell? _ _ ct
      simp only at zc zt
      have HRL : Hid (row.length ≤ trow.length) := Lib.hid (by omega)
      have HRB : Hid (row.length ≤ 1000000) := Lib.hid (by omega)
      have HNX := Lib.hid (bvT_succ hr ht)
      obtain ⟨lr, hlr⟩ : ∃ lr, Hid (row.length = lr) := ⟨_, Lib.hid rfl⟩
      obtain ⟨ltt, hltt⟩ : ∃ ltt, Hid (trow.length = ltt) := ⟨_, Lib.hid rfl⟩
      rw [hlr.out] at HR c0
      rw [hltt.out] at HT ct
      have FG := Lib.hid (hFl.out.flag HS5.out)
      have FF : Hid (W0.frozen? ⟨b, 0, none⟩ = false) := Lib.hid (by rw [hFl.out.frozen (a := ⟨b, 0, none⟩) (by show b < w5.heap.size; omega)]; exact HF5.out)
      have hqb : Q ≠ b := by omega
      have hrb : w.heap.size + 1 + 1 ≠ b := by omega
      clear kq kr hel hLr hr ht hti hri hOt e2 hrl htl
      go_wp2_with fail
      (refine last_region (S := (fun w' => w'.cell? ⟨Q, 0, none⟩ = some (.int .i64 d.1) ∧ w'.cell? ⟨Q, 1, none⟩ = some (.int .i64 d.2) ∧ w'.cell? ⟨gt, a, none⟩ = some (.slice At ltt capt2))) 10 (by kernel_rfl) ?_ (fun hHeld => ?_); (focus (first | exact hS | (simp [*, go_sem]; done) | fail)); refine last_take 0 (some 25) (v := ?_) rfl (by kernel_rfl) (by kernel_rfl) (by kernel_rfl) (by kernel_rfl) (by decide) (by kernel_rfl) (fun _ _ _ h => h) (Or.inl ⟨by kernel_rfl, ?_⟩) (by assumption) ?_; rotate_left; (focus (intro w' hSw; (try dsimp only at hSw); go_simp; (try with_reducible rfl))); (try simp only [Act.put, nA, nB, nC]); refine last_take 1 (some 26) (v := ?_) rfl (by kernel_rfl) (by kernel_rfl) (by kernel_rfl) (by kernel_rfl) (by decide) (by kernel_rfl) (fun _ _ _ h => h) (Or.inl ⟨by kernel_rfl, ?_⟩) (by assumption) ?_; rotate_left; (focus (intro w' hSw; (try dsimp only at hSw); go_simp; (try with_reducible rfl))); (try simp only [Act.put, nA, nB, nC]); refine last_take 2 (some 27) (v := ?_) rfl (by kernel_rfl) (by kernel_rfl) (by kernel_rfl) (by kernel_rfl) (by decide) (by kernel_rfl) (fun _ _ _ h => h) (Or.inl ⟨by kernel_rfl, ?_⟩) (by assumption) ?_; rotate_left; (focus (intro w' hSw; (try dsimp only at hSw); go_simp; (try with_reducible rfl))); (try simp only [Act.put, nA, nB, nC]); refine last_take 3 (some 28) (v := ?_) rfl (by kernel_rfl) (by kernel_rfl) (by kernel_rfl) (by kernel_rfl) (by decide) (by kernel_rfl) (fun _ _ _ h => h) (Or.inl ⟨by kernel_rfl, ?_⟩) (by assumption) ?_; rotate_left; (focus (intro w' hSw; (try dsimp only at hSw); go_simp; (try with_reducible rfl))); (try simp only [Act.put, nA, nB, nC]); refine last_take 4 (some 29) (v := ?_) rfl (by kernel_rfl) (by kernel_rfl) (by kernel_rfl) (by kernel_rfl) (by decide) (by kernel_rfl) (fun _ _ _ h => h) (Or.inl ⟨by kernel_rfl, ?_⟩) (by assumption) ?_; rotate_left; (focus (intro w' hSw; (try dsimp only at hSw); go_simp; (try with_reducible rfl))); (try simp only [Act.put, nA, nB, nC]); refine last_take 5 (some 30) (v := ?_) rfl (by kernel_rfl) (by kernel_rfl) (by kernel_rfl) (by kernel_rfl) (by decide) (by kernel_rfl) (fun _ _ _ h => h) (Or.inl ⟨by kernel_rfl, ?_⟩) (by assumption) ?_; rotate_left; (focus (intro w' hSw; (try dsimp only at hSw); go_simp; (try with_reducible rfl))); (try simp only [Act.put, nA, nB, nC]); refine last_take 6 (some 31) (v := ?_) rfl (by kernel_rfl) (by kernel_rfl) (by kernel_rfl) (by kernel_rfl) (by decide) (by kernel_rfl) (fun _ _ _ h => h) (Or.inl ⟨by kernel_rfl, ?_⟩) (by assumption) ?_; rotate_left; (focus (intro w' hSw; (try dsimp only at hSw); go_simp; (try with_reducible rfl))); (try simp only [Act.put, nA, nB, nC]); refine last_take 7 (some 32) (v := ?_) rfl (by kernel_rfl) (by kernel_rfl) (by kernel_rfl) (by kernel_rfl) (by decide) (by kernel_rfl) (fun _ _ _ h => h) (Or.inl ⟨by kernel_rfl, ?_⟩) (by assumption) ?_; rotate_left; (focus (intro w' hSw; (try dsimp only at hSw); go_simp; (try with_reducible rfl))); (try simp only [Act.put, nA, nB, nC]); refine last_ready (i := 8) (by kernel_rfl) rfl (fun K hK => ?_); go_simp; (go_at_call 171; have hdw : Below W0.heap.size W0 W0.drew := belA; refine Calls.mono (dot_any _ b 0 G row trow _ _ (HR.out.below hdw) (HT.out.below hdw) HRI.out HTI.out HRL.out HRB.out (bkeep hdw FG.out) FF.out) ?_; rintro e0 w2 ⟨d9, g9, rfl, hT9, hF9⟩; have hS := And.intro (hF9.keep (bkeep hdw FG.out) (by simp) hHeld.1) (And.intro (hF9.keep (bkeep hdw FG.out) (by simp) hHeld.2.1) (hF9.keep (bkeep hdw FG.out) (by simp) hHeld.2.2)); have HT9 := Lib.hid hT9; have FL2 := Lib.hid (Fl.trans ((Fl.start FG.out).below hdw) hF9); have CG2 := Lib.hid (FL2.out.flag FG.out); have CF2 : Hid (w2.frozen? ⟨b, 0, none⟩ = false) := Lib.hid (by rw [FL2.out.frozen (a := ⟨b, 0, none⟩) (by show b < W0.heap.size; omega)]; exact FF.out); have hz2 := FL2.out.size; clear hT9 hF9 hdw); go_wp2_with fail; refine hK.out _ _ ?_ (fun hHeld => ?_); (focus (first | exact hS | (simp [*, go_sem]; done) | fail)); clear hK K; (try simp only [Act.put, nA, nB, nC]); refine last_ready (i := 9) (by kernel_rfl) rfl (fun K hK => ?_); go_simp; (go_at_call 148; refine Calls.mono (kadd_any b 0 g9 d d9 _ (by show b < w2.heap.size; omega) CG2.out CF2.out hI.out.1 HT9.out.1) ?_; rintro e0 w3 ⟨rfl, hb⟩; have hfl : Fl b 0 w2 _ w3 := hb; have hS := And.intro (hfl.keep CG2.out (by simp) hHeld.1) (And.intro (hfl.keep CG2.out (by simp) hHeld.2.1) (hfl.keep CG2.out (by simp) hHeld.2.2)); have FL3 := Lib.hid (FL2.out.trans hfl); have hz3 := FL3.out.size; have KQ3 := Lib.hid (FL3.out.blkq KQ.out hqb); have KR3 := Lib.hid (FL3.out.blkq KR.out hrb); obtain ⟨_, _, fq0, fq1⟩ := blk2 KQ3.out; have yq3 := blklt KQ3.out; clear hb hfl); go_wp2_with fail; refine hK.out _ _ ?_ (fun hHeld => ?_); (focus (first | exact hS | (simp [*, go_sem]; done) | fail)); clear hK K; (try simp only [Act.put, nA, nB, nC]); refine last_end (by kernel_rfl) rfl (fun K hK => ?_); (try go_simp); refine hK.out _ _ ?_; clear hK K hHeld; (try simp only [Act.put, nA, nB, nC]); refine last_done (by kernel_rfl) ?_ _)
      go_wp2_with fail
      go_roundw
      case rel =>
        refine ⟨a + 1, kD (addO d d9), g9 || noB (addO d d9), by omega, by go_num, Lib.hid ?_, Lib.hid ?_, blkset2 KQ3.out _ _, blkset (blkset KR3.out (by show w.heap.size + 1 + 1 ≠ Q; omega) _) (by show w.heap.size + 1 + 1 ≠ Q; omega) _⟩
        · rw [HNX.out]
          exact hI.out.bv HT9.out
        · exact Below.setCell (Below.setCell (hFl.out.trans FL3.out) (by show w5.heap.size ≤ Q; omega) _) (by show w5.heap.size ≤ Q; omega) _
      case measure => simp [intOf]; omega
    · have ee : a = N := by omega
      subst ee
      have HFI : Hid (Tr (guardO g (bvO mt P)) d G) := Lib.hid (by rw [← bvT_all (k := a) (by have := HML.out; omega)]; exact hI.out)
      obtain ⟨r0, r1, r2, r3⟩ := blk2 kr
      have HFl := hFl
      clear kq kr
      go_wp2_with fail
      refine bodyPost_ret (v := .agg #[.int .i64 d.1, .int .i64 d.2]) (by simp [results, Tryz.results91, go_sem, *]) rfl ?_
      refine ⟨d, G, rfl, HFI.out, ?_⟩
      have h1 : Fl b 0 w G W0 := Fl.trans ((Fl.start (blk1 HBB.out).1).below HB5.out) HFl.out
      exact Below.setCell (Below.setCell h1 (by show w.heap.size ≤ w.heap.size + 1 + 1; omega) _) (by show w.heap.size ≤ w.heap.size + 1 + 1; omega) _
end Go.Proofs.YtekchdgpaemofaaGreat
