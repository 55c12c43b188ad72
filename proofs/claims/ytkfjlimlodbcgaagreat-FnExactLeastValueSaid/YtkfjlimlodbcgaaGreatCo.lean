/- impl.CoefficientOf, spec.CoefficientOf. -/
import Derived.Test.YtkfjlimlodbcgaaGreatAk
import Derived.Test.YtkfjlimlodbcgaaGreatVr
import Derived.Test.YtkfjlimlodbcgaaGreatVt
import Derived.Test.YtkfjlimlodbcgaaGreatSli
namespace Go.Proofs.YtkfjlimlodbcgaaGreat
open Go.ChangeShapes Go.WideShapes Go.RowKit
set_option linter.unusedVariables false
set_option linter.unusedSimpArgs false
attribute [local irreducible] Calls
/-- The term at a flag's least one. -/
def atF (f : Flg) (t : Trm) : Bool := eq3 t.1.1 t.1.2.1 t.1.2.2 f.1 f.2.1 (leastF f)
def coefO (f : Flg) (xs : List Trm) : Int × Int := match xs.find? (atF f) with | some t => t.2 | none => (0, 1)
def coefC (tn te s : Int) (xs : List Trm) (f : Flg) : Int := if sumOk tn te s xs && flV f then (if fitsB f tn te s then 0 else 2) else 1
def coefR (tn te s : Int) (xs : List Trm) (f : Flg) : Int × Int := if coefC tn te s xs f = 0 then coefO f xs else (0, 0)
theorem alike_at {tn te s : Int} {t : Trm} {f : Flg} (h : okT tn te s t = true) (hf : fitsB f tn te s = true) : fAlike t.1 f = atF f t := by
  obtain ⟨_, h2, h3, _⟩ := okT_iff.1 h
  obtain ⟨a1, a2, a3⟩ := fitsB_iff.1 h2
  obtain ⟨b1, b2, b3⟩ := fitsB_iff.1 hf
  rw [Bool.eq_iff_iff]
  simp [fAlike, atF, eq3, h3, a1, a2, b1, b2]
theorem coef_at {f : Flg} {xs : List Trm} {k : Nat} {t : Trm} (h : ∀ a ∈ xs.take k, atF f a = false) (ht : xs[k]? = some t) (hp : atF f t = true) : coefO f xs = t.2 := by
  have : xs.find? (atF f) = some t := by
    rw [List.find?_eq_some_iff_getElem]
    obtain ⟨hk, e⟩ := List.getElem?_eq_some_iff.1 ht
    exact ⟨hp, k, hk, e, fun j hj => by simp [h xs[j] (List.mem_take_iff_getElem.2 ⟨j, by omega, rfl⟩)]⟩
  rw [coefO, this]
theorem coef_none {f : Flg} {xs : List Trm} (h : ∀ a ∈ xs, atF f a = false) : coefO f xs = (0, 1) := by
  have : xs.find? (atF f) = none := by rw [List.find?_eq_none]; simpa using h
  rw [coefO, this]
set_option maxHeartbeats 2000000 in
theorem CoefficientOf_any (w : World) (tn te s : Int) (xs : List Trm) (f : Flg) (v : Value) (h : Lst shTerm w xs v) (he : 0 ≤ te ∧ te ≤ 4294967295) (hf : okFlag f) : Calls Tryz.prog 30 #[.agg #[.int .i64 tn, .int .u32 te, .int .i64 s, v], .agg #[.int .i64 f.1, .int .i64 f.2.1, .int .u32 f.2.2]] w fun e w' => e = .returned (.tuple #[.agg #[.int .i64 (coefR tn te s xs f).1, .int .i64 (coefR tn te s xs f).2], .int .i64 (coefC tn te s xs f)]) ∧ Below w.heap.size w w' := by
  obtain ⟨A, cap, rfl, hc, hm, hok, hel⟩ := lstTerm h
  unfold maxLen at hm
  have H := Lib.hid h
  have H1 := Lib.hid hel
  have HF := Lib.hid hf
  clear h hok hel hf
  cases g1 : sumOk tn te s xs
  · have hr : Hid (coefR tn te s xs f = (0, 0) ∧ coefC tn te s xs f = 1) := Lib.hid (by simp [coefR, coefC, g1])
    have G1 := Lib.hid g1
    clear g1
    go_enter Tryz.func30, Tryz.ntmps30
    go_wp2_with (first | (go_at_call 36; refine Calls.mono (ValidSum_any _ tn te s xs _ (H.out.below (by (try with_reducible refine bsz ?_); repeat (first | with_reducible exact Below.refl _ _ | ((with_reducible refine bpre ?_); (try simp only [Array.append_assoc]); repeat (first | with_reducible exact Pre.refl _ | with_reducible exact Pre.base _ _ | with_reducible refine Pre.cons _ ?_)) | with_reducible assumption | ((with_reducible refine bsetr ?_); rfl) | with_reducible refine Below.setCell ?_ (by simp <;> omega) _ | with_reducible refine bpl ?_ _ _ | with_reducible refine bal ?_ _ | with_reducible refine bdrew1 ?_ | with_reducible refine bdrew ?_ _))) he) ?_; rw [G1.out]; rintro e w1 ⟨rfl, hb⟩; obtain ⟨X, m, rfl⟩ := plsOf hb; clear hb))
    exact bodyPost_ret (v := .tuple #[.agg #[.int .i64 0, .int .i64 0], .int .i64 1]) (by simp [results, Tryz.results30, go_sem]) rfl ⟨by rw [hr.out.1, hr.out.2], (by (try with_reducible refine bsz ?_); repeat (first | with_reducible exact Below.refl _ _ | ((with_reducible refine bpre ?_); (try simp only [Array.append_assoc]); repeat (first | with_reducible exact Pre.refl _ | with_reducible exact Pre.base _ _ | with_reducible refine Pre.cons _ ?_)) | with_reducible assumption | ((with_reducible refine bsetr ?_); rfl) | with_reducible refine Below.setCell ?_ (by simp <;> omega) _ | with_reducible refine bpl ?_ _ _ | with_reducible refine bal ?_ _ | with_reducible refine bdrew1 ?_ | with_reducible refine bdrew ?_ _))⟩
  cases g2 : badFl f
  · have hv : Hid (flV f = true) := Lib.hid (by simpa [badFl] using g2)
    cases g3 : fitsB f tn te s
    · have hr : Hid (coefR tn te s xs f = (0, 0) ∧ coefC tn te s xs f = 2) := Lib.hid (by simp [coefR, coefC, g1, hv.out, g3])
      have G1 := Lib.hid g1
      have G2 := Lib.hid g2
      have G3 := Lib.hid g3
      have hk : 0 ≤ f.1 ∧ f.1 ≤ 5 := by have := (flV_iff f).1 hv.out; omega
      clear g1 g2 g3
      go_enter Tryz.func30, Tryz.ntmps30
      go_wp2_with (first | (go_at_call 36; refine Calls.mono (ValidSum_any _ tn te s xs _ (H.out.below (by (try with_reducible refine bsz ?_); repeat (first | with_reducible exact Below.refl _ _ | ((with_reducible refine bpre ?_); (try simp only [Array.append_assoc]); repeat (first | with_reducible exact Pre.refl _ | with_reducible exact Pre.base _ _ | with_reducible refine Pre.cons _ ?_)) | with_reducible assumption | ((with_reducible refine bsetr ?_); rfl) | with_reducible refine Below.setCell ?_ (by simp <;> omega) _ | with_reducible refine bpl ?_ _ _ | with_reducible refine bal ?_ _ | with_reducible refine bdrew1 ?_ | with_reducible refine bdrew ?_ _))) he) ?_; rw [G1.out]; rintro e w1 ⟨rfl, hb⟩; obtain ⟨X, m, rfl⟩ := plsOf hb; clear hb) | (go_at_call 56; refine Calls.mono (badFlag_i _ f HF.out) ?_; rw [G2.out]; rintro e w1 ⟨rfl, hb⟩; obtain ⟨X, m, rfl⟩ := plsOf hb; clear hb) | (go_at_call 57; refine Calls.mono (fits_any _ f tn te s hk) ?_; rw [G3.out]; rintro e w1 ⟨rfl, hb⟩; obtain ⟨X, m, rfl⟩ := plsOf hb; clear hb))
      exact bodyPost_ret (v := .tuple #[.agg #[.int .i64 0, .int .i64 0], .int .i64 2]) (by simp [results, Tryz.results30, go_sem]) rfl ⟨by rw [hr.out.1, hr.out.2], (by (try with_reducible refine bsz ?_); repeat (first | with_reducible exact Below.refl _ _ | ((with_reducible refine bpre ?_); (try simp only [Array.append_assoc]); repeat (first | with_reducible exact Pre.refl _ | with_reducible exact Pre.base _ _ | with_reducible refine Pre.cons _ ?_)) | with_reducible assumption | ((with_reducible refine bsetr ?_); rfl) | with_reducible refine Below.setCell ?_ (by simp <;> omega) _ | with_reducible refine bpl ?_ _ _ | with_reducible refine bal ?_ _ | with_reducible refine bdrew1 ?_ | with_reducible refine bdrew ?_ _))⟩
    · have hr : Hid (coefR tn te s xs f = coefO f xs ∧ coefC tn te s xs f = 0) := Lib.hid (by simp [coefR, coefC, g1, hv.out, g3])
      have G1 := Lib.hid g1
      have G2 := Lib.hid g2
      have G3 := Lib.hid g3
      have hk : 0 ≤ f.1 ∧ f.1 ≤ 5 := by have := (flV_iff f).1 hv.out; omega
      have hlen : (xs.length : Int) ≤ 64 := by have := (sumOk_iff.1 g1).2.2.1; omega
      clear g1 g2 g3
      go_enter Tryz.func30, Tryz.ntmps30
      go_wp2_with fail
      refine Calls.mono (ValidSum_any _ tn te s xs _ (H.out.below (by (try with_reducible refine bsz ?_); repeat (first | with_reducible exact Below.refl _ _ | ((with_reducible refine bpre ?_); (try simp only [Array.append_assoc]); repeat (first | with_reducible exact Pre.refl _ | with_reducible exact Pre.base _ _ | with_reducible refine Pre.cons _ ?_)) | with_reducible assumption | ((with_reducible refine bsetr ?_); rfl) | with_reducible refine Below.setCell ?_ (by simp <;> omega) _ | with_reducible refine bpl ?_ _ _ | with_reducible refine bal ?_ _ | with_reducible refine bdrew1 ?_ | with_reducible refine bdrew ?_ _))) he) ?_
      rw [G1.out]
      rintro e0 w1 ⟨rfl, hb⟩; obtain ⟨X0, m0, rfl⟩ := plsOf hb; clear hb
      go_wp2_with fail
      refine Calls.mono (badFlag_i _ f HF.out) ?_
      rw [G2.out]
      rintro e0 w1 ⟨rfl, hb⟩; obtain ⟨X1, m1, rfl⟩ := plsOf hb; clear hb
      go_wp2_with fail
      refine Calls.mono (fits_any _ f tn te s hk) ?_
      rw [G3.out]
      rintro e0 w1 ⟨rfl, hb⟩; obtain ⟨X2, m2, rfl⟩ := plsOf hb; clear hb
      go_wp2_with fail
      go_loopw [29] (fun i wr => ∃ (k : Nat), k ≤ xs.length ∧ i = .int .i64 k ∧ wr.heap[w.heap.size + 1]? = some (.cells #[.int .i64 f.1, .int .i64 f.2.1, .int .u32 f.2.2] 35 (0, 0)) ∧ wr.heap[w.heap.size + 1 + 1]? = some (.cells #[.int .i64 0, .int .i64 0] 32 (0, 0)) ∧ Hid (∀ a ∈ xs.take k, atF f a = false) ∧ Below w.heap.size w wr) (fun i _ => xs.length - (intOf i).toNat)
      case atStart => exact ⟨0, Nat.zero_le _, rfl, (by repeat (first | with_reducible assumption | with_reducible refine pls_block _ _ ?_ | with_reducible apply blkset2 | with_reducible apply blkset1 | ((with_reducible refine blksetN ?_ ?_ _); (focus (simp <;> omega))) | with_reducible exact blknew _ _ | ((with_reducible refine blknew' _ _ _ ?_); (simp <;> omega)) | with_reducible refine blkal ?_ _)), (by repeat (first | with_reducible assumption | with_reducible refine pls_block _ _ ?_ | with_reducible apply blkset2 | with_reducible apply blkset1 | ((with_reducible refine blksetN ?_ ?_ _); (focus (simp <;> omega))) | with_reducible exact blknew _ _ | ((with_reducible refine blknew' _ _ _ ?_); (simp <;> omega)) | with_reducible refine blkal ?_ _)), Lib.hid (by simp), (by (try with_reducible refine bsz ?_); repeat (first | with_reducible exact Below.refl _ _ | ((with_reducible refine bpre ?_); (try simp only [Array.append_assoc]); repeat (first | with_reducible exact Pre.refl _ | with_reducible exact Pre.base _ _ | with_reducible refine Pre.cons _ ?_)) | with_reducible assumption | ((with_reducible refine bsetr ?_); rfl) | with_reducible refine Below.setCell ?_ (by simp <;> omega) _ | with_reducible refine bpl ?_ _ _ | with_reducible refine bal ?_ _ | with_reducible refine bdrew1 ?_ | with_reducible refine bdrew ?_ _))⟩
      case round =>
        obtain ⟨k, hkl, rfl, b0, b1, HT, hB⟩ := hrel
        obtain ⟨s0, s1, s2, _⟩ := blk3 b0
        obtain ⟨t0, t1, t2, t3⟩ := blk2 b1
        have z0 := blklt b0
        have z1 := blklt b1
        have B0 := Lib.hid b0
        have B1 := Lib.hid b1
        clear b0 b1
        by_cases hlt : k < xs.length
        · have hk8 : (k : Int) < (xs.length : Int) := by omega
          obtain ⟨bl, off, rfl, hel⟩ := H1.out (by omega)
          obtain ⟨d, hd, hok, c0, c1, c2, c3, c4⟩ := hel k hlt
          clear hel
          have HD := Lib.hid hd
          have HOK := Lib.hid hok
          have hT : Hid (okT tn te s d = true) := Lib.hid (sumOk_mem G1.out (List.mem_of_getElem? hd))
          have hal : Hid (fAlike d.1 f = atF f d) := Lib.hid (alike_at hT.out G3.out)
          have hsz : Hid (d.1.2.1 = f.2.1) := Lib.hid (((fitsB_iff.1 (okT_iff.1 hT.out).2.1).1).trans (fitsB_iff.1 G3.out).1.symm)
          clear hd hok
          replace c0 := bkeep hB c0
          replace c1 := bkeep hB c1
          replace c2 := bkeep hB c2
          replace c3 := bkeep hB c3
          replace c4 := bkeep hB c4
          cases hp : atF f d
          · have HP := Lib.hid hp
            clear hp
            go_wp2_with (first | (go_at_call 58; refine Calls.mono (falike_any _ d.1 f (okT_iff.1 hT.out).1 hv.out HOK.out.1 HF.out hsz.out) ?_; rw [hal.out, HP.out]; rintro e w1 ⟨rfl, hb⟩; obtain ⟨X, m, rfl⟩ := plsOf hb; clear hb))
            go_roundw
            case rel =>
              have b0 := B0.out
              have b1 := B1.out
              exact ⟨k + 1, by omega, by go_num, (by repeat (first | with_reducible assumption | with_reducible refine pls_block _ _ ?_ | with_reducible apply blkset2 | with_reducible apply blkset1 | ((with_reducible refine blksetN ?_ ?_ _); (focus (simp <;> omega))) | with_reducible exact blknew _ _ | ((with_reducible refine blknew' _ _ _ ?_); (simp <;> omega)) | with_reducible refine blkal ?_ _)), (by repeat (first | with_reducible assumption | with_reducible refine pls_block _ _ ?_ | with_reducible apply blkset2 | with_reducible apply blkset1 | ((with_reducible refine blksetN ?_ ?_ _); (focus (simp <;> omega))) | with_reducible exact blknew _ _ | ((with_reducible refine blknew' _ _ _ ?_); (simp <;> omega)) | with_reducible refine blkal ?_ _)), Lib.hid (mem_take_succ HT.out HD.out HP.out), (by (try with_reducible refine bsz ?_); repeat (first | with_reducible exact Below.refl _ _ | ((with_reducible refine bpre ?_); (try simp only [Array.append_assoc]); repeat (first | with_reducible exact Pre.refl _ | with_reducible exact Pre.base _ _ | with_reducible refine Pre.cons _ ?_)) | with_reducible assumption | ((with_reducible refine bsetr ?_); rfl) | with_reducible refine Below.setCell ?_ (by simp <;> omega) _ | with_reducible refine bpl ?_ _ _ | with_reducible refine bal ?_ _ | with_reducible refine bdrew1 ?_ | with_reducible refine bdrew ?_ _))⟩
            case measure => simp [intOf]; omega
          · have HP := Lib.hid hp
            clear hp
            have hco : Hid (coefO f xs = d.2) := Lib.hid (coef_at HT.out HD.out HP.out)
            go_wp2_with (first | (go_at_call 58; refine Calls.mono (falike_any _ d.1 f (okT_iff.1 hT.out).1 hv.out HOK.out.1 HF.out hsz.out) ?_; rw [hal.out, HP.out]; rintro e w1 ⟨rfl, hb⟩; obtain ⟨X, m, rfl⟩ := plsOf hb; clear hb))
            exact bodyPost_ret (v := .tuple #[.agg #[.int .i64 d.2.1, .int .i64 d.2.2], .int .i64 0]) (by simp [results, Tryz.results30, go_sem, *]) rfl ⟨by rw [hr.out.1, hr.out.2, hco.out], (by (try with_reducible refine bsz ?_); repeat (first | with_reducible exact Below.refl _ _ | ((with_reducible refine bpre ?_); (try simp only [Array.append_assoc]); repeat (first | with_reducible exact Pre.refl _ | with_reducible exact Pre.base _ _ | with_reducible refine Pre.cons _ ?_)) | with_reducible assumption | ((with_reducible refine bsetr ?_); rfl) | with_reducible refine Below.setCell ?_ (by simp <;> omega) _ | with_reducible refine bpl ?_ _ _ | with_reducible refine bal ?_ _ | with_reducible refine bdrew1 ?_ | with_reducible refine bdrew ?_ _))⟩
        · have e : k = xs.length := by omega
          subst e
          have hco : Hid (coefO f xs = (0, 1)) := Lib.hid (coef_none (by have := HT.out; rwa [List.take_length] at this))
          go_wp2_with (first | (go_at_call 59; refine Calls.mono (zero_any _) ?_; rintro e w1 ⟨rfl, hb⟩; obtain ⟨X, m, rfl⟩ := plsOf hb; clear hb))
          exact bodyPost_ret (v := .tuple #[.agg #[.int .i64 0, .int .i64 1], .int .i64 0]) (by simp [results, Tryz.results30, go_sem, *]) rfl ⟨by rw [hr.out.1, hr.out.2, hco.out], (by (try with_reducible refine bsz ?_); repeat (first | with_reducible exact Below.refl _ _ | ((with_reducible refine bpre ?_); (try simp only [Array.append_assoc]); repeat (first | with_reducible exact Pre.refl _ | with_reducible exact Pre.base _ _ | with_reducible refine Pre.cons _ ?_)) | with_reducible assumption | ((with_reducible refine bsetr ?_); rfl) | with_reducible refine Below.setCell ?_ (by simp <;> omega) _ | with_reducible refine bpl ?_ _ _ | with_reducible refine bal ?_ _ | with_reducible refine bdrew1 ?_ | with_reducible refine bdrew ?_ _))⟩
  · have hv : Hid (flV f = false) := Lib.hid (by simpa [badFl] using g2)
    have hr : Hid (coefR tn te s xs f = (0, 0) ∧ coefC tn te s xs f = 1) := Lib.hid (by simp [coefR, coefC, hv.out])
    have G1 := Lib.hid g1
    have G2 := Lib.hid g2
    clear g1 g2
    go_enter Tryz.func30, Tryz.ntmps30
    go_wp2_with (first | (go_at_call 36; refine Calls.mono (ValidSum_any _ tn te s xs _ (H.out.below (by (try with_reducible refine bsz ?_); repeat (first | with_reducible exact Below.refl _ _ | ((with_reducible refine bpre ?_); (try simp only [Array.append_assoc]); repeat (first | with_reducible exact Pre.refl _ | with_reducible exact Pre.base _ _ | with_reducible refine Pre.cons _ ?_)) | with_reducible assumption | ((with_reducible refine bsetr ?_); rfl) | with_reducible refine Below.setCell ?_ (by simp <;> omega) _ | with_reducible refine bpl ?_ _ _ | with_reducible refine bal ?_ _ | with_reducible refine bdrew1 ?_ | with_reducible refine bdrew ?_ _))) he) ?_; rw [G1.out]; rintro e w1 ⟨rfl, hb⟩; obtain ⟨X, m, rfl⟩ := plsOf hb; clear hb) | (go_at_call 56; refine Calls.mono (badFlag_i _ f HF.out) ?_; rw [G2.out]; rintro e w1 ⟨rfl, hb⟩; obtain ⟨X, m, rfl⟩ := plsOf hb; clear hb))
    exact bodyPost_ret (v := .tuple #[.agg #[.int .i64 0, .int .i64 0], .int .i64 1]) (by simp [results, Tryz.results30, go_sem]) rfl ⟨by rw [hr.out.1, hr.out.2], (by (try with_reducible refine bsz ?_); repeat (first | with_reducible exact Below.refl _ _ | ((with_reducible refine bpre ?_); (try simp only [Array.append_assoc]); repeat (first | with_reducible exact Pre.refl _ | with_reducible exact Pre.base _ _ | with_reducible refine Pre.cons _ ?_)) | with_reducible assumption | ((with_reducible refine bsetr ?_); rfl) | with_reducible refine Below.setCell ?_ (by simp <;> omega) _ | with_reducible refine bpl ?_ _ _ | with_reducible refine bal ?_ _ | with_reducible refine bdrew1 ?_ | with_reducible refine bdrew ?_ _))⟩
set_option maxHeartbeats 2000000 in
theorem sCoefficientOf_any (w : World) (tn te s : Int) (xs : List Trm) (f : Flg) (v : Value) (h : Lst shTerm w xs v) (he : 0 ≤ te ∧ te ≤ 4294967295) (hf : okFlag f) : Calls Tryz.prog 24 #[.agg #[.int .i64 tn, .int .u32 te, .int .i64 s, v], .agg #[.int .i64 f.1, .int .i64 f.2.1, .int .u32 f.2.2]] w fun e w' => e = .returned (.tuple #[.agg #[.int .i64 (coefR tn te s xs f).1, .int .i64 (coefR tn te s xs f).2], .int .i64 (coefC tn te s xs f)]) ∧ Below w.heap.size w w' := by
  obtain ⟨A, cap, rfl, hc, hm, hok, hel⟩ := lstTerm h
  unfold maxLen at hm
  have H := Lib.hid h
  have H1 := Lib.hid hel
  have HF := Lib.hid hf
  clear h hok hel hf
  cases g1 : sumOk tn te s xs
  · have hr : Hid (coefR tn te s xs f = (0, 0) ∧ coefC tn te s xs f = 1) := Lib.hid (by simp [coefR, coefC, g1])
    have G1 := Lib.hid g1
    clear g1
    go_enter Tryz.func24, Tryz.ntmps24
    go_wp2_with (first | (go_at_call 20; refine Calls.mono (l05Ok_any _ _ tn te s xs _ (by repeat (first | with_reducible assumption | with_reducible refine pls_block _ _ ?_ | with_reducible apply blkset2 | with_reducible apply blkset1 | ((with_reducible refine blksetN ?_ ?_ _); (focus (simp <;> omega))) | with_reducible exact blknew _ _ | ((with_reducible refine blknew' _ _ _ ?_); (simp <;> omega)) | with_reducible refine blkal ?_ _)) (H.out.below (by (try with_reducible refine bsz ?_); repeat (first | with_reducible exact Below.refl _ _ | ((with_reducible refine bpre ?_); (try simp only [Array.append_assoc]); repeat (first | with_reducible exact Pre.refl _ | with_reducible exact Pre.base _ _ | with_reducible refine Pre.cons _ ?_)) | with_reducible assumption | ((with_reducible refine bsetr ?_); rfl) | with_reducible refine Below.setCell ?_ (by simp <;> omega) _ | with_reducible refine bpl ?_ _ _ | with_reducible refine bal ?_ _ | with_reducible refine bdrew1 ?_ | with_reducible refine bdrew ?_ _))) he) ?_; rw [G1.out]; rintro e w1 ⟨rfl, hb⟩; obtain ⟨X, m, rfl⟩ := plsOf hb; clear hb))
    exact bodyPost_ret (v := .tuple #[.agg #[.int .i64 0, .int .i64 0], .int .i64 1]) (by simp [results, Tryz.results24, go_sem]) rfl ⟨by rw [hr.out.1, hr.out.2], (by (try with_reducible refine bsz ?_); repeat (first | with_reducible exact Below.refl _ _ | ((with_reducible refine bpre ?_); (try simp only [Array.append_assoc]); repeat (first | with_reducible exact Pre.refl _ | with_reducible exact Pre.base _ _ | with_reducible refine Pre.cons _ ?_)) | with_reducible assumption | ((with_reducible refine bsetr ?_); rfl) | with_reducible refine Below.setCell ?_ (by simp <;> omega) _ | with_reducible refine bpl ?_ _ _ | with_reducible refine bal ?_ _ | with_reducible refine bdrew1 ?_ | with_reducible refine bdrew ?_ _))⟩
  cases g2 : flV f
  · have hr : Hid (coefR tn te s xs f = (0, 0) ∧ coefC tn te s xs f = 1) := Lib.hid (by simp [coefR, coefC, g2])
    have G1 := Lib.hid g1
    have G2 := Lib.hid g2
    clear g1 g2
    go_enter Tryz.func24, Tryz.ntmps24
    go_wp2_with (first | (go_at_call 20; refine Calls.mono (l05Ok_any _ _ tn te s xs _ (by repeat (first | with_reducible assumption | with_reducible refine pls_block _ _ ?_ | with_reducible apply blkset2 | with_reducible apply blkset1 | ((with_reducible refine blksetN ?_ ?_ _); (focus (simp <;> omega))) | with_reducible exact blknew _ _ | ((with_reducible refine blknew' _ _ _ ?_); (simp <;> omega)) | with_reducible refine blkal ?_ _)) (H.out.below (by (try with_reducible refine bsz ?_); repeat (first | with_reducible exact Below.refl _ _ | ((with_reducible refine bpre ?_); (try simp only [Array.append_assoc]); repeat (first | with_reducible exact Pre.refl _ | with_reducible exact Pre.base _ _ | with_reducible refine Pre.cons _ ?_)) | with_reducible assumption | ((with_reducible refine bsetr ?_); rfl) | with_reducible refine Below.setCell ?_ (by simp <;> omega) _ | with_reducible refine bpl ?_ _ _ | with_reducible refine bal ?_ _ | with_reducible refine bdrew1 ?_ | with_reducible refine bdrew ?_ _))) he) ?_; rw [G1.out]; rintro e w1 ⟨rfl, hb⟩; obtain ⟨X, m, rfl⟩ := plsOf hb; clear hb) | (go_at_call 45; refine Calls.mono (l03Ok_i _ f HF.out) ?_; rw [G2.out]; rintro e w1 ⟨rfl, hb⟩; obtain ⟨X, m, rfl⟩ := plsOf hb; clear hb))
    exact bodyPost_ret (v := .tuple #[.agg #[.int .i64 0, .int .i64 0], .int .i64 1]) (by simp [results, Tryz.results24, go_sem]) rfl ⟨by rw [hr.out.1, hr.out.2], (by (try with_reducible refine bsz ?_); repeat (first | with_reducible exact Below.refl _ _ | ((with_reducible refine bpre ?_); (try simp only [Array.append_assoc]); repeat (first | with_reducible exact Pre.refl _ | with_reducible exact Pre.base _ _ | with_reducible refine Pre.cons _ ?_)) | with_reducible assumption | ((with_reducible refine bsetr ?_); rfl) | with_reducible refine Below.setCell ?_ (by simp <;> omega) _ | with_reducible refine bpl ?_ _ _ | with_reducible refine bal ?_ _ | with_reducible refine bdrew1 ?_ | with_reducible refine bdrew ?_ _))⟩
  have hk : 0 ≤ f.1 ∧ f.1 ≤ 5 := by have := (flV_iff f).1 g2; omega
  cases g3 : fitsB f tn te s
  · have hr : Hid (coefR tn te s xs f = (0, 0) ∧ coefC tn te s xs f = 2) := Lib.hid (by simp [coefR, coefC, g1, g2, g3])
    have G1 := Lib.hid g1
    have G2 := Lib.hid g2
    have G3 := Lib.hid g3
    clear g1 g2 g3
    go_enter Tryz.func24, Tryz.ntmps24
    go_wp2_with (first | (go_at_call 20; refine Calls.mono (l05Ok_any _ _ tn te s xs _ (by repeat (first | with_reducible assumption | with_reducible refine pls_block _ _ ?_ | with_reducible apply blkset2 | with_reducible apply blkset1 | ((with_reducible refine blksetN ?_ ?_ _); (focus (simp <;> omega))) | with_reducible exact blknew _ _ | ((with_reducible refine blknew' _ _ _ ?_); (simp <;> omega)) | with_reducible refine blkal ?_ _)) (H.out.below (by (try with_reducible refine bsz ?_); repeat (first | with_reducible exact Below.refl _ _ | ((with_reducible refine bpre ?_); (try simp only [Array.append_assoc]); repeat (first | with_reducible exact Pre.refl _ | with_reducible exact Pre.base _ _ | with_reducible refine Pre.cons _ ?_)) | with_reducible assumption | ((with_reducible refine bsetr ?_); rfl) | with_reducible refine Below.setCell ?_ (by simp <;> omega) _ | with_reducible refine bpl ?_ _ _ | with_reducible refine bal ?_ _ | with_reducible refine bdrew1 ?_ | with_reducible refine bdrew ?_ _))) he) ?_; rw [G1.out]; rintro e w1 ⟨rfl, hb⟩; obtain ⟨X, m, rfl⟩ := plsOf hb; clear hb) | (go_at_call 45; refine Calls.mono (l03Ok_i _ f HF.out) ?_; rw [G2.out]; rintro e w1 ⟨rfl, hb⟩; obtain ⟨X, m, rfl⟩ := plsOf hb; clear hb) | (go_at_call 46; refine Calls.mono (l05Fits_any _ f tn te s hk) ?_; rw [G3.out]; rintro e w1 ⟨rfl, hb⟩; obtain ⟨X, m, rfl⟩ := plsOf hb; clear hb))
    exact bodyPost_ret (v := .tuple #[.agg #[.int .i64 0, .int .i64 0], .int .i64 2]) (by simp [results, Tryz.results24, go_sem]) rfl ⟨by rw [hr.out.1, hr.out.2], (by (try with_reducible refine bsz ?_); repeat (first | with_reducible exact Below.refl _ _ | ((with_reducible refine bpre ?_); (try simp only [Array.append_assoc]); repeat (first | with_reducible exact Pre.refl _ | with_reducible exact Pre.base _ _ | with_reducible refine Pre.cons _ ?_)) | with_reducible assumption | ((with_reducible refine bsetr ?_); rfl) | with_reducible refine Below.setCell ?_ (by simp <;> omega) _ | with_reducible refine bpl ?_ _ _ | with_reducible refine bal ?_ _ | with_reducible refine bdrew1 ?_ | with_reducible refine bdrew ?_ _))⟩
  have hr : Hid (coefR tn te s xs f = coefO f xs ∧ coefC tn te s xs f = 0) := Lib.hid (by simp [coefR, coefC, g1, g2, g3])
  have hlen : (xs.length : Int) ≤ 64 := by have := (sumOk_iff.1 g1).2.2.1; omega
  have G1 := Lib.hid g1
  have G2 := Lib.hid g2
  have G3 := Lib.hid g3
  clear g1 g2 g3
  go_enter Tryz.func24, Tryz.ntmps24
  go_wp2_with fail
  refine Calls.mono (l05Ok_any _ _ tn te s xs _ (by repeat (first | with_reducible assumption | with_reducible refine pls_block _ _ ?_ | with_reducible apply blkset2 | with_reducible apply blkset1 | ((with_reducible refine blksetN ?_ ?_ _); (focus (simp <;> omega))) | with_reducible exact blknew _ _ | ((with_reducible refine blknew' _ _ _ ?_); (simp <;> omega)) | with_reducible refine blkal ?_ _)) (H.out.below (by (try with_reducible refine bsz ?_); repeat (first | with_reducible exact Below.refl _ _ | ((with_reducible refine bpre ?_); (try simp only [Array.append_assoc]); repeat (first | with_reducible exact Pre.refl _ | with_reducible exact Pre.base _ _ | with_reducible refine Pre.cons _ ?_)) | with_reducible assumption | ((with_reducible refine bsetr ?_); rfl) | with_reducible refine Below.setCell ?_ (by simp <;> omega) _ | with_reducible refine bpl ?_ _ _ | with_reducible refine bal ?_ _ | with_reducible refine bdrew1 ?_ | with_reducible refine bdrew ?_ _))) he) ?_
  rw [G1.out]
  rintro e0 w1 ⟨rfl, hb⟩; obtain ⟨X0, m0, rfl⟩ := plsOf hb; clear hb
  go_wp2_with fail
  refine Calls.mono (l03Ok_i _ f HF.out) ?_
  rw [G2.out]
  rintro e0 w1 ⟨rfl, hb⟩; obtain ⟨X1, m1, rfl⟩ := plsOf hb; clear hb
  go_wp2_with fail
  refine Calls.mono (l05Fits_any _ f tn te s hk) ?_
  rw [G3.out]
  rintro e0 w1 ⟨rfl, hb⟩; obtain ⟨X2, m2, rfl⟩ := plsOf hb; clear hb
  go_wp2_with fail
  refine Calls.mono (sleast_i _ f HF.out G2.out) ?_
  rintro e0 w1 ⟨rfl, hb⟩; obtain ⟨X3, m3, rfl⟩ := plsOf hb; clear hb
  go_wp2_with fail
  go_loopw [7] (fun i wr => ∃ (k : Nat), k ≤ xs.length ∧ i = .int .i64 k ∧ wr.heap[w.heap.size]? = some (.cells #[.int .i64 tn, .int .u32 te, .int .i64 s, .slice A xs.length cap] 40 (0, 0)) ∧ wr.heap[w.heap.size + 1 + 1]? = some (.cells #[.int .i64 0, .int .i64 0] 32 (0, 0)) ∧ wr.heap[w.heap.size + 1 + 1 + 1 + (X0.size + (X1.size + (X2.size + X3.size)))]? = some (.cells #[.int .i64 f.1, .int .i64 f.2.1, .int .u32 (leastF f)] 35 (0, 0)) ∧ Hid (∀ a ∈ xs.take k, atF f a = false) ∧ Below w.heap.size w wr) (fun i _ => xs.length - (intOf i).toNat)
  case atStart => exact ⟨0, Nat.zero_le _, rfl, (by repeat (first | with_reducible assumption | with_reducible refine pls_block _ _ ?_ | with_reducible apply blkset2 | with_reducible apply blkset1 | ((with_reducible refine blksetN ?_ ?_ _); (focus (simp <;> omega))) | with_reducible exact blknew _ _ | ((with_reducible refine blknew' _ _ _ ?_); (simp <;> omega)) | with_reducible refine blkal ?_ _)), (by repeat (first | with_reducible assumption | with_reducible refine pls_block _ _ ?_ | with_reducible apply blkset2 | with_reducible apply blkset1 | ((with_reducible refine blksetN ?_ ?_ _); (focus (simp <;> omega))) | with_reducible exact blknew _ _ | ((with_reducible refine blknew' _ _ _ ?_); (simp <;> omega)) | with_reducible refine blkal ?_ _)), blknew' _ _ _ (by simp <;> omega), Lib.hid (by simp), (by (try with_reducible refine bsz ?_); repeat (first | with_reducible exact Below.refl _ _ | ((with_reducible refine bpre ?_); (try simp only [Array.append_assoc]); repeat (first | with_reducible exact Pre.refl _ | with_reducible exact Pre.base _ _ | with_reducible refine Pre.cons _ ?_)) | with_reducible assumption | ((with_reducible refine bsetr ?_); rfl) | with_reducible refine Below.setCell ?_ (by simp <;> omega) _ | with_reducible refine bpl ?_ _ _ | with_reducible refine bal ?_ _ | with_reducible refine bdrew1 ?_ | with_reducible refine bdrew ?_ _))⟩
  case round =>
    obtain ⟨k, hkl, rfl, b0, b1, b2, HT, hB⟩ := hrel
    obtain ⟨s0, s1, s2, s3⟩ := blkc4 b0
    obtain ⟨t0, t1, t2, t3⟩ := blk2 b1
    obtain ⟨u0, u1, u2, _⟩ := blk3 b2
    have z0 := blklt b0
    have z1 := blklt b1
    have z2 := blklt b2
    have B0 := Lib.hid b0
    have B1 := Lib.hid b1
    have B2 := Lib.hid b2
    clear b0 b1 b2
    by_cases hlt : k < xs.length
    · have hk8 : (k : Int) < (xs.length : Int) := by omega
      obtain ⟨bl, off, rfl, hel⟩ := H1.out (by omega)
      obtain ⟨d, hd, hok, c0, c1, c2, c3, c4⟩ := hel k hlt
      clear hel
      have HD := Lib.hid hd
      clear hd hok
      replace c0 := bkeep hB c0
      replace c1 := bkeep hB c1
      replace c2 := bkeep hB c2
      replace c3 := bkeep hB c3
      replace c4 := bkeep hB c4
      cases hp : eq3 d.1.1 d.1.2.1 d.1.2.2 f.1 f.2.1 (leastF f)
      · have HP : Hid (atF f d = false) := Lib.hid hp
        go_wp2_with fail
        go_quiet (fail)
        go_wp2_with fail
        go_roundw
        case rel =>
          exact ⟨k + 1, by omega, by go_num, B0.out, B1.out, B2.out, Lib.hid (mem_take_succ HT.out HD.out HP.out), (by (try with_reducible refine bsz ?_); repeat (first | with_reducible exact Below.refl _ _ | ((with_reducible refine bpre ?_); (try simp only [Array.append_assoc]); repeat (first | with_reducible exact Pre.refl _ | with_reducible exact Pre.base _ _ | with_reducible refine Pre.cons _ ?_)) | with_reducible assumption | ((with_reducible refine bsetr ?_); rfl) | with_reducible refine Below.setCell ?_ (by simp <;> omega) _ | with_reducible refine bpl ?_ _ _ | with_reducible refine bal ?_ _ | with_reducible refine bdrew1 ?_ | with_reducible refine bdrew ?_ _))⟩
        case measure => simp [intOf]; omega
      · have HP : Hid (atF f d = true) := Lib.hid hp
        have hco : Hid (coefO f xs = d.2) := Lib.hid (coef_at HT.out HD.out HP.out)
        go_wp2_with fail
        go_quiet (fail)
        go_wp2_with fail
        exact bodyPost_ret (v := .tuple #[.agg #[.int .i64 d.2.1, .int .i64 d.2.2], .int .i64 0]) (by simp [results, Tryz.results24, go_sem, *]) rfl ⟨by rw [hr.out.1, hr.out.2, hco.out], (by (try with_reducible refine bsz ?_); repeat (first | with_reducible exact Below.refl _ _ | ((with_reducible refine bpre ?_); (try simp only [Array.append_assoc]); repeat (first | with_reducible exact Pre.refl _ | with_reducible exact Pre.base _ _ | with_reducible refine Pre.cons _ ?_)) | with_reducible assumption | ((with_reducible refine bsetr ?_); rfl) | with_reducible refine Below.setCell ?_ (by simp <;> omega) _ | with_reducible refine bpl ?_ _ _ | with_reducible refine bal ?_ _ | with_reducible refine bdrew1 ?_ | with_reducible refine bdrew ?_ _))⟩
    · have e : k = xs.length := by omega
      subst e
      have hco : Hid (coefO f xs = (0, 1)) := Lib.hid (coef_none (by have := HT.out; rwa [List.take_length] at this))
      go_wp2_with (first | (go_at_call 23; refine Calls.mono (sZero_any _) ?_; rintro e w1 ⟨rfl, hb⟩; obtain ⟨X, m, rfl⟩ := plsOf hb; clear hb))
      exact bodyPost_ret (v := .tuple #[.agg #[.int .i64 0, .int .i64 1], .int .i64 0]) (by simp [results, Tryz.results24, go_sem, *]) rfl ⟨by rw [hr.out.1, hr.out.2, hco.out], (by (try with_reducible refine bsz ?_); repeat (first | with_reducible exact Below.refl _ _ | ((with_reducible refine bpre ?_); (try simp only [Array.append_assoc]); repeat (first | with_reducible exact Pre.refl _ | with_reducible exact Pre.base _ _ | with_reducible refine Pre.cons _ ?_)) | with_reducible assumption | ((with_reducible refine bsetr ?_); rfl) | with_reducible refine Below.setCell ?_ (by simp <;> omega) _ | with_reducible refine bpl ?_ _ _ | with_reducible refine bal ?_ _ | with_reducible refine bdrew1 ?_ | with_reducible refine bdrew ?_ _))⟩
end Go.Proofs.YtkfjlimlodbcgaaGreat
