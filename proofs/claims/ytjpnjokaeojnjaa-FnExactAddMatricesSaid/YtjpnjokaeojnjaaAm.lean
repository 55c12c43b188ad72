/- impl.AddMatrices. -/
import Derived.Test.YtjpnjokaeojnjaaMt
import Derived.Test.YtjpnjokaeojnjaaRg
namespace Go.Proofs.Ytjpnjokaeojnjaa
open Go.ChangeShapes Go.WideShapes Go.ChangeAt Go.RowKit
set_option linter.unusedVariables false
set_option linter.unusedSimpArgs false
attribute [local irreducible] Calls
set_option maxHeartbeats 1000000 in
theorem addM_lit (W : World) (bs bm bn a1 o1 c1 a2 o2 c2 r1 p1 d1 r2 p2 d2 n i j : Nat) (g : Bool) (x y : Int × Int) (hx : inF x) (hy : inF y) (hi : i < n) (hj : j < n) (hn : n ≤ 8)
    (hs : W.cell? ⟨bs, 0, none⟩ = some (.bool g)) (hf : W.frozen? ⟨bs, 0, none⟩ = false) (n1 : bm ≠ bs) (n2 : bn ≠ bs) (n3 : a1 ≠ bs) (n4 : a2 ≠ bs) (n5 : r1 ≠ bs) (n6 : r2 ≠ bs)
    (hm : W.cell? ⟨bm, 0, none⟩ = some (.slice (some ⟨a1, o1, none⟩) n c1)) (hn' : W.cell? ⟨bn, 0, none⟩ = some (.slice (some ⟨a2, o2, none⟩) n c2)) (k1 : n ≤ c1) (k2 : n ≤ c2) (k3 : n ≤ d1) (k4 : n ≤ d2)
    (q1 : W.cell? ⟨a1, o1 + i, none⟩ = some (.slice (some ⟨r1, p1, none⟩) n d1)) (q2 : W.cell? ⟨a2, o2 + i, none⟩ = some (.slice (some ⟨r2, p2, none⟩) n d2))
    (x1 : W.cell? ⟨r1, p1 + j * 2, none⟩ = some (.int .i64 x.1)) (x2 : W.cell? ⟨r1, p1 + j * 2 + 1, none⟩ = some (.int .i64 x.2)) (y1 : W.cell? ⟨r2, p2 + j * 2, none⟩ = some (.int .i64 y.1)) (y2 : W.cell? ⟨r2, p2 + j * 2 + 1, none⟩ = some (.int .i64 y.2)) :
    Calls Try.prog 86 #[.int .i64 i, .int .i64 j, .pointer (some ⟨bs, 0, none⟩), .pointer (some ⟨bm, 0, none⟩), .pointer (some ⟨bn, 0, none⟩)] W fun e W' => e = .returned (.agg #[.int .i64 (kD (addO x y)).1, .int .i64 (kD (addO x y)).2]) ∧ Below W.heap.size (W.setCell ⟨bs, 0, none⟩ (.bool (g || noB (addO x y)))) W' := by
  have z1 := World.block_lt_of_cell? _ _ hs
  have z2 := World.block_lt_of_cell? _ _ hm
  have z3 := World.block_lt_of_cell? _ _ hn'
  have z4 := World.block_lt_of_cell? _ _ q1
  have z5 := World.block_lt_of_cell? _ _ q2
  have z6 := World.block_lt_of_cell? _ _ x1
  have z7 := World.block_lt_of_cell? _ _ y1
  simp only at z1 z2 z3 z4 z5 z6 z7
  have hi' : (i : Int) < (n : Int) := by omega
  have hj' : (j : Int) < (n : Int) := by omega
  go_enter Try.func86, Try.ntmps86
  go_wp2_with fail
  have f1 : bs < W.heap.size := z1
  go_region_held3 (fun w' => w'.cell? ⟨bm, 0, none⟩ = some (.slice (some ⟨a1, o1, none⟩) n c1) ∧ w'.cell? ⟨bn, 0, none⟩ = some (.slice (some ⟨a2, o2, none⟩) n c2) ∧ w'.cell? ⟨a1, o1 + i, none⟩ = some (.slice (some ⟨r1, p1, none⟩) n d1) ∧ w'.cell? ⟨a2, o2 + i, none⟩ = some (.slice (some ⟨r2, p2, none⟩) n d2) ∧ w'.cell? ⟨r1, p1 + j * 2, none⟩ = some (.int .i64 x.1) ∧ w'.cell? ⟨r1, p1 + j * 2 + 1, none⟩ = some (.int .i64 x.2) ∧ w'.cell? ⟨r2, p2 + j * 2, none⟩ = some (.int .i64 y.1) ∧ w'.cell? ⟨r2, p2 + j * 2 + 1, none⟩ = some (.int .i64 y.2)) (simp [*, go_sem, World.cell?_setCell_far]) (first | (go_at_call 87; refine Calls.mono (kadd_any _ _ g x y _ (by first | omega | (simp <;> omega)) (by first | assumption | simp [go_sem, *]) (by first | assumption | simp [go_sem, *]) hx hy) ?_; rintro e w1 ⟨rfl, hb⟩; obtain ⟨X, m, rfl⟩ := plsOfS hb; clear hb))
  all_goals (go_wp2_with fail)
  all_goals exact bodyPost_ret (v := .agg #[.int .i64 (kD (addO x y)).1, .int .i64 (kD (addO x y)).2]) (by simp [results, Try.results86, go_sem, *]) rfl ⟨rfl, (by (try with_reducible refine bsz ?_); repeat (first | with_reducible exact Below.refl _ _ | ((with_reducible refine bpre ?_); (try simp only [Array.append_assoc]); repeat (first | with_reducible exact Pre.refl _ | with_reducible exact Pre.base _ _ | with_reducible refine Pre.cons _ ?_)) | with_reducible assumption | ((with_reducible refine bsetr ?_); rfl) | with_reducible refine Below.setCell ?_ (by simp <;> omega) _ | with_reducible refine bpl ?_ _ _ | with_reducible refine bal ?_ _ | with_reducible refine bdrew1 ?_ | with_reducible refine bdrew ?_ _))⟩
def addC (xss yss : List (List (Int × Int))) : Int := if matOk xss && matOk yss then (if xss.length = yss.length then 0 else 2) else 1
def addMO (xss yss : List (List (Int × Int))) : Option (List (List (Int × Int))) := matO xss.length fun i j => addO (at2 xss i j) (at2 yss i j)
/-- The parts of a right matrix at a place, in memory. -/
theorem mat_at {w : World} {xss : List (List (Int × Int))} {A : Option Addr} {cap : Nat} (h : Lst (shL shFr) w xss (.slice A xss.length cap)) (hM : xss.length ≤ 8 ∧ (∀ xs ∈ xss, xs.length = xss.length ∧ listOk xs = true) ∧ symB xss = true) {i j : Nat} (hi : i < xss.length) (hj : j < xss.length) :
    ∃ a1 o1 r1 p1 d1, A = some ⟨a1, o1, none⟩ ∧ xss.length ≤ cap ∧ xss.length ≤ d1 ∧ a1 < w.heap.size ∧ r1 < w.heap.size ∧ inF (at2 xss i j) ∧ w.cell? ⟨a1, o1 + i, none⟩ = some (.slice (some ⟨r1, p1, none⟩) xss.length d1) ∧ w.cell? ⟨r1, p1 + j * 2, none⟩ = some (.int .i64 (at2 xss i j).1) ∧ w.cell? ⟨r1, p1 + j * 2 + 1, none⟩ = some (.int .i64 (at2 xss i j).2) := by
  obtain ⟨A0, cap0, he, hc, hm, hel⟩ := lstFrSS h
  cases he
  obtain ⟨a1, o1, rfl, hel1⟩ := hel (by omega)
  obtain ⟨xs, vi, hd, hL, c0⟩ := hel1 i hi
  obtain ⟨h1, h2⟩ := hM.2.1 xs (List.mem_of_getElem? hd)
  obtain ⟨A2, cap2, rfl, hc2, hm2, _, hel2⟩ := lstFraction hL
  obtain ⟨r1, p1, rfl, hel3⟩ := hel2 (by omega)
  obtain ⟨d, hd2, hok, e1, e2⟩ := hel3 j (by omega)
  have e3 := at2_eq hd hd2
  rw [h1] at c0 hc2
  exact ⟨a1, o1, r1, p1, cap2, rfl, hc, hc2, World.block_lt_of_cell? _ _ c0, World.block_lt_of_cell? _ _ e1, by rw [e3]; exact listOk_in h2 d (List.mem_of_getElem? hd2), c0, by rw [e3]; exact e1, by rw [e3]; exact e2⟩
theorem addFills {w Wm : World} {bs bm bn : Nat} {xss yss : List (List (Int × Int))} {A0 A1 : Option Addr} {cap0 cap1 : Nat} (h : Lst (shL shFr) w xss (.slice A0 xss.length cap0)) (h' : Lst (shL shFr) w yss (.slice A1 yss.length cap1)) (hl : xss.length = yss.length)
    (hM : xss.length ≤ 8 ∧ (∀ xs ∈ xss, xs.length = xss.length ∧ listOk xs = true) ∧ symB xss = true) (hM' : yss.length ≤ 8 ∧ (∀ xs ∈ yss, xs.length = yss.length ∧ listOk xs = true) ∧ symB yss = true) (hB : Below w.heap.size w Wm) (hbs : w.heap.size ≤ bs) (n1 : bm ≠ bs) (n2 : bn ≠ bs)
    (hs : Wm.cell? ⟨bs, 0, none⟩ = some (.bool false)) (hf : Wm.frozen? ⟨bs, 0, none⟩ = false) (hm : Wm.cell? ⟨bm, 0, none⟩ = some (.slice A0 xss.length cap0)) (hn : Wm.cell? ⟨bn, 0, none⟩ = some (.slice A1 yss.length cap1)) :
    Fills 86 #[.pointer (some ⟨bs, 0, none⟩), .pointer (some ⟨bm, 0, none⟩), .pointer (some ⟨bn, 0, none⟩)] xss.length Wm.heap.size (fun g W => Fl bs 0 Wm g W) (fun i j => kD (addO (at2 xss i j) (at2 yss i j))) (fun i j => noB (addO (at2 xss i j) (at2 yss i j))) := by
  intro W g i j hi hj hN hR
  have hbl : bs < Wm.heap.size := World.block_lt_of_cell? _ _ hs
  obtain ⟨a1, o1, r1, p1, d1, rfl, k1, k3, za1, zr1, hx, q1, x1, x2⟩ := mat_at h hM hi hj
  obtain ⟨a2, o2, r2, p2, d2, rfl, k2, k4, za2, zr2, hy, q2, y1, y2⟩ := mat_at h' hM' (hl ▸ hi) (hl ▸ hj)
  have kp : ∀ {a : Addr} {u : Value}, (∀ x, u ≠ .bool x) → w.cell? a = some u → W.cell? a = some u := fun hu ha => hR.keep hs hu (bkeep hB ha)
  rw [← hl] at k2 k4 q2
  have hn := hR.keep hs (by simp) hn
  rw [← hl] at hn
  refine (addM_lit W bs bm bn a1 o1 _ a2 o2 _ r1 p1 d1 r2 p2 d2 xss.length i j g (at2 xss i j) (at2 yss i j) hx hy hi hj hM.1 (hR.flag hs) ((hR.frozen hbl).trans hf) n1 n2 (by omega) (by omega) (by omega) (by omega) (hR.keep hs (by simp) hm) hn k1 k2 k3 k4 (kp (by simp) q1) (kp (by simp) q2) (kp (by simp) x1) (kp (by simp) x2) (kp (by simp) y1) (kp (by simp) y2)).mono ?_
  rintro e W' ⟨he, hb⟩
  refine ⟨he, Fl.trans hR hb, by have := hb.size; rwa [setCell_size] at this, fun k h1 h2 => ?_⟩
  rw [hb.block k h2]
  exact Below.heap_setCell W _ _ k (by simp; omega)
theorem matO_f {n : Nat} {o : Nat → Nat → Option (Int × Int)} (h : matZ n n (fun i j => noB (o i j)) = false) : matO n o = some (matL n n fun i j => kD (o i j)) := by simp [matO, h]
theorem matO_t {n : Nat} {o : Nat → Nat → Option (Int × Int)} (h : matZ n n (fun i j => noB (o i j)) = true) : matO n o = none := by simp [matO, h]
theorem inF_ok {d : Int × Int} (h : inF d) : okFr d := by
  obtain ⟨h1, h2, h3, h4⟩ := h
  simp [okFr, okI, Lit.wf, IntKind.min, IntKind.max, IntKind.signed, IntKind.bits]
  omega
theorem mat_in {xss : List (List (Int × Int))} (hM : xss.length ≤ 8 ∧ (∀ xs ∈ xss, xs.length = xss.length ∧ listOk xs = true) ∧ symB xss = true) {i j : Nat} (hi : i < xss.length) (hj : j < xss.length) : inF (at2 xss i j) := by
  obtain ⟨h1, h2⟩ := hM.2.1 xss[i] (List.getElem_mem hi)
  have : at2 xss i j = xss[i][j]'(by omega) := at2_eq (List.getElem?_eq_getElem hi) (List.getElem?_eq_getElem (by omega))
  rw [this]
  exact listOk_in h2 _ (List.getElem_mem _)
set_option maxHeartbeats 1000000 in
theorem AddMatrices_any (w : World) (xss yss : List (List (Int × Int))) (v v' : Value) (h : Lst (shL shFr) w xss v) (h' : Lst (shL shFr) w yss v') :
    Calls Try.prog 28 #[v, v'] w fun e w' => MatRet w.heap.size (mR (addC xss yss) (addMO xss yss)) (mC (addC xss yss) (addMO xss yss)) e w' ∧ Below w.heap.size w w' := by
  obtain ⟨A0, cap0, rfl, hc0, hm0, hel0⟩ := lstFrSS h
  obtain ⟨A1, cap1, rfl, hc1, hm1, hel1⟩ := lstFrSS h'
  unfold maxLen at hm0 hm1
  cases hv : matOk xss
  · have e1 : addC xss yss = 1 := by simp [addC, hv]
    rw [e1]
    go_enter Try.func28, Try.ntmps28
    go_wp2_with (first | (go_at_call 83; refine Calls.mono (ValidMatrix_any _ xss _ (h.below (by (try with_reducible refine bsz ?_); repeat (first | with_reducible exact Below.refl _ _ | ((with_reducible refine bpre ?_); (try simp only [Array.append_assoc]); repeat (first | with_reducible exact Pre.refl _ | with_reducible exact Pre.base _ _ | with_reducible refine Pre.cons _ ?_)) | with_reducible assumption | ((with_reducible refine bsetr ?_); rfl) | with_reducible refine Below.setCell ?_ (by simp <;> omega) _ | with_reducible refine bpl ?_ _ _ | with_reducible refine bal ?_ _ | with_reducible refine bdrew1 ?_ | with_reducible refine bdrew ?_ _)))) ?_; rintro e w1 ⟨rfl, hb⟩; obtain ⟨X, m, rfl⟩ := plsOf hb; clear hb))
    exact bodyPost_ret (v := .tuple #[.slice none 0 0, .int .i64 1]) (by simp [results, Try.results28, go_sem]) rfl ⟨MatRet.nil _ _ _, (by (try with_reducible refine bsz ?_); repeat (first | with_reducible exact Below.refl _ _ | ((with_reducible refine bpre ?_); (try simp only [Array.append_assoc]); repeat (first | with_reducible exact Pre.refl _ | with_reducible exact Pre.base _ _ | with_reducible refine Pre.cons _ ?_)) | with_reducible assumption | ((with_reducible refine bsetr ?_); rfl) | with_reducible refine Below.setCell ?_ (by simp <;> omega) _ | with_reducible refine bpl ?_ _ _ | with_reducible refine bal ?_ _ | with_reducible refine bdrew1 ?_ | with_reducible refine bdrew ?_ _))⟩
  · cases hv' : matOk yss
    · have e1 : addC xss yss = 1 := by simp [addC, hv']
      rw [e1]
      go_enter Try.func28, Try.ntmps28
      (go_wp2_with fail; refine Calls.mono (ValidMatrix_any _ xss _ (h.below (by (try with_reducible refine bsz ?_); repeat (first | with_reducible exact Below.refl _ _ | ((with_reducible refine bpre ?_); (try simp only [Array.append_assoc]); repeat (first | with_reducible exact Pre.refl _ | with_reducible exact Pre.base _ _ | with_reducible refine Pre.cons _ ?_)) | with_reducible assumption | ((with_reducible refine bsetr ?_); rfl) | with_reducible refine Below.setCell ?_ (by simp <;> omega) _ | with_reducible refine bpl ?_ _ _ | with_reducible refine bal ?_ _ | with_reducible refine bdrew1 ?_ | with_reducible refine bdrew ?_ _)))) ?_; rintro e0 w1 ⟨rfl, hb⟩; obtain ⟨X0, m0, rfl⟩ := plsOf hb; clear hb)
      go_wp2_with (first | (go_at_call 83; refine Calls.mono (ValidMatrix_any _ yss _ (h'.below (by (try with_reducible refine bsz ?_); repeat (first | with_reducible exact Below.refl _ _ | ((with_reducible refine bpre ?_); (try simp only [Array.append_assoc]); repeat (first | with_reducible exact Pre.refl _ | with_reducible exact Pre.base _ _ | with_reducible refine Pre.cons _ ?_)) | with_reducible assumption | ((with_reducible refine bsetr ?_); rfl) | with_reducible refine Below.setCell ?_ (by simp <;> omega) _ | with_reducible refine bpl ?_ _ _ | with_reducible refine bal ?_ _ | with_reducible refine bdrew1 ?_ | with_reducible refine bdrew ?_ _)))) ?_; rintro e w1 ⟨rfl, hb⟩; obtain ⟨X, m, rfl⟩ := plsOf hb; clear hb))
      exact bodyPost_ret (v := .tuple #[.slice none 0 0, .int .i64 1]) (by simp [results, Try.results28, go_sem]) rfl ⟨MatRet.nil _ _ _, (by (try with_reducible refine bsz ?_); repeat (first | with_reducible exact Below.refl _ _ | ((with_reducible refine bpre ?_); (try simp only [Array.append_assoc]); repeat (first | with_reducible exact Pre.refl _ | with_reducible exact Pre.base _ _ | with_reducible refine Pre.cons _ ?_)) | with_reducible assumption | ((with_reducible refine bsetr ?_); rfl) | with_reducible refine Below.setCell ?_ (by simp <;> omega) _ | with_reducible refine bpl ?_ _ _ | with_reducible refine bal ?_ _ | with_reducible refine bdrew1 ?_ | with_reducible refine bdrew ?_ _))⟩
    · by_cases hl : xss.length = yss.length
      · have e1 : addC xss yss = 0 := by simp [addC, hv, hv', hl]
        rw [e1]
        have hl1 : ((xss.length : Int) != (yss.length : Int)) = false := by simp [hl]
        have HL := Lib.hid hl
        have HM := Lib.hid (matOk_iff hv)
        have HM' := Lib.hid (matOk_iff hv')
        have H0 := Lib.hid hel0
        have H1 := Lib.hid hel1
        clear hl hel0 hel1
        go_enter Try.func28, Try.ntmps28
        (go_wp2_with fail; refine Calls.mono (ValidMatrix_any _ xss _ (h.below (by (try with_reducible refine bsz ?_); repeat (first | with_reducible exact Below.refl _ _ | ((with_reducible refine bpre ?_); (try simp only [Array.append_assoc]); repeat (first | with_reducible exact Pre.refl _ | with_reducible exact Pre.base _ _ | with_reducible refine Pre.cons _ ?_)) | with_reducible assumption | ((with_reducible refine bsetr ?_); rfl) | with_reducible refine Below.setCell ?_ (by simp <;> omega) _ | with_reducible refine bpl ?_ _ _ | with_reducible refine bal ?_ _ | with_reducible refine bdrew1 ?_ | with_reducible refine bdrew ?_ _)))) ?_; rintro e0 w1 ⟨rfl, hb⟩; obtain ⟨X0, m0, rfl⟩ := plsOf hb; clear hb)
        (go_wp2_with fail; refine Calls.mono (ValidMatrix_any _ yss _ (h'.below (by (try with_reducible refine bsz ?_); repeat (first | with_reducible exact Below.refl _ _ | ((with_reducible refine bpre ?_); (try simp only [Array.append_assoc]); repeat (first | with_reducible exact Pre.refl _ | with_reducible exact Pre.base _ _ | with_reducible refine Pre.cons _ ?_)) | with_reducible assumption | ((with_reducible refine bsetr ?_); rfl) | with_reducible refine Below.setCell ?_ (by simp <;> omega) _ | with_reducible refine bpl ?_ _ _ | with_reducible refine bal ?_ _ | with_reducible refine bdrew1 ?_ | with_reducible refine bdrew ?_ _)))) ?_; rintro e0 w1 ⟨rfl, hb⟩; obtain ⟨X1, m1, rfl⟩ := plsOf hb; clear hb)
        go_wp2_with fail
        have eg : ∀ args w, (callFunc 86 args).run Try.prog w = .ok (.enter 86 args) w := enters_of Try.func86 (by kernel_rfl) rfl
        refine Calls.mono (matrix_any _ xss.length 86 _ (fun g W => Fl (w.heap.size + 1 + 1 + (X0.size + X1.size)) 0 _ g W) false (fun i j => kD (addO (at2 xss i j) (at2 yss i j))) (fun i j => noB (addO (at2 xss i j) (at2 yss i j))) HM.out.1 eg (fun g W W' h1 h2 => Below.trans h1 h2) (Fl.start (g := false) (by first | assumption | simp [go_sem, *])) (fun i j hi hj => inF_ok (kaddI (mat_in HM.out hi hj) (mat_in HM'.out (HL.out ▸ hi) (HL.out ▸ hj)))) (addFills (bs := w.heap.size + 1 + 1 + (X0.size + X1.size)) (bm := w.heap.size) (bn := w.heap.size + 1) h h' HL.out HM.out HM'.out (by (try with_reducible refine bsz ?_); repeat (first | with_reducible exact Below.refl _ _ | ((with_reducible refine bpre ?_); (try simp only [Array.append_assoc]); repeat (first | with_reducible exact Pre.refl _ | with_reducible exact Pre.base _ _ | with_reducible refine Pre.cons _ ?_)) | with_reducible assumption | ((with_reducible refine bsetr ?_); rfl) | with_reducible refine Below.setCell ?_ (by simp <;> omega) _ | with_reducible refine bpl ?_ _ _ | with_reducible refine bal ?_ _ | with_reducible refine bdrew1 ?_ | with_reducible refine bdrew ?_ _)) (by omega) (by omega) (by omega) (by first | assumption | simp [go_sem, *]) (by first | assumption | simp [go_sem, *]) (by first | assumption | simp [go_sem, *]) (by first | assumption | simp [go_sem, *]))) ?_
        rintro e0 w1 ⟨A, cap, F, rfl, hO, hR, hz⟩
        obtain ⟨X2, m2, rfl⟩ := plsOf hR.raw
        have hO := Lib.hid hO
        clear hR
        cases hz2 : matZ xss.length xss.length (fun i j => noB (addO (at2 xss i j) (at2 yss i j)))
        · have hr : Hid (addMO xss yss = some (matL xss.length xss.length fun i j => kD (addO (at2 xss i j) (at2 yss i j)))) := Lib.hid (matO_f hz2)
          go_wp2_with (first | (go_at_call 84; refine Calls.mono (toldMatrix_any _ _ false _ _ (by first | omega | (simp <;> omega)) (by first | assumption | simp [go_sem, *])) ?_; rintro e w1 ⟨rfl, hb⟩; obtain ⟨X, m, rfl⟩ := plsOf hb; clear hb))
          refine bodyPost_ret (v := .tuple #[.slice A xss.length cap, .int .i64 0]) (by simp [results, Try.results28, go_sem, *]) rfl ⟨?_, (by (try with_reducible refine bsz ?_); repeat (first | with_reducible exact Below.refl _ _ | ((with_reducible refine bpre ?_); (try simp only [Array.append_assoc]); repeat (first | with_reducible exact Pre.refl _ | with_reducible exact Pre.base _ _ | with_reducible refine Pre.cons _ ?_)) | with_reducible assumption | ((with_reducible refine bsetr ?_); rfl) | with_reducible refine Below.setCell ?_ (by simp <;> omega) _ | with_reducible refine bpl ?_ _ _ | with_reducible refine bal ?_ _ | with_reducible refine bdrew1 ?_ | with_reducible refine bdrew ?_ _))⟩
          rw [hr.out]
          exact MatRet.some (matL_len _ _ _) (hO.out.more (by simp) (by simp) (by simp <;> omega))
        · have hr : Hid (addMO xss yss = none) := Lib.hid (matO_t hz2)
          go_wp2_with (first | (go_at_call 84; refine Calls.mono (toldMatrix_any _ _ true _ _ (by first | omega | (simp <;> omega)) (by first | assumption | simp [go_sem, *])) ?_; rintro e w1 ⟨rfl, hb⟩; obtain ⟨X, m, rfl⟩ := plsOf hb; clear hb))
          refine bodyPost_ret (v := .tuple #[.slice none 0 0, .int .i64 3]) (by simp [results, Try.results28, go_sem, *]) rfl ⟨?_, (by (try with_reducible refine bsz ?_); repeat (first | with_reducible exact Below.refl _ _ | ((with_reducible refine bpre ?_); (try simp only [Array.append_assoc]); repeat (first | with_reducible exact Pre.refl _ | with_reducible exact Pre.base _ _ | with_reducible refine Pre.cons _ ?_)) | with_reducible assumption | ((with_reducible refine bsetr ?_); rfl) | with_reducible refine Below.setCell ?_ (by simp <;> omega) _ | with_reducible refine bpl ?_ _ _ | with_reducible refine bal ?_ _ | with_reducible refine bdrew1 ?_ | with_reducible refine bdrew ?_ _))⟩
          rw [hr.out]
          exact MatRet.nil _ _ _
      · have e1 : addC xss yss = 2 := by simp [addC, hv, hv', hl]
        rw [e1]
        have hl1 : ((xss.length : Int) != (yss.length : Int)) = true := by simp; omega
        clear hl
        go_enter Try.func28, Try.ntmps28
        (go_wp2_with fail; refine Calls.mono (ValidMatrix_any _ xss _ (h.below (by (try with_reducible refine bsz ?_); repeat (first | with_reducible exact Below.refl _ _ | ((with_reducible refine bpre ?_); (try simp only [Array.append_assoc]); repeat (first | with_reducible exact Pre.refl _ | with_reducible exact Pre.base _ _ | with_reducible refine Pre.cons _ ?_)) | with_reducible assumption | ((with_reducible refine bsetr ?_); rfl) | with_reducible refine Below.setCell ?_ (by simp <;> omega) _ | with_reducible refine bpl ?_ _ _ | with_reducible refine bal ?_ _ | with_reducible refine bdrew1 ?_ | with_reducible refine bdrew ?_ _)))) ?_; rintro e0 w1 ⟨rfl, hb⟩; obtain ⟨X0, m0, rfl⟩ := plsOf hb; clear hb)
        (go_wp2_with fail; refine Calls.mono (ValidMatrix_any _ yss _ (h'.below (by (try with_reducible refine bsz ?_); repeat (first | with_reducible exact Below.refl _ _ | ((with_reducible refine bpre ?_); (try simp only [Array.append_assoc]); repeat (first | with_reducible exact Pre.refl _ | with_reducible exact Pre.base _ _ | with_reducible refine Pre.cons _ ?_)) | with_reducible assumption | ((with_reducible refine bsetr ?_); rfl) | with_reducible refine Below.setCell ?_ (by simp <;> omega) _ | with_reducible refine bpl ?_ _ _ | with_reducible refine bal ?_ _ | with_reducible refine bdrew1 ?_ | with_reducible refine bdrew ?_ _)))) ?_; rintro e0 w1 ⟨rfl, hb⟩; obtain ⟨X1, m1, rfl⟩ := plsOf hb; clear hb)
        go_wp2_with fail
        exact bodyPost_ret (v := .tuple #[.slice none 0 0, .int .i64 2]) (by simp [results, Try.results28, go_sem]) rfl ⟨MatRet.nil _ _ _, (by (try with_reducible refine bsz ?_); repeat (first | with_reducible exact Below.refl _ _ | ((with_reducible refine bpre ?_); (try simp only [Array.append_assoc]); repeat (first | with_reducible exact Pre.refl _ | with_reducible exact Pre.base _ _ | with_reducible refine Pre.cons _ ?_)) | with_reducible assumption | ((with_reducible refine bsetr ?_); rfl) | with_reducible refine Below.setCell ?_ (by simp <;> omega) _ | with_reducible refine bpl ?_ _ _ | with_reducible refine bal ?_ _ | with_reducible refine bdrew1 ?_ | with_reducible refine bdrew ?_ _))⟩
end Go.Proofs.Ytjpnjokaeojnjaa
