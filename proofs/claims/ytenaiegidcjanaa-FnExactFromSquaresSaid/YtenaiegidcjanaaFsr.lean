/- impl.FromSquares, whole. -/
import Derived.Test.YtenaiegidcjanaaFsq
namespace Go.Proofs.Ytenaiegidcjanaa
open Go.ChangeShapes Go.WideShapes Go.ChangeAt Go.RowKit
set_option linter.unusedVariables false
set_option linter.unusedSimpArgs false
attribute [local irreducible] Calls
theorem fsZero (W : World) (n : Nat) (hn : n ≤ 8) : Calls Try.prog 38 #[.int .i64 n, .func (.func 39) #[] #[]] W fun e W' => ∃ A cap F, e = .returned (.slice A n cap) ∧ Own (shL shFr) W.heap.size W' (matL n n fun _ _ => (0, 1)) (.slice A n cap) F ∧ Below W.heap.size W W' := by
  have eg3 : ∀ args w, (callFunc 39 args).run Try.prog w = .ok (.enter 39 args) w := enters_of Try.func39 (by kernel_rfl) rfl
  refine Calls.mono (matrix_any W n 39 #[] (fun g W' => g = false ∧ Below W.heap.size W W') false (fun _ _ => (0, 1)) (fun _ _ => false) hn eg3 (fun g W1 W2 h1 h2 => ⟨h1.1, h1.2.trans h2⟩) ⟨rfl, Below.refl _ _⟩ (fun _ _ _ _ => inF_ok zero_in) ?_) ?_
  · intro W1 g i j hi hj hN hR
    refine (fs3 W1 i j).mono ?_
    rintro e W2 ⟨he, hb⟩
    exact ⟨he, ⟨by rw [hR.1]; rfl, hR.2.trans (hb.mono hN)⟩, hb.size, fun k _ h2 => hb.block k h2⟩
  · rintro e W2 ⟨A, cap, F, he, hO, hR, hz⟩
    exact ⟨A, cap, F, he, hO, hR.2⟩
theorem fs_in {ps : List (Int × Int)} {xss : List (List (Int × Int))} (hQ : SqM xss) (hl : xss.length = ps.length) (hP : ∀ d ∈ ps, inF d) (k : Nat) (hk : k ≤ ps.length) : ∀ i, i < ps.length → ∀ j, j < ps.length → inF (fsE (at2 xss) (at1 ps) k i j) := by
  refine fsE_in (fun i hi j hj => mat_in hQ (by omega) (by omega)) (fun i hi => ?_) k hk
  have e : at1 ps i = ps[i] := by simp [at1, List.getElem?_eq_getElem hi]
  rw [e]
  exact hP _ (List.getElem_mem hi)
theorem ne_of_blk {w : World} {b b' k : Nat} {g : Bool} {t : TypeId} {u : Value} (h : w.heap[b]? = some (.cells #[.bool g] t (0, 0))) (hc : w.cell? ⟨b', k, none⟩ = some u) (hu : ∀ x, u ≠ .bool x) : b' ≠ b := by
  rintro rfl
  simp only [World.cell?, h] at hc
  cases k with
  | zero => simp at hc; exact hu g hc.symm
  | succ k => simp at hc
/-- What the function of a round does, in every world from the round's own on. -/
theorem fsFills {w Wm : World} {bs bo br bp bk k : Nat} {ps row : List (Int × Int)} {E : Nat → Nat → Int × Int} {A0 A2 A3 : Option Addr} {cap0 cap2 cap3 : Nat} (h0 : Lst shFr w ps (.slice A0 ps.length cap0)) (h2 : Lst shFr w row (.slice A2 row.length cap2)) (hB : Below w.heap.size w Wm)
    (h3 : Lst (shL shFr) Wm (matL ps.length ps.length E) (.slice A3 ps.length cap3)) (g0 : Bool) {tb : TypeId} (hblk : Wm.heap[bs]? = some (.cells #[.bool g0] tb (0, 0)))
    (hp8 : ps.length ≤ 8) (hrl : row.length = ps.length) (hk : k < ps.length) (hpI : ∀ d ∈ ps, inF d) (hrI : ∀ d ∈ row, inF d) (hE : ∀ i, i < ps.length → ∀ j, j < ps.length → inF (E i j)) (hbs : w.heap.size ≤ bs) (n1 : bo ≠ bs) (n2 : br ≠ bs) (n3 : bp ≠ bs) (n4 : bk ≠ bs)
    (hs : Wm.cell? ⟨bs, 0, none⟩ = some (.bool g0)) (hf : Wm.frozen? ⟨bs, 0, none⟩ = false) (ho : Wm.cell? ⟨bo, 0, none⟩ = some (.slice A3 ps.length cap3)) (hr : Wm.cell? ⟨br, 0, none⟩ = some (.slice A2 row.length cap2)) (hq : Wm.cell? ⟨bp, 0, none⟩ = some (.slice A0 ps.length cap0)) (hkc : Wm.cell? ⟨bk, 0, none⟩ = some (.int .i64 k)) :
    Fills 41 #[.pointer (some ⟨bs, 0, none⟩), .pointer (some ⟨bo, 0, none⟩), .pointer (some ⟨br, 0, none⟩), .pointer (some ⟨bp, 0, none⟩), .pointer (some ⟨bk, 0, none⟩)] ps.length Wm.heap.size (fun g W => Fl bs 0 Wm g W) (fsD (at1 row) (at1 ps k) E) (fsz (at1 row) (at1 ps k) E) := by
  intro W g i j hi hj hN hR
  have hbl : bs < Wm.heap.size := World.block_lt_of_cell? _ _ hs
  obtain ⟨A, cap, he0, hc0, hm0, _, hel0⟩ := lstFraction h0
  cases he0
  obtain ⟨r3, p3, rfl, hel0'⟩ := hel0 (by omega)
  obtain ⟨p, hpd, _, w1, w2⟩ := hel0' k hk
  obtain ⟨A, cap, he2, hc2, hm2, _, hel2⟩ := lstFraction h2
  cases he2
  obtain ⟨r2, p2, rfl, hel2'⟩ := hel2 (by omega)
  obtain ⟨x, hxd, _, x1, x2⟩ := hel2' i (by omega)
  obtain ⟨y, hyd, _, y1, y2⟩ := hel2' j (by omega)
  obtain ⟨a1, o1, r1, q1, d1, rfl, k1, k2, za, zr, he, c0, e1, e2⟩ := mat_at (w := Wm) (xss := matL ps.length ps.length E) (A := A3) (cap := cap3) (by rw [matL_len]; exact h3) (SqM.mat hp8 hE) (i := i) (j := j) (by rw [matL_len]; exact hi) (by rw [matL_len]; exact hj)
  rw [matL_len] at k1 k2 c0
  rw [at2_mat E hi hj] at he e1 e2
  have kp : ∀ {a : Addr} {u : Value}, (∀ x, u ≠ .bool x) → w.cell? a = some u → W.cell? a = some u := fun hu ha => hR.keep hs hu (bkeep hB ha)
  have kq : ∀ {a : Addr} {u : Value}, (∀ x, u ≠ .bool x) → Wm.cell? a = some u → W.cell? a = some u := fun hu ha => hR.keep hs hu ha
  have zr3 : r3 < w.heap.size := World.block_lt_of_cell? _ _ w1
  have zr2 : r2 < w.heap.size := World.block_lt_of_cell? _ _ x1
  have ex : at1 row i = x := by simp [at1, hxd]
  have ey : at1 row j = y := by simp [at1, hyd]
  have ep : at1 ps k = p := by simp [at1, hpd]
  rw [hrl] at hr hc2
  have hr1 := ne_of_blk hblk e1 (by simp)
  have ha1 := ne_of_blk hblk c0 (by simp)
  refine (fs4 W bs bo br bp bk a1 o1 _ r1 q1 d1 r2 p2 _ r3 p3 _ ps.length i j k g (E i j) x y p he (hrI x (List.mem_of_getElem? hxd)) (hrI y (List.mem_of_getElem? hyd)) (hpI p (List.mem_of_getElem? hpd)) hi hj hk hp8 (hR.flag hs) ((hR.frozen hbl).trans hf) n1 n2 n3 n4 ha1 hr1 (by omega) (by omega) (kq (by simp) ho) (kq (by simp) hr) (kq (by simp) hq) (kq (by simp) hkc) k1 k2 hc2 hc0 (kq (by simp) c0) (kq (by simp) e1) (kq (by simp) e2) (kp (by simp) x1) (kp (by simp) x2) (kp (by simp) y1) (kp (by simp) y2) (kp (by simp) w1) (kp (by simp) w2)).mono ?_
  rintro e W' ⟨he', hb⟩
  refine ⟨by unfold fsD; rw [ex, ey, ep]; exact he', ?_, by have := hb.size; rwa [setCell_size] at this, fun q h1 h2 => ?_⟩
  · refine Fl.trans hR ?_
    unfold fsz
    rw [ex, ey, ep]
    simp only [Bool.or_assoc] at hb ⊢
    exact hb
  · rw [hb.block q h2]
    exact Below.heap_setCell W _ _ q (by simp; omega)
set_option maxHeartbeats 2000000 in
theorem FromSquares_any (w : World) (ps : List (Int × Int)) (xss : List (List (Int × Int))) (v v' : Value) (h : Lst shFr w ps v) (h' : Lst (shL shFr) w xss v') (hbx : xss.length ≤ 1048576) :
    Calls Try.prog 15 #[v, v'] w fun e w' => MatRet w.heap.size (mR (fsC ps xss) (fsO ps xss)) (mC (fsC ps xss) (fsO ps xss)) e w' ∧ Below w.heap.size w w' := by
  have eg1 : ∀ args w, (callFunc 36 args).run Try.prog w = .ok (.enter 36 args) w := enters_of Try.func36 (by kernel_rfl) rfl
  have eg2 : ∀ args w, (callFunc 37 args).run Try.prog w = .ok (.enter 37 args) w := enters_of Try.func37 (by kernel_rfl) rfl
  have eg3 : ∀ args w, (callFunc 39 args).run Try.prog w = .ok (.enter 39 args) w := enters_of Try.func39 (by kernel_rfl) rfl
  have eg4 : ∀ args w, (callFunc 41 args).run Try.prog w = .ok (.enter 41 args) w := enters_of Try.func41 (by kernel_rfl) rfl
  have EG1 := Lib.hid eg1
  have EG2 := Lib.hid eg2
  have EG3 := Lib.hid eg3
  have EG4 := Lib.hid eg4
  clear eg1 eg2 eg3 eg4
  obtain ⟨A0, cap0, rfl, hc0, hm0⟩ := formFraction h
  obtain ⟨A1, cap1, rfl, hc1, hm1⟩ := formFrSS h'
  unfold maxLen at hm0 hm1
  cases hv : listOk ps
  · have e1 : fsC ps xss = 1 := by simp [fsC, hv]
    rw [e1]
    go_enter Try.func15, Try.ntmps15
    go_wp2_with (first | (go_at_call 34; refine Calls.mono (validList_any _ ps _ (h.below (by (try with_reducible refine bsz ?_); repeat (first | with_reducible exact Below.refl _ _ | ((with_reducible refine bpre ?_); (try simp only [Array.append_assoc]); repeat (first | with_reducible exact Pre.refl _ | with_reducible exact Pre.base _ _ | with_reducible refine Pre.cons _ ?_)) | with_reducible assumption | ((with_reducible refine bsetr ?_); rfl) | with_reducible refine Below.setCell ?_ (by simp <;> omega) _ | with_reducible refine bpl ?_ _ _ | with_reducible refine bal ?_ _ | with_reducible refine bdrew1 ?_ | with_reducible refine bdrew ?_ _)))) ?_; rintro e w1 ⟨rfl, hb⟩; obtain ⟨X, m, rfl⟩ := plsOf hb; clear hb))
    exact bodyPost_ret (v := .tuple #[.slice none 0 0, .int .i64 1]) (by simp [results, Try.results15, go_sem]) rfl ⟨MatRet.nil _ _ _, (by (try with_reducible refine bsz ?_); repeat (first | with_reducible exact Below.refl _ _ | ((with_reducible refine bpre ?_); (try simp only [Array.append_assoc]); repeat (first | with_reducible exact Pre.refl _ | with_reducible exact Pre.base _ _ | with_reducible refine Pre.cons _ ?_)) | with_reducible assumption | ((with_reducible refine bsetr ?_); rfl) | with_reducible refine Below.setCell ?_ (by simp <;> omega) _ | with_reducible refine bpl ?_ _ _ | with_reducible refine bal ?_ _ | with_reducible refine bdrew1 ?_ | with_reducible refine bdrew ?_ _))⟩
  · cases hb : anyB badL xss
    · by_cases h8 : ps.length ≤ 8
      · by_cases hl : xss.length = ps.length
        · have hl1 : ((xss.length : Int) != (ps.length : Int)) = false := by simp [hl]
          have HL := Lib.hid hl
          clear hl
          cases ho : anyB (offL ps.length) xss
          · rw [fsC_0 hv hb h8 HL.out ho]
            have HQ := Lib.hid (fs_sq hb h8 HL.out ho)
            have HP := Lib.hid (listOk_in hv)
            go_enter Try.func15, Try.ntmps15
            (go_wp2_with fail; refine Calls.mono (validList_any _ ps _ (h.below (by (try with_reducible refine bsz ?_); repeat (first | with_reducible exact Below.refl _ _ | ((with_reducible refine bpre ?_); (try simp only [Array.append_assoc]); repeat (first | with_reducible exact Pre.refl _ | with_reducible exact Pre.base _ _ | with_reducible refine Pre.cons _ ?_)) | with_reducible assumption | ((with_reducible refine bsetr ?_); rfl) | with_reducible refine Below.setCell ?_ (by simp <;> omega) _ | with_reducible refine bpl ?_ _ _ | with_reducible refine bal ?_ _ | with_reducible refine bdrew1 ?_ | with_reducible refine bdrew ?_ _)))) ?_; rintro e0 w1 ⟨rfl, hb⟩; obtain ⟨X0, m0, rfl⟩ := plsOf hb; clear hb)
            (go_wp2_with fail; refine Calls.mono (hasSS_any _ xss _ 36 #[] badL (h'.below (by (try with_reducible refine bsz ?_); repeat (first | with_reducible exact Below.refl _ _ | ((with_reducible refine bpre ?_); (try simp only [Array.append_assoc]); repeat (first | with_reducible exact Pre.refl _ | with_reducible exact Pre.base _ _ | with_reducible refine Pre.cons _ ?_)) | with_reducible assumption | ((with_reducible refine bsetr ?_); rfl) | with_reducible refine Below.setCell ?_ (by simp <;> omega) _ | with_reducible refine bpl ?_ _ _ | with_reducible refine bal ?_ _ | with_reducible refine bdrew1 ?_ | with_reducible refine bdrew ?_ _))) (by omega) EG1.out (fun W d vi _ _ hL => fs1 W d vi hL)) ?_; rintro e0 w1 ⟨rfl, hb⟩; obtain ⟨X1, m1, rfl⟩ := plsOf hb; clear hb)
            (go_wp2_with fail; refine Calls.mono (hasSS_any _ xss _ 37 #[.pointer (some ⟨w.heap.size + 1, 0, none⟩)] (offL ps.length) (h'.below (by (try with_reducible refine bsz ?_); repeat (first | with_reducible exact Below.refl _ _ | ((with_reducible refine bpre ?_); (try simp only [Array.append_assoc]); repeat (first | with_reducible exact Pre.refl _ | with_reducible exact Pre.base _ _ | with_reducible refine Pre.cons _ ?_)) | with_reducible assumption | ((with_reducible refine bsetr ?_); rfl) | with_reducible refine Below.setCell ?_ (by simp <;> omega) _ | with_reducible refine bpl ?_ _ _ | with_reducible refine bal ?_ _ | with_reducible refine bdrew1 ?_ | with_reducible refine bdrew ?_ _))) (by omega) EG2.out (fun W d vi hB _ hL => fs2 W d vi _ ps.length hL ((bcell hB).1 _ _ (by simp [go_sem]; try omega) |>.trans (by simp [go_sem])))) ?_; rintro e0 w1 ⟨rfl, hb⟩; obtain ⟨X2, m2, rfl⟩ := plsOf hb; clear hb)
            go_wp2_with fail
            refine Calls.mono (fsZero _ ps.length h8) ?_
            rintro e0 w1 ⟨A3, cap3, F3, rfl, hO3, hb⟩
            obtain ⟨X3, m3, rfl⟩ := plsOf hb
            clear hb
            (try simp only [pls_pls, drew_pls, drewN_pls, pls_drew, pls_drewN] at hO3)
            have hO3 := Lib.hid hO3
            go_wp2_with fail
            go_loopw [40] (fun i wr => ∃ (k : Nat) (A : Option Addr) (cap : Nat) (F : List Nat), k ≤ xss.length ∧ i = .int .i64 k ∧ wr.heap[w.heap.size + 1 + 1 + (X0.size + (X1.size + (X2.size + X3.size)))]? = some (.cells #[.bool (fsZ ps.length (at2 xss) (at1 ps) k)] 67 (0, 0)) ∧ wr.heap[w.heap.size + 1 + 1 + (X0.size + (X1.size + (X2.size + X3.size))) + 1]? = some (.cells #[.slice A ps.length cap] 36 (0, 0)) ∧ wr.heap[w.heap.size + 1]? = some (.cells #[.int .i64 ps.length] 3 (0, 0)) ∧ wr.heap[w.heap.size]? = some (.cells #[.slice A0 ps.length cap0] 39 (0, 0)) ∧ Hid (Own (shL shFr) w.heap.size wr (matL ps.length ps.length (fsE (at2 xss) (at1 ps) k)) (.slice A ps.length cap) F) ∧ Below w.heap.size w wr) (fun i _ => xss.length - (intOf i).toNat)
            case atStart => exact ⟨0, A3, cap3, F3, Nat.zero_le _, rfl, (by rw [show fsZ ps.length (at2 xss) (at1 ps) 0 = false from rfl]; exact (by repeat (first | with_reducible assumption | with_reducible refine pls_block _ _ ?_ | with_reducible apply blkset2 | with_reducible apply blkset1 | ((with_reducible refine blksetN ?_ ?_ _); (focus (simp <;> omega))) | with_reducible exact blknew _ _ | ((with_reducible refine blknew' _ _ _ ?_); (simp <;> omega)) | with_reducible refine blkal ?_ _))), (by repeat (first | with_reducible assumption | with_reducible refine pls_block _ _ ?_ | with_reducible apply blkset2 | with_reducible apply blkset1 | ((with_reducible refine blksetN ?_ ?_ _); (focus (simp <;> omega))) | with_reducible exact blknew _ _ | ((with_reducible refine blknew' _ _ _ ?_); (simp <;> omega)) | with_reducible refine blkal ?_ _)), (by repeat (first | with_reducible assumption | with_reducible refine pls_block _ _ ?_ | with_reducible apply blkset2 | with_reducible apply blkset1 | ((with_reducible refine blksetN ?_ ?_ _); (focus (simp <;> omega))) | with_reducible exact blknew _ _ | ((with_reducible refine blknew' _ _ _ ?_); (simp <;> omega)) | with_reducible refine blkal ?_ _)), (by repeat (first | with_reducible assumption | with_reducible refine pls_block _ _ ?_ | with_reducible apply blkset2 | with_reducible apply blkset1 | ((with_reducible refine blksetN ?_ ?_ _); (focus (simp <;> omega))) | with_reducible exact blknew _ _ | ((with_reducible refine blknew' _ _ _ ?_); (simp <;> omega)) | with_reducible refine blkal ?_ _)), Lib.hid ((hO3.out.pre (W' := (w.alloc (.cells #[.slice A0 ps.length cap0] 39)).alloc (.cells #[.int .i64 ps.length] 3)) (k := m3) (Pre.refl _) (by simp <;> omega) (by simp) (Nat.le_refl _)).below (by simp <;> omega) (by (try with_reducible refine bsz ?_); repeat (first | with_reducible exact Below.refl _ _ | ((with_reducible refine bpre ?_); (try simp only [Array.append_assoc]); repeat (first | with_reducible exact Pre.refl _ | with_reducible exact Pre.base _ _ | with_reducible refine Pre.cons _ ?_)) | with_reducible assumption | ((with_reducible refine bsetr ?_); rfl) | with_reducible refine Below.setCell ?_ (by simp <;> omega) _ | with_reducible refine bpl ?_ _ _ | with_reducible refine bal ?_ _ | with_reducible refine bdrew1 ?_ | with_reducible refine bdrew ?_ _))), (by (try with_reducible refine bsz ?_); repeat (first | with_reducible exact Below.refl _ _ | ((with_reducible refine bpre ?_); (try simp only [Array.append_assoc]); repeat (first | with_reducible exact Pre.refl _ | with_reducible exact Pre.base _ _ | with_reducible refine Pre.cons _ ?_)) | with_reducible assumption | ((with_reducible refine bsetr ?_); rfl) | with_reducible refine Below.setCell ?_ (by simp <;> omega) _ | with_reducible refine bpl ?_ _ _ | with_reducible refine bal ?_ _ | with_reducible refine bdrew1 ?_ | with_reducible refine bdrew ?_ _))⟩
            case round =>
              obtain ⟨k, A, cap, F, hk, rfl, b0, b1, b2, b3, hO, hB⟩ := hrel
              have HS := Lib.hid hO
              have hIn := fs_in HQ.out HL.out HP.out k (by have := HL.out; omega)
              have HIN := Lib.hid hIn
              clear hIn hO
              obtain ⟨s0, f0⟩ := blk1 b0
              obtain ⟨s1, f1⟩ := blk1 b1
              obtain ⟨s2, f2⟩ := blk1 b2
              obtain ⟨s3, f3⟩ := blk1 b3
              have z0 := blklt b0
              have z1 := blklt b1
              have z2 := blklt b2
              have z3 := blklt b3
              have B0 := Lib.hid b0
              have B1 := Lib.hid b1
              have B2 := Lib.hid b2
              have B3 := Lib.hid b3
              clear b0 b1 b2 b3
              have hzs := hB.size
              by_cases hlt : k < xss.length
              · obtain ⟨A9, cap9, he9, _, _, hel⟩ := lstFrSS h'
                cases he9
                obtain ⟨bl, off, rfl, hel1⟩ := hel (by omega)
                obtain ⟨row, vi, hd, hLr, c0⟩ := hel1 k hlt
                clear hel hel1
                obtain ⟨hrl, hrI⟩ := HQ.out.2 row (List.mem_of_getElem? hd)
                obtain ⟨A2, cap2, rfl, _, _⟩ := formFraction hLr
                replace c0 := bkeep hB c0
                have hXk : Hid (at2 xss k = at1 row) := Lib.hid (by funext i; simp [at2, at1, hd])
                have HRL := Lib.hid (hrl.trans HL.out)
                have HRI := Lib.hid hrI
                have HLR := Lib.hid hLr
                have hkp : k < ps.length := by have := HL.out; omega
                clear hd hrl hrI hLr
                go_wp2_with fail
                refine Calls.mono (matrix_any _ ps.length 41 _ (fun g W => Fl (w.heap.size + 1 + 1 + (X0.size + (X1.size + (X2.size + X3.size)))) 0 _ g W) (fsZ ps.length (at2 xss) (at1 ps) k) (fsD (at1 row) (at1 ps k) (fsE (at2 xss) (at1 ps) k)) (fsz (at1 row) (at1 ps k) (fsE (at2 xss) (at1 ps) k)) h8 EG4.out (fun g W W' h1 h2 => Below.trans h1 h2) (Fl.start (g := fsZ ps.length (at2 xss) (at1 ps) k) (by first | assumption | simp [go_sem, *])) (fun i j hi hj => inF_ok (by rw [← hXk.out]; exact fs_in HQ.out HL.out HP.out (k + 1) (by omega) i hi j hj)) (fsFills (bs := w.heap.size + 1 + 1 + (X0.size + (X1.size + (X2.size + X3.size)))) (bo := w.heap.size + 1 + 1 + (X0.size + (X1.size + (X2.size + X3.size))) + 1) (br := wr.heap.size + 1) (bp := w.heap.size) (bk := wr.heap.size) (k := k) (E := fsE (at2 xss) (at1 ps) k) h HLR.out (by (try with_reducible refine bsz ?_); repeat (first | with_reducible exact Below.refl _ _ | ((with_reducible refine bpre ?_); (try simp only [Array.append_assoc]); repeat (first | with_reducible exact Pre.refl _ | with_reducible exact Pre.base _ _ | with_reducible refine Pre.cons _ ?_)) | with_reducible assumption | ((with_reducible refine bsetr ?_); rfl) | with_reducible refine Below.setCell ?_ (by simp <;> omega) _ | with_reducible refine bpl ?_ _ _ | with_reducible refine bal ?_ _ | with_reducible refine bdrew1 ?_ | with_reducible refine bdrew ?_ _)) (HS.out.lst.below (by (try with_reducible refine bsz ?_); repeat (first | with_reducible exact Below.refl _ _ | ((with_reducible refine bpre ?_); (try simp only [Array.append_assoc]); repeat (first | with_reducible exact Pre.refl _ | with_reducible exact Pre.base _ _ | with_reducible refine Pre.cons _ ?_)) | with_reducible assumption | ((with_reducible refine bsetr ?_); rfl) | with_reducible refine Below.setCell ?_ (by simp <;> omega) _ | with_reducible refine bpl ?_ _ _ | with_reducible refine bal ?_ _ | with_reducible refine bdrew1 ?_ | with_reducible refine bdrew ?_ _))) (fsZ ps.length (at2 xss) (at1 ps) k) (by have b0 := B0.out; exact (by repeat (first | with_reducible assumption | with_reducible refine pls_block _ _ ?_ | with_reducible apply blkset2 | with_reducible apply blkset1 | ((with_reducible refine blksetN ?_ ?_ _); (focus (simp <;> omega))) | with_reducible exact blknew _ _ | ((with_reducible refine blknew' _ _ _ ?_); (simp <;> omega)) | with_reducible refine blkal ?_ _))) h8 HRL.out hkp HP.out HRI.out HIN.out (by omega) (by omega) (by omega) (by omega) (by omega) (by first | assumption | simp [go_sem, *]) (by first | assumption | simp [go_sem, *]) (by first | assumption | simp [go_sem, *]) (by first | assumption | simp [go_sem, *]) (by first | assumption | simp [go_sem, *]) (by first | assumption | simp [go_sem, *]))) ?_
                rintro e0 w1 ⟨A5, cap5, F5, rfl, hO5, hR5, hz5⟩
                obtain ⟨X5, m5, rfl⟩ := plsOf hR5.raw
                (try simp only [pls_pls, drew_pls, drewN_pls, pls_drew, pls_drewN] at hO5)
                have hO5 := Lib.hid hO5
                have hEq : Hid (fsE (at2 xss) (at1 ps) (k + 1) = fsD (at1 row) (at1 ps k) (fsE (at2 xss) (at1 ps) k)) := Lib.hid (by rw [← hXk.out]; rfl)
                have hZq : Hid (fsZ ps.length (at2 xss) (at1 ps) (k + 1) = (fsZ ps.length (at2 xss) (at1 ps) k || matZ ps.length ps.length (fsz (at1 row) (at1 ps k) (fsE (at2 xss) (at1 ps) k)))) := Lib.hid (by rw [← hXk.out]; rfl)
                clear hR5 hz5
                go_wp2_with fail
                go_roundw
                case rel =>
                  have b0 := B0.out
                  have b1 := B1.out
                  have b2 := B2.out
                  have b3 := B3.out
                  refine ⟨k + 1, A5, cap5, F5, by omega, by go_num, ?_, (by repeat (first | with_reducible assumption | with_reducible refine pls_block _ _ ?_ | with_reducible apply blkset2 | with_reducible apply blkset1 | ((with_reducible refine blksetN ?_ ?_ _); (focus (simp <;> omega))) | with_reducible exact blknew _ _ | ((with_reducible refine blknew' _ _ _ ?_); (simp <;> omega)) | with_reducible refine blkal ?_ _)), (by repeat (first | with_reducible assumption | with_reducible refine pls_block _ _ ?_ | with_reducible apply blkset2 | with_reducible apply blkset1 | ((with_reducible refine blksetN ?_ ?_ _); (focus (simp <;> omega))) | with_reducible exact blknew _ _ | ((with_reducible refine blknew' _ _ _ ?_); (simp <;> omega)) | with_reducible refine blkal ?_ _)), (by repeat (first | with_reducible assumption | with_reducible refine pls_block _ _ ?_ | with_reducible apply blkset2 | with_reducible apply blkset1 | ((with_reducible refine blksetN ?_ ?_ _); (focus (simp <;> omega))) | with_reducible exact blknew _ _ | ((with_reducible refine blknew' _ _ _ ?_); (simp <;> omega)) | with_reducible refine blkal ?_ _)), Lib.hid ?_, ?_⟩
                  · rw [hZq.out]; exact (by repeat (first | with_reducible assumption | with_reducible refine pls_block _ _ ?_ | with_reducible apply blkset2 | with_reducible apply blkset1 | ((with_reducible refine blksetN ?_ ?_ _); (focus (simp <;> omega))) | with_reducible exact blknew _ _ | ((with_reducible refine blknew' _ _ _ ?_); (simp <;> omega)) | with_reducible refine blkal ?_ _))
                  · rw [hEq.out]; exact hO5.out.pre (Pre.refl _) (by simp) (by simp) (by simp <;> omega)
                  · exact (by (try with_reducible refine bsz ?_); repeat (first | with_reducible exact Below.refl _ _ | ((with_reducible refine bpre ?_); (try simp only [Array.append_assoc]); repeat (first | with_reducible exact Pre.refl _ | with_reducible exact Pre.base _ _ | with_reducible refine Pre.cons _ ?_)) | with_reducible assumption | ((with_reducible refine bsetr ?_); rfl) | with_reducible refine Below.setCell ?_ (by simp <;> omega) _ | with_reducible refine bpl ?_ _ _ | with_reducible refine bal ?_ _ | with_reducible refine bdrew1 ?_ | with_reducible refine bdrew ?_ _))
                case measure => simp [intOf]; omega
              · have e : k = xss.length := by omega
                have hkn : k = ps.length := by have := HL.out; omega
                clear e
                subst hkn
                cases hzz : fsZ ps.length (at2 xss) (at1 ps) ps.length
                · have hr : Hid (fsO ps xss = some (matL ps.length ps.length (fsE (at2 xss) (at1 ps) ps.length))) := Lib.hid (by unfold fsO; rw [hzz]; rfl)
                  go_wp2_with (first | (go_at_call 44; refine Calls.mono (toldMatrix_any _ _ false _ _ (by first | omega | (simp <;> omega)) (by first | assumption | simp [go_sem, *])) ?_; rintro e w1 ⟨rfl, hb⟩; obtain ⟨X, m, rfl⟩ := plsOf hb; clear hb))
                  refine bodyPost_ret (v := .tuple #[.slice A ps.length cap, .int .i64 0]) (by simp [results, Try.results15, go_sem, *]) rfl ⟨?_, (by (try with_reducible refine bsz ?_); repeat (first | with_reducible exact Below.refl _ _ | ((with_reducible refine bpre ?_); (try simp only [Array.append_assoc]); repeat (first | with_reducible exact Pre.refl _ | with_reducible exact Pre.base _ _ | with_reducible refine Pre.cons _ ?_)) | with_reducible assumption | ((with_reducible refine bsetr ?_); rfl) | with_reducible refine Below.setCell ?_ (by simp <;> omega) _ | with_reducible refine bpl ?_ _ _ | with_reducible refine bal ?_ _ | with_reducible refine bdrew1 ?_ | with_reducible refine bdrew ?_ _))⟩
                  rw [hr.out]
                  exact MatRet.some (matL_len _ _ _) (HS.out.below (Nat.le_refl _) (by (try with_reducible refine bsz ?_); repeat (first | with_reducible exact Below.refl _ _ | ((with_reducible refine bpre ?_); (try simp only [Array.append_assoc]); repeat (first | with_reducible exact Pre.refl _ | with_reducible exact Pre.base _ _ | with_reducible refine Pre.cons _ ?_)) | with_reducible assumption | ((with_reducible refine bsetr ?_); rfl) | with_reducible refine Below.setCell ?_ (by simp <;> omega) _ | with_reducible refine bpl ?_ _ _ | with_reducible refine bal ?_ _ | with_reducible refine bdrew1 ?_ | with_reducible refine bdrew ?_ _)))
                · have hr : Hid (fsO ps xss = none) := Lib.hid (by unfold fsO; rw [hzz]; rfl)
                  go_wp2_with (first | (go_at_call 44; refine Calls.mono (toldMatrix_any _ _ true _ _ (by first | omega | (simp <;> omega)) (by first | assumption | simp [go_sem, *])) ?_; rintro e w1 ⟨rfl, hb⟩; obtain ⟨X, m, rfl⟩ := plsOf hb; clear hb))
                  refine bodyPost_ret (v := .tuple #[.slice none 0 0, .int .i64 3]) (by simp [results, Try.results15, go_sem, *]) rfl ⟨?_, (by (try with_reducible refine bsz ?_); repeat (first | with_reducible exact Below.refl _ _ | ((with_reducible refine bpre ?_); (try simp only [Array.append_assoc]); repeat (first | with_reducible exact Pre.refl _ | with_reducible exact Pre.base _ _ | with_reducible refine Pre.cons _ ?_)) | with_reducible assumption | ((with_reducible refine bsetr ?_); rfl) | with_reducible refine Below.setCell ?_ (by simp <;> omega) _ | with_reducible refine bpl ?_ _ _ | with_reducible refine bal ?_ _ | with_reducible refine bdrew1 ?_ | with_reducible refine bdrew ?_ _))⟩
                  rw [hr.out]
                  exact MatRet.nil _ _ _
          · have e1 : fsC ps xss = 2 := by simp [fsC, hv, hb, ho]
            rw [e1]
            go_enter Try.func15, Try.ntmps15
            go_wp2_with (first | (go_at_call 34; refine Calls.mono (validList_any _ ps _ (h.below (by (try with_reducible refine bsz ?_); repeat (first | with_reducible exact Below.refl _ _ | ((with_reducible refine bpre ?_); (try simp only [Array.append_assoc]); repeat (first | with_reducible exact Pre.refl _ | with_reducible exact Pre.base _ _ | with_reducible refine Pre.cons _ ?_)) | with_reducible assumption | ((with_reducible refine bsetr ?_); rfl) | with_reducible refine Below.setCell ?_ (by simp <;> omega) _ | with_reducible refine bpl ?_ _ _ | with_reducible refine bal ?_ _ | with_reducible refine bdrew1 ?_ | with_reducible refine bdrew ?_ _)))) ?_; rintro e w1 ⟨rfl, hb⟩; obtain ⟨X, m, rfl⟩ := plsOf hb; clear hb) | (go_at_call 35; refine Calls.mono (hasSS_any _ xss _ 36 #[] badL (h'.below (by (try with_reducible refine bsz ?_); repeat (first | with_reducible exact Below.refl _ _ | ((with_reducible refine bpre ?_); (try simp only [Array.append_assoc]); repeat (first | with_reducible exact Pre.refl _ | with_reducible exact Pre.base _ _ | with_reducible refine Pre.cons _ ?_)) | with_reducible assumption | ((with_reducible refine bsetr ?_); rfl) | with_reducible refine Below.setCell ?_ (by simp <;> omega) _ | with_reducible refine bpl ?_ _ _ | with_reducible refine bal ?_ _ | with_reducible refine bdrew1 ?_ | with_reducible refine bdrew ?_ _))) (by omega) EG1.out (fun W d vi _ _ hL => fs1 W d vi hL)) ?_; rintro e w1 ⟨rfl, hb⟩; obtain ⟨X, m, rfl⟩ := plsOf hb; clear hb) | (go_at_call 35; refine Calls.mono (hasSS_any _ xss _ 37 #[.pointer (some ⟨w.heap.size + 1, 0, none⟩)] (offL ps.length) (h'.below (by (try with_reducible refine bsz ?_); repeat (first | with_reducible exact Below.refl _ _ | ((with_reducible refine bpre ?_); (try simp only [Array.append_assoc]); repeat (first | with_reducible exact Pre.refl _ | with_reducible exact Pre.base _ _ | with_reducible refine Pre.cons _ ?_)) | with_reducible assumption | ((with_reducible refine bsetr ?_); rfl) | with_reducible refine Below.setCell ?_ (by simp <;> omega) _ | with_reducible refine bpl ?_ _ _ | with_reducible refine bal ?_ _ | with_reducible refine bdrew1 ?_ | with_reducible refine bdrew ?_ _))) (by omega) EG2.out (fun W d vi hB _ hL => fs2 W d vi _ ps.length hL ((bcell hB).1 _ _ (by simp [go_sem]; try omega) |>.trans (by simp [go_sem])))) ?_; rintro e w1 ⟨rfl, hb⟩; obtain ⟨X, m, rfl⟩ := plsOf hb; clear hb))
            (try any_goals (exfalso; omega))
            exact bodyPost_ret (v := .tuple #[.slice none 0 0, .int .i64 2]) (by simp [results, Try.results15, go_sem]) rfl ⟨MatRet.nil _ _ _, (by (try with_reducible refine bsz ?_); repeat (first | with_reducible exact Below.refl _ _ | ((with_reducible refine bpre ?_); (try simp only [Array.append_assoc]); repeat (first | with_reducible exact Pre.refl _ | with_reducible exact Pre.base _ _ | with_reducible refine Pre.cons _ ?_)) | with_reducible assumption | ((with_reducible refine bsetr ?_); rfl) | with_reducible refine Below.setCell ?_ (by simp <;> omega) _ | with_reducible refine bpl ?_ _ _ | with_reducible refine bal ?_ _ | with_reducible refine bdrew1 ?_ | with_reducible refine bdrew ?_ _))⟩
        · have e1 : fsC ps xss = 2 := by simp [fsC, hv, hb, hl]
          rw [e1]
          have hl1 : ((xss.length : Int) != (ps.length : Int)) = true := by simp; omega
          clear hl
          go_enter Try.func15, Try.ntmps15
          go_wp2_with (first | (go_at_call 34; refine Calls.mono (validList_any _ ps _ (h.below (by (try with_reducible refine bsz ?_); repeat (first | with_reducible exact Below.refl _ _ | ((with_reducible refine bpre ?_); (try simp only [Array.append_assoc]); repeat (first | with_reducible exact Pre.refl _ | with_reducible exact Pre.base _ _ | with_reducible refine Pre.cons _ ?_)) | with_reducible assumption | ((with_reducible refine bsetr ?_); rfl) | with_reducible refine Below.setCell ?_ (by simp <;> omega) _ | with_reducible refine bpl ?_ _ _ | with_reducible refine bal ?_ _ | with_reducible refine bdrew1 ?_ | with_reducible refine bdrew ?_ _)))) ?_; rintro e w1 ⟨rfl, hb⟩; obtain ⟨X, m, rfl⟩ := plsOf hb; clear hb) | (go_at_call 35; refine Calls.mono (hasSS_any _ xss _ 36 #[] badL (h'.below (by (try with_reducible refine bsz ?_); repeat (first | with_reducible exact Below.refl _ _ | ((with_reducible refine bpre ?_); (try simp only [Array.append_assoc]); repeat (first | with_reducible exact Pre.refl _ | with_reducible exact Pre.base _ _ | with_reducible refine Pre.cons _ ?_)) | with_reducible assumption | ((with_reducible refine bsetr ?_); rfl) | with_reducible refine Below.setCell ?_ (by simp <;> omega) _ | with_reducible refine bpl ?_ _ _ | with_reducible refine bal ?_ _ | with_reducible refine bdrew1 ?_ | with_reducible refine bdrew ?_ _))) (by omega) EG1.out (fun W d vi _ _ hL => fs1 W d vi hL)) ?_; rintro e w1 ⟨rfl, hb⟩; obtain ⟨X, m, rfl⟩ := plsOf hb; clear hb))
          (try any_goals (exfalso; omega))
          exact bodyPost_ret (v := .tuple #[.slice none 0 0, .int .i64 2]) (by simp [results, Try.results15, go_sem]) rfl ⟨MatRet.nil _ _ _, (by (try with_reducible refine bsz ?_); repeat (first | with_reducible exact Below.refl _ _ | ((with_reducible refine bpre ?_); (try simp only [Array.append_assoc]); repeat (first | with_reducible exact Pre.refl _ | with_reducible exact Pre.base _ _ | with_reducible refine Pre.cons _ ?_)) | with_reducible assumption | ((with_reducible refine bsetr ?_); rfl) | with_reducible refine Below.setCell ?_ (by simp <;> omega) _ | with_reducible refine bpl ?_ _ _ | with_reducible refine bal ?_ _ | with_reducible refine bdrew1 ?_ | with_reducible refine bdrew ?_ _))⟩
      · have e1 : fsC ps xss = 2 := by simp [fsC, hv, hb, h8]
        rw [e1]
        go_enter Try.func15, Try.ntmps15
        go_wp2_with (first | (go_at_call 34; refine Calls.mono (validList_any _ ps _ (h.below (by (try with_reducible refine bsz ?_); repeat (first | with_reducible exact Below.refl _ _ | ((with_reducible refine bpre ?_); (try simp only [Array.append_assoc]); repeat (first | with_reducible exact Pre.refl _ | with_reducible exact Pre.base _ _ | with_reducible refine Pre.cons _ ?_)) | with_reducible assumption | ((with_reducible refine bsetr ?_); rfl) | with_reducible refine Below.setCell ?_ (by simp <;> omega) _ | with_reducible refine bpl ?_ _ _ | with_reducible refine bal ?_ _ | with_reducible refine bdrew1 ?_ | with_reducible refine bdrew ?_ _)))) ?_; rintro e w1 ⟨rfl, hb⟩; obtain ⟨X, m, rfl⟩ := plsOf hb; clear hb) | (go_at_call 35; refine Calls.mono (hasSS_any _ xss _ 36 #[] badL (h'.below (by (try with_reducible refine bsz ?_); repeat (first | with_reducible exact Below.refl _ _ | ((with_reducible refine bpre ?_); (try simp only [Array.append_assoc]); repeat (first | with_reducible exact Pre.refl _ | with_reducible exact Pre.base _ _ | with_reducible refine Pre.cons _ ?_)) | with_reducible assumption | ((with_reducible refine bsetr ?_); rfl) | with_reducible refine Below.setCell ?_ (by simp <;> omega) _ | with_reducible refine bpl ?_ _ _ | with_reducible refine bal ?_ _ | with_reducible refine bdrew1 ?_ | with_reducible refine bdrew ?_ _))) (by omega) EG1.out (fun W d vi _ _ hL => fs1 W d vi hL)) ?_; rintro e w1 ⟨rfl, hb⟩; obtain ⟨X, m, rfl⟩ := plsOf hb; clear hb))
        (try any_goals (exfalso; omega))
        exact bodyPost_ret (v := .tuple #[.slice none 0 0, .int .i64 2]) (by simp [results, Try.results15, go_sem]) rfl ⟨MatRet.nil _ _ _, (by (try with_reducible refine bsz ?_); repeat (first | with_reducible exact Below.refl _ _ | ((with_reducible refine bpre ?_); (try simp only [Array.append_assoc]); repeat (first | with_reducible exact Pre.refl _ | with_reducible exact Pre.base _ _ | with_reducible refine Pre.cons _ ?_)) | with_reducible assumption | ((with_reducible refine bsetr ?_); rfl) | with_reducible refine Below.setCell ?_ (by simp <;> omega) _ | with_reducible refine bpl ?_ _ _ | with_reducible refine bal ?_ _ | with_reducible refine bdrew1 ?_ | with_reducible refine bdrew ?_ _))⟩
    · have e1 : fsC ps xss = 1 := by simp [fsC, hb]
      rw [e1]
      go_enter Try.func15, Try.ntmps15
      go_wp2_with (first | (go_at_call 34; refine Calls.mono (validList_any _ ps _ (h.below (by (try with_reducible refine bsz ?_); repeat (first | with_reducible exact Below.refl _ _ | ((with_reducible refine bpre ?_); (try simp only [Array.append_assoc]); repeat (first | with_reducible exact Pre.refl _ | with_reducible exact Pre.base _ _ | with_reducible refine Pre.cons _ ?_)) | with_reducible assumption | ((with_reducible refine bsetr ?_); rfl) | with_reducible refine Below.setCell ?_ (by simp <;> omega) _ | with_reducible refine bpl ?_ _ _ | with_reducible refine bal ?_ _ | with_reducible refine bdrew1 ?_ | with_reducible refine bdrew ?_ _)))) ?_; rintro e w1 ⟨rfl, hb⟩; obtain ⟨X, m, rfl⟩ := plsOf hb; clear hb) | (go_at_call 35; refine Calls.mono (hasSS_any _ xss _ 36 #[] badL (h'.below (by (try with_reducible refine bsz ?_); repeat (first | with_reducible exact Below.refl _ _ | ((with_reducible refine bpre ?_); (try simp only [Array.append_assoc]); repeat (first | with_reducible exact Pre.refl _ | with_reducible exact Pre.base _ _ | with_reducible refine Pre.cons _ ?_)) | with_reducible assumption | ((with_reducible refine bsetr ?_); rfl) | with_reducible refine Below.setCell ?_ (by simp <;> omega) _ | with_reducible refine bpl ?_ _ _ | with_reducible refine bal ?_ _ | with_reducible refine bdrew1 ?_ | with_reducible refine bdrew ?_ _))) (by omega) EG1.out (fun W d vi _ _ hL => fs1 W d vi hL)) ?_; rintro e w1 ⟨rfl, hb⟩; obtain ⟨X, m, rfl⟩ := plsOf hb; clear hb))
      exact bodyPost_ret (v := .tuple #[.slice none 0 0, .int .i64 1]) (by simp [results, Try.results15, go_sem]) rfl ⟨MatRet.nil _ _ _, (by (try with_reducible refine bsz ?_); repeat (first | with_reducible exact Below.refl _ _ | ((with_reducible refine bpre ?_); (try simp only [Array.append_assoc]); repeat (first | with_reducible exact Pre.refl _ | with_reducible exact Pre.base _ _ | with_reducible refine Pre.cons _ ?_)) | with_reducible assumption | ((with_reducible refine bsetr ?_); rfl) | with_reducible refine Below.setCell ?_ (by simp <;> omega) _ | with_reducible refine bpl ?_ _ _ | with_reducible refine bal ?_ _ | with_reducible refine bdrew1 ?_ | with_reducible refine bdrew ?_ _))⟩
end Go.Proofs.Ytenaiegidcjanaa
