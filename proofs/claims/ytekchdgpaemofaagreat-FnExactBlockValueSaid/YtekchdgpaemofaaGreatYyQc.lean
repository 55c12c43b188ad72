import Derived.Deep.CutRange
import Derived.Test.YtekchdgpaemofaaGreatYyQa
import Derived.Test.YtekchdgpaemofaaGreatYyJj
import Derived.Test.YtekchdgpaemofaaGreatYyJg
import Derived.Test.YtekchdgpaemofaaGreatYySm
import Derived.Test.YtekchdgpaemofaaGreatYyAz
import Derived.Test.YtekchdgpaemofaaGreatYyAx
import Derived.Test.YtekchdgpaemofaaGreatYyDu
import Derived.Test.YtekchdgpaemofaaGreatYyRk
namespace Go.Proofs.YtekchdgpaemofaaGreat
open Go.ChangeShapes Go.WideShapes Go.ChangeAt Go.RowKit
set_option linter.unusedVariables false
set_option linter.unusedSimpArgs false
attribute [local irreducible] Calls
def mixL (E D : Nat → Nat → Int × Int) (k l a b : Nat) : Int × Int := if a < k ∨ (a = k ∧ b < l) then D a b else E a b
theorem mixL_zero (E D : Nat → Nat → Int × Int) : mixL E D 0 0 = E := by funext a b; simp [mixL]
theorem mixL_step (E D : Nat → Nat → Int × Int) (k l : Nat) : (fun a b => if a = k ∧ b = l then D k l else mixL E D k l a b) = mixL E D k (l + 1) := by
  funext a b
  unfold mixL
  by_cases h1 : a = k ∧ b = l
  · obtain ⟨rfl, rfl⟩ := h1
    rw [if_pos ⟨rfl, rfl⟩, if_pos (.inr ⟨rfl, by omega⟩)]
  · rw [if_neg h1]
    by_cases h2 : a < k ∨ a = k ∧ b < l
    · rw [if_pos h2, if_pos (by omega)]
    · rw [if_neg h2, if_neg (by omega)]
theorem mixL_row {n k : Nat} (E D : Nat → Nat → Int × Int) : matL n n (mixL E D k n) = matL n n (mixL E D (k + 1) 0) := matL_congr fun a ha b hb => by
  unfold mixL
  by_cases h2 : a < k ∨ a = k ∧ b < n
  · rw [if_pos h2, if_pos (by omega)]
  · rw [if_neg h2, if_neg (by omega)]
theorem mixL_all {n : Nat} (E D : Nat → Nat → Int × Int) : matL n n (mixL E D n 0) = matL n n D := matL_congr fun a ha b hb => by unfold mixL; rw [if_pos (.inl ha)]
theorem mixL_at (E D : Nat → Nat → Int × Int) (k l : Nat) : mixL E D k l k l = E k l := by unfold mixL; rw [if_neg (by omega)]
theorem mixL_in {n : Nat} {E D : Nat → Nat → Int × Int} (hE : ∀ i, i < n → ∀ j, j < n → inF (E i j)) (hD : ∀ i, i < n → ∀ j, j < n → inF (D i j)) (k l : Nat) : ∀ i, i < n → ∀ j, j < n → inF (mixL E D k l i j) := fun i hi j hj => by
  unfold mixL
  split
  · exact hD i hi j hj
  · exact hE i hi j hj
theorem mat_get {B : Nat} {w : World} {n k l cap : Nat} {E : Nat → Nat → Int × Int} {A : Option Addr} {F : List Nat} (h : Own (shL shFr) B w (matL n n E) (.slice A n cap) F) (hn : n ≤ 8) (hE : ∀ i, i < n → ∀ j, j < n → inF (E i j)) (hk : k < n) (hl : l < n) :
    ∃ g2 g3 cap4, A = some ⟨g2, 0, none⟩ ∧ n ≤ cap ∧ n ≤ cap4 ∧ g2 < w.heap.size ∧ g3 < w.heap.size ∧ B ≤ g3 ∧ g3 ∈ F ∧ w.cell? ⟨g2, k, none⟩ = some (.slice (some ⟨g3, 0, none⟩) n cap4) ∧ w.frozen? ⟨g3, l * 2, none⟩ = false ∧ w.frozen? ⟨g3, l * 2 + 1, none⟩ = false ∧
      w.cell? ⟨g3, l * 2, none⟩ = some (.int .i64 (E k l).1) ∧ w.cell? ⟨g3, l * 2 + 1, none⟩ = some (.int .i64 (E k l).2) ∧
      ∀ (z : Int × Int) (W' : World), okFr z → Below w.heap.size ((w.setCell ⟨g3, l * 2, none⟩ (.int .i64 z.1)).setCell ⟨g3, l * 2 + 1, none⟩ (.int .i64 z.2)) W' →
        Own (shL shFr) B W' (matL n n fun a b => if a = k ∧ b = l then z else E a b) (.slice A n cap) F := by
  obtain ⟨g2, cap3, Fi, vi, hv, h7, f0, hOi, hsub, hgi, hgF, hback⟩ := h.rowFr (matL_get _ hk)
  have hlr : l < (rowL n (E k)).length := by rw [rowL_len]; exact hl
  obtain ⟨g3, cap4, hv2, rfl, h8, h9, e3, e4, h4, hput⟩ := hOi.put hlr
  rw [rowL_len] at hv2
  subst hv2
  have hA : A = some ⟨g2, 0, none⟩ := by injection hv
  subst hA
  have h2 : n ≤ cap4 := by obtain ⟨_, _, he, hcc, _⟩ := rep_slice hOi.lst; injection he with he1 he2 he3; rw [← he2, ← he3] at hcc; exact hcc
  have h1 : n ≤ cap := by obtain ⟨_, _, he, hcc, _⟩ := rep_slice h.lst; injection he with he1 he2 he3; rw [← he2, ← he3] at hcc; exact hcc
  have h3 : g2 < w.heap.size := World.block_lt_of_cell? _ _ h7
  have h5 : B ≤ g3 := hOi.ge g3 (by simp)
  have h6 : g3 ∈ F := hsub g3 (by simp)
  have h10 : ∀ (z : Int × Int) (W' : World), okFr z → Below w.heap.size ((w.setCell ⟨g3, l * 2, none⟩ (.int .i64 z.1)).setCell ⟨g3, l * 2 + 1, none⟩ (.int .i64 z.2)) W' → Own (shL shFr) B W' (matL n n fun a b => if a = k ∧ b = l then z else E a b) (.slice (some ⟨g2, 0, none⟩) n cap) F := fun z W' hz hb => by
    have hrow := hput z hz
    have hall := hback W' _ (fun b hlt hn => (hb.block b hlt).trans (by rw [Below.heap_setCell _ _ _ b (fun e => hn (by simp at e; simp [e])), Below.heap_setCell _ _ _ b (fun e => hn (by simp at e; simp [e]))])) (hrow.move (Nat.le_refl _) (fun b _ hlt => by rw [setCell_size, setCell_size] at hlt; exact hb.block b hlt))
    refine Eq.mp (congrArg (fun M : List (List (Int × Int)) => Own (shL shFr) B W' M _ F) ?_) hall
    exact matL_set _ _ _ hk hl z
  have hlen : (matL n n E).length = n := matL_len _ _ _
  have hlst : Lst (shL shFr) w (matL n n E) (.slice (some ⟨g2, 0, none⟩) (matL n n E).length cap) := by rw [hlen]; exact h.lst
  obtain ⟨a1, o1, r1, p1, d1, e, _, _, _, _, _, q1, x1, x2⟩ := mat_at hlst (SqM.mat hn hE) (i := k) (j := l) (by rw [hlen]; exact hk) (by rw [hlen]; exact hl)
  injection e with e
  injection e with e1 e2
  subst e1
  subst e2
  rw [Nat.zero_add, h7] at q1
  injection q1 with q1
  injection q1 with q1 _ _
  injection q1 with q1
  injection q1 with q1 q2
  subst q1
  subst q2
  rw [at2_mat E hk hl, Nat.zero_add] at x1 x2
  exact ⟨g2, g3, cap4, rfl, h1, h2, h3, h4, h5, h6, h7, h8, h9, x1, x2, h10⟩
theorem mat_val {w : World} {n k l cap : Nat} {E : Nat → Nat → Int × Int} {A : Option Addr} (h : Lst (shL shFr) w (matL n n E) (.slice A n cap)) (hn : n ≤ 8) (hE : ∀ i, i < n → ∀ j, j < n → inF (E i j)) (hk : k < n) (hl : l < n) :
    ∃ a1 o1 r1 p1 d1, A = some ⟨a1, o1, none⟩ ∧ n ≤ cap ∧ n ≤ d1 ∧ a1 < w.heap.size ∧ r1 < w.heap.size ∧ w.cell? ⟨a1, o1 + k, none⟩ = some (.slice (some ⟨r1, p1, none⟩) n d1) ∧ w.cell? ⟨r1, p1 + l * 2, none⟩ = some (.int .i64 (E k l).1) ∧ w.cell? ⟨r1, p1 + l * 2 + 1, none⟩ = some (.int .i64 (E k l).2) := by
  have hlen : (matL n n E).length = n := matL_len _ _ _
  have hlst : Lst (shL shFr) w (matL n n E) (.slice A (matL n n E).length cap) := by rw [hlen]; exact h
  obtain ⟨a1, o1, r1, p1, d1, e, h1, h2, h3, h4, _, q1, x1, x2⟩ := mat_at hlst (SqM.mat hn hE) (i := k) (j := l) (by rw [hlen]; exact hk) (by rw [hlen]; exact hl)
  rw [hlen] at h1 h2 q1
  rw [at2_mat E hk hl] at x1 x2
  exact ⟨a1, o1, r1, p1, d1, e, h1, h2, h3, h4, q1, x1, x2⟩
theorem sOneA_any (n : Int) (w : World) : Calls Tryz.prog 124 #[.int .i64 n] w fun e w' => e = .returned (.agg #[.int .i64 n, .int .i64 1]) ∧ Below w.heap.size w w' := by
  go_enter Tryz.func124, Tryz.ntmps124
  go_wp2_with fail
  exact bodyPost_ret (v := .agg #[.int .i64 n, .int .i64 1]) (by simp [results, Tryz.results124, go_sem]) rfl ⟨rfl, belA⟩
theorem radd_okP (x y p : Int × Int) (w : World) (hx : inF x) (hy : inF y) (h : addO x y = some p) :
    Calls Tryz.prog 130 #[.agg #[.int .i64 x.1, .int .i64 x.2], .agg #[.int .i64 y.1, .int .i64 y.2]] w fun e w' => e = .returned (.tuple #[.agg #[.int .i64 p.1, .int .i64 p.2], .int .i64 0]) ∧ Below w.heap.size w w' := by
  have := radd_any x y w hx hy
  rw [h] at this
  exact this
theorem rdiv_okP (x y p : Int × Int) (w : World) (hx : inF x) (hy : inF y) (h0 : y.1 ≠ 0) (h : divO x y = some p) :
    Calls Tryz.prog 161 #[.agg #[.int .i64 x.1, .int .i64 x.2], .agg #[.int .i64 y.1, .int .i64 y.2]] w fun e w' => e = .returned (.tuple #[.agg #[.int .i64 p.1, .int .i64 p.2], .int .i64 0]) ∧ Below w.heap.size w w' := by
  have := rdiv_any x y w hx hy h0
  rw [h] at this
  exact this
def acS (fs : List Flg) (k n q : Nat) (te e : Int) (x a b : Nat) : Int × Int := (((lsts n k []).take x).foldl (avS (avP k te e n) (fun L => paX q (fs.getD a (hdF fs)) (fs.getD b (hdF fs)) (avF k e n L))) (false, (0, 1))).2
theorem AvI.same {P : List Int → Bool} {X : List Int → Int × Int} {Ls : List (List Int)} {D : Int} {a : Nat} {d : Int × Int} (h : AvI P X Ls D a d) : ((Ls.take a).foldl (avS P X) (false, (0, 1))).2 = d := by rw [h.2.1]
theorem ac_inv {fs : List Flg} {k n q : Nat} {te e : Int} (hk : k ≤ 3) (hn : n ≤ 5) (hkq : k + q + q ≤ n) (x a b : Nat) (hx : x ≤ (lsts n k []).length) :
    AvI (avP k te e n) (fun L => paX q (fs.getD a (hdF fs)) (fs.getD b (hdF fs)) (avF k e n L)) (lsts n k []) (jnA k n q q : Nat) x (acS fs k n q te e x a b) := by
  obtain ⟨d, hd⟩ := pa_inv (f := fs.getD a (hdF fs)) (h := fs.getD b (hdF fs)) (e := e) (te := te) hk hn hkq x hx
  have : acS fs k n q te e x a b = d := hd.same
  rw [this]
  exact hd
theorem ac_step {fs : List Flg} {k n q : Nat} {te e : Int} (hk : k ≤ 3) (hn : n ≤ 5) (hkq : k + q + q ≤ n) {x : Nat} {L : List Int} (hL : (lsts n k [])[x]? = some L) (hP : avP k te e n L = true) (a b : Nat) :
    addO (acS fs k n q te e x a b) (paX q (fs.getD a (hdF fs)) (fs.getD b (hdF fs)) (avF k e n L)) = some (acS fs k n q te e (x + 1) a b) ∧ inF (acS fs k n q te e (x + 1) a b) := by
  have hx : x < (lsts n k []).length := (List.getElem?_eq_some_iff.1 hL).1
  obtain ⟨N, h1, h2⟩ := pa_vl (f := fs.getD a (hdF fs)) (h := fs.getD b (hdF fs)) (e := e) hk hn hkq L
  obtain ⟨_, d', h3, h4⟩ := (ac_inv (fs := fs) (te := te) (e := e) hk hn hkq x a b (by omega)).yesP hL hP h1 h2 (jnA_bd hk hn hkq) (by have := lsts_lenP hn hk; omega)
  have : acS fs k n q te e (x + 1) a b = d' := h4.same
  rw [this]
  exact ⟨h3, h4.1⟩
theorem ac_skip {fs : List Flg} {k n q : Nat} {te e : Int} (hk : k ≤ 3) (hn : n ≤ 5) (hkq : k + q + q ≤ n) {x : Nat} {L : List Int} (hL : (lsts n k [])[x]? = some L) (hP : avP k te e n L = false) : acS fs k n q te e (x + 1) = acS fs k n q te e x := by
  have hx : x < (lsts n k []).length := (List.getElem?_eq_some_iff.1 hL).1
  funext a b
  exact ((ac_inv (fs := fs) (te := te) (e := e) hk hn hkq x a b (by omega)).no hL hP).same
theorem ac_end {fs : List Flg} {k q n : Nat} {e : Int} (hF : Fam fs k q) (hn : n ≤ 5) (hkq : k + q + q ≤ n) {a b : Nat} (ha : a < fs.length) (hb : b < fs.length) : divO (acS fs k n q (tyE (hdF fs)) e (lsts n k []).length a b) (((lsts n k []).length : Nat), 1) = some (paD fs n e a b) := by
  have h1 := ac_inv (fs := fs) (te := tyE (hdF fs)) (e := e) hF.2.2.1 hn hkq _ a b (Nat.le_refl _)
  obtain ⟨_, _, h4, _⟩ := pa_end hF.2.2.1 hn hkq h1
  have hct := lists_cnt hn hF.2.2.1
  rw [lists_eq hn hF.2.2.1] at hct
  rw [hct]
  obtain ⟨_, h5, h6, _⟩ := hF.head
  unfold paD
  rw [h5, h6, Int.toNat_natCast, Int.toNat_natCast, Nat.add_sub_cancel_left]
  exact h4
set_option maxRecDepth 100000 in
set_option maxHeartbeats 4000000 in
theorem l04Averages_any (w : World) (k q nN : Nat) (e : Int) (fs : List Flg) (v : Value) (hF : Fam fs k q) (hn : nN ≤ 5) (hkq : k + q + q ≤ nN) (hL : Lst shFlag w fs v) (hgo : 0 ≤ e ∧ e ≤ 4294967295) :
    Calls Tryz.prog 79 #[v, .agg #[.int .i64 nN, .int .u32 e]] w fun r w' => ∃ A cap F, r = .returned (.slice A fs.length cap) ∧ Own (shL shFr) w.heap.size w' (matL fs.length fs.length (paD fs nN e)) (.slice A fs.length cap) F ∧ Below w.heap.size w w' := by
  have hk3 := hF.2.2.1
  obtain ⟨hd0, hd1, hd2, hd3, hd4⟩ := hF.head
  have HLF := Lib.hid hL
  obtain ⟨A0, cap, rfl, hc0, hm0, hok, hel⟩ := lstFlag hL
  obtain ⟨NF, hNF⟩ : ∃ NF, Hid (fs.length = NF) := ⟨_, Lib.hid rfl⟩
  have hN0 : 0 < NF ∧ NF ≤ 8 := by rw [← hNF.out]; exact ⟨hF.1, hF.2.1⟩
  rw [hNF.out] at hel hc0 ⊢
  obtain ⟨hNF1, hNF2⟩ := hN0
  obtain ⟨bl, off, rfl, hel2⟩ := hel hNF1
  obtain ⟨f', hf', _, f0, f1, f2⟩ := hel2 0 hNF1
  obtain rfl : hdF fs = f' := Option.some.inj (hd0.symm.trans hf')
  obtain ⟨TE, hTE⟩ : ∃ TE, Hid (tyE (hdF fs) = TE) := ⟨_, Lib.hid rfl⟩
  obtain ⟨P, hP⟩ : ∃ P, Hid (avP k TE e nN = P) := ⟨_, Lib.hid rfl⟩
  obtain ⟨LS, hLS⟩ : ∃ LS, Hid (lsts nN k [] = LS) := ⟨_, Lib.hid rfl⟩
  obtain ⟨N, hN, hN120⟩ : ∃ N : Nat, Hid (LS.length = N) ∧ N ≤ 120 := ⟨_, Lib.hid rfl, by have := lsts_lenP hn hk3; rw [hLS.out] at this; exact this⟩
  obtain ⟨AC, hAC⟩ : ∃ AC, Hid (acS fs k nN q TE e = AC) := ⟨_, Lib.hid rfl⟩
  have HACI : Hid (∀ x, x ≤ N → ∀ a, a < NF → ∀ b, b < NF → inF (AC x a b)) := Lib.hid fun x hx a _ b _ => by
    rw [← hAC.out]
    exact (ac_inv hk3 hn hkq x a b (by rw [hLS.out, hN.out]; exact hx)).1
  have HAC0 : Hid (AC 0 = fun _ _ => (0, 1)) := Lib.hid (by rw [← hAC.out]; funext a b; rfl)
  have HYES : Hid (∀ x L, LS[x]? = some L → P L = true → ∀ a b, addO (AC x a b) (paX q (fs.getD a (hdF fs)) (fs.getD b (hdF fs)) (avF k e nN L)) = some (AC (x + 1) a b)) := Lib.hid fun x L hx hp a b => by
    rw [← hAC.out]
    exact (ac_step hk3 hn hkq (by rw [hLS.out]; exact hx) (by rw [hP.out]; exact hp) a b).1
  have HNO : Hid (∀ x L, LS[x]? = some L → P L = false → AC (x + 1) = AC x) := Lib.hid fun x L hx hp => by
    rw [← hAC.out]
    exact ac_skip hk3 hn hkq (by rw [hLS.out]; exact hx) (by rw [hP.out]; exact hp)
  have HEND : Hid (∀ a, a < NF → ∀ b, b < NF → divO (AC N a b) ((N : Int), 1) = some (paD fs nN e a b)) := Lib.hid fun a ha b hb => by
    have := ac_end hF hn hkq (e := e) (a := a) (b := b) (by rw [hNF.out]; exact ha) (by rw [hNF.out]; exact hb)
    rw [hTE.out, hAC.out, hLS.out, hN.out] at this
    exact this
  have HPI : Hid (∀ a, a < NF → ∀ b, b < NF → inF (paD fs nN e a b)) := Lib.hid fun a ha b hb => paD_in hF hn hkq (by rw [hNF.out]; exact ha) (by rw [hNF.out]; exact hb)
  have HXI : Hid (∀ L a b, inF (paX q (fs.getD a (hdF fs)) (fs.getD b (hdF fs)) (avF k e nN L))) := Lib.hid fun L a b => by
    obtain ⟨M, h1, h2⟩ := pa_vl (f := fs.getD a (hdF fs)) (h := fs.getD b (hdF fs)) (e := e) hk3 hn hkq L
    have h3 := jnA_bd hk3 hn hkq
    exact (h1.small h3.1 (by omega) (by omega)).2
  have HN0 : Hid ((N : Int) ≠ 0 ∧ inF ((N : Int), (1 : Int))) := Lib.hid (by
    have hct := lists_cnt hn hk3
    rw [lists_eq hn hk3, hLS.out, hN.out] at hct
    have := lisI_pos hn (show k ≤ nN by omega)
    unfold inF
    simp only
    omega)
  have hff := (flV_iff _).1 hd3
  have HTF : Hid (∀ w, Calls Tryz.prog 57 #[.agg #[.int .i64 (hdF fs).1, .int .i64 (hdF fs).2.1, .int .u32 (hdF fs).2.2]] w fun e0 w' => e0 = .returned (.agg #[.int .i64 k, .int .u32 TE]) ∧ Below w.heap.size w w') := Lib.hid fun w => by
    have := l03Type_i w (hdF fs) (by omega)
    rw [hTE.out, hd1] at this
    rw [hd1]
    exact this
  have HTX : Hid (∀ E w, Calls Tryz.prog 57 #[.agg #[.int .i64 k, .int .i64 nN, .int .u32 E]] w fun e0 w' => e0 = .returned (.agg #[.int .i64 k, .int .u32 (onE E (seqI k))]) ∧ Below w.heap.size w w') := Lib.hid fun E w => l03Type_any w k nN E (by omega)
  have HOK : Hid (∀ L ∈ LS, VL (L ++ rstI L nN) ∧ (L ++ rstI L nN).length = nN ∧ L.length = k) := Lib.hid fun L hL => lists_vl hn hk3 (by rw [lists_eq hn hk3, hLS.out]; exact hL)
  have HTAB : Hid (∀ (L : List Int) (E : Int), onE e (L ++ rstI L nN) = E → ∀ V, Below w.heap.size w V → Calls Tryz.prog 160 #[.slice (some ⟨bl, off, none⟩) NF cap, .agg #[.int .i64 k, .int .i64 nN, .int .u32 E]] V fun r w' => ∃ A cap F, r = .returned (.slice A NF cap) ∧ Own (shL shFr) V.heap.size w' (matL NF NF (fun a b => paX q (fs.getD a (hdF fs)) (fs.getD b (hdF fs)) (avF k e nN L))) (.slice A NF cap) F ∧ Below V.heap.size V w') := Lib.hid fun L E hE V hV => by
    subst hE
    have hl := HLF.out.below hV
    rw [hNF.out] at hl
    have := l04Table_any V fs _ ((k : Int), ((nN : Int), onE e (L ++ rstI L nN))) (fun a b => paX q (fs.getD a (hdF fs)) (fs.getD b (hdF fs)) (avF k e nN L)) hl hF.2.1 (fun i j _ _ => inF_ok (HXI.out L i j)) (fun i j a b hi hj W => by
      obtain ⟨a1, a2, a3, a4⟩ := hF.2.2.2 a (List.mem_of_getElem? hi)
      obtain ⟨b1, b2, b3, b4⟩ := hF.2.2.2 b (List.mem_of_getElem? hj)
      have := l04Joint_any W k nN q q (onE e (L ++ rstI L nN)) a b hk3 hn hkq a1 a2 a3 a4 b1 b2 b3 b4
      rw [List.getD_eq_getElem?_getD, List.getD_eq_getElem?_getD, hi, hj]
      exact this)
    rw [hNF.out] at this
    exact this
  have HLL : Hid (∀ w, Calls Tryz.prog 157 #[.int .i64 (hdF fs).1, .int .i64 nN] w (LsRet w LS)) := Lib.hid fun w => by
    have := l04Lists_any w nN k hn hk3
    rw [lists_eq hn hk3, hLS.out] at this
    rw [hd1]
    exact this
  have HPE : Hid (∀ L E, onE e (L ++ rstI L nN) = E → P L = (onE E (seqI k) == TE)) := Lib.hid fun L E hE => by rw [← hP.out]; unfold avP; rw [hE]
  have hk3' := hk3
  obtain ⟨F, hFF⟩ : ∃ F, Hid (hdF fs = F) := ⟨_, Lib.hid rfl⟩
  obtain ⟨PD, hPD⟩ : ∃ PD, Hid (paD fs nN e = PD) := ⟨_, Lib.hid rfl⟩
  rw [hPD.out] at HEND HPI ⊢
  have zbl := World.block_lt_of_cell? _ _ f0
  simp only at zbl
  rw [Nat.zero_mul, Nat.add_zero] at f0 f1 f2
  rw [hFF.out] at f0 f1 f2 HTF HLL
  clear hd0 hd1 hd2 hd3 hd4 hok hel hel2 hf' hff hL hF hkq
  go_enter Tryz.func79, Tryz.ntmps79
  go_wp2_with fail
  have HK1 : Hid (∀ V w' : World, Below V.heap.size V w' → (fun w' => w'.cell? ⟨bl, off, none⟩ = some (.int .i64 F.1) ∧ w'.cell? ⟨w.heap.size, 0, none⟩ = some (.int .i64 nN)) V → (fun w' => w'.cell? ⟨bl, off, none⟩ = some (.int .i64 F.1) ∧ w'.cell? ⟨w.heap.size, 0, none⟩ = some (.int .i64 nN)) w') := Lib.hid fun V w' hb h => by
    simp only at h ⊢
    exact ⟨bkeep hb h.1, bkeep hb h.2⟩
  (refine wp_region_held_drew (S := (fun w' => w'.cell? ⟨bl, off, none⟩ = some (.int .i64 F.1) ∧ w'.cell? ⟨w.heap.size, 0, none⟩ = some (.int .i64 nN))) (by kernel_rfl) ?_ (fun hHeld => ?_); (focus (first | exact hS | (simp [*, go_sem]; done) | fail)); refine rt 0 (some 15) (v := ?_) rfl rfl ?_ ?_; rotate_left; (focus (intro w' hSw; (try dsimp only at hSw); go_simp; (try with_reducible rfl))); (try simp only [Act.put, nA, nB, nC]); refine rt 1 (some 16) (v := ?_) rfl rfl ?_ ?_; rotate_left; (focus (intro w' hSw; (try dsimp only at hSw); go_simp; (try with_reducible rfl))); (try simp only [Act.put, nA, nB, nC]); refine rt 2 (some 17) (v := ?_) rfl rfl ?_ ?_; rotate_left; (focus (intro w' hSw; (try dsimp only at hSw); go_simp; (try with_reducible rfl))); (try simp only [Act.put, nA, nB, nC]); refine rt 3 (some 18) (v := ?_) rfl rfl ?_ ?_; rotate_left; (focus (intro w' hSw; (try dsimp only at hSw); go_simp; (try with_reducible rfl))); (try simp only [Act.put, nA, nB, nC]); refine rt 4 (some 19) (v := ?_) rfl rfl ?_ ?_; rotate_left; (focus (intro w' hSw; (try dsimp only at hSw); go_simp; (try with_reducible rfl))); (try simp only [Act.put, nA, nB, nC]); refine rt 5 (some 20) (v := ?_) rfl rfl ?_ ?_; rotate_left; (focus (intro w' hSw; (try dsimp only at hSw); go_simp; (try with_reducible rfl))); (try simp only [Act.put, nA, nB, nC]); refine wpAnyH_ready (rs := [6]) (by kernel_rfl) (by simp) ?_; refine AllReadyH.cons rfl (fun K hK => ?_) AllReadyH.nil; go_simp; (go_at_call 157; refine Calls.mono (HLL.out _) ?_; rintro e0 w1 ⟨A1, cap1, F1, rfl, hO1, hb⟩; have hS := HK1.out _ _ hb hHeld; have HB1 := Lib.hid (show Below w.heap.size w w1 from Below.trans belA (hb.mono (by simp <;> omega))); have KG1 : Hid (w1.heap[w.heap.size]? = some (.cells #[.int .i64 nN, .int .u32 e] 28 (0, 0))) := Lib.hid (bblk hb (by simp) (blkdrew (blknew w _))); have HO1 := Lib.hid (show Own (shL (shI .i64)) (w.heap.size + 1) w1 LS (.slice A1 LS.length cap1) F1 from hO1.below (by simp) (Below.refl _ _)); clear hb hO1); go_wp2_with fail; refine hK.out _ _ ?_ (fun hHeld => ?_); (focus (first | exact hS | (simp [*, go_sem]; done) | fail)); clear hK K; (try simp only [Act.put, nA, nB, nC]); refine rt 7 (some 5) (v := ?_) rfl rfl ?_ ?_; rotate_left; (focus (intro w' hSw; (try dsimp only at hSw); go_simp; (try with_reducible rfl))); (try simp only [Act.put, nA, nB, nC]); refine wpAnyH_done (by kernel_rfl) ?_ _)
  clear hHeld
  rw [hN.out] at HO1 ⊢
  have hb1 := HB1.out
  have hz1 := hb1.size
  have zk1 := blklt KG1.out
  go_wp2_with fail
  refine Calls.mono (l02Empty_any _ NF (by omega)) ?_
  rintro e0 w2 ⟨A2, cap2, F2, rfl, hO2, hb⟩
  have HB2 := Lib.hid (hb1.trans (hb.mono hz1))
  have KG2 := Lib.hid (bblk hb zk1 KG1.out)
  have HOL2 := Lib.hid (HO1.out.below (Nat.le_refl _) hb)
  have HO2 := Lib.hid hO2
  have HFL : Hid (∀ q ∈ F1, q < w1.heap.size) := Lib.hid fun q hq => HO1.out.lt q hq
  clear hb hO2 hb1
  go_wp2_with fail
  go_loopw [7] (fun i wr => ∃ (x : Nat), x ≤ N ∧ i = .int .i64 x ∧ Hid (wr.heap[w.heap.size]? = some (.cells #[.int .i64 nN, .int .u32 e] 28 (0, 0))) ∧ Hid (Own (shL (shI .i64)) (w.heap.size + 1) wr LS (.slice A1 N cap1) F1) ∧ Hid (Own (shL shFr) w1.heap.size wr (matL NF NF (AC x)) (.slice A2 NF cap2) F2) ∧ Below w.heap.size w wr ∧ w2.heap.size ≤ wr.heap.size) (fun i _ => N - (intOf i).toNat)
  case atStart => exact ⟨0, Nat.zero_le _, rfl, KG2, HOL2, Lib.hid (by rw [HAC0.out]; exact HO2.out), HB2.out, Nat.le_refl _⟩
  case round =>
    obtain ⟨x, hx, rfl, hKG, hOL, hOM, hB, hzW⟩ := hrel
    obtain ⟨W0, rfl⟩ : ∃ x, x = wr := ⟨_, rfl⟩
    obtain ⟨p0, p1⟩ := blkc2 hKG.out
    have y0 := blklt hKG.out
    have hzB := hB.size
    by_cases hlt : x < N
    · have hk8 : (x : Int) < (N : Int) := by omega
      obtain ⟨L, hL⟩ : ∃ L, LS[x]? = some L := ⟨_, List.getElem?_eq_getElem (by rw [hN.out]; exact hlt)⟩
      obtain ⟨hV, hVl, hLl⟩ := HOK.out L (List.mem_of_getElem? hL)
      have HYL := Lib.hid (HYES.out x L hL)
      have HNL := Lib.hid (HNO.out x L hL)
      obtain ⟨g2, cap4, Fi, vi, hv, c0, _, hOi, _, _, _, _⟩ := own_rowI hOL.out hL
      obtain ⟨rfl, hNl, rfl⟩ : A1 = some ⟨g2, 0, none⟩ ∧ N = LS.length ∧ cap1 = cap4 := by simpa using hv
      have zg := World.block_lt_of_cell? _ _ c0
      simp only at zg
      obtain ⟨A4, cap5, rfl, _, _, _⟩ := lstI hOi.lst
      obtain ⟨E, hE⟩ : ∃ E, Hid (onE e (L ++ rstI L nN) = E) := ⟨_, Lib.hid rfl⟩
      have HPL := Lib.hid (HPE.out L E hE.out)
      have HTB := Lib.hid (HTAB.out L E hE.out)
      have HFLG : Hid (∀ w', Below W0.heap.size W0 w' → Calls Tryz.prog 159 #[.agg #[.int .i64 nN, .int .u32 e], .slice A4 L.length cap5] w' fun r w'' => r = .returned (.agg #[.int .i64 k, .int .i64 nN, .int .u32 E]) ∧ Below w'.heap.size w' w'') := Lib.hid fun w' hb => by
        have := sflagOf_any w' nN e L _ (hOi.lst.below hb) hn (by omega) hV
        rw [hVl, hE.out] at this
        rw [hLl] at this ⊢
        exact this
      have HTXE := Lib.hid (HTX.out E)
      obtain ⟨T, hT⟩ : ∃ T, Hid (onE E (seqI k) = T) := ⟨_, Lib.hid rfl⟩
      rw [hT.out] at HTXE HPL
      obtain ⟨X, hX⟩ : ∃ X, Hid ((fun a b => paX q (fs.getD a (hdF fs)) (fs.getD b (hdF fs)) (avF k e nN L)) = X) := ⟨_, Lib.hid rfl⟩
      have HXL : Hid (∀ a b, inF (X a b)) := Lib.hid fun a b => by rw [← hX.out]; exact HXI.out L a b
      have HYX : Hid (P L = true → ∀ a b, addO (AC x a b) (X a b) = some (AC (x + 1) a b)) := Lib.hid fun hp a b => by rw [← hX.out]; exact HYL.out hp a b
      rw [hX.out] at HTB
      clear hV hVl hLl hL hNl hv hOi HYL
      have HKP : Hid (∀ V w' : World, Below V.heap.size V w' → (fun w' => w'.cell? ⟨w.heap.size, 0, none⟩ = some (.int .i64 nN) ∧ w'.cell? ⟨w.heap.size, 1, none⟩ = some (.int .u32 e) ∧ w'.cell? ⟨g2, x, none⟩ = some (.slice A4 L.length cap5)) V → (fun w' => w'.cell? ⟨w.heap.size, 0, none⟩ = some (.int .i64 nN) ∧ w'.cell? ⟨w.heap.size, 1, none⟩ = some (.int .u32 e) ∧ w'.cell? ⟨g2, x, none⟩ = some (.slice A4 L.length cap5)) w') := Lib.hid fun V w' hb h => by
        simp only at h ⊢
        exact ⟨bkeep hb h.1, bkeep hb h.2.1, bkeep hb h.2.2⟩
      go_upto_region 7 with fail
      go_cut [8] from 31 to 36 (fun s9 wx => ∃ g9 : Nat, s9 = .pointer (some ⟨g9, 0, none⟩) ∧ wx.heap[g9]? = some (.cells #[.int .i64 k, .int .i64 nN, .int .u32 E] 104 (0, 0)) ∧ Below W0.heap.size W0 wx ∧ W0.heap.size ≤ g9)
      case first =>
        (refine wp_region_held_drew (S := (fun w' => w'.cell? ⟨w.heap.size, 0, none⟩ = some (.int .i64 nN) ∧ w'.cell? ⟨w.heap.size, 1, none⟩ = some (.int .u32 e) ∧ w'.cell? ⟨g2, x, none⟩ = some (.slice A4 L.length cap5))) (by kernel_rfl) ?_ (fun hHeld => ?_); (focus (first | exact hS | exact HKP.out _ _ (bal (Below.refl _ _) _) hHeld | (simp [*, go_sem]; done) | fail)); refine rt 0 (some 31) (v := ?_) rfl rfl ?_ ?_; rotate_left; (focus (intro w' hSw; (try dsimp only at hSw); go_simp; (try with_reducible rfl))); (try simp only [Act.put, nA, nB, nC]); refine rt 1 (some 32) (v := ?_) rfl rfl ?_ ?_; rotate_left; (focus (intro w' hSw; (try dsimp only at hSw); go_simp; (try with_reducible rfl))); (try simp only [Act.put, nA, nB, nC]); refine rt 2 (some 33) (v := ?_) rfl rfl ?_ ?_; rotate_left; (focus (intro w' hSw; (try dsimp only at hSw); go_simp; (try with_reducible rfl))); (try simp only [Act.put, nA, nB, nC]); refine rt 3 (some 34) (v := ?_) rfl rfl ?_ ?_; rotate_left; (focus (intro w' hSw; (try dsimp only at hSw); go_simp; (try with_reducible rfl))); (try simp only [Act.put, nA, nB, nC]); refine rt 4 (some 35) (v := ?_) rfl rfl ?_ ?_; rotate_left; (focus (intro w' hSw; (try dsimp only at hSw); go_simp; (try with_reducible rfl))); (try simp only [Act.put, nA, nB, nC]); refine wpAnyH_ready (rs := [5, 6]) (by kernel_rfl) (by simp) ?_; refine AllReadyH.cons rfl (fun K hK => ?_) (AllReadyH.cons rfl (fun K hK => ?_) AllReadyH.nil); (focus (go_simp; (go_at_call 159; refine Calls.mono (HFLG.out _ belA) ?_; rintro e0 w3 ⟨rfl, hb⟩; have hS := HKP.out _ _ hb hHeld; have HB3 := Lib.hid (show Below W0.heap.size W0 w3 from Below.trans belA (hb.mono (by first | omega | (simp <;> omega)))); (try (have kq := bblk hb (blklt kp) kp; clear kp; have kp := kq; clear kq; obtain ⟨pz0, pz1, pz2, pf0, pf1, pf2⟩ := blk3 kp; have pzz := blklt kp)); have hz3 := HB3.out.size; have z30 : w.heap.size < w3.heap.size := (by omega); have z31 : g2 < w3.heap.size := (by omega); clear hb); go_wp2_with fail; refine hK.out _ _ ?_ (fun hHeld => ?_); (focus (first | exact hS | exact HKP.out _ _ (bal (Below.refl _ _) _) hHeld | (simp [*, go_sem]; done) | fail)); clear hK K; (try simp only [Act.put, nA, nB, nC]); refine wpAnyH_ready (rs := [6]) (by kernel_rfl) (by simp) ?_; refine AllReadyH.cons rfl (fun K hK => ?_) AllReadyH.nil; (try go_simp); refine hK.out _ _ ?_ (fun hHeld => ?_); (focus (first | exact hS | exact HKP.out _ _ (bal (Below.refl _ _) _) hHeld | (simp [*, go_sem]; done) | fail)); clear hK K; (try simp only [Act.put, nA, nB, nC]); refine wpAnyH_ready (rs := [7]) (by kernel_rfl) (by simp) ?_; refine AllReadyH.cons rfl (fun K hK => ?_) AllReadyH.nil; (try go_simp); refine hK.out _ _ ?_ (fun hHeld => ?_); (focus (first | exact hS | exact HKP.out _ _ (bal (Below.refl _ _) _) hHeld | (simp [*, go_sem]; done) | fail)); clear hK K; (try simp only [Act.put, nA, nB, nC]); refine wpAnyH_done (by kernel_rfl) ?_ _)); rotate_left 1; (focus (((try go_simp); have hS := HKP.out _ _ (bal (Below.refl W0.drew.heap.size W0.drew) (.cells #[.int .i64 0, .int .i64 0, .int .u32 0] 104)) hHeld; have kp : (W0.drew.alloc (.cells #[.int .i64 0, .int .i64 0, .int .u32 0] 104)).heap[W0.heap.size]? = _ := blknew W0.drew _; have hnb : W0.heap.size ≤ W0.heap.size := Nat.le_refl _); refine hK.out _ _ ?_ (fun hHeld => ?_); (focus (first | exact hS | exact HKP.out _ _ (bal (Below.refl _ _) _) hHeld | (simp [*, go_sem]; done) | fail)); clear hK K; (try simp only [Act.put, nA, nB, nC]); refine wpAnyH_ready (rs := [5]) (by kernel_rfl) (by simp) ?_; refine AllReadyH.cons rfl (fun K hK => ?_) AllReadyH.nil; go_simp; (go_at_call 159; refine Calls.mono (HFLG.out _ belA) ?_; rintro e0 w3 ⟨rfl, hb⟩; have hS := HKP.out _ _ hb hHeld; have HB3 := Lib.hid (show Below W0.heap.size W0 w3 from Below.trans belA (hb.mono (by first | omega | (simp <;> omega)))); (try (have kq := bblk hb (blklt kp) kp; clear kp; have kp := kq; clear kq; obtain ⟨pz0, pz1, pz2, pf0, pf1, pf2⟩ := blk3 kp; have pzz := blklt kp)); have hz3 := HB3.out.size; have z30 : w.heap.size < w3.heap.size := (by omega); have z31 : g2 < w3.heap.size := (by omega); clear hb); go_wp2_with fail; refine hK.out _ _ ?_ (fun hHeld => ?_); (focus (first | exact hS | exact HKP.out _ _ (bal (Below.refl _ _) _) hHeld | (simp [*, go_sem]; done) | fail)); clear hK K; (try simp only [Act.put, nA, nB, nC]); refine wpAnyH_ready (rs := [7]) (by kernel_rfl) (by simp) ?_; refine AllReadyH.cons rfl (fun K hK => ?_) AllReadyH.nil; (try go_simp); refine hK.out _ _ ?_ (fun hHeld => ?_); (focus (first | exact hS | exact HKP.out _ _ (bal (Below.refl _ _) _) hHeld | (simp [*, go_sem]; done) | fail)); clear hK K; (try simp only [Act.put, nA, nB, nC]); refine wpAnyH_done (by kernel_rfl) ?_ _)); rotate_left 1)
        all_goals
          clear hHeld
          have hb3 := HB3.out
          go_wp2_with fail
          go_meet
          first | (have kq := blkset0 (blkset0 (blkset0 kp 0 (.int .i64 k)) 1 (.int .i64 nN)) 2 (.int .u32 E); exact ⟨_, rfl, kq, belA, (by first | omega | (simp <;> omega))⟩) | exact ⟨_, rfl, blkA, belA, (by first | omega | (simp <;> omega))⟩
      case rest =>
        obtain ⟨g9, rfl, kx, hBx, hg9⟩ := hcut
        obtain ⟨w5, rfl⟩ : ∃ z, z = wc := ⟨_, rfl⟩
        have HB5 := Lib.hid hBx
        have KX := Lib.hid kx
        have yx := blklt kx
        have hz5 := hBx.size
        obtain ⟨x0, x1, x2⟩ := blkc3 kx
        have HBW5 := Lib.hid (hB.trans (hBx.mono hzB))
        have f0 := bkeep HBW5.out f0
        have f1 := bkeep HBW5.out f1
        have f2 := bkeep HBW5.out f2
        have zbl5 : bl < w5.heap.size := by omega
        clear hBx kx
        have HKT : Hid (∀ V w' : World, Below V.heap.size V w' → (fun w' => w'.cell? ⟨bl, off, none⟩ = some (.int .i64 F.1) ∧ w'.cell? ⟨bl, off + 1, none⟩ = some (.int .i64 F.2.1) ∧ w'.cell? ⟨bl, off + 2, none⟩ = some (.int .u32 F.2.2) ∧ w'.cell? ⟨g9, 0, none⟩ = some (.int .i64 k) ∧ w'.cell? ⟨g9, 1, none⟩ = some (.int .i64 nN) ∧ w'.cell? ⟨g9, 2, none⟩ = some (.int .u32 E)) V → (fun w' => w'.cell? ⟨bl, off, none⟩ = some (.int .i64 F.1) ∧ w'.cell? ⟨bl, off + 1, none⟩ = some (.int .i64 F.2.1) ∧ w'.cell? ⟨bl, off + 2, none⟩ = some (.int .u32 F.2.2) ∧ w'.cell? ⟨g9, 0, none⟩ = some (.int .i64 k) ∧ w'.cell? ⟨g9, 1, none⟩ = some (.int .i64 nN) ∧ w'.cell? ⟨g9, 2, none⟩ = some (.int .u32 E)) w') := Lib.hid fun V w' hb h => by
          simp only at h ⊢
          exact ⟨bkeep hb h.1, bkeep hb h.2.1, bkeep hb h.2.2.1, bkeep hb h.2.2.2.1, bkeep hb h.2.2.2.2.1, bkeep hb h.2.2.2.2.2⟩
        have HPQ : Hid (P L = eq2 (k : Int) T (k : Int) TE) := Lib.hid (by rw [HPL.out]; unfold eq2; rw [Bool.eq_iff_iff]; simp)
        cases hp : eq2 (k : Int) T (k : Int) TE
        · have hAC' := Lib.hid (HNL.out (by rw [HPQ.out, hp]))
          go_wp2_with fail
          (refine wp_region_held_drew (S := (fun w' => w'.cell? ⟨bl, off, none⟩ = some (.int .i64 F.1) ∧ w'.cell? ⟨bl, off + 1, none⟩ = some (.int .i64 F.2.1) ∧ w'.cell? ⟨bl, off + 2, none⟩ = some (.int .u32 F.2.2) ∧ w'.cell? ⟨g9, 0, none⟩ = some (.int .i64 k) ∧ w'.cell? ⟨g9, 1, none⟩ = some (.int .i64 nN) ∧ w'.cell? ⟨g9, 2, none⟩ = some (.int .u32 E))) (by kernel_rfl) ?_ (fun hHeld => ?_); (focus (first | exact hS | (simp [*, go_sem]; done) | fail)); refine rt 0 (some 37) (v := ?_) rfl rfl ?_ ?_; rotate_left; (focus (intro w' hSw; (try dsimp only at hSw); go_simp; (try with_reducible rfl))); (try simp only [Act.put, nA, nB, nC]); refine rt 2 (some 39) (v := ?_) rfl rfl ?_ ?_; rotate_left; (focus (intro w' hSw; (try dsimp only at hSw); go_simp; (try with_reducible rfl))); (try simp only [Act.put, nA, nB, nC]); refine rt 3 (some 40) (v := ?_) rfl rfl ?_ ?_; rotate_left; (focus (intro w' hSw; (try dsimp only at hSw); go_simp; (try with_reducible rfl))); (try simp only [Act.put, nA, nB, nC]); refine rt 4 (some 41) (v := ?_) rfl rfl ?_ ?_; rotate_left; (focus (intro w' hSw; (try dsimp only at hSw); go_simp; (try with_reducible rfl))); (try simp only [Act.put, nA, nB, nC]); refine wpAnyH_ready (rs := [1]) (by kernel_rfl) (by simp) ?_; refine AllReadyH.cons rfl (fun K hK => ?_) AllReadyH.nil; go_simp; (go_at_call 57; refine Calls.mono (HTXE.out _) ?_; rintro e0 w6 ⟨rfl, hb⟩; have hS := HKT.out _ _ hb hHeld; have HB6 := Lib.hid (show Below w5.heap.size w5 w6 from Below.trans belA (hb.mono (by first | omega | (simp <;> omega)))); clear hb); go_wp2_with fail; refine hK.out _ _ ?_ (fun hHeld => ?_); (focus (first | exact hS | (simp [*, go_sem]; done) | fail)); clear hK K; (try simp only [Act.put, nA, nB, nC]); refine wpAnyH_ready (rs := [5]) (by kernel_rfl) (by simp) ?_; refine AllReadyH.cons rfl (fun K hK => ?_) AllReadyH.nil; go_simp; (go_at_call 57; refine Calls.mono (HTF.out _) ?_; rintro e0 w7 ⟨rfl, hb⟩; have hS := HKT.out _ _ hb hHeld; have hb6 := HB6.out; have HB7 := Lib.hid (show Below w5.heap.size w5 w7 from Below.trans belA (hb.mono (by have := hb6.size; simp <;> omega))); clear hb hb6); go_wp2_with fail; refine hK.out _ _ ?_ (fun hHeld => ?_); (focus (first | exact hS | (simp [*, go_sem]; done) | fail)); clear hK K; (try simp only [Act.put, nA, nB, nC]); refine rt 6 (some 43) (v := ?_) rfl rfl ?_ ?_; rotate_left; (focus (intro w' hSw; (try dsimp only at hSw); go_simp; (try with_reducible rfl))); (try simp only [Act.put, nA, nB, nC]); refine wpAnyH_done (by kernel_rfl) ?_ _)
          clear hHeld
          have HB8 := Lib.hid (HB5.out.trans (HB7.out.mono hz5))
          have hz8 := HB8.out.size
          go_wp2_with fail
          go_roundw
          case rel => exact ⟨x + 1, by omega, by go_num, Lib.hid (bblk HB8.out y0 hKG.out), Lib.hid (hOL.out.below (Nat.le_refl _) HB8.out), Lib.hid (by rw [hAC'.out]; exact hOM.out.below (Nat.le_refl _) HB8.out), hB.trans (HB8.out.mono hzB), by omega⟩
          case measure => simp [intOf]; omega
        · have HYY := Lib.hid (HYX.out (by rw [HPQ.out, hp]))
          go_wp2_with fail
          (refine wp_region_held_drew (S := (fun w' => w'.cell? ⟨bl, off, none⟩ = some (.int .i64 F.1) ∧ w'.cell? ⟨bl, off + 1, none⟩ = some (.int .i64 F.2.1) ∧ w'.cell? ⟨bl, off + 2, none⟩ = some (.int .u32 F.2.2) ∧ w'.cell? ⟨g9, 0, none⟩ = some (.int .i64 k) ∧ w'.cell? ⟨g9, 1, none⟩ = some (.int .i64 nN) ∧ w'.cell? ⟨g9, 2, none⟩ = some (.int .u32 E))) (by kernel_rfl) ?_ (fun hHeld => ?_); (focus (first | exact hS | (simp [*, go_sem]; done) | fail)); refine rt 0 (some 37) (v := ?_) rfl rfl ?_ ?_; rotate_left; (focus (intro w' hSw; (try dsimp only at hSw); go_simp; (try with_reducible rfl))); (try simp only [Act.put, nA, nB, nC]); refine rt 2 (some 39) (v := ?_) rfl rfl ?_ ?_; rotate_left; (focus (intro w' hSw; (try dsimp only at hSw); go_simp; (try with_reducible rfl))); (try simp only [Act.put, nA, nB, nC]); refine rt 3 (some 40) (v := ?_) rfl rfl ?_ ?_; rotate_left; (focus (intro w' hSw; (try dsimp only at hSw); go_simp; (try with_reducible rfl))); (try simp only [Act.put, nA, nB, nC]); refine rt 4 (some 41) (v := ?_) rfl rfl ?_ ?_; rotate_left; (focus (intro w' hSw; (try dsimp only at hSw); go_simp; (try with_reducible rfl))); (try simp only [Act.put, nA, nB, nC]); refine wpAnyH_ready (rs := [1]) (by kernel_rfl) (by simp) ?_; refine AllReadyH.cons rfl (fun K hK => ?_) AllReadyH.nil; go_simp; (go_at_call 57; refine Calls.mono (HTXE.out _) ?_; rintro e0 w6 ⟨rfl, hb⟩; have hS := HKT.out _ _ hb hHeld; have HB6 := Lib.hid (show Below w5.heap.size w5 w6 from Below.trans belA (hb.mono (by first | omega | (simp <;> omega)))); clear hb); go_wp2_with fail; refine hK.out _ _ ?_ (fun hHeld => ?_); (focus (first | exact hS | (simp [*, go_sem]; done) | fail)); clear hK K; (try simp only [Act.put, nA, nB, nC]); refine wpAnyH_ready (rs := [5]) (by kernel_rfl) (by simp) ?_; refine AllReadyH.cons rfl (fun K hK => ?_) AllReadyH.nil; go_simp; (go_at_call 57; refine Calls.mono (HTF.out _) ?_; rintro e0 w7 ⟨rfl, hb⟩; have hS := HKT.out _ _ hb hHeld; have hb6 := HB6.out; have HB7 := Lib.hid (show Below w5.heap.size w5 w7 from Below.trans belA (hb.mono (by have := hb6.size; simp <;> omega))); clear hb hb6); go_wp2_with fail; refine hK.out _ _ ?_ (fun hHeld => ?_); (focus (first | exact hS | (simp [*, go_sem]; done) | fail)); clear hK K; (try simp only [Act.put, nA, nB, nC]); refine rt 6 (some 43) (v := ?_) rfl rfl ?_ ?_; rotate_left; (focus (intro w' hSw; (try dsimp only at hSw); go_simp; (try with_reducible rfl))); (try simp only [Act.put, nA, nB, nC]); refine wpAnyH_done (by kernel_rfl) ?_ _)
          have hh3 := hHeld.2.2.2
          clear hHeld
          have HB8 := Lib.hid (HB5.out.trans (HB7.out.mono hz5))
          have hz8 := HB8.out.size
          have hz7 := HB7.out.size
          have zx7 : g9 < w7.heap.size := by omega
          go_wp2_with fail
          refine Calls.mono (HTB.out _ (Below.trans HBW5.out (HB7.out.mono (by omega)))) ?_
          rintro e0 w9 ⟨A9, cap9, F9, rfl, hO9, hb⟩
          have HB9 := Lib.hid (HB8.out.trans (hb.mono hz8))
          have HT9 := Lib.hid (hO9.move (B' := w7.heap.size) (by simp) (fun _ _ _ => rfl))
          have HOM9 := Lib.hid (hOM.out.below (Nat.le_refl _) HB9.out)
          have HF2 : Hid (∀ c ∈ F2, c < w7.heap.size) := Lib.hid fun c hc => by have := hOM.out.lt c hc; omega
          have hz9 := hb.size
          clear hb
          go_wp2_with fail
          go_loopw [10] (fun i wr => ∃ (a : Nat), a ≤ NF ∧ i = .int .i64 a ∧ Hid (Own (shL shFr) w1.heap.size wr (matL NF NF (mixL (AC x) (AC (x + 1)) a 0)) (.slice A2 NF cap2) F2) ∧ Hid (Own (shL shFr) w7.heap.size wr (matL NF NF X) (.slice A9 NF cap9) F9) ∧ Chg F2 w9 wr) (fun i _ => NF - (intOf i).toNat)
          case atStart => exact ⟨0, Nat.zero_le _, rfl, Lib.hid (by rw [mixL_zero]; exact HOM9.out), HT9, Chg.refl _ _⟩
          case round =>
            obtain ⟨a, ha, rfl, hMa, hTa, hCa⟩ := hrel
            by_cases hla : a < NF
            · have hla8 : (a : Int) < (NF : Int) := by omega
              go_wp2_with fail
              go_loopw [11] (fun j wr => ∃ (b : Nat), b ≤ NF ∧ j = .int .i64 b ∧ Hid (Own (shL shFr) w1.heap.size wr (matL NF NF (mixL (AC x) (AC (x + 1)) a b)) (.slice A2 NF cap2) F2) ∧ Hid (Own (shL shFr) w7.heap.size wr (matL NF NF X) (.slice A9 NF cap9) F9) ∧ Chg F2 w9 wr) (fun j _ => NF - (intOf j).toNat)
              case atStart => exact ⟨0, Nat.zero_le _, rfl, hMa, hTa, hCa⟩
              case round =>
                obtain ⟨b, hb, rfl, hMb, hTb, hCb⟩ := hrel
                obtain ⟨V0, rfl⟩ : ∃ x, x = wr := ⟨_, rfl⟩
                by_cases hlb : b < NF
                · have hlb8 : (b : Int) < (NF : Int) := by omega
                  obtain ⟨m2, m3, mc4, rfl, h1, h2, h3, h4, h5, h6, h7, h8, h9, v3, v4, hput⟩ := mat_get hMb.out hNF2 (mixL_in (HACI.out x (by omega)) (HACI.out (x + 1) (by omega)) a b) hla hlb
                  rw [mixL_at] at v3 v4
                  obtain ⟨t1, to1, r1, rp1, rd1, rfl, h11, h12, h13, h14, tq, tx1, tx2⟩ := mat_val hTb.out.lst hNF2 (fun i _ j _ => HXL.out i j) hla hlb
                  have zt1 : t1 < V0.heap.size := h13
                  have zr1 : r1 < V0.heap.size := h14
                  have hm3 : m3 < w7.heap.size := HF2.out m3 h6
                  obtain ⟨D0, hD0⟩ : ∃ D0, Hid (AC x a b = D0) := ⟨_, Lib.hid rfl⟩
                  obtain ⟨D1, hD1⟩ : ∃ D1, Hid (AC (x + 1) a b = D1) := ⟨_, Lib.hid rfl⟩
                  obtain ⟨XX, hXX⟩ : ∃ XX, Hid (X a b = XX) := ⟨_, Lib.hid rfl⟩
                  have hADD := Lib.hid (HYY.out a b)
                  have hI0 := Lib.hid (HACI.out x (by omega) a hla b hlb)
                  have hI1 := Lib.hid (HACI.out (x + 1) (by omega) a hla b hlb)
                  have hIX := Lib.hid (HXL.out a b)
                  rw [hD0.out, hXX.out, hD1.out] at hADD
                  rw [hD0.out] at v3 v4 hI0
                  rw [hD1.out] at hI1
                  rw [hXX.out] at tx1 tx2 hIX
                  have HPUT := Lib.hid hput
                  clear hput
                  have HK15 : Hid (∀ V w' : World, Below V.heap.size V w' → (fun w' => w'.cell? ⟨m2, a, none⟩ = some (.slice (some ⟨m3, 0, none⟩) NF mc4) ∧ w'.cell? ⟨m3, b * 2, none⟩ = some (.int .i64 D0.1) ∧ w'.cell? ⟨m3, b * 2 + 1, none⟩ = some (.int .i64 D0.2) ∧ w'.cell? ⟨t1, to1 + a, none⟩ = some (.slice (some ⟨r1, rp1, none⟩) NF rd1) ∧ w'.cell? ⟨r1, rp1 + b * 2, none⟩ = some (.int .i64 XX.1) ∧ w'.cell? ⟨r1, rp1 + b * 2 + 1, none⟩ = some (.int .i64 XX.2)) V → (fun w' => w'.cell? ⟨m2, a, none⟩ = some (.slice (some ⟨m3, 0, none⟩) NF mc4) ∧ w'.cell? ⟨m3, b * 2, none⟩ = some (.int .i64 D0.1) ∧ w'.cell? ⟨m3, b * 2 + 1, none⟩ = some (.int .i64 D0.2) ∧ w'.cell? ⟨t1, to1 + a, none⟩ = some (.slice (some ⟨r1, rp1, none⟩) NF rd1) ∧ w'.cell? ⟨r1, rp1 + b * 2, none⟩ = some (.int .i64 XX.1) ∧ w'.cell? ⟨r1, rp1 + b * 2 + 1, none⟩ = some (.int .i64 XX.2)) w') := Lib.hid fun V w' hb h => by
                    simp only at h ⊢
                    exact ⟨bkeep hb h.1, bkeep hb h.2.1, bkeep hb h.2.2.1, bkeep hb h.2.2.2.1, bkeep hb h.2.2.2.2.1, bkeep hb h.2.2.2.2.2⟩
                  go_wp2_with fail
                  (refine last_region (S := (fun w' => w'.cell? ⟨m2, a, none⟩ = some (.slice (some ⟨m3, 0, none⟩) NF mc4) ∧ w'.cell? ⟨m3, b * 2, none⟩ = some (.int .i64 D0.1) ∧ w'.cell? ⟨m3, b * 2 + 1, none⟩ = some (.int .i64 D0.2) ∧ w'.cell? ⟨t1, to1 + a, none⟩ = some (.slice (some ⟨r1, rp1, none⟩) NF rd1) ∧ w'.cell? ⟨r1, rp1 + b * 2, none⟩ = some (.int .i64 XX.1) ∧ w'.cell? ⟨r1, rp1 + b * 2 + 1, none⟩ = some (.int .i64 XX.2))) 24 (by kernel_rfl) ?_ (fun hHeld => ?_); (focus (first | exact hS | (simp [*, go_sem]; done) | fail)); refine last_take 0 (some 60) (v := ?_) rfl (by kernel_rfl) (by kernel_rfl) (by kernel_rfl) (by kernel_rfl) (by decide) (by kernel_rfl) (fun _ _ _ h => h) (Or.inl ⟨by kernel_rfl, ?_⟩) (by assumption) ?_; rotate_left; (focus (intro w' hSw; (try dsimp only at hSw); go_simp; (try with_reducible rfl))); (try simp only [Act.put, nA, nB, nC]); refine last_take 1 (some 61) (v := ?_) rfl (by kernel_rfl) (by kernel_rfl) (by kernel_rfl) (by kernel_rfl) (by decide) (by kernel_rfl) (fun _ _ _ h => h) (Or.inl ⟨by kernel_rfl, ?_⟩) (by assumption) ?_; rotate_left; (focus (intro w' hSw; (try dsimp only at hSw); go_simp; (try with_reducible rfl))); (try simp only [Act.put, nA, nB, nC]); refine last_take 2 (some 62) (v := ?_) rfl (by kernel_rfl) (by kernel_rfl) (by kernel_rfl) (by kernel_rfl) (by decide) (by kernel_rfl) (fun _ _ _ h => h) (Or.inl ⟨by kernel_rfl, ?_⟩) (by assumption) ?_; rotate_left; (focus (intro w' hSw; (try dsimp only at hSw); go_simp; (try with_reducible rfl))); (try simp only [Act.put, nA, nB, nC]); refine last_take 3 (some 63) (v := ?_) rfl (by kernel_rfl) (by kernel_rfl) (by kernel_rfl) (by kernel_rfl) (by decide) (by kernel_rfl) (fun _ _ _ h => h) (Or.inl ⟨by kernel_rfl, ?_⟩) (by assumption) ?_; rotate_left; (focus (intro w' hSw; (try dsimp only at hSw); go_simp; (try with_reducible rfl))); (try simp only [Act.put, nA, nB, nC]); refine last_take 4 (some 64) (v := ?_) rfl (by kernel_rfl) (by kernel_rfl) (by kernel_rfl) (by kernel_rfl) (by decide) (by kernel_rfl) (fun _ _ _ h => h) (Or.inl ⟨by kernel_rfl, ?_⟩) (by assumption) ?_; rotate_left; (focus (intro w' hSw; (try dsimp only at hSw); go_simp; (try with_reducible rfl))); (try simp only [Act.put, nA, nB, nC]); refine last_take 5 (some 65) (v := ?_) rfl (by kernel_rfl) (by kernel_rfl) (by kernel_rfl) (by kernel_rfl) (by decide) (by kernel_rfl) (fun _ _ _ h => h) (Or.inl ⟨by kernel_rfl, ?_⟩) (by assumption) ?_; rotate_left; (focus (intro w' hSw; (try dsimp only at hSw); go_simp; (try with_reducible rfl))); (try simp only [Act.put, nA, nB, nC]); refine last_take 6 (some 66) (v := ?_) rfl (by kernel_rfl) (by kernel_rfl) (by kernel_rfl) (by kernel_rfl) (by decide) (by kernel_rfl) (fun _ _ _ h => h) (Or.inl ⟨by kernel_rfl, ?_⟩) (by assumption) ?_; rotate_left; (focus (intro w' hSw; (try dsimp only at hSw); go_simp; (try with_reducible rfl))); (try simp only [Act.put, nA, nB, nC]); refine last_take 7 (some 67) (v := ?_) rfl (by kernel_rfl) (by kernel_rfl) (by kernel_rfl) (by kernel_rfl) (by decide) (by kernel_rfl) (fun _ _ _ h => h) (Or.inl ⟨by kernel_rfl, ?_⟩) (by assumption) ?_; rotate_left; (focus (intro w' hSw; (try dsimp only at hSw); go_simp; (try with_reducible rfl))); (try simp only [Act.put, nA, nB, nC]); refine last_take 8 (some 68) (v := ?_) rfl (by kernel_rfl) (by kernel_rfl) (by kernel_rfl) (by kernel_rfl) (by decide) (by kernel_rfl) (fun _ _ _ h => h) (Or.inl ⟨by kernel_rfl, ?_⟩) (by assumption) ?_; rotate_left; (focus (intro w' hSw; (try dsimp only at hSw); go_simp; (try with_reducible rfl))); (try simp only [Act.put, nA, nB, nC]); refine last_take 9 (some 69) (v := ?_) rfl (by kernel_rfl) (by kernel_rfl) (by kernel_rfl) (by kernel_rfl) (by decide) (by kernel_rfl) (fun _ _ _ h => h) (Or.inl ⟨by kernel_rfl, ?_⟩) (by assumption) ?_; rotate_left; (focus (intro w' hSw; (try dsimp only at hSw); go_simp; (try with_reducible rfl))); (try simp only [Act.put, nA, nB, nC]); refine last_take 10 (some 70) (v := ?_) rfl (by kernel_rfl) (by kernel_rfl) (by kernel_rfl) (by kernel_rfl) (by decide) (by kernel_rfl) (fun _ _ _ h => h) (Or.inl ⟨by kernel_rfl, ?_⟩) (by assumption) ?_; rotate_left; (focus (intro w' hSw; (try dsimp only at hSw); go_simp; (try with_reducible rfl))); (try simp only [Act.put, nA, nB, nC]); refine last_take 11 (some 71) (v := ?_) rfl (by kernel_rfl) (by kernel_rfl) (by kernel_rfl) (by kernel_rfl) (by decide) (by kernel_rfl) (fun _ _ _ h => h) (Or.inl ⟨by kernel_rfl, ?_⟩) (by assumption) ?_; rotate_left; (focus (intro w' hSw; (try dsimp only at hSw); go_simp; (try with_reducible rfl))); (try simp only [Act.put, nA, nB, nC]); refine last_take 12 (some 72) (v := ?_) rfl (by kernel_rfl) (by kernel_rfl) (by kernel_rfl) (by kernel_rfl) (by decide) (by kernel_rfl) (fun _ _ _ h => h) (Or.inl ⟨by kernel_rfl, ?_⟩) (by assumption) ?_; rotate_left; (focus (intro w' hSw; (try dsimp only at hSw); go_simp; (try with_reducible rfl))); (try simp only [Act.put, nA, nB, nC]); refine last_take 13 (some 73) (v := ?_) rfl (by kernel_rfl) (by kernel_rfl) (by kernel_rfl) (by kernel_rfl) (by decide) (by kernel_rfl) (fun _ _ _ h => h) (Or.inl ⟨by kernel_rfl, ?_⟩) (by assumption) ?_; rotate_left; (focus (intro w' hSw; (try dsimp only at hSw); go_simp; (try with_reducible rfl))); (try simp only [Act.put, nA, nB, nC]); refine last_take 14 (some 74) (v := ?_) rfl (by kernel_rfl) (by kernel_rfl) (by kernel_rfl) (by kernel_rfl) (by decide) (by kernel_rfl) (fun _ _ _ h => h) (Or.inl ⟨by kernel_rfl, ?_⟩) (by assumption) ?_; rotate_left; (focus (intro w' hSw; (try dsimp only at hSw); go_simp; (try with_reducible rfl))); (try simp only [Act.put, nA, nB, nC]); refine last_take 15 (some 75) (v := ?_) rfl (by kernel_rfl) (by kernel_rfl) (by kernel_rfl) (by kernel_rfl) (by decide) (by kernel_rfl) (fun _ _ _ h => h) (Or.inl ⟨by kernel_rfl, ?_⟩) (by assumption) ?_; rotate_left; (focus (intro w' hSw; (try dsimp only at hSw); go_simp; (try with_reducible rfl))); (try simp only [Act.put, nA, nB, nC]); refine last_take 16 (some 76) (v := ?_) rfl (by kernel_rfl) (by kernel_rfl) (by kernel_rfl) (by kernel_rfl) (by decide) (by kernel_rfl) (fun _ _ _ h => h) (Or.inl ⟨by kernel_rfl, ?_⟩) (by assumption) ?_; rotate_left; (focus (intro w' hSw; (try dsimp only at hSw); go_simp; (try with_reducible rfl))); (try simp only [Act.put, nA, nB, nC]); refine last_take 17 (some 77) (v := ?_) rfl (by kernel_rfl) (by kernel_rfl) (by kernel_rfl) (by kernel_rfl) (by decide) (by kernel_rfl) (fun _ _ _ h => h) (Or.inl ⟨by kernel_rfl, ?_⟩) (by assumption) ?_; rotate_left; (focus (intro w' hSw; (try dsimp only at hSw); go_simp; (try with_reducible rfl))); (try simp only [Act.put, nA, nB, nC]); refine last_take 18 (some 78) (v := ?_) rfl (by kernel_rfl) (by kernel_rfl) (by kernel_rfl) (by kernel_rfl) (by decide) (by kernel_rfl) (fun _ _ _ h => h) (Or.inl ⟨by kernel_rfl, ?_⟩) (by assumption) ?_; rotate_left; (focus (intro w' hSw; (try dsimp only at hSw); go_simp; (try with_reducible rfl))); (try simp only [Act.put, nA, nB, nC]); refine last_ready (i := 19) (by kernel_rfl) rfl (fun K hK => ?_); go_simp; (go_at_call 130; refine Calls.mono (radd_okP D0 XX D1 _ hI0.out hIX.out hADD.out) ?_; rintro e0 w10 ⟨rfl, hb10⟩; have hS := HK15.out _ _ hb10 hHeld; have HB10 := Lib.hid (show Below V0.heap.size V0 w10 from Below.trans belA (hb10.mono (by first | omega | (simp <;> omega)))); have h8' := (HB10.out.frozen (p := ⟨m3, b * 2, none⟩) (by exact h4)).trans h8; have h9' := (HB10.out.frozen (p := ⟨m3, b * 2 + 1, none⟩) (by exact h4)).trans h9; have v3' := bkeep HB10.out v3; have v4' := bkeep HB10.out v4; have hz10 := HB10.out.size; have zz10 : m3 < w10.heap.size := (by omega); clear hb10); go_wp2_with fail; refine hK.out _ _ ?_ (fun hHeld => ?_); (focus (first | exact hS | (simp [*, go_sem]; done) | fail)); clear hK K; (try simp only [Act.put, nA, nB, nC]); refine last_take 20 (some 59) (v := ?_) rfl (by kernel_rfl) (by kernel_rfl) (by kernel_rfl) (by kernel_rfl) (by decide) (by kernel_rfl) (fun _ _ _ h => h) (Or.inl ⟨by kernel_rfl, ?_⟩) (by assumption) ?_; rotate_left; (focus (intro w' hSw; (try dsimp only at hSw); go_simp; (try with_reducible rfl))); (try simp only [Act.put, nA, nB, nC]); refine last_take 21 (some 80) (v := ?_) rfl (by kernel_rfl) (by kernel_rfl) (by kernel_rfl) (by kernel_rfl) (by decide) (by kernel_rfl) (fun _ _ _ h => h) (Or.inl ⟨by kernel_rfl, ?_⟩) (by assumption) ?_; rotate_left; (focus (intro w' hSw; (try dsimp only at hSw); go_simp; (try with_reducible rfl))); (try simp only [Act.put, nA, nB, nC]); refine last_free 22 (some 81) (v := ?_) rfl (by kernel_rfl) (by kernel_rfl) (by kernel_rfl) (by decide) (by kernel_rfl) (fun _ _ _ h => h) (Or.inl ⟨by kernel_rfl, ?_⟩) (by assumption) ?_; rotate_left; (focus (intro w' hSw; go_simp; (try with_reducible rfl))); (try simp only [Act.put, nA, nB, nC]); refine last_take 23 (some 82) (v := ?_) rfl (by kernel_rfl) (by kernel_rfl) (by kernel_rfl) (by kernel_rfl) (by decide) (by kernel_rfl) (fun _ _ _ h => h) (Or.inl ⟨by kernel_rfl, ?_⟩) (by assumption) ?_; rotate_left; (focus (intro w' hSw; (try dsimp only at hSw); go_simp; (try with_reducible rfl))); (try simp only [Act.put, nA, nB, nC]); refine last_end (by kernel_rfl) rfl (fun K hK => ?_); (try go_simp); refine hK.out _ _ ?_; clear hK K hHeld; (try simp only [Act.put, nA, nB, nC]); refine last_done (by kernel_rfl) ?_ _)
                  go_wp2_with fail
                  go_roundw
                  case rel =>
                    refine ⟨b + 1, by omega, by go_num, Lib.hid ?_, Lib.hid ?_, ?_⟩
                    · rw [← mixL_step, hD1.out]
                      exact HPUT.out D1 _ (inF_ok hI1.out) (bsetBoth (bsetBoth HB10.out _ _) _ _)
                    · exact ((hTb.out.below (Nat.le_refl _) HB10.out).chg (((Chg.refl [m3] _).set (by simp) _).set (by simp) _) (fun c hc hm => by have := hTb.out.ge c hc; simp at hm; omega))
                    · exact ((hCb.trans (Chg.of HB10.out _)).set (by exact h6) _).set (by exact h6) _
                  case measure => simp [intOf]; omega
                · have e9 : b = NF := by omega
                  subst e9
                  go_wp2_with fail
                  go_roundw
                  case rel => exact ⟨a + 1, by omega, by go_num, Lib.hid (by rw [← mixL_row]; exact hMb.out), hTb, hCb⟩
                  case measure => simp [intOf]; omega
            · have e9 : a = NF := by omega
              subst e9
              have hCw : Hid (Chg F2 W0 wr) := Lib.hid (((Chg.of HB9.out _)).trans hCa)
              go_wp2_with fail
              go_roundw
              case rel =>
                refine ⟨x + 1, by omega, by go_num, Lib.hid (hCw.out.2.2.2.2 _ y0 (fun hm => by have := hOM.out.ge _ hm; omega) |>.trans hKG.out), Lib.hid (hOL.out.chg hCw.out (fun c hc hm => by have := hOM.out.ge c hm; have := HFL.out c hc; omega)), Lib.hid (by rw [← mixL_all (AC x) (AC (x + 1))]; exact hMa.out), hB.trans (hCw.out.below (fun c hc => by have := hOM.out.ge c hc; omega) hzB), by have := hCw.out.size; omega⟩
              case measure => simp [intOf]; omega
    · have ee : x = N := by omega
      have hNn := hN.out
      subst ee
      obtain ⟨hn0, hni⟩ := HN0.out
      have HNZ := Lib.hid hn0
      have HNI := Lib.hid hni
      clear hn0 hni hNn
      go_wp2_with fail
      refine Calls.mono (sOneA_any x _) ?_
      rintro e0 w3 ⟨rfl, hb3⟩
      have HB3 := Lib.hid (show Below W0.heap.size W0 w3 from Below.trans belA (hb3.mono (by first | omega | (simp <;> omega))))
      have hz3 := HB3.out.size
      have HO3 := Lib.hid (hOM.out.below (Nat.le_refl _) (bal HB3.out (.cells #[.int .i64 x, .int .i64 1] 54)))
      have HFB : Hid (∀ c ∈ F2, w1.heap.size ≤ c ∧ c < w3.heap.size) := Lib.hid fun c hc => ⟨hOM.out.ge c hc, by have := hOM.out.lt c hc; omega⟩
      clear hb3
      go_wp2_with fail
      go_loopw [13] (fun i wr => ∃ (a : Nat), a ≤ NF ∧ i = .int .i64 a ∧ Hid (Own (shL shFr) w1.heap.size wr (matL NF NF (mixL (AC x) PD a 0)) (.slice A2 NF cap2) F2) ∧ Hid (wr.heap[w3.heap.size]? = some (.cells #[.int .i64 x, .int .i64 1] 54 (0, 0))) ∧ Hid (Chg F2 W0 wr)) (fun i _ => NF - (intOf i).toNat)
      case atStart =>
        have hb3 := HB3.out
        exact ⟨0, Nat.zero_le _, rfl, Lib.hid (by rw [mixL_zero]; exact HO3.out), Lib.hid (blknew _ _), Lib.hid (Chg.of belA _)⟩
      case round =>
        obtain ⟨a, ha, rfl, hMa, hKa, hCa⟩ := hrel
        by_cases hla : a < NF
        · have hla8 : (a : Int) < (NF : Int) := by omega
          go_wp2_with fail
          go_loopw [14] (fun j wr => ∃ (b : Nat), b ≤ NF ∧ j = .int .i64 b ∧ Hid (Own (shL shFr) w1.heap.size wr (matL NF NF (mixL (AC x) PD a b)) (.slice A2 NF cap2) F2) ∧ Hid (wr.heap[w3.heap.size]? = some (.cells #[.int .i64 x, .int .i64 1] 54 (0, 0))) ∧ Hid (Chg F2 W0 wr)) (fun j _ => NF - (intOf j).toNat)
          case atStart => exact ⟨0, Nat.zero_le _, rfl, hMa, hKa, hCa⟩
          case round =>
            obtain ⟨b, hb, rfl, hMb, hKb, hCb⟩ := hrel
            obtain ⟨V0, rfl⟩ : ∃ x, x = wr := ⟨_, rfl⟩
            by_cases hlb : b < NF
            · have hlb8 : (b : Int) < (NF : Int) := by omega
              obtain ⟨m2, m3, mc4, rfl, h1, h2, h3, h4, h5, h6, h7, h8, h9, v3, v4, hput⟩ := mat_get hMb.out hNF2 (mixL_in (HACI.out x (by omega)) HPI.out a b) hla hlb
              rw [mixL_at] at v3 v4
              obtain ⟨D0, hD0⟩ : ∃ D0, Hid (AC x a b = D0) := ⟨_, Lib.hid rfl⟩
              obtain ⟨D1, hD1⟩ : ∃ D1, Hid (PD a b = D1) := ⟨_, Lib.hid rfl⟩
              have hDIV := Lib.hid (HEND.out a hla b hlb)
              have hI0 := Lib.hid (HACI.out x (by omega) a hla b hlb)
              have hI1 := Lib.hid (HPI.out a hla b hlb)
              rw [hD0.out, hD1.out] at hDIV
              rw [hD0.out] at v3 v4 hI0
              rw [hD1.out] at hI1
              have HPUT := Lib.hid hput
              obtain ⟨s0, s1⟩ := blkc2 hKb.out
              have ys := blklt hKb.out
              have hmne : m3 ≠ w3.heap.size := by have := HFB.out m3 h6; omega
              clear hput
              have HK23 : Hid (∀ V w' : World, Below V.heap.size V w' → (fun w' => w'.cell? ⟨m2, a, none⟩ = some (.slice (some ⟨m3, 0, none⟩) NF mc4) ∧ w'.cell? ⟨m3, b * 2, none⟩ = some (.int .i64 D0.1) ∧ w'.cell? ⟨m3, b * 2 + 1, none⟩ = some (.int .i64 D0.2) ∧ w'.cell? ⟨w3.heap.size, 0, none⟩ = some (.int .i64 x) ∧ w'.cell? ⟨w3.heap.size, 1, none⟩ = some (.int .i64 1)) V → (fun w' => w'.cell? ⟨m2, a, none⟩ = some (.slice (some ⟨m3, 0, none⟩) NF mc4) ∧ w'.cell? ⟨m3, b * 2, none⟩ = some (.int .i64 D0.1) ∧ w'.cell? ⟨m3, b * 2 + 1, none⟩ = some (.int .i64 D0.2) ∧ w'.cell? ⟨w3.heap.size, 0, none⟩ = some (.int .i64 x) ∧ w'.cell? ⟨w3.heap.size, 1, none⟩ = some (.int .i64 1)) w') := Lib.hid fun V w' hb h => by
                simp only at h ⊢
                exact ⟨bkeep hb h.1, bkeep hb h.2.1, bkeep hb h.2.2.1, bkeep hb h.2.2.2.1, bkeep hb h.2.2.2.2⟩
              go_wp2_with fail
              (refine last_region (S := (fun w' => w'.cell? ⟨m2, a, none⟩ = some (.slice (some ⟨m3, 0, none⟩) NF mc4) ∧ w'.cell? ⟨m3, b * 2, none⟩ = some (.int .i64 D0.1) ∧ w'.cell? ⟨m3, b * 2 + 1, none⟩ = some (.int .i64 D0.2) ∧ w'.cell? ⟨w3.heap.size, 0, none⟩ = some (.int .i64 x) ∧ w'.cell? ⟨w3.heap.size, 1, none⟩ = some (.int .i64 1))) 18 (by kernel_rfl) ?_ (fun hHeld => ?_); (focus (first | exact hS | (simp [*, go_sem]; done) | fail)); refine last_take 0 (some 99) (v := ?_) rfl (by kernel_rfl) (by kernel_rfl) (by kernel_rfl) (by kernel_rfl) (by decide) (by kernel_rfl) (fun _ _ _ h => h) (Or.inl ⟨by kernel_rfl, ?_⟩) (by assumption) ?_; rotate_left; (focus (intro w' hSw; (try dsimp only at hSw); go_simp; (try with_reducible rfl))); (try simp only [Act.put, nA, nB, nC]); refine last_take 1 (some 100) (v := ?_) rfl (by kernel_rfl) (by kernel_rfl) (by kernel_rfl) (by kernel_rfl) (by decide) (by kernel_rfl) (fun _ _ _ h => h) (Or.inl ⟨by kernel_rfl, ?_⟩) (by assumption) ?_; rotate_left; (focus (intro w' hSw; (try dsimp only at hSw); go_simp; (try with_reducible rfl))); (try simp only [Act.put, nA, nB, nC]); refine last_take 2 (some 101) (v := ?_) rfl (by kernel_rfl) (by kernel_rfl) (by kernel_rfl) (by kernel_rfl) (by decide) (by kernel_rfl) (fun _ _ _ h => h) (Or.inl ⟨by kernel_rfl, ?_⟩) (by assumption) ?_; rotate_left; (focus (intro w' hSw; (try dsimp only at hSw); go_simp; (try with_reducible rfl))); (try simp only [Act.put, nA, nB, nC]); refine last_take 3 (some 102) (v := ?_) rfl (by kernel_rfl) (by kernel_rfl) (by kernel_rfl) (by kernel_rfl) (by decide) (by kernel_rfl) (fun _ _ _ h => h) (Or.inl ⟨by kernel_rfl, ?_⟩) (by assumption) ?_; rotate_left; (focus (intro w' hSw; (try dsimp only at hSw); go_simp; (try with_reducible rfl))); (try simp only [Act.put, nA, nB, nC]); refine last_take 4 (some 103) (v := ?_) rfl (by kernel_rfl) (by kernel_rfl) (by kernel_rfl) (by kernel_rfl) (by decide) (by kernel_rfl) (fun _ _ _ h => h) (Or.inl ⟨by kernel_rfl, ?_⟩) (by assumption) ?_; rotate_left; (focus (intro w' hSw; (try dsimp only at hSw); go_simp; (try with_reducible rfl))); (try simp only [Act.put, nA, nB, nC]); refine last_take 5 (some 104) (v := ?_) rfl (by kernel_rfl) (by kernel_rfl) (by kernel_rfl) (by kernel_rfl) (by decide) (by kernel_rfl) (fun _ _ _ h => h) (Or.inl ⟨by kernel_rfl, ?_⟩) (by assumption) ?_; rotate_left; (focus (intro w' hSw; (try dsimp only at hSw); go_simp; (try with_reducible rfl))); (try simp only [Act.put, nA, nB, nC]); refine last_take 6 (some 105) (v := ?_) rfl (by kernel_rfl) (by kernel_rfl) (by kernel_rfl) (by kernel_rfl) (by decide) (by kernel_rfl) (fun _ _ _ h => h) (Or.inl ⟨by kernel_rfl, ?_⟩) (by assumption) ?_; rotate_left; (focus (intro w' hSw; (try dsimp only at hSw); go_simp; (try with_reducible rfl))); (try simp only [Act.put, nA, nB, nC]); refine last_take 7 (some 106) (v := ?_) rfl (by kernel_rfl) (by kernel_rfl) (by kernel_rfl) (by kernel_rfl) (by decide) (by kernel_rfl) (fun _ _ _ h => h) (Or.inl ⟨by kernel_rfl, ?_⟩) (by assumption) ?_; rotate_left; (focus (intro w' hSw; (try dsimp only at hSw); go_simp; (try with_reducible rfl))); (try simp only [Act.put, nA, nB, nC]); refine last_take 8 (some 107) (v := ?_) rfl (by kernel_rfl) (by kernel_rfl) (by kernel_rfl) (by kernel_rfl) (by decide) (by kernel_rfl) (fun _ _ _ h => h) (Or.inl ⟨by kernel_rfl, ?_⟩) (by assumption) ?_; rotate_left; (focus (intro w' hSw; (try dsimp only at hSw); go_simp; (try with_reducible rfl))); (try simp only [Act.put, nA, nB, nC]); refine last_take 9 (some 108) (v := ?_) rfl (by kernel_rfl) (by kernel_rfl) (by kernel_rfl) (by kernel_rfl) (by decide) (by kernel_rfl) (fun _ _ _ h => h) (Or.inl ⟨by kernel_rfl, ?_⟩) (by assumption) ?_; rotate_left; (focus (intro w' hSw; (try dsimp only at hSw); go_simp; (try with_reducible rfl))); (try simp only [Act.put, nA, nB, nC]); refine last_take 10 (some 109) (v := ?_) rfl (by kernel_rfl) (by kernel_rfl) (by kernel_rfl) (by kernel_rfl) (by decide) (by kernel_rfl) (fun _ _ _ h => h) (Or.inl ⟨by kernel_rfl, ?_⟩) (by assumption) ?_; rotate_left; (focus (intro w' hSw; (try dsimp only at hSw); go_simp; (try with_reducible rfl))); (try simp only [Act.put, nA, nB, nC]); refine last_take 11 (some 110) (v := ?_) rfl (by kernel_rfl) (by kernel_rfl) (by kernel_rfl) (by kernel_rfl) (by decide) (by kernel_rfl) (fun _ _ _ h => h) (Or.inl ⟨by kernel_rfl, ?_⟩) (by assumption) ?_; rotate_left; (focus (intro w' hSw; (try dsimp only at hSw); go_simp; (try with_reducible rfl))); (try simp only [Act.put, nA, nB, nC]); refine last_take 12 (some 111) (v := ?_) rfl (by kernel_rfl) (by kernel_rfl) (by kernel_rfl) (by kernel_rfl) (by decide) (by kernel_rfl) (fun _ _ _ h => h) (Or.inl ⟨by kernel_rfl, ?_⟩) (by assumption) ?_; rotate_left; (focus (intro w' hSw; (try dsimp only at hSw); go_simp; (try with_reducible rfl))); (try simp only [Act.put, nA, nB, nC]); refine last_ready (i := 13) (by kernel_rfl) rfl (fun K hK => ?_); go_simp; (go_at_call 161; refine Calls.mono (rdiv_okP D0 ((x : Int), 1) D1 _ hI0.out HNI.out HNZ.out hDIV.out) ?_; rintro e0 w10 ⟨rfl, hb10⟩; have hS := HK23.out _ _ hb10 hHeld; have HB10 := Lib.hid (show Below V0.heap.size V0 w10 from Below.trans belA (hb10.mono (by first | omega | (simp <;> omega)))); have h8' := (HB10.out.frozen (p := ⟨m3, b * 2, none⟩) (by exact h4)).trans h8; have h9' := (HB10.out.frozen (p := ⟨m3, b * 2 + 1, none⟩) (by exact h4)).trans h9; have v3' := bkeep HB10.out v3; have v4' := bkeep HB10.out v4; have hz10 := HB10.out.size; have zz10 : m3 < w10.heap.size := (by omega); clear hb10); go_wp2_with fail; refine hK.out _ _ ?_ (fun hHeld => ?_); (focus (first | exact hS | (simp [*, go_sem]; done) | fail)); clear hK K; (try simp only [Act.put, nA, nB, nC]); refine last_take 14 (some 98) (v := ?_) rfl (by kernel_rfl) (by kernel_rfl) (by kernel_rfl) (by kernel_rfl) (by decide) (by kernel_rfl) (fun _ _ _ h => h) (Or.inl ⟨by kernel_rfl, ?_⟩) (by assumption) ?_; rotate_left; (focus (intro w' hSw; (try dsimp only at hSw); go_simp; (try with_reducible rfl))); (try simp only [Act.put, nA, nB, nC]); refine last_take 15 (some 113) (v := ?_) rfl (by kernel_rfl) (by kernel_rfl) (by kernel_rfl) (by kernel_rfl) (by decide) (by kernel_rfl) (fun _ _ _ h => h) (Or.inl ⟨by kernel_rfl, ?_⟩) (by assumption) ?_; rotate_left; (focus (intro w' hSw; (try dsimp only at hSw); go_simp; (try with_reducible rfl))); (try simp only [Act.put, nA, nB, nC]); refine last_free 16 (some 114) (v := ?_) rfl (by kernel_rfl) (by kernel_rfl) (by kernel_rfl) (by decide) (by kernel_rfl) (fun _ _ _ h => h) (Or.inl ⟨by kernel_rfl, ?_⟩) (by assumption) ?_; rotate_left; (focus (intro w' hSw; go_simp; (try with_reducible rfl))); (try simp only [Act.put, nA, nB, nC]); refine last_take 17 (some 115) (v := ?_) rfl (by kernel_rfl) (by kernel_rfl) (by kernel_rfl) (by kernel_rfl) (by decide) (by kernel_rfl) (fun _ _ _ h => h) (Or.inl ⟨by kernel_rfl, ?_⟩) (by assumption) ?_; rotate_left; (focus (intro w' hSw; (try dsimp only at hSw); go_simp; (try with_reducible rfl))); (try simp only [Act.put, nA, nB, nC]); refine last_end (by kernel_rfl) rfl (fun K hK => ?_); (try go_simp); refine hK.out _ _ ?_; clear hK K hHeld; (try simp only [Act.put, nA, nB, nC]); refine last_done (by kernel_rfl) ?_ _)
              go_wp2_with fail
              go_roundw
              case rel =>
                refine ⟨b + 1, by omega, by go_num, Lib.hid ?_, Lib.hid ?_, Lib.hid ?_⟩
                · rw [← mixL_step, hD1.out]
                  exact HPUT.out D1 _ (inF_ok hI1.out) (bsetBoth (bsetBoth HB10.out _ _) _ _)
                · exact blkset (blkset (bblk HB10.out ys hKb.out) (by show w3.heap.size ≠ m3; omega) _) (by show w3.heap.size ≠ m3; omega) _
                · exact ((hCb.out.trans (Chg.of HB10.out _)).set (by exact h6) _).set (by exact h6) _
              case measure => simp [intOf]; omega
            · have e9 : b = NF := by omega
              subst e9
              go_wp2_with fail
              go_roundw
              case rel => exact ⟨a + 1, by omega, by go_num, Lib.hid (by rw [← mixL_row]; exact hMb.out), hKb, hCb⟩
              case measure => simp [intOf]; omega
        · have e9 : a = NF := by omega
          subst e9
          have HFIN := Lib.hid (show Own (shL shFr) w.heap.size wr (matL a a PD) (.slice A2 a cap2) F2 by
            have h := hMa.out
            rw [mixL_all] at h
            exact h.move (by omega) (fun _ _ _ => rfl))
          have HBF := Lib.hid (hB.trans (hCa.out.below (fun c hc => by have := HFB.out c hc; omega) hzB))
          go_wp2_with fail
          exact bodyPost_ret (v := .slice A2 a cap2) (by simp [results, Tryz.results79, go_sem]) rfl ⟨A2, cap2, F2, rfl, HFIN.out, HBF.out⟩
end Go.Proofs.YtekchdgpaemofaaGreat
