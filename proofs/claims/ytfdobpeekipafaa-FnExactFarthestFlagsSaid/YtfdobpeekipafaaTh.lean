/- impl.ThroughSize. -/
import Derived.Test.YtfdobpeekipafaaTp
import Derived.Test.YtfdobpeekipafaaVl
import Derived.Test.YtfdobpeekipafaaFk
import Derived.Test.YtfdobpeekipafaaRk
import Derived.Test.YtfdobpeekipafaaFd
namespace Go.Proofs.Ytfdobpeekipafaa
open Go.ChangeShapes Go.WideShapes Go.RowKit
set_option linter.unusedVariables false
set_option linter.unusedSimpArgs false
attribute [local irreducible] Calls
theorem kmul_ok (b o : Nat) (x y p : Int × Int) (w : World) (hc : w.cell? ⟨b, o, none⟩ = some (.bool false)) (hf : w.frozen? ⟨b, o, none⟩ = false) (hx : inF x) (hy : inF y) (h : mulO x y = some p) :
    Calls Try.prog 64 #[.pointer (some ⟨b, o, none⟩), .agg #[.int .i64 x.1, .int .i64 x.2], .agg #[.int .i64 y.1, .int .i64 y.2]] w fun e w' => e = .returned (.agg #[.int .i64 p.1, .int .i64 p.2]) ∧ Below w.heap.size w w' := by
  have := kmul_any b o false x y w (World.block_lt_of_cell? _ _ hc) hc hf hx hy
  rw [h] at this
  simpa [kD, noB, setCell_same _ _ _ hc] using this
theorem kadd_ok (b o : Nat) (x y p : Int × Int) (w : World) (hc : w.cell? ⟨b, o, none⟩ = some (.bool false)) (hf : w.frozen? ⟨b, o, none⟩ = false) (hx : inF x) (hy : inF y) (h : addO x y = some p) :
    Calls Try.prog 63 #[.pointer (some ⟨b, o, none⟩), .agg #[.int .i64 x.1, .int .i64 x.2], .agg #[.int .i64 y.1, .int .i64 y.2]] w fun e w' => e = .returned (.agg #[.int .i64 p.1, .int .i64 p.2]) ∧ Below w.heap.size w w' := by
  have := kadd_any b o false x y w (World.block_lt_of_cell? _ _ hc) hc hf hx hy
  rw [h] at this
  simpa [kD, noB, setCell_same _ _ _ hc] using this
theorem ksub_ok (b o : Nat) (x y p : Int × Int) (w : World) (hc : w.cell? ⟨b, o, none⟩ = some (.bool false)) (hf : w.frozen? ⟨b, o, none⟩ = false) (hx : inF x) (hy : inF y) (h : subO x y = some p) :
    Calls Try.prog 76 #[.pointer (some ⟨b, o, none⟩), .agg #[.int .i64 x.1, .int .i64 x.2], .agg #[.int .i64 y.1, .int .i64 y.2]] w fun e w' => e = .returned (.agg #[.int .i64 p.1, .int .i64 p.2]) ∧ Below w.heap.size w w' := by
  have := ksub_any b o false x y w (World.block_lt_of_cell? _ _ hc) hc hf hx hy
  rw [h] at this
  simpa [kD, noB, setCell_same _ _ _ hc] using this
theorem ktold_ok (b o : Nat) (x : Int × Int) (w : World) (hc : w.cell? ⟨b, o, none⟩ = some (.bool false)) :
    Calls Try.prog 65 #[.pointer (some ⟨b, o, none⟩), .agg #[.int .i64 x.1, .int .i64 x.2]] w fun e w' => e = .returned (.tuple #[.agg #[.int .i64 x.1, .int .i64 x.2], .int .i64 0]) ∧ Below w.heap.size w w' :=
  told_any b o false x.1 x.2 w (World.block_lt_of_cell? _ _ hc) hc
def fl2C (a b : Flg) : Int := if flV a && flV b then 0 else 1
/-- The code and the parts of what goes through all flags of a size. -/
def thC (f g : Flg) (s : Int) : Int := if flV f && flV g then (if tyNe f g then 4 else (if inB s f.2.1 g.2.1 then (if (flagsL g.1.toNat (tyE g) s.toNat []).length ≤ 64 then 0 else 3) else 2)) else 1
def thL1 (k s : Nat) (f : Flg) (L : List Flg) : List (Int × Int) := L.map fun x => dns k s x.2.2 f
def thD (f g : Flg) (s : Int) : Int × Int := (dotO (thL1 g.1.toNat s.toNat f (flagsF g.1.toNat (tyE g) s.toNat [])) (dnsL g.1.toNat g.2.1.toNat g.2.2 (flagsF g.1.toNat (tyE g) s.toNat []))).getD (0, 0)
def thR (f g : Flg) (s : Int) : Int × Int := if thC f g s = 0 then thD f g s else (0, 0)
theorem dns_vl {k n : Nat} {e : Int} {f : Flg} (hk : k ≤ 3) (hn : n ≤ 5) (hkm : k ≤ f.2.1.toNat) (hmn : f.2.1.toNat ≤ n) : Vl (dns k n e f) (ctF k n e f) (dnC k n f.2.1.toNat) ∧ (0 ≤ ctF k n e f ∧ ctF k n e f ≤ 100) ∧ 1 ≤ dnC k n f.2.1.toNat ∧ dnC k n f.2.1.toNat ≤ 10 :=
  ⟨low_vl (dnC_bd hkm hmn hn).1, ctF_bd hk hn (by omega), dnC_bd hkm hmn hn⟩
/-- So far. -/
def ThI (X Y : List (Int × Int)) (D : Int) (a : Nat) (d : Int × Int) : Prop := inF d ∧ dotO (X.take a) (Y.take a) = some d ∧ ∃ M, Vl d M D ∧ 0 ≤ M ∧ M ≤ a * 10000
theorem ThI.start (X Y : List (Int × Int)) (D : Int) : ThI X Y D 0 (0, 1) := ⟨zero_in, rfl, 0, Vl.zero D, Int.le_refl 0, by simp⟩
theorem ThI.step {X Y : List (Int × Int)} {C1 C2 : Int} {a : Nat} {d x y : Int × Int} {N1 N2 : Int} (h : ThI X Y (C1 * C2) a d) (ha : a ≤ 1000) (hX : X[a]? = some x) (hY : Y[a]? = some y) (hx : Vl x N1 C1) (hy : Vl y N2 C2) (h1 : 0 ≤ N1 ∧ N1 ≤ 100) (h2 : 0 ≤ N2 ∧ N2 ≤ 100) (h3 : 1 ≤ C1 ∧ C1 ≤ 10) (h4 : 1 ≤ C2 ∧ C2 ≤ 10) :
    inF x ∧ inF y ∧ ∃ p d', mulO x y = some p ∧ inF p ∧ addO d p = some d' ∧ ThI X Y (C1 * C2) (a + 1) d' := by
  obtain ⟨hd, hdo, M, hM, m1, m2⟩ := h
  obtain ⟨p, d', e1, e2, e3, e4, e5, e6, e7⟩ := sd_step hM hx hy h1 h2 h3 h4 ⟨m1, by omega⟩
  refine ⟨(hx.small h3.1 (by omega) (by omega)).2, (hy.small h4.1 (by omega) (by omega)).2, p, d', e1, e2, e3, e4, ?_, _, e5, e6, by push_cast; omega⟩
  rw [dotO_take hX hY, hdo]
  unfold dotS
  simp [e1, e3]
set_option maxHeartbeats 4000000 in
theorem ThroughSize_any (w : World) (f g : Flg) (s : Int) (hfo : okFlag f) (hgo : okFlag g) :
    Calls Try.prog 22 #[.agg #[.int .i64 f.1, .int .i64 f.2.1, .int .u32 f.2.2], .agg #[.int .i64 g.1, .int .i64 g.2.1, .int .u32 g.2.2], .int .i64 s] w fun e w' => e = .returned (.tuple #[.agg #[.int .i64 (thR f g s).1, .int .i64 (thR f g s).2], .int .i64 (thC f g s)]) ∧ Below w.heap.size w w' := by
  have HFL : Hid (∀ w v, Lst shFlag w [f, g] v → Calls Try.prog 60 #[v] w fun e w' => e = .returned (.int .i64 (fl2C f g)) ∧ Below w.heap.size w w') := Lib.hid fun w v h => flags2_any w f g v h
  have HFO := Lib.hid hfo
  have HGO := Lib.hid hgo
  cases h1 : (flV f && flV g)
  · have hc : Hid (thC f g s = 1) := Lib.hid (by simp [thC, h1])
    have hr : Hid (thR f g s = (0, 0)) := Lib.hid (by unfold thR; rw [hc.out]; rfl)
    have H1 : Hid (fl2C f g = 1) := Lib.hid (by unfold fl2C; rw [h1]; rfl)
    clear h1 hfo hgo
    go_enter Try.func22, Try.ntmps22
    go_wp2_with (first | (go_at_call 60; refine Calls.mono (HFL.out _ _ (lst_two (by repeat (first | with_reducible assumption | with_reducible refine pls_block _ _ ?_ | with_reducible apply blkset2 | with_reducible apply blkset1 | ((with_reducible refine blksetN ?_ ?_ _); (focus (simp <;> omega))) | with_reducible exact blknew _ _ | ((with_reducible refine blknew' _ _ _ ?_); (simp <;> omega)) | with_reducible refine blkal ?_ _)) HFO.out HGO.out)) ?_; rw [H1.out]; rintro e w1 ⟨rfl, hb⟩; obtain ⟨X, m, rfl⟩ := plsOf hb; clear hb))
    exact bodyPost_ret (v := .tuple #[.agg #[.int .i64 0, .int .i64 0], .int .i64 1]) (by simp [results, Try.results22, go_sem]) rfl ⟨by rw [hr.out, hc.out], (by (try with_reducible refine bsz ?_); repeat (first | with_reducible exact Below.refl _ _ | ((with_reducible refine bpre ?_); (try simp only [Array.append_assoc]); repeat (first | with_reducible exact Pre.refl _ | with_reducible exact Pre.base _ _ | with_reducible refine Pre.cons _ ?_)) | with_reducible assumption | ((with_reducible refine bsetr ?_); rfl) | with_reducible refine Below.setCell ?_ (by simp <;> omega) _ | with_reducible refine bpl ?_ _ _ | with_reducible refine bal ?_ _ | with_reducible refine bdrew1 ?_ | with_reducible refine bdrew ?_ _))⟩
  obtain ⟨hvf, hvg⟩ : flV f = true ∧ flV g = true := by simpa using h1
  have H1 : Hid (fl2C f g = 0) := Lib.hid (by unfold fl2C; rw [h1]; rfl)
  have hff := (flV_iff _).1 hvf
  have hgg := (flV_iff _).1 hvg
  have hf5 : 0 ≤ f.1 ∧ f.1 ≤ 5 := by omega
  have hg5 : 0 ≤ g.1 ∧ g.1 ≤ 5 := by omega
  have HSM : Hid (∀ w v, Lst shFlag w [f, g] v → Calls Try.prog 61 #[v] w fun e w' => e = .returned (.bool (!tyNe f g)) ∧ Below w.heap.size w w') := Lib.hid fun w v h => same2_any w f g v h hf5 hg5
  have hc0 : thC f g s = (if tyNe f g then 4 else (if inB s f.2.1 g.2.1 then (if (flagsL g.1.toNat (tyE g) s.toNat []).length ≤ 64 then 0 else 3) else 2)) := by unfold thC; rw [if_pos h1]
  cases h2 : tyNe f g
  rotate_left
  · have hc : Hid (thC f g s = 4) := Lib.hid (by rw [hc0, h2]; rfl)
    have hr : Hid (thR f g s = (0, 0)) := Lib.hid (by unfold thR; rw [hc.out]; rfl)
    have H2 : Hid ((!tyNe f g) = false) := Lib.hid (by rw [h2]; rfl)
    clear h1 h2 hc0 hvf hvg hff hgg hfo hgo
    go_enter Try.func22, Try.ntmps22
    go_wp2_with (first | (go_at_call 60; refine Calls.mono (HFL.out _ _ (lst_two (by repeat (first | with_reducible assumption | with_reducible refine pls_block _ _ ?_ | with_reducible apply blkset2 | with_reducible apply blkset1 | ((with_reducible refine blksetN ?_ ?_ _); (focus (simp <;> omega))) | with_reducible exact blknew _ _ | ((with_reducible refine blknew' _ _ _ ?_); (simp <;> omega)) | with_reducible refine blkal ?_ _)) HFO.out HGO.out)) ?_; rw [H1.out]; rintro e w1 ⟨rfl, hb⟩; obtain ⟨X, m, rfl⟩ := plsOf hb; clear hb) | (go_at_call 61; refine Calls.mono (HSM.out _ _ (lst_two (by repeat (first | with_reducible assumption | with_reducible refine pls_block _ _ ?_ | with_reducible apply blkset2 | with_reducible apply blkset1 | ((with_reducible refine blksetN ?_ ?_ _); (focus (simp <;> omega))) | with_reducible exact blknew _ _ | ((with_reducible refine blknew' _ _ _ ?_); (simp <;> omega)) | with_reducible refine blkal ?_ _)) HFO.out HGO.out)) ?_; rw [H2.out]; rintro e w1 ⟨rfl, hb⟩; obtain ⟨X, m, rfl⟩ := plsOf hb; clear hb))
    exact bodyPost_ret (v := .tuple #[.agg #[.int .i64 0, .int .i64 0], .int .i64 4]) (by simp [results, Try.results22, go_sem]) rfl ⟨by rw [hr.out, hc.out], (by (try with_reducible refine bsz ?_); repeat (first | with_reducible exact Below.refl _ _ | ((with_reducible refine bpre ?_); (try simp only [Array.append_assoc]); repeat (first | with_reducible exact Pre.refl _ | with_reducible exact Pre.base _ _ | with_reducible refine Pre.cons _ ?_)) | with_reducible assumption | ((with_reducible refine bsetr ?_); rfl) | with_reducible refine Below.setCell ?_ (by simp <;> omega) _ | with_reducible refine bpl ?_ _ _ | with_reducible refine bal ?_ _ | with_reducible refine bdrew1 ?_ | with_reducible refine bdrew ?_ _))⟩
  have H2 : Hid ((!tyNe f g) = true) := Lib.hid (by rw [h2]; rfl)
  cases h3 : inB s f.2.1 g.2.1
  · have hc : Hid (thC f g s = 2) := Lib.hid (by rw [hc0, h2, h3]; rfl)
    have hr : Hid (thR f g s = (0, 0)) := Lib.hid (by unfold thR; rw [hc.out]; rfl)
    have H3 := Lib.hid h3
    clear h1 h2 h3 hc0 hvf hvg hff hgg hfo hgo
    go_enter Try.func22, Try.ntmps22
    go_wp2_with (first | (go_at_call 60; refine Calls.mono (HFL.out _ _ (lst_two (by repeat (first | with_reducible assumption | with_reducible refine pls_block _ _ ?_ | with_reducible apply blkset2 | with_reducible apply blkset1 | ((with_reducible refine blksetN ?_ ?_ _); (focus (simp <;> omega))) | with_reducible exact blknew _ _ | ((with_reducible refine blknew' _ _ _ ?_); (simp <;> omega)) | with_reducible refine blkal ?_ _)) HFO.out HGO.out)) ?_; rw [H1.out]; rintro e w1 ⟨rfl, hb⟩; obtain ⟨X, m, rfl⟩ := plsOf hb; clear hb) | (go_at_call 61; refine Calls.mono (HSM.out _ _ (lst_two (by repeat (first | with_reducible assumption | with_reducible refine pls_block _ _ ?_ | with_reducible apply blkset2 | with_reducible apply blkset1 | ((with_reducible refine blksetN ?_ ?_ _); (focus (simp <;> omega))) | with_reducible exact blknew _ _ | ((with_reducible refine blknew' _ _ _ ?_); (simp <;> omega)) | with_reducible refine blkal ?_ _)) HFO.out HGO.out)) ?_; rw [H2.out]; rintro e w1 ⟨rfl, hb⟩; obtain ⟨X, m, rfl⟩ := plsOf hb; clear hb) | (go_at_call 52; refine Calls.mono ((H3.out ▸ in_any s f.2.1 g.2.1 _)) ?_; rintro e w1 ⟨rfl, rfl⟩))
    exact bodyPost_ret (v := .tuple #[.agg #[.int .i64 0, .int .i64 0], .int .i64 2]) (by simp [results, Try.results22, go_sem]) rfl ⟨by rw [hr.out, hc.out], (by (try with_reducible refine bsz ?_); repeat (first | with_reducible exact Below.refl _ _ | ((with_reducible refine bpre ?_); (try simp only [Array.append_assoc]); repeat (first | with_reducible exact Pre.refl _ | with_reducible exact Pre.base _ _ | with_reducible refine Pre.cons _ ?_)) | with_reducible assumption | ((with_reducible refine bsetr ?_); rfl) | with_reducible refine Below.setCell ?_ (by simp <;> omega) _ | with_reducible refine bpl ?_ _ _ | with_reducible refine bal ?_ _ | with_reducible refine bdrew1 ?_ | with_reducible refine bdrew ?_ _))⟩
  have H3 := Lib.hid h3
  obtain ⟨hs1, hs2⟩ := inB_iff.1 h3
  obtain ⟨kN, hk⟩ := Int.eq_ofNat_of_zero_le hgg.1.1
  obtain ⟨nN, hn⟩ := Int.eq_ofNat_of_zero_le hgg.2.1.1
  obtain ⟨mN, hm⟩ := Int.eq_ofNat_of_zero_le hff.2.1.1
  obtain ⟨sN, rfl⟩ := Int.eq_ofNat_of_zero_le (show 0 ≤ s by omega)
  have hty : f.1 = g.1 ∧ tyE f = tyE g := by rw [tyNe_eq] at h2; simpa [eq2] using h2
  have hk3 : kN ≤ 3 := by omega
  have hkm : kN ≤ mN := by omega
  have hms : mN ≤ sN := by omega
  have hsn : sN ≤ nN := by omega
  have hn5 : nN ≤ 5 := by omega
  have hs5 : sN ≤ 5 := by omega
  have hks : kN ≤ sN := by omega
  have hk5 : kN ≤ 5 := by omega
  have hmt : f.2.1.toNat = mN := by rw [hm]; rfl
  have hnt : g.2.1.toNat = nN := by rw [hn]; rfl
  have hkt : g.1.toNat = kN := by rw [hk]; rfl
  have hst : (sN : Int).toNat = sN := rfl
  obtain ⟨TE, hTE⟩ : ∃ TE, Hid (tyE g = TE) := ⟨_, Lib.hid rfl⟩
  have hcl : Hid (thC f g sN = if (flagsL kN TE sN []).length ≤ 64 then 0 else 3) := Lib.hid (by
    rw [hc0, h2, h3, hkt, hst, hTE.out]
    rfl)
  have HTY : Hid (∀ w, Calls Try.prog 54 #[.agg #[.int .i64 g.1, .int .i64 g.2.1, .int .u32 g.2.2]] w fun e0 w' => e0 = .returned (.agg #[.int .i64 kN, .int .u32 TE]) ∧ Below w.heap.size w w') := Lib.hid fun w => by
    have := typeOf_i w g hg5
    rw [hTE.out, hk] at this
    rw [hk]
    exact this
  obtain ⟨GL, hGL, N, hN, hLn, hNl⟩ : ∃ GL : List Flg, Hid (flagsF kN TE sN [] = GL) ∧ ∃ N : Nat, Hid (GL.length = N) ∧ Hid ((flagsL kN TE sN []).length = N) ∧ N ≤ 1024 :=
    ⟨_, Lib.hid rfl, _, Lib.hid rfl, Lib.hid (List.length_map _).symm, by rw [show (flagsF kN TE sN []).length = (flagsL kN TE sN []).length from List.length_map _]; exact flagsL_len kN TE sN hs5 []⟩
  have hdec : Hid (decide ((flagsL kN TE sN []).length ≤ 64) = decide (N ≤ 64)) := Lib.hid (by rw [hLn.out])
  have hmem : Hid (∀ x ∈ GL, x.1 = kN ∧ x.2.1 = sN ∧ flV x = true ∧ okFlag x) := Lib.hid fun x hx => flagsF_mem hk3 hks hs5 (by rw [hGL.out]; exact hx)
  obtain ⟨L1, hL1, L2, hL2⟩ : ∃ L1 : List (Int × Int), Hid (thL1 kN sN f GL = L1) ∧ ∃ L2 : List (Int × Int), Hid (dnsL kN nN g.2.2 GL = L2) := ⟨_, Lib.hid rfl, _, Lib.hid rfl⟩
  have hD : Hid (thD f g sN = (dotO L1 L2).getD (0, 0)) := Lib.hid (by unfold thD; rw [hkt, hst, hnt, hTE.out, hGL.out, hL1.out, hL2.out])
  have hstep : Hid (∀ (a : Nat) (d : Int × Int) (x : Flg), GL[a]? = some x → a ≤ 1000 → ThI L1 L2 (dnC kN sN mN * dnC kN nN sN) a d → inF d ∧ inF (dns kN sN x.2.2 f) ∧ inF (dns kN nN g.2.2 x) ∧ ∃ p d', mulO (dns kN sN x.2.2 f) (dns kN nN g.2.2 x) = some p ∧ inF p ∧ addO d p = some d' ∧ ThI L1 L2 (dnC kN sN mN * dnC kN nN sN) (a + 1) d') := Lib.hid fun a d x hx ha hI => by
    have hxm := hmem.out x (List.mem_of_getElem? hx)
    have hxt : x.2.1.toNat = sN := by rw [hxm.2.1]; rfl
    obtain ⟨v1, b1, c1⟩ := dns_vl (k := kN) (n := sN) (e := x.2.2) (f := f) hk3 hs5 (by omega) (by omega)
    obtain ⟨v2, b2, c2⟩ := dns_vl (k := kN) (n := nN) (e := g.2.2) (f := x) hk3 hn5 (by omega) (by omega)
    rw [hmt] at v1 c1
    rw [hxt] at v2 c2
    have hX : L1[a]? = some (dns kN sN x.2.2 f) := by rw [← hL1.out, thL1, List.getElem?_map, hx]; rfl
    have hY : L2[a]? = some (dns kN nN g.2.2 x) := by rw [← hL2.out, dnsL, List.getElem?_map, hx]; rfl
    obtain ⟨i1, i2, rest⟩ := hI.step ha hX hY v1 v2 b1 b2 c1 c2
    exact ⟨hI.1, i1, i2, rest⟩
  have HD1 : Hid (∀ (x : Flg), x ∈ GL → ∀ w, Calls Try.prog 55 #[.agg #[.int .i64 f.1, .int .i64 f.2.1, .int .u32 f.2.2], .agg #[.int .i64 x.1, .int .i64 x.2.1, .int .u32 x.2.2]] w fun r w' => r = .returned (.agg #[.int .i64 (dns kN sN x.2.2 f).1, .int .i64 (dns kN sN x.2.2 f).2]) ∧ Below w.heap.size w w') := Lib.hid fun x hx w => by
    obtain ⟨m1, m2, m3, m4⟩ := hmem.out x hx
    have := density_any w kN sN x.2.2 f hk3 hks hs5 m4.2.2 hvf hfo (by omega) (by omega)
    rw [m1, m2]
    exact this
  have HD2 : Hid (∀ (x : Flg), x ∈ GL → ∀ w, Calls Try.prog 55 #[.agg #[.int .i64 x.1, .int .i64 x.2.1, .int .u32 x.2.2], .agg #[.int .i64 g.1, .int .i64 g.2.1, .int .u32 g.2.2]] w fun r w' => r = .returned (.agg #[.int .i64 (dns kN nN g.2.2 x).1, .int .i64 (dns kN nN g.2.2 x).2]) ∧ Below w.heap.size w w') := Lib.hid fun x hx w => by
    obtain ⟨m1, m2, m3, m4⟩ := hmem.out x hx
    have := density_any w kN nN g.2.2 x hk3 (by omega) hn5 hgo.2.2 m3 m4 m1 (by omega)
    rw [hk, hn]
    exact this
  clear h1 h2 h3 hc0 hvf hvg hff hgg hfo hgo hs1 hs2 hk hn hm hty hmt hnt hkt hst
  go_enter Try.func22, Try.ntmps22
  go_wp2_with (first | (go_at_call 60; refine Calls.mono (HFL.out _ _ (lst_two (by repeat (first | with_reducible assumption | with_reducible refine pls_block _ _ ?_ | with_reducible apply blkset2 | with_reducible apply blkset1 | ((with_reducible refine blksetN ?_ ?_ _); (focus (simp <;> omega))) | with_reducible exact blknew _ _ | ((with_reducible refine blknew' _ _ _ ?_); (simp <;> omega)) | with_reducible refine blkal ?_ _)) HFO.out HGO.out)) ?_; rw [H1.out]; rintro e w1 ⟨rfl, hb⟩; obtain ⟨X, m, rfl⟩ := plsOf hb; clear hb) | (go_at_call 61; refine Calls.mono (HSM.out _ _ (lst_two (by repeat (first | with_reducible assumption | with_reducible refine pls_block _ _ ?_ | with_reducible apply blkset2 | with_reducible apply blkset1 | ((with_reducible refine blksetN ?_ ?_ _); (focus (simp <;> omega))) | with_reducible exact blknew _ _ | ((with_reducible refine blknew' _ _ _ ?_); (simp <;> omega)) | with_reducible refine blkal ?_ _)) HFO.out HGO.out)) ?_; rw [H2.out]; rintro e w1 ⟨rfl, hb⟩; obtain ⟨X, m, rfl⟩ := plsOf hb; clear hb) | (go_at_call 52; refine Calls.mono ((H3.out ▸ in_any sN f.2.1 g.2.1 _)) ?_; rintro e w1 ⟨rfl, rfl⟩) | (go_at_call 54; refine Calls.mono (HTY.out _) ?_; rintro e w1 ⟨rfl, hb⟩; obtain ⟨X1, m1, rfl⟩ := plsOf hb; clear hb))
  refine Calls.mono (allFlags_any _ kN sN TE [] _ (Own.nil shGr 0 _ 0 (Nat.zero_le _) none).lst hks hs5 (by simp) (by simp)) ?_
  rintro e0 w1 ⟨A1, cap1, F1, rfl, hO1, hb⟩
  rw [hGL.out, show List.length (α := shFlag.T) GL = N from hN.out] at hO1 ⊢
  rw [hdec.out]
  have hbl : Below w.heap.size w w1 := Below.trans (by (try with_reducible refine bsz ?_); repeat (first | with_reducible exact Below.refl _ _ | ((with_reducible refine bpre ?_); (try simp only [Array.append_assoc]); repeat (first | with_reducible exact Pre.refl _ | with_reducible exact Pre.base _ _ | with_reducible refine Pre.cons _ ?_)) | with_reducible assumption | ((with_reducible refine bsetr ?_); rfl) | with_reducible refine Below.setCell ?_ (by simp <;> omega) _ | with_reducible refine bpl ?_ _ _ | with_reducible refine bal ?_ _ | with_reducible refine bdrew1 ?_ | with_reducible refine bdrew ?_ _)) (hb.mono (by simp <;> omega))
  have k0 : w1.heap[w.heap.size]? = some (.cells #[.int .i64 f.1, .int .i64 f.2.1, .int .u32 f.2.2] 41 (0, 0)) := bblk hb (by simp <;> omega) (by repeat (first | with_reducible assumption | with_reducible refine pls_block _ _ ?_ | with_reducible apply blkset2 | with_reducible apply blkset1 | ((with_reducible refine blksetN ?_ ?_ _); (focus (simp <;> omega))) | with_reducible exact blknew _ _ | ((with_reducible refine blknew' _ _ _ ?_); (simp <;> omega)) | with_reducible refine blkal ?_ _))
  have k1 : w1.heap[w.heap.size + 1]? = some (.cells #[.int .i64 g.1, .int .i64 g.2.1, .int .u32 g.2.2] 41 (0, 0)) := bblk hb (by simp <;> omega) (by repeat (first | with_reducible assumption | with_reducible refine pls_block _ _ ?_ | with_reducible apply blkset2 | with_reducible apply blkset1 | ((with_reducible refine blksetN ?_ ?_ _); (focus (simp <;> omega))) | with_reducible exact blknew _ _ | ((with_reducible refine blknew' _ _ _ ?_); (simp <;> omega)) | with_reducible refine blkal ?_ _))
  have k2 : w1.heap[w.heap.size + 1 + 1]? = some (.cells #[.int .i64 0, .int .i64 0] 47 (0, 0)) := bblk hb (by simp <;> omega) (by repeat (first | with_reducible assumption | with_reducible refine pls_block _ _ ?_ | with_reducible apply blkset2 | with_reducible apply blkset1 | ((with_reducible refine blksetN ?_ ?_ _); (focus (simp <;> omega))) | with_reducible exact blknew _ _ | ((with_reducible refine blknew' _ _ _ ?_); (simp <;> omega)) | with_reducible refine blkal ?_ _))
  have HO1 := Lib.hid (show Own shFlag 0 w1 GL (.slice A1 N cap1) F1 from hO1.below (Nat.zero_le _) (Below.refl _ _))
  have HB1 := Lib.hid hbl
  have K0 := Lib.hid k0
  have K1 := Lib.hid k1
  have K2 := Lib.hid k2
  have y2 := blklt k2
  obtain ⟨r0, r1, r2, r3⟩ := blk2 k2
  clear hb hO1 hbl k0 k1 k2
  by_cases h64 : N ≤ 64
  rotate_left
  · have hc : Hid (thC f g sN = 3) := Lib.hid (by rw [hcl.out, hLn.out, if_neg h64])
    have hr : Hid (thR f g sN = (0, 0)) := Lib.hid (by unfold thR; rw [hc.out]; rfl)
    have hd : decide (N ≤ 64) = false := by simp; omega
    rw [hd]
    clear hd
    have hb1 := HB1.out
    go_wp2_with fail
    exact bodyPost_ret (v := .tuple #[.agg #[.int .i64 0, .int .i64 0], .int .i64 3]) (by simp [results, Try.results22, go_sem, *]) rfl ⟨by rw [hr.out, hc.out], (by (try with_reducible refine bsz ?_); repeat (first | with_reducible exact Below.refl _ _ | ((with_reducible refine bpre ?_); (try simp only [Array.append_assoc]); repeat (first | with_reducible exact Pre.refl _ | with_reducible exact Pre.base _ _ | with_reducible refine Pre.cons _ ?_)) | with_reducible assumption | ((with_reducible refine bsetr ?_); rfl) | with_reducible refine Below.setCell ?_ (by simp <;> omega) _ | with_reducible refine bpl ?_ _ _ | with_reducible refine bal ?_ _ | with_reducible refine bdrew1 ?_ | with_reducible refine bdrew ?_ _))⟩
  have hd : decide (N ≤ 64) = true := by simp; omega
  rw [hd]
  clear hd
  have hc : Hid (thC f g sN = 0) := Lib.hid (by rw [hcl.out, hLn.out, if_pos h64])
  have hr : Hid (thR f g sN = (dotO L1 L2).getD (0, 0)) := Lib.hid (by unfold thR; rw [if_pos hc.out, hD.out])
  go_wp2_with fail
  refine Calls.mono (zero_any _) ?_
  rintro e0 w2 ⟨rfl, hb⟩
  have hbl : Below w1.heap.size w1 w2 := Below.trans (by (try with_reducible refine bsz ?_); repeat (first | with_reducible exact Below.refl _ _ | ((with_reducible refine bpre ?_); (try simp only [Array.append_assoc]); repeat (first | with_reducible exact Pre.refl _ | with_reducible exact Pre.base _ _ | with_reducible refine Pre.cons _ ?_)) | with_reducible assumption | ((with_reducible refine bsetr ?_); rfl) | with_reducible refine Below.setCell ?_ (by simp <;> omega) _ | with_reducible refine bpl ?_ _ _ | with_reducible refine bal ?_ _ | with_reducible refine bdrew1 ?_ | with_reducible refine bdrew ?_ _)) (hb.mono (by simp <;> omega))
  have K02 := Lib.hid (bblk hbl (blklt K0.out) K0.out)
  have K12 := Lib.hid (bblk hbl (blklt K1.out) K1.out)
  have K22 := Lib.hid (bblk hbl (blklt K2.out) K2.out)
  have HO2 := Lib.hid (HO1.out.below (Nat.le_refl _) hbl)
  have HB2 := Lib.hid (HB1.out.trans (hbl.mono HB1.out.size))
  have hz2 : w.heap.size + 1 + 1 < w2.heap.size := blklt K22.out
  have hF2 : Hid (∀ b ∈ F1, b < w2.heap.size) := Lib.hid fun b hb => HO2.out.lt b hb
  clear hb hbl
  go_wp2_with fail
  go_loopw [53] (fun i wr => ∃ (a : Nat) (d : Int × Int), a ≤ N ∧ i = .int .i64 a ∧ wr.heap[w.heap.size]? = some (.cells #[.int .i64 f.1, .int .i64 f.2.1, .int .u32 f.2.2] 41 (0, 0)) ∧ wr.heap[w.heap.size + 1]? = some (.cells #[.int .i64 g.1, .int .i64 g.2.1, .int .u32 g.2.2] 41 (0, 0)) ∧ wr.heap[w.heap.size + 1 + 1]? = some (.cells #[.int .i64 0, .int .i64 0] 47 (0, 0)) ∧ wr.heap[w2.heap.size]? = some (.cells #[.bool false] 96 (0, 0)) ∧ wr.heap[w2.heap.size + 1]? = some (.cells #[.int .i64 d.1, .int .i64 d.2] 47 (0, 0)) ∧ Hid (Own shFlag 0 wr GL (.slice A1 N cap1) F1) ∧ Hid (ThI L1 L2 (dnC kN sN mN * dnC kN nN sN) a d) ∧ Below w.heap.size w wr) (fun i _ => N - (intOf i).toNat)
  case atStart =>
    have hb2 := HB2.out
    have k02 := K02.out
    have k12 := K12.out
    have k22 := K22.out
    exact ⟨0, (0, 1), Nat.zero_le _, rfl, (by repeat (first | with_reducible assumption | with_reducible refine pls_block _ _ ?_ | with_reducible apply blkset2 | with_reducible apply blkset1 | ((with_reducible refine blksetN ?_ ?_ _); (focus (simp <;> omega))) | with_reducible exact blknew _ _ | ((with_reducible refine blknew' _ _ _ ?_); (simp <;> omega)) | with_reducible refine blkal ?_ _)), (by repeat (first | with_reducible assumption | with_reducible refine pls_block _ _ ?_ | with_reducible apply blkset2 | with_reducible apply blkset1 | ((with_reducible refine blksetN ?_ ?_ _); (focus (simp <;> omega))) | with_reducible exact blknew _ _ | ((with_reducible refine blknew' _ _ _ ?_); (simp <;> omega)) | with_reducible refine blkal ?_ _)), (by repeat (first | with_reducible assumption | with_reducible refine pls_block _ _ ?_ | with_reducible apply blkset2 | with_reducible apply blkset1 | ((with_reducible refine blksetN ?_ ?_ _); (focus (simp <;> omega))) | with_reducible exact blknew _ _ | ((with_reducible refine blknew' _ _ _ ?_); (simp <;> omega)) | with_reducible refine blkal ?_ _)), (by repeat (first | with_reducible assumption | with_reducible refine pls_block _ _ ?_ | with_reducible apply blkset2 | with_reducible apply blkset1 | ((with_reducible refine blksetN ?_ ?_ _); (focus (simp <;> omega))) | with_reducible exact blknew _ _ | ((with_reducible refine blknew' _ _ _ ?_); (simp <;> omega)) | with_reducible refine blkal ?_ _)), (by repeat (first | with_reducible assumption | with_reducible refine pls_block _ _ ?_ | with_reducible apply blkset2 | with_reducible apply blkset1 | ((with_reducible refine blksetN ?_ ?_ _); (focus (simp <;> omega))) | with_reducible exact blknew _ _ | ((with_reducible refine blknew' _ _ _ ?_); (simp <;> omega)) | with_reducible refine blkal ?_ _)), Lib.hid (HO2.out.below (Nat.le_refl _) (by (try with_reducible refine bsz ?_); repeat (first | with_reducible exact Below.refl _ _ | ((with_reducible refine bpre ?_); (try simp only [Array.append_assoc]); repeat (first | with_reducible exact Pre.refl _ | with_reducible exact Pre.base _ _ | with_reducible refine Pre.cons _ ?_)) | with_reducible assumption | ((with_reducible refine bsetr ?_); rfl) | with_reducible refine Below.setCell ?_ (by simp <;> omega) _ | with_reducible refine bpl ?_ _ _ | with_reducible refine bal ?_ _ | with_reducible refine bdrew1 ?_ | with_reducible refine bdrew ?_ _))), Lib.hid (ThI.start _ _ _), (by (try with_reducible refine bsz ?_); repeat (first | with_reducible exact Below.refl _ _ | ((with_reducible refine bpre ?_); (try simp only [Array.append_assoc]); repeat (first | with_reducible exact Pre.refl _ | with_reducible exact Pre.base _ _ | with_reducible refine Pre.cons _ ?_)) | with_reducible assumption | ((with_reducible refine bsetr ?_); rfl) | with_reducible refine Below.setCell ?_ (by simp <;> omega) _ | with_reducible refine bpl ?_ _ _ | with_reducible refine bal ?_ _ | with_reducible refine bdrew1 ?_ | with_reducible refine bdrew ?_ _))⟩
  case round =>
    obtain ⟨a, d, ha, rfl, b0, b1, b2, b3, b4, hG, hI, hB⟩ := hrel
    obtain ⟨p0, p1, p2⟩ := blkc3 b0
    obtain ⟨q0, q1, q2⟩ := blkc3 b1
    obtain ⟨o0, o1, _, _⟩ := blk2 b4
    have y0 := blklt b0
    have y1 := blklt b1
    have y3 := blklt b3
    have y4 := blklt b4
    have B0 := Lib.hid b0
    have B1 := Lib.hid b1
    have B2 := Lib.hid b2
    have B3 := Lib.hid b3
    have B4 := Lib.hid b4
    by_cases hlt : a < N
    · clear b0 b1 b2 b3 b4
      have hk8 : (a : Int) < (N : Int) := by omega
      obtain ⟨_, _, hv, _, _, hoks, hel⟩ := lstFlag hG.out.lst
      injection hv with e1 e2 e3
      obtain ⟨bl, off, e4, hel⟩ := hel (by omega)
      rw [← e1] at e4
      subst e4
      obtain ⟨x, hx, hok, c0, c1, c2⟩ := hel a (by omega)
      have zb := World.block_lt_of_cell? _ _ c0
      simp only at zb
      have hxm := Lib.hid (List.mem_of_getElem? hx)
      obtain ⟨id, i1, i2, p, d', e5, e6, e7, hI'⟩ := hstep.out a d x hx (by omega) hI.out
      have hId := Lib.hid id
      have hI1 := Lib.hid i1
      have hI2 := Lib.hid i2
      have hI3 := Lib.hid e6
      have hE5 := Lib.hid e5
      have hE7 := Lib.hid e7
      have hI' := Lib.hid hI'
      obtain ⟨X1, hX1⟩ : ∃ X1 : Int × Int, Hid (dns kN sN x.2.2 f = X1) := ⟨_, Lib.hid rfl⟩
      obtain ⟨X2, hX2⟩ : ∃ X2 : Int × Int, Hid (dns kN nN g.2.2 x = X2) := ⟨_, Lib.hid rfl⟩
      have HDx1 := Lib.hid (HD1.out x hxm.out)
      have HDx2 := Lib.hid (HD2.out x hxm.out)
      rw [hX1.out] at hI1 hE5 HDx1
      rw [hX2.out] at hI2 hE5 HDx2
      clear hel hoks hx hok e1 e2 e3 id i1 i2 e5 e6 e7
      obtain ⟨W0, rfl⟩ : ∃ z, z = wr := ⟨_, rfl⟩
      have hW1 : Below W0.heap.size W0 (W0.alloc (.cells #[.int .i64 x.1, .int .i64 x.2.1, .int .u32 x.2.2] 41)) := (by (try with_reducible refine bsz ?_); repeat (first | with_reducible exact Below.refl _ _ | ((with_reducible refine bpre ?_); (try simp only [Array.append_assoc]); repeat (first | with_reducible exact Pre.refl _ | with_reducible exact Pre.base _ _ | with_reducible refine Pre.cons _ ?_)) | with_reducible assumption | ((with_reducible refine bsetr ?_); rfl) | with_reducible refine Below.setCell ?_ (by simp <;> omega) _ | with_reducible refine bpl ?_ _ _ | with_reducible refine bal ?_ _ | with_reducible refine bdrew1 ?_ | with_reducible refine bdrew ?_ _))
      have HW1 := Lib.hid hW1
      have HKP : Hid (∀ W w' : World, Below W.heap.size W w' → (fun w' : World => w'.cell? ⟨w2.heap.size + 1, 0, none⟩ = some (.int .i64 d.1) ∧ w'.cell? ⟨w2.heap.size + 1, 1, none⟩ = some (.int .i64 d.2) ∧ w'.cell? ⟨w.heap.size, 0, none⟩ = some (.int .i64 f.1) ∧ w'.cell? ⟨w.heap.size, 1, none⟩ = some (.int .i64 f.2.1) ∧ w'.cell? ⟨w.heap.size, 2, none⟩ = some (.int .u32 f.2.2) ∧ w'.cell? ⟨w.heap.size + 1, 0, none⟩ = some (.int .i64 g.1) ∧ w'.cell? ⟨w.heap.size + 1, 1, none⟩ = some (.int .i64 g.2.1) ∧ w'.cell? ⟨w.heap.size + 1, 2, none⟩ = some (.int .u32 g.2.2) ∧ w'.cell? ⟨W0.heap.size, 0, none⟩ = some (.int .i64 x.1) ∧ w'.cell? ⟨W0.heap.size, 1, none⟩ = some (.int .i64 x.2.1) ∧ w'.cell? ⟨W0.heap.size, 2, none⟩ = some (.int .u32 x.2.2)) W → (fun w' : World => w'.cell? ⟨w2.heap.size + 1, 0, none⟩ = some (.int .i64 d.1) ∧ w'.cell? ⟨w2.heap.size + 1, 1, none⟩ = some (.int .i64 d.2) ∧ w'.cell? ⟨w.heap.size, 0, none⟩ = some (.int .i64 f.1) ∧ w'.cell? ⟨w.heap.size, 1, none⟩ = some (.int .i64 f.2.1) ∧ w'.cell? ⟨w.heap.size, 2, none⟩ = some (.int .u32 f.2.2) ∧ w'.cell? ⟨w.heap.size + 1, 0, none⟩ = some (.int .i64 g.1) ∧ w'.cell? ⟨w.heap.size + 1, 1, none⟩ = some (.int .i64 g.2.1) ∧ w'.cell? ⟨w.heap.size + 1, 2, none⟩ = some (.int .u32 g.2.2) ∧ w'.cell? ⟨W0.heap.size, 0, none⟩ = some (.int .i64 x.1) ∧ w'.cell? ⟨W0.heap.size, 1, none⟩ = some (.int .i64 x.2.1) ∧ w'.cell? ⟨W0.heap.size, 2, none⟩ = some (.int .u32 x.2.2)) w') := Lib.hid fun W w' hb h => ⟨bkeep hb h.1, bkeep hb h.2.1, bkeep hb h.2.2.1, bkeep hb h.2.2.2.1, bkeep hb h.2.2.2.2.1, bkeep hb h.2.2.2.2.2.1, bkeep hb h.2.2.2.2.2.2.1, bkeep hb h.2.2.2.2.2.2.2.1, bkeep hb h.2.2.2.2.2.2.2.2.1, bkeep hb h.2.2.2.2.2.2.2.2.2.1, bkeep hb h.2.2.2.2.2.2.2.2.2.2⟩
      clear hW1
      go_wp2_with fail
      (refine last_region (S := (fun w' => w'.cell? ⟨w2.heap.size + 1, 0, none⟩ = some (.int .i64 d.1) ∧ w'.cell? ⟨w2.heap.size + 1, 1, none⟩ = some (.int .i64 d.2) ∧ w'.cell? ⟨w.heap.size, 0, none⟩ = some (.int .i64 f.1) ∧ w'.cell? ⟨w.heap.size, 1, none⟩ = some (.int .i64 f.2.1) ∧ w'.cell? ⟨w.heap.size, 2, none⟩ = some (.int .u32 f.2.2) ∧ w'.cell? ⟨w.heap.size + 1, 0, none⟩ = some (.int .i64 g.1) ∧ w'.cell? ⟨w.heap.size + 1, 1, none⟩ = some (.int .i64 g.2.1) ∧ w'.cell? ⟨w.heap.size + 1, 2, none⟩ = some (.int .u32 g.2.2) ∧ w'.cell? ⟨W0.heap.size, 0, none⟩ = some (.int .i64 x.1) ∧ w'.cell? ⟨W0.heap.size, 1, none⟩ = some (.int .i64 x.2.1) ∧ w'.cell? ⟨W0.heap.size, 2, none⟩ = some (.int .u32 x.2.2))) 9 (by kernel_rfl) ?_ (fun hHeld => ?_); (focus (first | exact hS | (simp [*, go_sem]; done) | fail)); refine last_take 0 (some 57) (v := ?_) rfl (by kernel_rfl) (by kernel_rfl) (by kernel_rfl) (by kernel_rfl) (by decide) (by kernel_rfl) (fun _ _ _ h => h) (Or.inl ⟨by kernel_rfl, ?_⟩) (by assumption) ?_; rotate_left; (focus (intro w' hSw; (try dsimp only at hSw); go_simp; (try with_reducible rfl))); (try simp only [Act.put, List.setIfInBounds_toArray, List.set_cons_zero, List.set_cons_succ]); refine last_take 1 (some 58) (v := ?_) rfl (by kernel_rfl) (by kernel_rfl) (by kernel_rfl) (by kernel_rfl) (by decide) (by kernel_rfl) (fun _ _ _ h => h) (Or.inl ⟨by kernel_rfl, ?_⟩) (by assumption) ?_; rotate_left; (focus (intro w' hSw; (try dsimp only at hSw); go_simp; (try with_reducible rfl))); (try simp only [Act.put, List.setIfInBounds_toArray, List.set_cons_zero, List.set_cons_succ]); refine last_take 2 (some 59) (v := ?_) rfl (by kernel_rfl) (by kernel_rfl) (by kernel_rfl) (by kernel_rfl) (by decide) (by kernel_rfl) (fun _ _ _ h => h) (Or.inl ⟨by kernel_rfl, ?_⟩) (by assumption) ?_; rotate_left; (focus (intro w' hSw; (try dsimp only at hSw); go_simp; (try with_reducible rfl))); (try simp only [Act.put, List.setIfInBounds_toArray, List.set_cons_zero, List.set_cons_succ]); refine last_take 4 (some 61) (v := ?_) rfl (by kernel_rfl) (by kernel_rfl) (by kernel_rfl) (by kernel_rfl) (by decide) (by kernel_rfl) (fun _ _ _ h => h) (Or.inl ⟨by kernel_rfl, ?_⟩) (by assumption) ?_; rotate_left; (focus (intro w' hSw; (try dsimp only at hSw); go_simp; (try with_reducible rfl))); (try simp only [Act.put, List.setIfInBounds_toArray, List.set_cons_zero, List.set_cons_succ]); refine last_take 5 (some 62) (v := ?_) rfl (by kernel_rfl) (by kernel_rfl) (by kernel_rfl) (by kernel_rfl) (by decide) (by kernel_rfl) (fun _ _ _ h => h) (Or.inl ⟨by kernel_rfl, ?_⟩) (by assumption) ?_; rotate_left; (focus (intro w' hSw; (try dsimp only at hSw); go_simp; (try with_reducible rfl))); (try simp only [Act.put, List.setIfInBounds_toArray, List.set_cons_zero, List.set_cons_succ]); refine last_ready (i := 3) (by kernel_rfl) rfl (fun K hK => ?_); go_simp; (go_at_call 55; refine Calls.mono (HDx1.out _) ?_; rintro e0 w3 ⟨rfl, hb⟩; have hS := HKP.out _ _ hb hHeld; have HB3 := Lib.hid (show Below W0.heap.size W0 w3 from Below.trans (bdrew1 HW1.out) (hb.mono (by simp))); clear hb); go_wp2_with fail; refine hK.out _ _ ?_ (fun hHeld => ?_); (focus (first | exact hS | (simp [*, go_sem]; done) | fail)); clear hK K; (try simp only [Act.put, List.setIfInBounds_toArray, List.set_cons_zero, List.set_cons_succ]); refine last_ready (i := 6) (by kernel_rfl) rfl (fun K hK => ?_); go_simp; (go_at_call 55; refine Calls.mono (HDx2.out _) ?_; rintro e0 w4 ⟨rfl, hb⟩; have hS := HKP.out _ _ hb hHeld; have HB4 := Lib.hid (HB3.out.trans (hb.mono HB3.out.size)); have ks := bblk HB4.out y3 B3.out; have ks0 := (blk1 ks).1; have ks1 := (blk1 ks).2; have KS := Lib.hid ks; clear hb ks); go_wp2_with fail; refine hK.out _ _ ?_ (fun hHeld => ?_); (focus (first | exact hS | (simp [*, go_sem]; done) | fail)); clear hK K; (try simp only [Act.put, List.setIfInBounds_toArray, List.set_cons_zero, List.set_cons_succ]); refine last_ready (i := 7) (by kernel_rfl) rfl (fun K hK => ?_); go_simp; (go_at_call 64; refine Calls.mono (kmul_ok w2.heap.size 0 X1 X2 p _ ks0 ks1 hI1.out hI2.out hE5.out) ?_; rintro e0 w5 ⟨rfl, hb⟩; have hS := HKP.out _ _ hb hHeld; have HB5 := Lib.hid (HB4.out.trans (hb.mono HB4.out.size)); have kt := bblk HB5.out y3 B3.out; have kt0 := (blk1 kt).1; have kt1 := (blk1 kt).2; clear hb kt); go_wp2_with fail; refine hK.out _ _ ?_ (fun hHeld => ?_); (focus (first | exact hS | (simp [*, go_sem]; done) | fail)); clear hK K; (try simp only [Act.put, List.setIfInBounds_toArray, List.set_cons_zero, List.set_cons_succ]); refine last_ready (i := 8) (by kernel_rfl) rfl (fun K hK => ?_); go_simp; (go_at_call 63; refine Calls.mono (kadd_ok w2.heap.size 0 d p d' _ kt0 kt1 hId.out hI3.out hE7.out) ?_; rintro e0 w6 ⟨rfl, hb⟩; have hS := HKP.out _ _ hb hHeld; have HB6 := Lib.hid (HB5.out.trans (hb.mono HB5.out.size)); have ko := bblk HB6.out y4 B4.out; obtain ⟨s0, s1, t0, t1⟩ := blk2 ko; have yo := blklt ko; have KO := Lib.hid ko; clear hb ko); go_wp2_with fail; refine hK.out _ _ ?_ (fun hHeld => ?_); (focus (first | exact hS | (simp [*, go_sem]; done) | fail)); clear hK K; (try simp only [Act.put, List.setIfInBounds_toArray, List.set_cons_zero, List.set_cons_succ]); refine last_end (by kernel_rfl) rfl (fun K hK => ?_); (try go_simp); refine hK.out _ _ ?_; clear hK K hHeld; (try simp only [Act.put, List.setIfInBounds_toArray, List.set_cons_zero, List.set_cons_succ]); refine last_done (by kernel_rfl) ?_ _)
      go_wp2_with fail
      go_roundw
      case rel =>
        have hb6 := HB6.out
        exact ⟨a + 1, d', by omega, by go_num, blkset (blkset (bblk hb6 y0 B0.out) (by show w.heap.size ≠ w2.heap.size + 1; omega) _) (by show w.heap.size ≠ w2.heap.size + 1; omega) _, blkset (blkset (bblk hb6 y1 B1.out) (by show w.heap.size + 1 ≠ w2.heap.size + 1; omega) _) (by show w.heap.size + 1 ≠ w2.heap.size + 1; omega) _, blkset (blkset (bblk hb6 (blklt B2.out) B2.out) (by show w.heap.size + 1 + 1 ≠ w2.heap.size + 1; omega) _) (by show w.heap.size + 1 + 1 ≠ w2.heap.size + 1; omega) _, blkset (blkset (bblk hb6 y3 B3.out) (by show w2.heap.size ≠ w2.heap.size + 1; omega) _) (by show w2.heap.size ≠ w2.heap.size + 1; omega) _, blkset2 KO.out _ _, Lib.hid ((hG.out.below (Nat.le_refl _) hb6).chg (Chg.set (F := [w2.heap.size + 1]) (Chg.set (F := [w2.heap.size + 1]) (Chg.refl _ _) (by simp) _) (by simp) _) (fun q hq => by have := hF2.out q hq; simp; omega)), hI', Below.setCell (Below.setCell (hB.trans (hb6.mono hB.size)) (by show w.heap.size ≤ w2.heap.size + 1; omega) _) (by show w.heap.size ≤ w2.heap.size + 1; omega) _⟩
      case measure => simp [intOf]; omega
    · have ee : a = N := by omega
      subst ee
      have hfin : Hid (thR f g sN = d) := Lib.hid (by
        have h1 := hI.out.2.1
        rw [List.take_of_length_le (by rw [← hL1.out]; show (GL.map _).length ≤ a; rw [List.length_map, hN.out]; exact Nat.le_refl _), List.take_of_length_le (by rw [← hL2.out]; show (GL.map _).length ≤ a; rw [List.length_map, hN.out]; exact Nat.le_refl _)] at h1
        rw [hr.out, h1]
        rfl)
      obtain ⟨s0, s1⟩ := blk1 b3
      obtain ⟨t0, t1, u0, u1⟩ := blk2 b2
      have y2' := blklt b2
      clear b0 b1 b2 b3 b4
      go_wp2_with (first | (go_at_call 65; refine Calls.mono (ktold_ok w2.heap.size 0 d _ (by first | assumption | simp [go_sem, *])) ?_; rintro e w1 ⟨rfl, hb⟩; obtain ⟨X1, m1, rfl⟩ := plsOf hb; clear hb))
      exact bodyPost_ret (v := .tuple #[.agg #[.int .i64 d.1, .int .i64 d.2], .int .i64 0]) (by simp [results, Try.results22, go_sem, *]) rfl ⟨by rw [hc.out, hfin.out], (by (try with_reducible refine bsz ?_); repeat (first | with_reducible exact Below.refl _ _ | ((with_reducible refine bpre ?_); (try simp only [Array.append_assoc]); repeat (first | with_reducible exact Pre.refl _ | with_reducible exact Pre.base _ _ | with_reducible refine Pre.cons _ ?_)) | with_reducible assumption | ((with_reducible refine bsetr ?_); rfl) | with_reducible refine Below.setCell ?_ (by simp <;> omega) _ | with_reducible refine bpl ?_ _ _ | with_reducible refine bal ?_ _ | with_reducible refine bdrew1 ?_ | with_reducible refine bdrew ?_ _))⟩
end Go.Proofs.Ytfdobpeekipafaa
