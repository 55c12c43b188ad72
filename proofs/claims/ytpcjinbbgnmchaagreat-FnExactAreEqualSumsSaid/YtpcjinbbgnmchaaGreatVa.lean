/- The value of a sum in a flag: impl.(*sums).value. -/
import Derived.Test.YtpcjinbbgnmchaaGreatTh
import Derived.Test.YtpcjinbbgnmchaaGreatVq
namespace Go.Proofs.YtpcjinbbgnmchaaGreat
open Go.ChangeShapes Go.WideShapes Go.RowKit
set_option linter.unusedVariables false
set_option linter.unusedSimpArgs false
attribute [local irreducible] Calls
/-- One more term: what is kept, and whether something was too large. -/
def vS (D : Trm → Int × Int) (s : (Int × Int) × Bool) (t : Trm) : (Int × Int) × Bool := (kD (addO s.1 (kD (mulO (D t) t.2))), (s.2 || noB (mulO (D t) t.2)) || noB (addO s.1 (kD (mulO (D t) t.2))))
def vF (D : Trm → Int × Int) (T : List Trm) : (Int × Int) × Bool := T.foldl (vS D) ((0, 1), false)
/-- The value, if nothing is too large. -/
def vO (D : Trm → Int × Int) (T : List Trm) : Option (Int × Int) := T.foldl (fun o t => dotS o (D t) t.2) (some (0, 1))
theorem vF_tr (D : Trm → Int × Int) (T : List Trm) (h : ∀ t ∈ T, inF (D t) ∧ inF t.2) : Tr (vO D T) (vF D T).1 (vF D T).2 := by
  have go : ∀ (T : List Trm) (o : Option (Int × Int)) (d : Int × Int) (g : Bool), (∀ t ∈ T, inF (D t) ∧ inF t.2) → Tr o d g → Tr (T.foldl (fun o t => dotS o (D t) t.2) o) (T.foldl (vS D) (d, g)).1 (T.foldl (vS D) (d, g)).2 := by
    intro T
    induction T with
    | nil => exact fun o d g _ h => h
    | cons t T ih =>
      intro o d g hT h
      obtain ⟨h1, h2⟩ := hT t (List.mem_cons_self ..)
      exact ih _ _ _ (fun x hx => hT x (List.mem_cons_of_mem _ hx)) (h.dot h1 h2)
  exact go T _ _ _ h Tr.zero
theorem vF_succ {D : Trm → Int × Int} {T : List Trm} {a : Nat} {t : Trm} (h : T[a]? = some t) : vF D (T.take (a + 1)) = vS D (vF D (T.take a)) t := by
  unfold vF
  rw [List.take_add_one, h, List.foldl_append]
  rfl
set_option maxHeartbeats 2000000 in
theorem value_any (w : World) (b o : Nat) (g0 : Bool) (tn te s : Int) (T : List Trm) (v : Value) (h : Flg) (D : Trm → Int × Int) (hT : Lst shTerm w T v) (hl : T.length ≤ 1000) (hin : ∀ t ∈ T, inF (D t) ∧ inF t.2)
    (hdn : ∀ t ∈ T, ∀ W, Calls Tryz.prog 154 #[.agg #[.int .i64 t.1.1, .int .i64 t.1.2.1, .int .u32 t.1.2.2], .agg #[.int .i64 h.1, .int .i64 h.2.1, .int .u32 h.2.2]] W fun r w' => r = .returned (.agg #[.int .i64 (D t).1, .int .i64 (D t).2]) ∧ Below W.heap.size W w')
    (hc : w.cell? ⟨b, o, none⟩ = some (.bool g0)) (hf : w.frozen? ⟨b, o, none⟩ = false) :
    Calls Tryz.prog 91 #[.pointer (some ⟨b, o, none⟩), .agg #[.int .i64 tn, .int .u32 te, .int .i64 s, v], .agg #[.int .i64 h.1, .int .i64 h.2.1, .int .u32 h.2.2]] w fun r w' => r = .returned (.agg #[.int .i64 (vF D T).1.1, .int .i64 (vF D T).1.2]) ∧ Fl b o w (g0 || (vF D T).2) w' := by
  have HT := Lib.hid hT
  have HIN := Lib.hid hin
  have HDN := Lib.hid hdn
  have hbw := World.block_lt_of_cell? _ _ hc
  simp only at hbw
  obtain ⟨A, cap, rfl, hcc, hm, hok, hel⟩ := lstTerm hT
  unfold maxLen at hm
  have HEL := Lib.hid hel
  obtain ⟨N, hN⟩ : ∃ N, Hid (T.length = N) := ⟨_, Lib.hid rfl⟩
  rw [hN.out] at hl hcc HEL ⊢
  have HC0 := Lib.hid hc
  have HF0 := Lib.hid hf
  clear hT hin hdn hok hel hc hf
  go_enter Tryz.func91, Tryz.ntmps91
  go_wp2_with fail
  refine Calls.mono (zero_any _) ?_
  rintro e0 w1 ⟨rfl, hb⟩
  have HB1 := Lib.hid (show Below w.heap.size w w1 from Below.trans belA (hb.mono (by simp <;> omega)))
  have k0 : w1.heap[w.heap.size]? = some (.cells #[.int .i64 tn, .int .u32 te, .int .i64 s, .slice A N cap] 34 (0, 0)) := bblk hb (by simp <;> omega) blkA
  have k1 : w1.heap[w.heap.size + 1]? = some (.cells #[.int .i64 h.1, .int .i64 h.2.1, .int .u32 h.2.2] 81 (0, 0)) := bblk hb (by simp <;> omega) blkA
  have k2 : w1.heap[w.heap.size + 1 + 1]? = some (.cells #[.int .i64 0, .int .i64 0] 53 (0, 0)) := bblk hb (by simp <;> omega) blkA
  obtain ⟨c00, c01, c02, c03⟩ := blkc4 k0
  have y0 := blklt k0
  have y2 := blklt k2
  have K1 := Lib.hid k1
  have K2 := Lib.hid k2
  have hz1 := HB1.out.size
  obtain ⟨q, hq⟩ : ∃ q, w1.heap.size = q := ⟨_, rfl⟩
  clear hb k0 k1 k2
  have hqw : w.heap.size + 1 + 1 < q := by omega
  have y0q : w.heap.size < q := by omega
  go_wp2_with fail
  go_loopw [14] (fun i wr => ∃ (a : Nat) (d : Int × Int) (G : Bool), a ≤ N ∧ i = .int .i64 a ∧ Hid (vF D (T.take a) = (d, G)) ∧ Hid (inF d) ∧ Hid (Fl b o w (g0 || G) wr) ∧ wr.heap[q]? = some (.cells #[.int .i64 d.1, .int .i64 d.2] 53 (0, 0)) ∧ wr.heap[w.heap.size + 1]? = some (.cells #[.int .i64 h.1, .int .i64 h.2.1, .int .u32 h.2.2] 81 (0, 0)) ∧ wr.heap[w.heap.size + 1 + 1]? = some (.cells #[.int .i64 0, .int .i64 0] 53 (0, 0))) (fun i _ => N - (intOf i).toNat)
  case atStart =>
    have hb1 := HB1.out
    have k1 := K1.out
    have k2 := K2.out
    refine ⟨0, (0, 1), false, Nat.zero_le _, rfl, Lib.hid rfl, Lib.hid zero_in, Lib.hid ?_, blknew' _ _ _ hq.symm, blkA, blkA⟩
    rw [Bool.or_false]
    exact (Fl.start HC0.out).below belA
  case round =>
    obtain ⟨a, d, G, ha, rfl, hI, hd, hFl, kq, kg, kr⟩ := hrel
    obtain ⟨W0, rfl⟩ : ∃ x, x = wr := ⟨_, rfl⟩
    obtain ⟨q0, q1⟩ := blkc2 kq
    obtain ⟨g1, g2, g3⟩ := blkc3 kg
    have yq := blklt kq
    have yg := blklt kg
    have yr := blklt kr
    have KQ := Lib.hid kq
    have KG := Lib.hid kg
    have KR := Lib.hid kr
    have hzF := hFl.out.size
    by_cases hlt : a < N
    · have hk8 : (a : Int) < (N : Int) := by omega
      obtain ⟨bl, off, rfl, hel⟩ := HEL.out (by omega)
      obtain ⟨t, ht, hto, x0, x1, x2, x3, x4⟩ := hel a hlt
      have zb := World.block_lt_of_cell? _ _ x0
      simp only at zb
      replace x0 := hFl.out.keep HC0.out (by simp) x0
      replace x1 := hFl.out.keep HC0.out (by simp) x1
      replace x2 := hFl.out.keep HC0.out (by simp) x2
      replace x3 := hFl.out.keep HC0.out (by simp) x3
      replace x4 := hFl.out.keep HC0.out (by simp) x4
      have htm := List.mem_of_getElem? ht
      obtain ⟨i1, i2⟩ := HIN.out t htm
      have HI1 := Lib.hid i1
      have HI2 := Lib.hid i2
      have HC := Lib.hid (HDN.out t htm)
      obtain ⟨X, hX⟩ : ∃ X, Hid (D t = X) := ⟨_, Lib.hid rfl⟩
      rw [hX.out] at HC HI1
      obtain ⟨M, hM⟩ : ∃ M, Hid (kD (mulO X t.2) = M) := ⟨_, Lib.hid rfl⟩
      obtain ⟨d', hd'⟩ : ∃ d', Hid (kD (addO d M) = d') := ⟨_, Lib.hid rfl⟩
      have HMI : Hid (inF M) := Lib.hid (by rw [← hM.out]; exact kmulI HI1.out HI2.out)
      have HDI : Hid (inF d') := Lib.hid (by rw [← hd'.out]; exact kaddI hd.out HMI.out)
      have hnx : Hid (vF D (T.take (a + 1)) = (d', (G || noB (mulO X t.2)) || noB (addO d M))) := Lib.hid (by
        rw [vF_succ ht, hI.out]
        unfold vS
        simp only
        rw [hX.out, hM.out, hd'.out])
      have FG := Lib.hid (hFl.out.flag HC0.out)
      have FF : Hid (W0.frozen? ⟨b, o, none⟩ = false) := Lib.hid (by rw [hFl.out.frozen hbw]; exact HF0.out)
      have hqb : q ≠ b := by omega
      have hgb : w.heap.size + 1 ≠ b := by omega
      have hrb : w.heap.size + 1 + 1 ≠ b := by omega
      have HKP : Hid (∀ V w' : World, Below V.heap.size V w' → (fun w' => w'.cell? ⟨q, 0, none⟩ = some (.int .i64 d.1) ∧ w'.cell? ⟨q, 1, none⟩ = some (.int .i64 d.2) ∧ w'.cell? ⟨W0.heap.size, 0, none⟩ = some (.int .i64 t.1.1) ∧ w'.cell? ⟨W0.heap.size, 1, none⟩ = some (.int .i64 t.1.2.1) ∧ w'.cell? ⟨W0.heap.size, 2, none⟩ = some (.int .u32 t.1.2.2) ∧ w'.cell? ⟨W0.heap.size, 3, none⟩ = some (.int .i64 t.2.1) ∧ w'.cell? ⟨W0.heap.size, 4, none⟩ = some (.int .i64 t.2.2) ∧ w'.cell? ⟨w.heap.size + 1, 0, none⟩ = some (.int .i64 h.1) ∧ w'.cell? ⟨w.heap.size + 1, 1, none⟩ = some (.int .i64 h.2.1) ∧ w'.cell? ⟨w.heap.size + 1, 2, none⟩ = some (.int .u32 h.2.2)) V → (fun w' => w'.cell? ⟨q, 0, none⟩ = some (.int .i64 d.1) ∧ w'.cell? ⟨q, 1, none⟩ = some (.int .i64 d.2) ∧ w'.cell? ⟨W0.heap.size, 0, none⟩ = some (.int .i64 t.1.1) ∧ w'.cell? ⟨W0.heap.size, 1, none⟩ = some (.int .i64 t.1.2.1) ∧ w'.cell? ⟨W0.heap.size, 2, none⟩ = some (.int .u32 t.1.2.2) ∧ w'.cell? ⟨W0.heap.size, 3, none⟩ = some (.int .i64 t.2.1) ∧ w'.cell? ⟨W0.heap.size, 4, none⟩ = some (.int .i64 t.2.2) ∧ w'.cell? ⟨w.heap.size + 1, 0, none⟩ = some (.int .i64 h.1) ∧ w'.cell? ⟨w.heap.size + 1, 1, none⟩ = some (.int .i64 h.2.1) ∧ w'.cell? ⟨w.heap.size + 1, 2, none⟩ = some (.int .u32 h.2.2)) w') := Lib.hid fun V w' hb h => ⟨bkeep hb h.1, bkeep hb h.2.1, bkeep hb h.2.2.1, bkeep hb h.2.2.2.1, bkeep hb h.2.2.2.2.1, bkeep hb h.2.2.2.2.2.1, bkeep hb h.2.2.2.2.2.2.1, bkeep hb h.2.2.2.2.2.2.2.1, bkeep hb h.2.2.2.2.2.2.2.2.1, bkeep hb h.2.2.2.2.2.2.2.2.2⟩
      clear kq kg kr hel ht hto htm i1 i2
      go_wp2_with fail
      (refine last_region (S := (fun w' => w'.cell? ⟨q, 0, none⟩ = some (.int .i64 d.1) ∧ w'.cell? ⟨q, 1, none⟩ = some (.int .i64 d.2) ∧ w'.cell? ⟨W0.heap.size, 0, none⟩ = some (.int .i64 t.1.1) ∧ w'.cell? ⟨W0.heap.size, 1, none⟩ = some (.int .i64 t.1.2.1) ∧ w'.cell? ⟨W0.heap.size, 2, none⟩ = some (.int .u32 t.1.2.2) ∧ w'.cell? ⟨W0.heap.size, 3, none⟩ = some (.int .i64 t.2.1) ∧ w'.cell? ⟨W0.heap.size, 4, none⟩ = some (.int .i64 t.2.2) ∧ w'.cell? ⟨w.heap.size + 1, 0, none⟩ = some (.int .i64 h.1) ∧ w'.cell? ⟨w.heap.size + 1, 1, none⟩ = some (.int .i64 h.2.1) ∧ w'.cell? ⟨w.heap.size + 1, 2, none⟩ = some (.int .u32 h.2.2))) 11 (by kernel_rfl) ?_ (fun hHeld => ?_); (focus (first | exact hS | (simp [*, go_sem]; done) | fail)); refine last_take 0 (some 18) (v := ?_) rfl (by kernel_rfl) (by kernel_rfl) (by kernel_rfl) (by kernel_rfl) (by decide) (by kernel_rfl) (fun _ _ _ h => h) (Or.inl ⟨by kernel_rfl, ?_⟩) (by assumption) ?_; rotate_left; (focus (intro w' hSw; (try dsimp only at hSw); go_simp; (try with_reducible rfl))); (try simp only [Act.put, nA, nB, nC]); refine last_take 1 (some 19) (v := ?_) rfl (by kernel_rfl) (by kernel_rfl) (by kernel_rfl) (by kernel_rfl) (by decide) (by kernel_rfl) (fun _ _ _ h => h) (Or.inl ⟨by kernel_rfl, ?_⟩) (by assumption) ?_; rotate_left; (focus (intro w' hSw; (try dsimp only at hSw); go_simp; (try with_reducible rfl))); (try simp only [Act.put, nA, nB, nC]); refine last_take 2 (some 20) (v := ?_) rfl (by kernel_rfl) (by kernel_rfl) (by kernel_rfl) (by kernel_rfl) (by decide) (by kernel_rfl) (fun _ _ _ h => h) (Or.inl ⟨by kernel_rfl, ?_⟩) (by assumption) ?_; rotate_left; (focus (intro w' hSw; (try dsimp only at hSw); go_simp; (try with_reducible rfl))); (try simp only [Act.put, nA, nB, nC]); refine last_take 3 (some 21) (v := ?_) rfl (by kernel_rfl) (by kernel_rfl) (by kernel_rfl) (by kernel_rfl) (by decide) (by kernel_rfl) (fun _ _ _ h => h) (Or.inl ⟨by kernel_rfl, ?_⟩) (by assumption) ?_; rotate_left; (focus (intro w' hSw; (try dsimp only at hSw); go_simp; (try with_reducible rfl))); (try simp only [Act.put, nA, nB, nC]); refine last_take 4 (some 22) (v := ?_) rfl (by kernel_rfl) (by kernel_rfl) (by kernel_rfl) (by kernel_rfl) (by decide) (by kernel_rfl) (fun _ _ _ h => h) (Or.inl ⟨by kernel_rfl, ?_⟩) (by assumption) ?_; rotate_left; (focus (intro w' hSw; (try dsimp only at hSw); go_simp; (try with_reducible rfl))); (try simp only [Act.put, nA, nB, nC]); refine last_take 5 (some 23) (v := ?_) rfl (by kernel_rfl) (by kernel_rfl) (by kernel_rfl) (by kernel_rfl) (by decide) (by kernel_rfl) (fun _ _ _ h => h) (Or.inl ⟨by kernel_rfl, ?_⟩) (by assumption) ?_; rotate_left; (focus (intro w' hSw; (try dsimp only at hSw); go_simp; (try with_reducible rfl))); (try simp only [Act.put, nA, nB, nC]); refine last_take 7 (some 25) (v := ?_) rfl (by kernel_rfl) (by kernel_rfl) (by kernel_rfl) (by kernel_rfl) (by decide) (by kernel_rfl) (fun _ _ _ h => h) (Or.inl ⟨by kernel_rfl, ?_⟩) (by assumption) ?_; rotate_left; (focus (intro w' hSw; (try dsimp only at hSw); go_simp; (try with_reducible rfl))); (try simp only [Act.put, nA, nB, nC]); refine last_take 8 (some 26) (v := ?_) rfl (by kernel_rfl) (by kernel_rfl) (by kernel_rfl) (by kernel_rfl) (by decide) (by kernel_rfl) (fun _ _ _ h => h) (Or.inl ⟨by kernel_rfl, ?_⟩) (by assumption) ?_; rotate_left; (focus (intro w' hSw; (try dsimp only at hSw); go_simp; (try with_reducible rfl))); (try simp only [Act.put, nA, nB, nC]); refine last_ready (i := 6) (by kernel_rfl) rfl (fun K hK => ?_); go_simp; (go_at_call 154; refine Calls.mono (HC.out _) ?_; rintro e0 w2 ⟨rfl, hb⟩; have hS := HKP.out _ _ hb hHeld; have HB2 := Lib.hid (show Below W0.heap.size W0 w2 from Below.trans belA (hb.mono (by simp))); have cg2 := bkeep HB2.out FG.out; have cf2 := bkeepf HB2.out (a := ⟨b, o, none⟩) (by show b < W0.heap.size; omega) FF.out; have CG2 := Lib.hid cg2; have CF2 := Lib.hid cf2; have kq2 := bblk HB2.out yq KQ.out; have kg2 := bblk HB2.out yg KG.out; have kr2 := bblk HB2.out yr KR.out; have KQ2 := Lib.hid kq2; have KG2 := Lib.hid kg2; have KR2 := Lib.hid kr2; have hz2 := HB2.out.size; clear hb cg2 cf2 kq2 kg2 kr2); go_wp2_with fail; refine hK.out _ _ ?_ (fun hHeld => ?_); (focus (first | exact hS | (simp [*, go_sem]; done) | fail)); clear hK K; (try simp only [Act.put, nA, nB, nC]); refine last_ready (i := 9) (by kernel_rfl) rfl (fun K hK => ?_); go_simp; (go_at_call 45; refine Calls.mono (kmul_any b o (g0 || G) X t.2 _ (by show b < w2.heap.size; omega) CG2.out CF2.out HI1.out HI2.out) ?_; rw [hM.out]; rintro e0 w3 ⟨rfl, hb⟩; have hfl : Fl b o w2 _ w3 := hb; have hS := And.intro (hfl.keep CG2.out (by simp) hHeld.1) (And.intro (hfl.keep CG2.out (by simp) hHeld.2.1) (And.intro (hfl.keep CG2.out (by simp) hHeld.2.2.1) (And.intro (hfl.keep CG2.out (by simp) hHeld.2.2.2.1) (And.intro (hfl.keep CG2.out (by simp) hHeld.2.2.2.2.1) (And.intro (hfl.keep CG2.out (by simp) hHeld.2.2.2.2.2.1) (And.intro (hfl.keep CG2.out (by simp) hHeld.2.2.2.2.2.2.1) (And.intro (hfl.keep CG2.out (by simp) hHeld.2.2.2.2.2.2.2.1) (And.intro (hfl.keep CG2.out (by simp) hHeld.2.2.2.2.2.2.2.2.1) (hfl.keep CG2.out (by simp) hHeld.2.2.2.2.2.2.2.2.2))))))))); have CG3 := Lib.hid (hfl.flag CG2.out); have CF3 : Hid (w3.frozen? ⟨b, o, none⟩ = false) := Lib.hid (by rw [hfl.frozen (a := ⟨b, o, none⟩) (by show b < w2.heap.size; omega)]; exact CF2.out); have KQ3 := Lib.hid ((hb.block q (by have := blklt KQ2.out; exact this)).trans (blkset (w := w2) KQ2.out (by show q ≠ b; exact hqb) _)); have KG3 := Lib.hid ((hb.block _ (by have := blklt KG2.out; exact this)).trans (blkset (w := w2) KG2.out (by show w.heap.size + 1 ≠ b; exact hgb) _)); have KR3 := Lib.hid ((hb.block _ (by have := blklt KR2.out; exact this)).trans (blkset (w := w2) KR2.out (by show w.heap.size + 1 + 1 ≠ b; exact hrb) _)); have FL3 := Lib.hid ((hFl.out.below HB2.out).trans hfl); have hz3 := hfl.size; clear hb hfl); go_wp2_with fail; refine hK.out _ _ ?_ (fun hHeld => ?_); (focus (first | exact hS | (simp [*, go_sem]; done) | fail)); clear hK K; (try simp only [Act.put, nA, nB, nC]); refine last_ready (i := 10) (by kernel_rfl) rfl (fun K hK => ?_); go_simp; (go_at_call 44; refine Calls.mono (kadd_any b o _ d M _ (by show b < w3.heap.size; omega) CG3.out CF3.out hd.out HMI.out) ?_; rw [hd'.out]; rintro e0 w4 ⟨rfl, hb⟩; have hfl : Fl b o w3 _ w4 := hb; have hS := And.intro (hfl.keep CG3.out (by simp) hHeld.1) (And.intro (hfl.keep CG3.out (by simp) hHeld.2.1) (And.intro (hfl.keep CG3.out (by simp) hHeld.2.2.1) (And.intro (hfl.keep CG3.out (by simp) hHeld.2.2.2.1) (And.intro (hfl.keep CG3.out (by simp) hHeld.2.2.2.2.1) (And.intro (hfl.keep CG3.out (by simp) hHeld.2.2.2.2.2.1) (And.intro (hfl.keep CG3.out (by simp) hHeld.2.2.2.2.2.2.1) (And.intro (hfl.keep CG3.out (by simp) hHeld.2.2.2.2.2.2.2.1) (And.intro (hfl.keep CG3.out (by simp) hHeld.2.2.2.2.2.2.2.2.1) (hfl.keep CG3.out (by simp) hHeld.2.2.2.2.2.2.2.2.2))))))))); have KQ4 := Lib.hid ((hb.block q (by have := blklt KQ3.out; exact this)).trans (blkset (w := w3) KQ3.out (by show q ≠ b; exact hqb) _)); have KG4 := Lib.hid ((hb.block _ (by have := blklt KG3.out; exact this)).trans (blkset (w := w3) KG3.out (by show w.heap.size + 1 ≠ b; exact hgb) _)); have KR4 := Lib.hid ((hb.block _ (by have := blklt KR3.out; exact this)).trans (blkset (w := w3) KR3.out (by show w.heap.size + 1 + 1 ≠ b; exact hrb) _)); have FL4 := Lib.hid (FL3.out.trans hfl); obtain ⟨z0, z1, zf0, zf1⟩ := blk2 KQ4.out; have yq4 := blklt KQ4.out; clear hb hfl); go_wp2_with fail; refine hK.out _ _ ?_ (fun hHeld => ?_); (focus (first | exact hS | (simp [*, go_sem]; done) | fail)); clear hK K; (try simp only [Act.put, nA, nB, nC]); refine last_end (by kernel_rfl) rfl (fun K hK => ?_); (try go_simp); refine hK.out _ _ ?_; clear hK K hHeld; (try simp only [Act.put, nA, nB, nC]); refine last_done (by kernel_rfl) ?_ _)
      go_wp2_with fail
      go_roundw
      case rel =>
        refine ⟨a + 1, d', _, by omega, by go_num, hnx, HDI, Lib.hid ?_, blkset2 KQ4.out _ _, blkset (blkset KG4.out (by show w.heap.size + 1 ≠ q; omega) _) (by show w.heap.size + 1 ≠ q; omega) _, blkset (blkset KR4.out (by show w.heap.size + 1 + 1 ≠ q; omega) _) (by show w.heap.size + 1 + 1 ≠ q; omega) _⟩
        have h4 := FL4.out
        rw [show (((g0 || G) || noB (mulO X t.2)) || noB (addO d M)) = (g0 || ((G || noB (mulO X t.2)) || noB (addO d M))) from by simp only [Bool.or_assoc]] at h4
        exact Below.setCell (Below.setCell h4 (by show w.heap.size ≤ q; omega) _) (by show w.heap.size ≤ q; omega) _
      case measure => simp [intOf]; omega
    · have ee : a = N := by omega
      subst ee
      have hfin : Hid (vF D T = (d, G)) := Lib.hid (by have := hI.out; rw [← hN.out, List.take_length] at this; exact this)
      obtain ⟨r0, r1, r2, r3⟩ := blk2 kr
      have HFl := hFl
      clear kq kg kr
      go_wp2_with fail
      refine bodyPost_ret (v := .agg #[.int .i64 d.1, .int .i64 d.2]) (by simp [results, Tryz.results91, go_sem, *]) rfl ?_
      rw [hfin.out]
      exact ⟨rfl, Below.setCell (Below.setCell HFl.out (by show w.heap.size ≤ w.heap.size + 1 + 1; omega) _) (by show w.heap.size ≤ w.heap.size + 1 + 1; omega) _⟩
end Go.Proofs.YtpcjinbbgnmchaaGreat
