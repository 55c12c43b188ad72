/- The average of a sum: impl.AverageSum. -/
import Derived.Test.YtpcjinbbgnmchaaGreatKa
import Derived.Test.YtpcjinbbgnmchaaGreatIe
import Derived.Test.YtpcjinbbgnmchaaGreatCb
namespace Go.Proofs.YtpcjinbbgnmchaaGreat
open Go.ChangeShapes Go.WideShapes Go.RowKit
set_option linter.unusedVariables false
set_option linter.unusedSimpArgs false
attribute [local irreducible] Calls
/-- A term's average factor; the terms averaged; whether a product was too great. -/
def avD (d : Trm) : Int × Int := fcF d.1.1.toNat d.1.2.1.toNat d.1.2.2
def avG (d : Trm) : Flg := ((0 : Int), (d.1.2.1, d.1.2.2))
def avX (T : List Trm) : List Trm := T.map fun d => (lfF (avG d), kD (mulO d.2 (avD d)))
def avZ (T : List Trm) : Bool := T.any fun d => noB (mulO d.2 (avD d))
def avC (T : List Trm) : Int := tdC (avZ T || (fI (avX T)).1) (fI (avX T)).2
def agC (tn te s : Int) (T : List Trm) : Int := if sumOk tn te s T then avC T else 1
def agL (tn te s : Int) (T : List Trm) : List Trm := tdL (agC tn te s T) (nzT (fI (avX T)).2)
theorem avX_at {T : List Trm} {k : Nat} {d : Trm} (h : T[k]? = some d) : (avX T)[k]? = some (lfF (avG d), kD (mulO d.2 (avD d))) := by
  unfold avX
  rw [List.getElem?_map, h]
  rfl
theorem avX_len (T : List Trm) : (avX T).length = T.length := List.length_map _
theorem avX_take (T : List Trm) (k : Nat) : avX (T.take k) = (avX T).take k := List.map_take
theorem avZ_take {T : List Trm} {k : Nat} {d : Trm} (h : T[k]? = some d) : avZ (T.take (k + 1)) = (avZ (T.take k) || noB (mulO d.2 (avD d))) := by
  unfold avZ
  rw [List.take_add_one, h, List.any_append]
  simp
theorem adI_g (g : Bool) (xs : List Trm) (f : Flg) (q : Int × Int) (b : Bool) : adI (b || g, xs) f q = (b || (adI (g, xs) f q).1, (adI (g, xs) f q).2) := by
  unfold adI
  simp only
  cases xs[posT f.2.2 xs]? with
  | none => rfl
  | some d =>
    simp only
    split
    · rw [Bool.or_assoc]
    · rfl
theorem flag0 {n : Nat} {e : Int} (hn : n ≤ 5) (he : 0 ≤ e ∧ e < limN n) : okFlag ((0 : Int), ((n : Int), e)) ∧ flV ((0 : Int), ((n : Int), e)) = true := by
  have hlim : limN n ≤ 1024 := by
    have : n = 0 ∨ n = 1 ∨ n = 2 ∨ n = 3 ∨ n = 4 ∨ n = 5 := by omega
    rcases this with rfl | rfl | rfl | rfl | rfl | rfl <;> decide
  refine ⟨⟨?_, ?_, ?_⟩, (flV_iff _).2 ⟨⟨by show (0 : Int) ≤ 0; decide, by show (0 : Int) ≤ 3; decide⟩, ⟨by show (0 : Int) ≤ (n : Int); omega, by show (n : Int) ≤ 5; omega⟩, by show (0 : Int) ≤ (n : Int); omega, he.2⟩⟩
  · show okI .i64 0; decide
  · simp [okI, Lit.wf, IntKind.min, IntKind.max, IntKind.signed, IntKind.bits]; omega
  · simp [okI, Lit.wf, IntKind.min, IntKind.max, IntKind.signed, IntKind.bits]; omega
/-- What is known of a term of a valid sum. -/
theorem av_term {tn te s : Int} {T : List Trm} (h : sumOk tn te s T = true) {d : Trm} (hd : d ∈ T) (hok : okTerm d) : ∃ k n : Nat, d.1.1 = k ∧ d.1.2.1 = n ∧ (n : Int) = s ∧ n ≤ 5 ∧ k ≤ 3 ∧ k ≤ n ∧ (0 ≤ d.1.2.2 ∧ d.1.2.2 < limN n) ∧ inF d.2 ∧ inF (avD d) ∧ okFlag (avG d) ∧ flV (avG d) = true := by
  have h1 := okT_iff.1 (sumOk_mem h hd)
  obtain ⟨k, n, h2, h3, h4, h5, h6⟩ := flN h1.1
  have h7 := (flV_iff _).1 h1.1
  have h8 := fitsB_iff.1 h1.2.1
  have h9 := (okFl hok.1).1
  have hlt : d.1.2.2 < limN n := by rw [← h3]; exact h7.2.2.2
  have hk : k ≤ 3 := by omega
  have hkn : k ≤ n := by omega
  have hn : n ≤ 5 := by omega
  have h0 := flag0 hn ⟨h9, hlt⟩
  refine ⟨k, n, h2, h3, by omega, hn, hk, hkn, ⟨h9, hlt⟩, inF_of_ok h1.2.2.2.1, ?_, ?_, ?_⟩
  · unfold avD
    rw [h2, h3]
    exact fcF_in hn hk hkn _
  · unfold avG
    rw [h3]
    exact h0.1
  · unfold avG
    rw [h3]
    exact h0.2
theorem avX_frame {tn te s : Int} {T : List Trm} (h : sumOk tn te s T = true) (hok : ∀ d ∈ T, okTerm d) : ∀ x ∈ avX T, x.1.1 = 0 ∧ x.1.2.1 = s ∧ inF x.2 := fun x hx => by
  obtain ⟨d, hd, rfl⟩ := List.mem_map.1 hx
  obtain ⟨k, n, h2, h3, h4, _, _, _, _, hq, hD, _⟩ := av_term h hd (hok d hd)
  exact ⟨rfl, by show d.1.2.1 = s; omega, kmulI hq hD⟩
theorem Smg.cell {B : Nat} {w : World} {bs : Nat} {g : Bool} {tn te s : Int} {xs : List Trm} (h : Smg B w bs g tn te s xs) : w.cell? ⟨bs, 0, none⟩ = some (.bool g) ∧ w.frozen? ⟨bs, 0, none⟩ = false := by
  obtain ⟨_, o, h2, _⟩ := h
  obtain ⟨⟨a0, _⟩, fz⟩ := blk5 h2
  exact ⟨a0, fz 0⟩
theorem Smg.flag {B : Nat} {w w' : World} {bs : Nat} {g g' : Bool} {tn te s : Int} {xs : List Trm} (h : Smg B w bs g tn te s xs) (hb : Below w.heap.size (w.setCell ⟨bs, 0, none⟩ (.bool g')) w') : Smg B w' bs g' tn te s xs := by
  obtain ⟨h1, o, h2, h3⟩ := h
  refine ⟨h1, o, (hb.block bs (blklt h2)).trans (blkset0 h2 0 _), h3.move fun b hb1 hb2 => ?_⟩
  exact (hb.block b hb2).trans (Below.heap_setCell w ⟨bs, 0, none⟩ _ b (by show b ≠ bs; omega))
set_option maxHeartbeats 4000000 in
theorem AverageSum_any (w : World) (tn te s : Int) (T : List Trm) (v : Value) (hT : Lst shTerm w T v) (he : 0 ≤ te ∧ te ≤ 4294967295) :
    Calls Tryz.prog 28 #[.agg #[.int .i64 tn, .int .u32 te, .int .i64 s, v]] w (SumRet w.heap.size w (agC tn te s T) (tdT (agC tn te s T) (0, 0)) (tdS (agC tn te s T) s) (agL tn te s T)) := by
  unfold agL
  obtain ⟨A, cap, rfl, _, _, hoks, _⟩ := lstTerm hT
  have HT := Lib.hid hT
  have HE := Lib.hid he
  have HOK := Lib.hid hoks
  clear hT hoks
  cases h1 : sumOk tn te s T
  · have hr : Hid (agC tn te s T = 1) := Lib.hid (by simp [agC, h1])
    have H1 := Lib.hid h1
    clear h1 he
    go_enter Tryz.func28, Tryz.ntmps28
    go_wp2_with (first | (go_at_call 35; refine Calls.mono (ValidSum_any _ tn te s T _ (HT.out.below belA) HE.out) ?_; rw [H1.out]; rintro e w1 ⟨rfl, hb⟩; obtain ⟨X, m, rfl⟩ := plsOf hb; clear hb))
    refine bodyPost_ret (v := .tuple #[.agg #[.int .i64 0, .int .u32 0, .int .i64 0, .slice none 0 0], .int .i64 1]) (by simp [results, Tryz.results28, go_sem, *]) rfl ?_
    rw [hr.out]
    exact sumRet_no rfl rfl rfl belA rfl
  have H1 := Lib.hid h1
  have hr : Hid (agC tn te s T = avC T) := Lib.hid (by simp [agC, h1])
  have HTM := Lib.hid (fun d hd => av_term h1 hd (HOK.out d hd))
  have HFR := Lib.hid (avX_frame h1 HOK.out)
  have hl : T.length ≤ 64 := (sumOk_iff.1 h1).2.2.1
  obtain ⟨N, hN⟩ : ∃ N, Hid (T.length = N) := ⟨_, Lib.hid rfl⟩
  rw [hN.out] at hl HT ⊢
  clear h1 he
  rw [hr.out]
  go_enter Tryz.func28, Tryz.ntmps28
  go_wp2_with fail
  refine Calls.mono (ValidSum_any _ tn te s T _ (HT.out.below belA) HE.out) ?_
  rw [H1.out]
  rintro e0 w1 ⟨rfl, hb⟩
  have k0 : w1.heap[w.heap.size]? = some (.cells #[.int .i64 tn, .int .u32 te, .int .i64 s, .slice A N cap] 34 (0, 0)) := bblk hb (by simp <;> omega) blkA
  have k1 : w1.heap[w.heap.size + 1]? = some (.cells #[.int .i64 0, .int .u32 0, .int .i64 0, .slice none 0 0] 34 (0, 0)) := bblk hb (by simp <;> omega) blkA
  have HB1 := Lib.hid (show Below w.heap.size w w1 from Below.trans belA (hb.mono (by simp <;> omega)))
  obtain ⟨a0, a1, a2, a3⟩ := blkc4 k0
  have y0 := blklt k0
  have K1 := Lib.hid k1
  have hbs : w.heap.size + 1 < w1.heap.size := blklt k1
  clear hb k0 k1
  go_wp2_with fail
  clear a0 a1 a2 a3
  go_loopw [18] (fun i wr => ∃ (k : Nat), k ≤ N ∧ i = .int .i64 k ∧ Hid (Smg w1.heap.size wr w1.heap.size (avZ (T.take k) || (fI ((avX T).take k)).1) 0 0 s (fI ((avX T).take k)).2) ∧ wr.heap[w.heap.size + 1]? = some (.cells #[.int .i64 0, .int .u32 0, .int .i64 0, .slice none 0 0] 34 (0, 0)) ∧ Below w1.heap.size w1 wr) (fun i _ => N - (intOf i).toNat)
  case atStart =>
    exact ⟨0, Nat.zero_le _, rfl, Lib.hid ⟨Nat.le_refl _, .slice none 0 0, blknew _ _, TmA.nil⟩, blkal K1.out _, (Below.refl _ _).alloc (Nat.le_refl _) _⟩
  case round =>
    obtain ⟨k, hk, rfl, hSm, b2, hB⟩ := hrel
    obtain ⟨W0, rfl⟩ : ∃ x, x = wr := ⟨_, rfl⟩
    have hzB := hB.size
    have B2 := Lib.hid b2
    have HBW : Hid (Below w.heap.size w W0) := Lib.hid (HB1.out.trans (hB.mono HB1.out.size))
    by_cases hlt : k < N
    · have hk8 : (k : Int) < (N : Int) := by omega
      obtain ⟨_, _, hv, _, _, _, hel⟩ := lstTerm HT.out
      rw [hN.out] at hel
      injection hv with e1 e2 e3
      obtain ⟨bl, off, e4, hel⟩ := hel (by omega)
      rw [← e1] at e4
      subst e4
      obtain ⟨d, hd, hok, x0, x1, x2, x3, x4⟩ := hel k (by omega)
      have zb := World.block_lt_of_cell? _ _ x0
      simp only at zb
      have hBW := HBW.out
      replace x0 := bkeep hBW x0
      replace x1 := bkeep hBW x1
      replace x2 := bkeep hBW x2
      replace x3 := bkeep hBW x3
      replace x4 := bkeep hBW x4
      obtain ⟨kk, nn, q1, q2, q3, q4, q5, q6, q7, q8, q9, q10, q11⟩ := HTM.out d (List.mem_of_getElem? hd)
      have HFC : Hid (∀ W, Calls Tryz.prog 69 #[.agg #[.int .i64 d.1.1, .int .i64 d.1.2.1, .int .u32 d.1.2.2]] W fun r w' => r = .returned (.agg #[.int .i64 (avD d).1, .int .i64 (avD d).2]) ∧ Below W.heap.size W w') := Lib.hid fun W => by
        have h := factor_any W kk nn d.1.2.2 q4 q5 q6 q7
        unfold avD
        rw [q1, q2, Int.toNat_natCast, Int.toNat_natCast]
        exact h
      have HQ := Lib.hid q8
      have HDI := Lib.hid q9
      have HGO := Lib.hid q10
      have HGV := Lib.hid q11
      obtain ⟨D, hD⟩ : ∃ D, Hid (avD d = D) := ⟨_, Lib.hid rfl⟩
      rw [hD.out] at HFC HDI
      obtain ⟨R, hR⟩ : ∃ R, Hid (kD (mulO d.2 D) = R) := ⟨_, Lib.hid rfl⟩
      have HRI : Hid (inF R) := Lib.hid (by rw [← hR.out]; exact kmulI HQ.out HDI.out)
      have HST := Lib.hid (fI_StI ((avX T).take k) (fun x hx => HFR.out x (List.mem_of_mem_take hx)))
      have hln := fI_len ((avX T).take k)
      rw [List.length_take, avX_len, hN.out] at hln
      have hls := avX_at hd
      obtain ⟨I0, hI0⟩ : ∃ I0, fI ((avX T).take k) = I0 := ⟨_, rfl⟩
      obtain ⟨Z0, hZ0⟩ : ∃ Z0, avZ (T.take k) = Z0 := ⟨_, rfl⟩
      have hstep : Hid (adI (((Z0 || I0.1) || noB (mulO d.2 D)), I0.2) (lfF (avG d)) R = (avZ (T.take (k + 1)) || (fI ((avX T).take (k + 1))).1, (fI ((avX T).take (k + 1))).2)) := Lib.hid (by
        have e5 : ((Z0 || I0.1) || noB (mulO d.2 D)) = (avZ (T.take (k + 1)) || I0.1) := by
          rw [avZ_take hd, hZ0, hD.out]
          cases Z0 <;> cases I0.1 <;> cases noB (mulO d.2 D) <;> rfl
        rw [e5, adI_g, fI_take hls, hI0]
        show (_ || (adI I0 (lfF (avG d)) R).1, (adI I0 (lfF (avG d)) R).2) = (_ || (adI I0 (lfF (avG d)) (kD (mulO d.2 (avD d)))).1, (adI I0 (lfF (avG d)) (kD (mulO d.2 (avD d)))).2)
        rw [hD.out, hR.out])
      rw [hI0] at hSm HST hln
      rw [hZ0] at hSm
      obtain ⟨G0, hG0⟩ : ∃ G0, Hid ((Z0 || I0.1) = G0) := ⟨_, Lib.hid rfl⟩
      rw [hG0.out] at hSm hstep
      obtain ⟨G1, hG1⟩ : ∃ G1, Hid ((G0 || noB (mulO d.2 D)) = G1) := ⟨_, Lib.hid rfl⟩
      rw [hG1.out] at hstep
      have hls0 : Hid (I0.2.length ≤ 1048576) := Lib.hid (by omega)
      have zW : bl < W0.heap.size := by have := hBW.size; omega
      have zS : w1.heap.size < W0.heap.size := hSm.out.lt
      clear hel hd hok e1 e2 e3 hls hln b2 hBW hI0 hZ0 q1 q2 q3 q4 q5 q6 q7 q8 q9 q10 q11
      go_wp2_with fail
      clear x0 x1 x2 x3 x4
      (refine last_region (S := (fun w' => w'.cell? ⟨W0.heap.size, 0, none⟩ = some (.int .i64 d.1.1) ∧ w'.cell? ⟨W0.heap.size, 1, none⟩ = some (.int .i64 d.1.2.1) ∧ w'.cell? ⟨W0.heap.size, 2, none⟩ = some (.int .u32 d.1.2.2) ∧ w'.cell? ⟨W0.heap.size, 3, none⟩ = some (.int .i64 d.2.1) ∧ w'.cell? ⟨W0.heap.size, 4, none⟩ = some (.int .i64 d.2.2))) 14 (by kernel_rfl) ?_ (fun hHeld => ?_); (focus (first | exact hS | (simp [*, go_sem]; done) | fail)); refine last_take 0 (some 22) (v := ?_) rfl (by kernel_rfl) (by kernel_rfl) (by kernel_rfl) (by kernel_rfl) (by decide) (by kernel_rfl) (fun _ _ _ h => h) (Or.inl ⟨by kernel_rfl, ?_⟩) (by assumption) ?_; rotate_left; (focus (intro w' hSw; (try dsimp only at hSw); go_simp; (try with_reducible rfl))); (try simp only [Act.put, nA, nB, nC]); refine last_take 1 (some 23) (v := ?_) rfl (by kernel_rfl) (by kernel_rfl) (by kernel_rfl) (by kernel_rfl) (by decide) (by kernel_rfl) (fun _ _ _ h => h) (Or.inl ⟨by kernel_rfl, ?_⟩) (by assumption) ?_; rotate_left; (focus (intro w' hSw; (try dsimp only at hSw); go_simp; (try with_reducible rfl))); (try simp only [Act.put, nA, nB, nC]); refine last_take 2 (some 24) (v := ?_) rfl (by kernel_rfl) (by kernel_rfl) (by kernel_rfl) (by kernel_rfl) (by decide) (by kernel_rfl) (fun _ _ _ h => h) (Or.inl ⟨by kernel_rfl, ?_⟩) (by assumption) ?_; rotate_left; (focus (intro w' hSw; (try dsimp only at hSw); go_simp; (try with_reducible rfl))); (try simp only [Act.put, nA, nB, nC]); refine last_take 3 (some 25) (v := ?_) rfl (by kernel_rfl) (by kernel_rfl) (by kernel_rfl) (by kernel_rfl) (by decide) (by kernel_rfl) (fun _ _ _ h => h) (Or.inl ⟨by kernel_rfl, ?_⟩) (by assumption) ?_; rotate_left; (focus (intro w' hSw; (try dsimp only at hSw); go_simp; (try with_reducible rfl))); (try simp only [Act.put, nA, nB, nC]); refine last_take 4 (some 26) (v := ?_) rfl (by kernel_rfl) (by kernel_rfl) (by kernel_rfl) (by kernel_rfl) (by decide) (by kernel_rfl) (fun _ _ _ h => h) (Or.inl ⟨by kernel_rfl, ?_⟩) (by assumption) ?_; rotate_left; (focus (intro w' hSw; (try dsimp only at hSw); go_simp; (try with_reducible rfl))); (try simp only [Act.put, nA, nB, nC]); refine last_take 5 (some 27) (v := ?_) rfl (by kernel_rfl) (by kernel_rfl) (by kernel_rfl) (by kernel_rfl) (by decide) (by kernel_rfl) (fun _ _ _ h => h) (Or.inl ⟨by kernel_rfl, ?_⟩) (by assumption) ?_; rotate_left; (focus (intro w' hSw; (try dsimp only at hSw); go_simp; (try with_reducible rfl))); (try simp only [Act.put, nA, nB, nC]); refine last_take 6 (some 28) (v := ?_) rfl (by kernel_rfl) (by kernel_rfl) (by kernel_rfl) (by kernel_rfl) (by decide) (by kernel_rfl) (fun _ _ _ h => h) (Or.inl ⟨by kernel_rfl, ?_⟩) (by assumption) ?_; rotate_left; (focus (intro w' hSw; (try dsimp only at hSw); go_simp; (try with_reducible rfl))); (try simp only [Act.put, nA, nB, nC]); refine last_take 7 (some 29) (v := ?_) rfl (by kernel_rfl) (by kernel_rfl) (by kernel_rfl) (by kernel_rfl) (by decide) (by kernel_rfl) (fun _ _ _ h => h) (Or.inl ⟨by kernel_rfl, ?_⟩) (by assumption) ?_; rotate_left; (focus (intro w' hSw; (try dsimp only at hSw); go_simp; (try with_reducible rfl))); (try simp only [Act.put, nA, nB, nC]); refine last_take 8 (some 30) (v := ?_) rfl (by kernel_rfl) (by kernel_rfl) (by kernel_rfl) (by kernel_rfl) (by decide) (by kernel_rfl) (fun _ _ _ h => h) (Or.inl ⟨by kernel_rfl, ?_⟩) (by assumption) ?_; rotate_left; (focus (intro w' hSw; (try dsimp only at hSw); go_simp; (try with_reducible rfl))); (try simp only [Act.put, nA, nB, nC]); refine last_take 9 (some 31) (v := ?_) rfl (by kernel_rfl) (by kernel_rfl) (by kernel_rfl) (by kernel_rfl) (by decide) (by kernel_rfl) (fun _ _ _ h => h) (Or.inl ⟨by kernel_rfl, ?_⟩) (by assumption) ?_; rotate_left; (focus (intro w' hSw; (try dsimp only at hSw); go_simp; (try with_reducible rfl))); (try simp only [Act.put, nA, nB, nC]); refine last_take 10 (some 32) (v := ?_) rfl (by kernel_rfl) (by kernel_rfl) (by kernel_rfl) (by kernel_rfl) (by decide) (by kernel_rfl) (fun _ _ _ h => h) (Or.inl ⟨by kernel_rfl, ?_⟩) (by assumption) ?_; rotate_left; (focus (intro w' hSw; (try dsimp only at hSw); go_simp; (try with_reducible rfl))); (try simp only [Act.put, nA, nB, nC]); refine last_take 11 (some 33) (v := ?_) rfl (by kernel_rfl) (by kernel_rfl) (by kernel_rfl) (by kernel_rfl) (by decide) (by kernel_rfl) (fun _ _ _ h => h) (Or.inl ⟨by kernel_rfl, ?_⟩) (by assumption) ?_; rotate_left; (focus (intro w' hSw; (try dsimp only at hSw); go_simp; (try with_reducible rfl))); (try simp only [Act.put, nA, nB, nC]); refine last_ready (i := 12) (by kernel_rfl) rfl (fun K hK => ?_); go_simp; (go_at_call 69; refine Calls.mono (HFC.out _) ?_; rintro e0 w3 ⟨rfl, hb⟩; have hS := And.intro (bkeep hb hHeld.1) (And.intro (bkeep hb hHeld.2.1) (And.intro (bkeep hb hHeld.2.2.1) (And.intro (bkeep hb hHeld.2.2.2.1) (bkeep hb hHeld.2.2.2.2)))); have HB3 := Lib.hid (show Below W0.heap.size W0 w3 from Below.trans belA (hb.mono (by first | omega | (simp <;> omega)))); have HSM3 := Lib.hid (hSm.out.below HB3.out); have CG := Lib.hid HSM3.out.cell.1; have CF := Lib.hid HSM3.out.cell.2; have ys3 := HSM3.out.lt; clear hb); go_wp2_with fail; refine hK.out _ _ ?_ (fun hHeld => ?_); (focus (first | exact hS | (simp [*, go_sem]; done) | fail)); clear hK K; (try simp only [Act.put, nA, nB, nC]); refine last_ready (i := 13) (by kernel_rfl) rfl (fun K hK => ?_); go_simp; (go_at_call 45; refine Calls.mono (kmul_any w1.heap.size 0 G0 d.2 D _ ys3 CG.out CF.out HQ.out HDI.out) ?_; rw [hR.out, hG1.out]; rintro e0 w4 ⟨rfl, hb⟩; have hfl : Fl w1.heap.size 0 _ _ w4 := hb; have hS := And.intro (hfl.keep CG.out (by first | (simp; done) | (simp; omega)) hHeld.1) (And.intro (hfl.keep CG.out (by first | (simp; done) | (simp; omega)) hHeld.2.1) (And.intro (hfl.keep CG.out (by first | (simp; done) | (simp; omega)) hHeld.2.2.1) (And.intro (hfl.keep CG.out (by first | (simp; done) | (simp; omega)) hHeld.2.2.2.1) (hfl.keep CG.out (by first | (simp; done) | (simp; omega)) hHeld.2.2.2.2)))); have HSM4 := Lib.hid (HSM3.out.flag hb); have HB4 := Lib.hid (show Below w1.heap.size W0 w4 from (Below.setCell (HB3.out.mono hzB) (Nat.le_refl _) _).trans (hb.mono (by have := HB3.out.size; simp <;> omega))); clear hb); go_wp2_with fail; refine hK.out _ _ ?_ (fun hHeld => ?_); (focus (first | exact hS | (simp [*, go_sem]; done) | fail)); clear hK K; (try simp only [Act.put, nA, nB, nC]); refine last_end (by kernel_rfl) rfl (fun K hK => ?_); go_simp; (go_at_call 68; refine Calls.mono (smAdd_any _ w1.heap.size w1.heap.size G1 0 0 s I0.2 (avG d) R HSM4.out HST.out.1 (fun x hx => (HST.out.2.1 x hx).2.2) HGO.out HGV.out HRI.out hls0.out) ?_; rintro e0 w5 ⟨rfl, hS5, hb⟩; have HSM5 := Lib.hid hS5; have HB5 := Lib.hid (HB4.out.trans hb); clear hS5 hb); go_wp2_with fail; refine hK.out _ _ ?_; clear hK K hHeld; (try simp only [Act.put, nA, nB, nC]); refine last_done (by kernel_rfl) ?_ _)
      clear hHeld
      have hSM6 : Hid (Smg w1.heap.size w5 w1.heap.size (avZ (T.take (k + 1)) || (fI ((avX T).take (k + 1))).1) 0 0 s (fI ((avX T).take (k + 1))).2) := Lib.hid (by
        have h := HSM5.out
        rw [show ((avG d).1, ((avG d).2.1, leastF (avG d))) = lfF (avG d) from rfl, hstep.out] at h
        exact h)
      go_wp2_with fail
      go_roundw
      case rel => exact ⟨k + 1, by omega, by go_num, hSM6, bblk HB5.out hbs B2.out, hB.trans HB5.out⟩
      case measure => simp [intOf]; omega
    · have e : k = N := by omega
      subst e
      have htk : Hid ((avX T).take k = avX T) := Lib.hid (List.take_of_length_le (by rw [avX_len, hN.out]; exact Nat.le_refl _))
      have htk2 : Hid (T.take k = T) := Lib.hid (List.take_of_length_le (by rw [hN.out]; exact Nat.le_refl _))
      rw [htk.out, htk2.out] at hSm
      obtain ⟨XI, hXI⟩ : ∃ XI, Hid (fI (avX T) = XI) := ⟨_, Lib.hid rfl⟩
      have hll : Hid (XI.2.length ≤ 1048576) := Lib.hid (by rw [← hXI.out]; have := fI_len (avX T); rw [avX_len, hN.out] at this; omega)
      rw [hXI.out] at hSm
      obtain ⟨_, o, b0, hTm⟩ := hSm.out
      have HTOLD := Lib.hid (smTold_any W0 w1.heap.size (avZ T || XI.1) 0 0 s XI.2 o b0 hTm.lst hll.out)
      obtain ⟨⟨r0, r1, r2, r3⟩, f0, f1, f2, f3⟩ := blk4 b2
      have z2 := blklt b2
      clear b0 hTm b2 hSm
      go_wp2_with fail
      refine Calls.mono HTOLD.out ?_
      rintro e0 w5 ⟨A5, cap5, F5, rfl, hO5, hb5⟩
      have kr := bblk hb5 z2 B2.out
      have hbb : Below w.heap.size w w5 := HBW.out.trans (hb5.mono HBW.out.size)
      obtain ⟨C, hC⟩ : ∃ C, Hid (tdC (avZ T || XI.1) XI.2 = C) := ⟨_, Lib.hid rfl⟩
      rw [hC.out] at hO5 ⊢
      obtain ⟨XL, hXL, NX, hNX⟩ : ∃ XL : List Trm, Hid (tdL C (nzT XI.2) = XL) ∧ ∃ NX : Nat, Hid (XL.length = NX) := ⟨_, Lib.hid rfl, _, Lib.hid rfl⟩
      rw [hXL.out] at hO5 ⊢
      rw [hNX.out] at hO5 ⊢
      have HO5 := Lib.hid hO5
      have hzz5 : W0.heap.size ≤ w5.heap.size := hb5.size
      have hz1 := HB1.out.size
      obtain ⟨⟨c50, c51, c52, c53⟩, f50, f51, f52, f53⟩ := blk4 kr
      have zz5 := blklt kr
      clear hO5 hb5 kr r0 r1 r2 r3 f0 f1 f2 f3
      go_wp2_with fail
      refine bodyPost_ret (v := .tuple #[.agg #[.int .i64 (tdT C (0, 0)).1, .int .u32 (tdT C (0, 0)).2, .int .i64 (tdS C s), .slice A5 NX cap5], .int .i64 C]) (by simp [results, Tryz.results28, go_sem, *]) rfl ?_
      rw [show avC T = C from by unfold avC; rw [hXI.out, hC.out], hXI.out, hXL.out]
      refine ⟨A5, cap5, F5, ?_, ?_, ?_⟩
      · rw [hNX.out]
      · rw [hNX.out]
        refine HO5.out.move (by omega) fun q h1 _ => ?_
        have hne : q ≠ w.heap.size + 1 := by omega
        exact (Below.heap_setCell _ ⟨w.heap.size + 1, 3, none⟩ _ q hne).trans ((Below.heap_setCell _ ⟨w.heap.size + 1, 2, none⟩ _ q hne).trans ((Below.heap_setCell _ ⟨w.heap.size + 1, 1, none⟩ _ q hne).trans (Below.heap_setCell _ ⟨w.heap.size + 1, 0, none⟩ _ q hne)))
      · exact belA
end Go.Proofs.YtpcjinbbgnmchaaGreat
