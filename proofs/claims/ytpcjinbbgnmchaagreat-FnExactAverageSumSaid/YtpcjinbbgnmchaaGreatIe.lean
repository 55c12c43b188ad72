/- impl.SumOfFlags. -/
import Derived.Test.YtpcjinbbgnmchaaGreatId
import Derived.Test.YtpcjinbbgnmchaaGreatLi
namespace Go.Proofs.YtpcjinbbgnmchaaGreat
open Go.ChangeShapes Go.WideShapes Go.RowKit
set_option linter.unusedVariables false
set_option linter.unusedSimpArgs false
attribute [local irreducible] Calls
/-- Terms with their flags least; a bad term; a term out of the frame. -/
def lfF (d : Flg) : Flg := (d.1, (d.2.1, leastF d))
def lsT (T : List Trm) : List Trm := T.map fun d => (lfF d.1, d.2)
def badT (d : Trm) : Bool := badFl d.1 || badF d.2
def outT (tn te s : Int) (d : Trm) : Bool := !fitsB d.1 tn te s
def anyT (P : Trm → Bool) (T : List Trm) : Bool := T.any P
theorem anyT_no {P : Trm → Bool} {T : List Trm} (h : anyT P T = false) : ∀ d ∈ T, P d = false := fun d hd => by
  unfold anyT at h
  cases hp : P d
  · rfl
  · rw [List.any_eq_true.2 ⟨d, hd, hp⟩] at h
    cases h
def sfC (tn te s : Int) (T : List Trm) : Int := if anyT badT T then 1 else if tyC tn te s = 0 then (if anyT (outT tn te s) T then 2 else tdC (fI (lsT T)).1 (fI (lsT T)).2) else tyC tn te s
theorem lsT_at {T : List Trm} {k : Nat} {d : Trm} (h : T[k]? = some d) : (lsT T)[k]? = some (lfF d.1, d.2) := by
  unfold lsT
  rw [List.getElem?_map, h]
  rfl
theorem lsT_len (T : List Trm) : (lsT T).length = T.length := List.length_map _
theorem badT_no {d : Trm} (h : badT d = false) : flV d.1 = true ∧ inF d.2 := by
  unfold badT badFl badF at h
  simp only [Bool.or_eq_false_iff, Bool.not_eq_false'] at h
  exact ⟨h.1, inF_of_ok h.2⟩
theorem lsT_frame {tn te s : Int} {T : List Trm} (h1 : anyT badT T = false) (h2 : anyT (outT tn te s) T = false) : ∀ x ∈ lsT T, x.1.1 = tn ∧ x.1.2.1 = s ∧ inF x.2 := fun x hx => by
  obtain ⟨d, hd, rfl⟩ := List.mem_map.1 hx
  have h3 := badT_no (anyT_no h1 d hd)
  have h4 := anyT_no h2 d hd
  unfold outT at h4
  have h5 := fitsB_iff.1 (by simpa using h4)
  exact ⟨h5.2.1, h5.1, h3.2⟩
theorem badTerm_any (d : Trm) (w : World) (hok : okTerm d) : Calls Tryz.prog 112 #[.agg #[.int .i64 d.1.1, .int .i64 d.1.2.1, .int .u32 d.1.2.2, .int .i64 d.2.1, .int .i64 d.2.2]] w fun e w' => e = .returned (.bool (badT d)) ∧ Below w.heap.size w w' := by
  have HB : Hid (∀ W, Calls Tryz.prog 113 #[.agg #[.int .i64 d.1.1, .int .i64 d.1.2.1, .int .u32 d.1.2.2]] W fun e W' => e = .returned (.bool (badFl d.1)) ∧ Below W.heap.size W W') := Lib.hid fun W => badFlag_i W d.1 hok.1
  cases h1 : badFl d.1
  · have hr : Hid (badT d = badF d.2) := Lib.hid (by unfold badT; rw [h1]; rfl)
    have H1 := Lib.hid h1
    clear h1
    go_enter Tryz.func112, Tryz.ntmps112
    go_wp2_with (first | (go_at_call 113; refine Calls.mono (HB.out _) ?_; rw [H1.out]; rintro e w1 ⟨rfl, hb⟩; obtain ⟨X, m, rfl⟩ := plsOf hb; clear hb) | (go_at_call 114; refine Calls.mono (badFraction_any d.2 _ hok.2) ?_; rintro e w1 ⟨rfl, hb⟩; obtain ⟨X2, m2, rfl⟩ := plsOf hb; clear hb))
    exact bodyPost_ret (v := .bool (badF d.2)) (by simp [results, Tryz.results112, go_sem]) rfl ⟨by rw [hr.out], belA⟩
  · have hr : Hid (badT d = true) := Lib.hid (by unfold badT; rw [h1]; rfl)
    have H1 := Lib.hid h1
    clear h1
    go_enter Tryz.func112, Tryz.ntmps112
    go_wp2_with (first | (go_at_call 113; refine Calls.mono (HB.out _) ?_; rw [H1.out]; rintro e w1 ⟨rfl, hb⟩; obtain ⟨X, m, rfl⟩ := plsOf hb; clear hb))
    exact bodyPost_ret (v := .bool true) (by simp [results, Tryz.results112, go_sem]) rfl ⟨by rw [hr.out], belA⟩
theorem outTerm_any (d : Trm) (tn te s : Int) (bt bz : Nat) (w : World) (hd : 0 ≤ d.1.1 ∧ d.1.1 ≤ 5) (ht : w.heap[bt]? = some (.cells #[.int .i64 tn, .int .u32 te] 31 (0, 0))) (hz : w.heap[bz]? = some (.cells #[.int .i64 s] 2 (0, 0))) :
    Calls Tryz.prog 116 #[.agg #[.int .i64 d.1.1, .int .i64 d.1.2.1, .int .u32 d.1.2.2, .int .i64 d.2.1, .int .i64 d.2.2], .pointer (some ⟨bt, 0, none⟩), .pointer (some ⟨bz, 0, none⟩)] w fun e w' => e = .returned (.bool (outT tn te s d)) ∧ Below w.heap.size w w' := by
  obtain ⟨t0, t1⟩ := blkc2 ht
  have z0 := blkc1 hz
  have yt := blklt ht
  have yz := blklt hz
  clear ht hz
  go_enter Tryz.func116, Tryz.ntmps116
  go_wp2_with (first | (go_at_call 86; refine Calls.mono (fits_any _ d.1 tn te s hd) ?_; rintro e w1 ⟨rfl, hb⟩; obtain ⟨X, m, rfl⟩ := plsOf hb; clear hb))
  exact bodyPost_ret (v := .bool (!fitsB d.1 tn te s)) (by simp [results, Tryz.results116, go_sem]) rfl ⟨rfl, belA⟩
set_option maxHeartbeats 4000000 in
theorem SumOfFlags_any (w : World) (tn te s : Int) (T : List Trm) (v : Value) (hT : Lst shTerm w T v) (he : 0 ≤ te ∧ te ≤ 4294967295) (hl : T.length ≤ 1048576) :
    Calls Tryz.prog 50 #[.agg #[.int .i64 tn, .int .u32 te], .int .i64 s, v] w (SumRet w.heap.size w (sfC tn te s T) (tdT (sfC tn te s T) (tn, te)) (tdS (sfC tn te s T) s) (tdL (sfC tn te s T) (nzT (fI (lsT T)).2))) := by
  obtain ⟨A, cap, rfl, _, _, hoks, _⟩ := lstTerm hT
  have HT := Lib.hid hT
  have HE := Lib.hid he
  have HOK := Lib.hid hoks
  have e1 : ∀ args w, (callFunc 112 args).run Tryz.prog w = .ok (.enter 112 args) w := fun args w => enters_of Tryz.func112 (by kernel_rfl) rfl args w
  have e2 : ∀ args w, (callFunc 116 args).run Tryz.prog w = .ok (.enter 116 args) w := fun args w => enters_of Tryz.func116 (by kernel_rfl) rfl args w
  have HBAD : Hid (∀ W, Below w.heap.size w W → Calls Tryz.prog 111 #[.slice A T.length cap, .func (.func 112) #[] #[]] W fun e W' => e = .returned (.bool (anyT badT T)) ∧ Below W.heap.size W W') := Lib.hid fun W hW => hasTerm_any W T _ 112 #[] badT (HT.out.below hW) (by omega) e1 (fun V d _ hd => badTerm_any d V (HOK.out d hd))
  have HTY : Hid (∀ W, Calls Tryz.prog 115 #[.agg #[.int .i64 tn, .int .u32 te], .int .i64 s] W fun e0 w' => e0 = .returned (.int .i64 (tyC tn te s)) ∧ Below W.heap.size W w') := Lib.hid fun W => typeOk_any tn te s W he
  clear hT hoks he e1
  cases h1 : anyT badT T
  rotate_left
  · have hr : Hid (sfC tn te s T = 1) := Lib.hid (by unfold sfC; rw [h1]; rfl)
    have H1 := Lib.hid h1
    clear h1 e2
    go_enter Tryz.func50, Tryz.ntmps50
    go_wp2_with (first | (go_at_call 111; refine Calls.mono (HBAD.out _ belA) ?_; rw [H1.out]; rintro e w1 ⟨rfl, hb⟩; obtain ⟨X, m, rfl⟩ := plsOf hb; clear hb))
    refine bodyPost_ret (v := .tuple #[.agg #[.int .i64 0, .int .u32 0, .int .i64 0, .slice none 0 0], .int .i64 1]) (by simp [results, Tryz.results50, go_sem, *]) rfl ?_
    rw [hr.out]
    exact sumRet_no rfl rfl rfl belA rfl
  have H1 := Lib.hid h1
  by_cases h2 : tyC tn te s = 0
  rotate_left
  · have hr : Hid (sfC tn te s T = tyC tn te s) := Lib.hid (by unfold sfC; rw [h1, if_neg h2]; rfl)
    obtain ⟨C, hC⟩ : ∃ C, tyC tn te s = C := ⟨_, rfl⟩
    rw [hC] at HTY hr h2
    have h2b : (C != 0) = true := by simpa using h2
    clear h1 e2 hC
    go_enter Tryz.func50, Tryz.ntmps50
    go_wp2_with (first | (go_at_call 111; refine Calls.mono (HBAD.out _ belA) ?_; rw [H1.out]; rintro e w1 ⟨rfl, hb⟩; obtain ⟨X, m, rfl⟩ := plsOf hb; clear hb) | (go_at_call 115; refine Calls.mono (HTY.out _) ?_; rintro e w1 ⟨rfl, hb⟩; obtain ⟨X2, m2, rfl⟩ := plsOf hb; clear hb))
    refine bodyPost_ret (v := .tuple #[.agg #[.int .i64 0, .int .u32 0, .int .i64 0, .slice none 0 0], .int .i64 C]) (by simp [results, Tryz.results50, go_sem, *]) rfl ?_
    rw [hr.out]
    exact sumRet_no (if_neg h2) (if_neg h2) (if_neg h2) belA rfl
  have hV := Lib.hid (anyT_no h1)
  have HOUT : Hid (∀ W, Below w.heap.size w W → W.heap[w.heap.size]? = some (.cells #[.int .i64 tn, .int .u32 te] 31 (0, 0)) → W.heap[w.heap.size + 1]? = some (.cells #[.int .i64 s] 2 (0, 0)) → Calls Tryz.prog 111 #[.slice A T.length cap, .func (.func 116) #[] #[.pointer (some ⟨w.heap.size, 0, none⟩), .pointer (some ⟨w.heap.size + 1, 0, none⟩)]] W fun e W' => e = .returned (.bool (anyT (outT tn te s) T)) ∧ Below W.heap.size W W') := Lib.hid fun W hW k0 k1 => hasTerm_any W T _ 116 #[.pointer (some ⟨w.heap.size, 0, none⟩), .pointer (some ⟨w.heap.size + 1, 0, none⟩)] (outT tn te s) (HT.out.below hW) (by omega) e2 (fun V d hV' hd => outTerm_any d tn te s _ _ V (by have := (flV_iff d.1).1 (badT_no (hV.out d hd)).1; omega) (bblk hV' (blklt k0) k0) (bblk hV' (blklt k1) k1))
  clear e2
  have HTY0 : Hid (∀ W, Calls Tryz.prog 115 #[.agg #[.int .i64 tn, .int .u32 te], .int .i64 s] W fun e0 w' => e0 = .returned (.int .i64 0) ∧ Below W.heap.size W w') := Lib.hid (by rw [← h2]; exact HTY.out)
  cases h3 : anyT (outT tn te s) T
  rotate_left
  · have hr : Hid (sfC tn te s T = 2) := Lib.hid (by unfold sfC; rw [h1, if_pos h2, h3]; rfl)
    have H3 := Lib.hid h3
    clear h1 h2 h3
    go_enter Tryz.func50, Tryz.ntmps50
    go_wp2_with (first | (go_at_call 111; refine Calls.mono (HBAD.out _ belA) ?_; rw [H1.out]; rintro e w1 ⟨rfl, hb⟩; obtain ⟨X, m, rfl⟩ := plsOf hb; clear hb) | (go_at_call 115; refine Calls.mono (HTY0.out _) ?_; rintro e w1 ⟨rfl, hb⟩; obtain ⟨X2, m2, rfl⟩ := plsOf hb; clear hb) | (go_at_call 111; refine Calls.mono (HOUT.out _ belA blkA blkA) ?_; rw [H3.out]; rintro e w1 ⟨rfl, hb⟩; obtain ⟨X, m, rfl⟩ := plsOf hb; clear hb))
    refine bodyPost_ret (v := .tuple #[.agg #[.int .i64 0, .int .u32 0, .int .i64 0, .slice none 0 0], .int .i64 2]) (by simp [results, Tryz.results50, go_sem, *]) rfl ?_
    rw [hr.out]
    exact sumRet_no rfl rfl rfl belA rfl
  have hr : Hid (sfC tn te s T = tdC (fI (lsT T)).1 (fI (lsT T)).2) := Lib.hid (by unfold sfC; rw [h1, if_pos h2, h3]; rfl)
  have H3 := Lib.hid h3
  have HFR := Lib.hid (lsT_frame h1 h3)
  obtain ⟨N, hN⟩ : ∃ N, Hid (T.length = N) := ⟨_, Lib.hid rfl⟩
  rw [hN.out] at hl HT HBAD HOUT ⊢
  clear h1 h2 h3
  rw [hr.out]
  go_enter Tryz.func50, Tryz.ntmps50
  go_wp2_with fail
  refine Calls.mono (HBAD.out _ belA) ?_
  rw [H1.out]
  rintro e0 w1 ⟨rfl, hb⟩
  have k0 : w1.heap[w.heap.size]? = some (.cells #[.int .i64 tn, .int .u32 te] 31 (0, 0)) := bblk hb (by simp <;> omega) blkA
  have k1 : w1.heap[w.heap.size + 1]? = some (.cells #[.int .i64 s] 2 (0, 0)) := bblk hb (by simp <;> omega) blkA
  have k2 : w1.heap[w.heap.size + 1 + 1]? = some (.cells #[.int .i64 0, .int .u32 0, .int .i64 0, .slice none 0 0] 34 (0, 0)) := bblk hb (by simp <;> omega) blkA
  have HB1 := Lib.hid (show Below w.heap.size w w1 from Below.trans belA (hb.mono (by simp <;> omega)))
  obtain ⟨t0, t1⟩ := blkc2 k0
  have z0 := blkc1 k1
  have yt := blklt k0
  have yz := blklt k1
  have K0 := Lib.hid k0
  have K1 := Lib.hid k1
  have K2 := Lib.hid k2
  clear hb k0 k1 k2
  go_wp2_with fail
  refine Calls.mono (HTY0.out _) ?_
  rintro e0 w2 ⟨rfl, hb⟩
  have k0 := bblk hb (blklt K0.out) K0.out
  have k1 := bblk hb (blklt K1.out) K1.out
  have k2 := bblk hb (blklt K2.out) K2.out
  have HB2 := Lib.hid (show Below w.heap.size w w2 from HB1.out.trans (hb.mono HB1.out.size))
  have K0 := Lib.hid k0
  have K1 := Lib.hid k1
  have K2 := Lib.hid k2
  clear hb k0 k1 k2 t0 t1 z0 yt yz HB1
  go_wp2_with fail
  refine Calls.mono (HOUT.out _ HB2.out K0.out K1.out) ?_
  rw [H3.out]
  rintro e0 w3 ⟨rfl, hb⟩
  have k0 := bblk hb (blklt K0.out) K0.out
  have k1 := bblk hb (blklt K1.out) K1.out
  have k2 := bblk hb (blklt K2.out) K2.out
  have HB3 := Lib.hid (show Below w.heap.size w w3 from HB2.out.trans (hb.mono HB2.out.size))
  obtain ⟨t0, t1⟩ := blkc2 k0
  have z0 := blkc1 k1
  have yt := blklt k0
  have yz := blklt k1
  have y2 := blklt k2
  have K2 := Lib.hid k2
  clear hb k0 k1 k2 K0 K1 HB2
  go_wp2_with fail
  have hbs : w.heap.size + 1 + 1 < w3.heap.size := y2
  go_loopw [32] (fun i wr => ∃ (k : Nat), k ≤ N ∧ i = .int .i64 k ∧ Hid (Smg w3.heap.size wr w3.heap.size (fI ((lsT T).take k)).1 tn te s (fI ((lsT T).take k)).2) ∧ wr.heap[w.heap.size + 1 + 1]? = some (.cells #[.int .i64 0, .int .u32 0, .int .i64 0, .slice none 0 0] 34 (0, 0)) ∧ Below w3.heap.size w3 wr) (fun i _ => N - (intOf i).toNat)
  case atStart =>
    exact ⟨0, Nat.zero_le _, rfl, Lib.hid ⟨Nat.le_refl _, .slice none 0 0, blknew _ _, TmA.nil⟩, blkal K2.out _, (Below.refl _ _).alloc (Nat.le_refl _) _⟩
  case round =>
    obtain ⟨k, hk, rfl, hSm, b2, hB⟩ := hrel
    obtain ⟨W0, rfl⟩ : ∃ x, x = wr := ⟨_, rfl⟩
    have hzB := hB.size
    have B2 := Lib.hid b2
    have HBW : Hid (Below w.heap.size w W0) := Lib.hid (HB3.out.trans (hB.mono HB3.out.size))
    by_cases hlt : k < N
    · have hk8 : (k : Int) < (N : Int) := by omega
      obtain ⟨_, _, hv, _, _, _, hel⟩ := lstTerm HT.out
      rw [hN.out] at hel
      injection hv with e1 e2 e3
      obtain ⟨bl, off, e4, hel⟩ := hel (by omega)
      rw [← e1] at e4
      subst e4
      obtain ⟨d, hd, hok, x0, x1, x2, x3, x4⟩ := hel k (by omega)
      have zb := World.block_lt_of_cell? _ _ x0
      simp only at zb
      have hBW := HBW.out
      replace x0 := bkeep hBW x0
      replace x1 := bkeep hBW x1
      replace x2 := bkeep hBW x2
      replace x3 := bkeep hBW x3
      replace x4 := bkeep hBW x4
      have hm := List.mem_of_getElem? hd
      have hV1 := badT_no (hV.out d hm)
      have hls := lsT_at hd
      have HST := Lib.hid (fI_StI ((lsT T).take k) (fun x hx => HFR.out x (List.mem_of_mem_take hx)))
      have hln := fI_len ((lsT T).take k)
      rw [List.length_take, lsT_len, hN.out] at hln
      have HADD := smAdd_any (W0.alloc (.cells #[.int .i64 d.1.1, .int .i64 d.1.2.1, .int .u32 d.1.2.2, .int .i64 d.2.1, .int .i64 d.2.2] 84)) w3.heap.size w3.heap.size (fI ((lsT T).take k)).1 tn te s (fI ((lsT T).take k)).2 d.1 d.2 (hSm.out.below (bal (Below.refl _ _) _)) HST.out.1 (fun x hx => (HST.out.2.1 x hx).2.2) hok.1 hV1.1 hV1.2 (by omega)
      have hstep : adI ((fI ((lsT T).take k)).1, (fI ((lsT T).take k)).2) (d.1.1, (d.1.2.1, leastF d.1)) d.2 = fI ((lsT T).take (k + 1)) := (fI_take hls).symm
      rw [hstep] at HADD
      have HADD := Lib.hid HADD
      have zW : bl < W0.heap.size := by have := hBW.size; omega
      clear hel hd hok e1 e2 e3 hm hV1 hls hln hstep b2 hBW
      go_wp2_with fail
      refine Calls.mono HADD.out ?_
      rintro e0 w4 ⟨rfl, hS4, hb4⟩
      have K24 := Lib.hid (bblk hb4 hbs (blkal B2.out _))
      have HB4 := Lib.hid ((hB.alloc hzB _).trans hb4)
      have HS4 := Lib.hid hS4
      clear hS4 hb4
      go_wp2_with fail
      go_roundw
      case rel => exact ⟨k + 1, by omega, by go_num, HS4, K24.out, HB4.out⟩
      case measure => simp [intOf]; omega
    · have e : k = N := by omega
      subst e
      have htk : Hid ((lsT T).take k = lsT T) := Lib.hid (List.take_of_length_le (by rw [lsT_len, hN.out]; exact Nat.le_refl _))
      rw [htk.out] at hSm
      obtain ⟨XI, hXI⟩ : ∃ XI, Hid (fI (lsT T) = XI) := ⟨_, Lib.hid rfl⟩
      have hll : Hid (XI.2.length ≤ 1048576) := Lib.hid (by rw [← hXI.out]; have := fI_len (lsT T); rw [lsT_len, hN.out] at this; omega)
      rw [hXI.out] at hSm ⊢
      obtain ⟨_, o, b0, hTm⟩ := hSm.out
      have HTOLD := Lib.hid (smTold_any W0 w3.heap.size XI.1 tn te s XI.2 o b0 hTm.lst hll.out)
      obtain ⟨⟨r0, r1, r2, r3⟩, f0, f1, f2, f3⟩ := blk4 b2
      have z2 := blklt b2
      clear b0 hTm b2 hSm
      go_wp2_with fail
      refine Calls.mono HTOLD.out ?_
      rintro e0 w5 ⟨A5, cap5, F5, rfl, hO5, hb5⟩
      have kr := bblk hb5 z2 B2.out
      have hbb : Below w.heap.size w w5 := HBW.out.trans (hb5.mono HBW.out.size)
      obtain ⟨C, hC⟩ : ∃ C, Hid (tdC XI.1 XI.2 = C) := ⟨_, Lib.hid rfl⟩
      rw [hC.out] at hO5 ⊢
      obtain ⟨XL, hXL, NX, hNX⟩ : ∃ XL : List Trm, Hid (tdL C (nzT XI.2) = XL) ∧ ∃ NX : Nat, Hid (XL.length = NX) := ⟨_, Lib.hid rfl, _, Lib.hid rfl⟩
      rw [hXL.out] at hO5 ⊢
      rw [hNX.out] at hO5 ⊢
      have HO5 := Lib.hid hO5
      have hzz5 : W0.heap.size ≤ w5.heap.size := hb5.size
      obtain ⟨⟨c50, c51, c52, c53⟩, f50, f51, f52, f53⟩ := blk4 kr
      have zz5 := blklt kr
      clear hO5 hb5 kr
      go_wp2_with fail
      refine bodyPost_ret (v := .tuple #[.agg #[.int .i64 (tdT C (tn, te)).1, .int .u32 (tdT C (tn, te)).2, .int .i64 (tdS C s), .slice A5 NX cap5], .int .i64 C]) (by simp [results, Tryz.results50, go_sem, *]) rfl ?_
      rw [hXI.out, hC.out, hXL.out]
      refine ⟨A5, cap5, F5, ?_, ?_, ?_⟩
      · rw [hNX.out]
      · rw [hNX.out]
        refine HO5.out.move (by omega) fun q h1 _ => ?_
        have hne : q ≠ w.heap.size + 1 + 1 := by omega
        exact (Below.heap_setCell _ ⟨w.heap.size + 1 + 1, 3, none⟩ _ q hne).trans ((Below.heap_setCell _ ⟨w.heap.size + 1 + 1, 2, none⟩ _ q hne).trans ((Below.heap_setCell _ ⟨w.heap.size + 1 + 1, 1, none⟩ _ q hne).trans (Below.heap_setCell _ ⟨w.heap.size + 1 + 1, 0, none⟩ _ q hne)))
      · exact belA
end Go.Proofs.YtpcjinbbgnmchaaGreat
