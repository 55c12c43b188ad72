/- Valid certificates: impl.ValidCertificate. -/
import Derived.Test.YtpcjinbbgnmchaaGreatVb
import Derived.Test.YtpcjinbbgnmchaaGreatSv
namespace Go.Proofs.YtpcjinbbgnmchaaGreat
open Go.ChangeShapes Go.WideShapes Go.RowKit
set_option linter.unusedVariables false
set_option linter.unusedSimpArgs false
attribute [local irreducible] Calls
/-- The room of a block; a block that fails or is too large. -/
def roomB (fs : List Flg) : Int := 2 * (hdF fs).2.1 - (hdF fs).1
def badBk (sz : Int) (b : Blk) : Bool := !blkOk b.1 b.2 || decide (sz < roomB b.1)
def anyBk (P : Blk → Bool) (bs : List Blk) : Bool := bs.any P
def ctOk (gs : List (Int × Int)) (tn te s : Int) (xs : List Trm) (p q : Int) (sz : Int) (bs : List Blk) : Bool :=
  stOk gs tn te s xs p q && inB sz s 5 && decide (bs.length ≤ 6) && !anyBk (badBk sz) bs
theorem blk_hd {fs : List Flg} {mt : List (List (Int × Int))} (h : blkOk fs mt = true) : 1 ≤ fs.length ∧ flV (hdF fs) = true := by
  unfold blkOk at h
  rw [Bool.and_eq_true, Bool.and_eq_true, decide_eq_true_eq] at h
  obtain ⟨h1, h2, _⟩ := (famC_0 fs).1 h.1.1
  refine ⟨h1.1, ?_⟩
  cases fs with
  | nil => simp at h1
  | cons d fs => exact flagsB_iff.1 h2 d (List.mem_cons_self ..)
theorem idxBlock_any (w : World) (xs : List Blk) (v : Value) (f : FuncId) (caps : Array Value) (P : Blk → Bool) (h : Lst shBlock w xs v) (hb : xs.length ≤ 1048576)
    (eg : ∀ args w, (callFunc f args).run Tryz.prog w = .ok (.enter f args) w)
    (hf : ∀ (W : World) (b : Blk) (va vb : Value), Below w.heap.size w W → b ∈ xs → Lst shFlag W b.1 va → Lst (shL shFr) W b.2 vb → Calls Tryz.prog f (#[.agg #[va, vb]] ++ caps) W fun e W' => e = .returned (.bool (P b)) ∧ Below W.heap.size W W') :
    Calls Tryz.prog 125 #[v, .func (.func f) #[] caps] w fun e w' => e = .returned (.int .i64 (idxI P xs)) ∧ Below w.heap.size w w' := by
  obtain ⟨A, cap, rfl, hc, hm, hel⟩ := lstBlock h
  clear h
  have H1 := Lib.hid hel
  have HF := Lib.hid hf
  clear hel hf
  go_enter Tryz.func125, Tryz.ntmps125
  go_wp2
  go_loopw [8] (fun i wr => ∃ (k : Nat), k ≤ xs.length ∧ i = .int .i64 k ∧ (∀ a ∈ xs.take k, P a = false) ∧ Below w.heap.size w wr) (fun i _ => xs.length - (intOf i).toNat)
  case atStart => exact ⟨0, Nat.zero_le _, rfl, by simp, belA⟩
  case round =>
    obtain ⟨k, hk, rfl, ht, hB⟩ := hrel
    have HT := Lib.hid ht
    clear ht
    by_cases hlt : k < xs.length
    · obtain ⟨bl, off, rfl, hel⟩ := H1.out (by omega)
      clear H1
      obtain ⟨d, va, vb, hd, hL, hM, c0, c1⟩ := hel k hlt
      obtain ⟨Aa, ca, rfl, _, _⟩ := formFlag hL
      obtain ⟨Ab, cb, rfl, _, _⟩ := formFrSS hM
      clear hel
      have hmem : Hid (d ∈ xs) := Lib.hid (List.mem_of_getElem? hd)
      have hd := Lib.hid hd
      have HL := Lib.hid (hL.below hB)
      have HM := Lib.hid (hM.below hB)
      replace c0 := bkeep hB c0
      replace c1 := bkeep hB c1
      clear hL hM
      go_wp2_with fail
      refine Calls.mono (HF.out wr d _ _ hB hmem.out HL.out HM.out) ?_
      rintro e w1 ⟨rfl, hb1⟩
      obtain ⟨X, m, rfl⟩ := plsOf hb1
      clear hb1
      cases hp : P d
      · go_wp2_with fail
        go_roundw
        case rel => exact ⟨k + 1, by omega, by go_num, mem_take_succ HT.out hd.out hp, belA⟩
        case measure => simp [intOf]; omega
      · go_wp2_with fail
        go_ret
        exact ⟨by rw [idxI_at HT.out hd.out hp]; rfl, belA⟩
    · have e : k = xs.length := by omega
      subst e
      go_wp2
      go_ret
      exact ⟨by rw [idxI_none (by have := HT.out; rwa [List.take_length] at this)]; rfl, belA⟩
theorem hasBlock_any (w : World) (xs : List Blk) (v : Value) (f : FuncId) (caps : Array Value) (P : Blk → Bool) (h : Lst shBlock w xs v) (hb : xs.length ≤ 1048576)
    (eg : ∀ args w, (callFunc f args).run Tryz.prog w = .ok (.enter f args) w)
    (hf : ∀ (W : World) (b : Blk) (va vb : Value), Below w.heap.size w W → b ∈ xs → Lst shFlag W b.1 va → Lst (shL shFr) W b.2 vb → Calls Tryz.prog f (#[.agg #[va, vb]] ++ caps) W fun e W' => e = .returned (.bool (P b)) ∧ Below W.heap.size W W') :
    Calls Tryz.prog 60 #[v, .func (.func f) #[] caps] w fun e w' => e = .returned (.bool (anyB P xs)) ∧ Below w.heap.size w w' := by
  obtain ⟨h1, h2, h3⟩ := idxI_any P xs
  have H1 := Lib.hid h1
  clear h1
  have HF := Lib.hid hf
  clear hf
  go_enter Tryz.func60, Tryz.ntmps60
  go_wp2_with (first | (go_at_call 125; refine Calls.mono (idxBlock_any _ xs v f caps P h hb eg HF.out) ?_; rintro e w1 ⟨rfl, hb⟩; obtain ⟨X, m, rfl⟩ := plsOf hb; clear hb))
  exact bodyPost_ret (v := .bool (decide (0 ≤ idxI P xs))) (by simp [results, Tryz.results60, go_sem]) rfl ⟨by rw [H1.out], belA⟩
theorem room_any (w : World) (fs : List Flg) (v u : Value) (h : Lst shFlag w fs v) (hn : 1 ≤ fs.length) (hv : flV (hdF fs) = true) (hu : ∃ A n c, u = .slice A n c) : Calls Tryz.prog 63 #[.agg #[v, u]] w fun e w' => e = .returned (.int .i64 (roomB fs)) ∧ Below w.heap.size w w' := by
  obtain ⟨A, cap, rfl, hc, hmx, hok, hel⟩ := lstFlag h
  obtain ⟨A2, n2, c2, rfl⟩ := hu
  obtain ⟨bl, off, rfl, hel2⟩ := hel (by omega)
  obtain ⟨d, hd, _, d0, d1, d2⟩ := hel2 0 hn
  have hde : hdF fs = d := by
    cases fs with
    | nil => cases hd
    | cons x fs => simp at hd; exact hd
  rw [hde] at hv
  have hr : Hid (roomB fs = 2 * d.2.1 - d.1) := Lib.hid (by unfold roomB; rw [hde])
  obtain ⟨j1, j2, j3⟩ := (flV_iff d).1 hv
  have zb := World.block_lt_of_cell? _ _ d0
  simp only [Nat.zero_mul, Nat.add_zero] at zb d0 d1
  have hn8 : (0 : Int) < (fs.length : Int) := by omega
  have hn9 : 0 < fs.length := hn
  have hw1 : IntKind.i64.wrap (2 * d.2.1) = 2 * d.2.1 := by rw [IntKind.wrap_i64]; omega
  have hw2 : IntKind.i64.wrap (2 * d.2.1 - d.1) = 2 * d.2.1 - d.1 := by rw [IntKind.wrap_i64]; omega
  clear h hel hel2 hd hde hv
  go_enter Tryz.func63, Tryz.ntmps63
  go_wp2_with fail
  (refine wp_region_held_drew (S := (fun w' => w'.cell? ⟨w.heap.size, 0, none⟩ = some (.slice (some ⟨bl, off, none⟩) fs.length cap) ∧ w'.cell? ⟨bl, off, none⟩ = some (.int .i64 d.1) ∧ w'.cell? ⟨bl, off + 1, none⟩ = some (.int .i64 d.2.1))) (by kernel_rfl) ?_ (fun hHeld => ?_); (focus (simp [*, go_sem])); refine rt 0 (some 3) (v := ?_) rfl rfl ?_ ?_; rotate_left; (focus (intro w' hSw; (try dsimp only at hSw); go_simp; (try with_reducible rfl))); (try simp only [Act.put, nA, nB, nC]); refine rt 1 (some 4) (v := ?_) rfl rfl ?_ ?_; rotate_left; (focus (intro w' hSw; (try dsimp only at hSw); go_simp; (try with_reducible rfl))); (try simp only [Act.put, nA, nB, nC]); refine rt 2 (some 5) (v := ?_) rfl rfl ?_ ?_; rotate_left; (focus (intro w' hSw; (try dsimp only at hSw); go_simp; (try with_reducible rfl))); (try simp only [Act.put, nA, nB, nC]); refine rt 3 (some 6) (v := ?_) rfl rfl ?_ ?_; rotate_left; (focus (intro w' hSw; (try dsimp only at hSw); go_simp; (try with_reducible rfl))); (try simp only [Act.put, nA, nB, nC]); refine rt 4 (some 7) (v := ?_) rfl rfl ?_ ?_; rotate_left; (focus (intro w' hSw; (try dsimp only at hSw); go_simp; (try with_reducible rfl))); (try simp only [Act.put, nA, nB, nC]); refine rt 5 (some 8) (v := ?_) rfl rfl ?_ ?_; rotate_left; (focus (intro w' hSw; (try dsimp only at hSw); go_simp; (try with_reducible rfl))); (try simp only [Act.put, nA, nB, nC]); refine rt 6 (some 9) (v := ?_) rfl rfl ?_ ?_; rotate_left; (focus (intro w' hSw; (try dsimp only at hSw); go_simp; (try with_reducible rfl))); (try simp only [Act.put, nA, nB, nC]); refine rt 7 (some 10) (v := ?_) rfl rfl ?_ ?_; rotate_left; (focus (intro w' hSw; (try dsimp only at hSw); go_simp; (try with_reducible rfl))); (try simp only [Act.put, nA, nB, nC]); refine rt 8 (some 11) (v := ?_) rfl rfl ?_ ?_; rotate_left; (focus (intro w' hSw; (try dsimp only at hSw); go_simp; (try with_reducible rfl))); (try simp only [Act.put, nA, nB, nC]); refine rt 9 (some 12) (v := ?_) rfl rfl ?_ ?_; rotate_left; (focus (intro w' hSw; (try dsimp only at hSw); go_simp; (try with_reducible rfl))); (try simp only [Act.put, nA, nB, nC]); refine rt 10 (some 13) (v := ?_) rfl rfl ?_ ?_; rotate_left; (focus (intro w' hSw; (try dsimp only at hSw); go_simp; (try with_reducible rfl))); (try simp only [Act.put, nA, nB, nC]); refine rt 11 (some 14) (v := ?_) rfl rfl ?_ ?_; rotate_left; (focus (intro w' hSw; (try dsimp only at hSw); go_simp; (try with_reducible rfl))); (try simp only [Act.put, nA, nB, nC]); refine rt 12 (some 15) (v := ?_) rfl rfl ?_ ?_; rotate_left; (focus (intro w' hSw; (try dsimp only at hSw); go_simp; (try with_reducible rfl))); (try simp only [Act.put, nA, nB, nC]); refine rt 13 (some 2) (v := ?_) rfl rfl ?_ ?_; rotate_left; (focus (intro w' hSw; (try dsimp only at hSw); go_simp; (try with_reducible rfl))); (try simp only [Act.put, nA, nB, nC]); refine wpAnyH_done (by kernel_rfl) ?_ _)
  clear hHeld
  go_wp2_with fail
  exact bodyPost_ret (v := .int .i64 (2 * d.2.1 - d.1)) (by simp [results, Tryz.results63, go_sem]) rfl ⟨by rw [hr.out], belA⟩
theorem badBlock_any (w : World) (fs : List Flg) (mt : List (List (Int × Int))) (v u : Value) (h : Lst shFlag w fs v) (hm : Lst (shL shFr) w mt u) (hl : fs.length ≤ 1048576) :
    Calls Tryz.prog 62 #[.agg #[v, u]] w fun e w' => e = .returned (.bool (!blkOk fs mt)) ∧ Below w.heap.size w w' := by
  obtain ⟨A, cap, rfl, hc, hmx, _, _⟩ := lstFlag h
  obtain ⟨A2, cap2, rfl, hc2, hmx2⟩ := formFrSS hm
  have H1 := Lib.hid h
  have H2 := Lib.hid hm
  clear h hm
  go_enter Tryz.func62, Tryz.ntmps62
  go_wp2_with (first | (go_at_call 126; refine Calls.mono (ValidBlock_any _ fs mt _ _ (H1.out.below belA) (H2.out.below belA) hl) ?_; rintro e w1 ⟨rfl, hb⟩; obtain ⟨X, m, rfl⟩ := plsOf hb; clear hb))
  exact bodyPost_ret (v := .bool (!blkOk fs mt)) (by simp [results, Tryz.results62, go_sem]) rfl ⟨rfl, belA⟩
set_option maxHeartbeats 1000000 in
theorem badOne_any (w : World) (fs : List Flg) (mt : List (List (Int × Int))) (v u : Value) (bc : Nat) (sz : Int) (x : Value) (h : Lst shFlag w fs v) (hm : Lst (shL shFr) w mt u) (hl : fs.length ≤ 1048576) (hc : w.heap[bc]? = some (.cells #[.int .i64 sz, x] 59 (0, 0))) :
    Calls Tryz.prog 61 #[.agg #[v, u], .pointer (some ⟨bc, 0, none⟩)] w fun e w' => e = .returned (.bool (badBk sz (fs, mt))) ∧ Below w.heap.size w w' := by
  obtain ⟨A, cap, rfl, _, _, _, _⟩ := lstFlag h
  obtain ⟨A2, cap2, rfl, _, _⟩ := formFrSS hm
  have H1 := Lib.hid h
  have H2 := Lib.hid hm
  have KC := Lib.hid hc
  obtain ⟨c0, c1⟩ := blkc2 hc
  have yc := blklt hc
  obtain ⟨nf, hnf⟩ : ∃ nf, Hid (fs.length = nf) := ⟨_, Lib.hid rfl⟩
  obtain ⟨nm, hnm⟩ : ∃ nm, Hid (mt.length = nm) := ⟨_, Lib.hid rfl⟩
  rw [hnf.out] at H1 ⊢
  rw [hnm.out] at H2 ⊢
  have HBB : Hid (∀ W, Below w.heap.size w W → Calls Tryz.prog 62 #[.agg #[.slice A nf cap, .slice A2 nm cap2]] W fun e w' => e = .returned (.bool (!blkOk fs mt)) ∧ Below W.heap.size W w') := Lib.hid fun W hW => badBlock_any W fs mt _ _ (H1.out.below hW) (H2.out.below hW) hl
  clear h hm hc
  cases hb : blkOk fs mt
  · have hr : Hid (badBk sz (fs, mt) = true) := Lib.hid (by unfold badBk; rw [hb]; rfl)
    have HB := Lib.hid hb
    rw [hb] at HBB
    clear hb
    go_enter Tryz.func61, Tryz.ntmps61
    go_wp2_with fail
    (refine wp_region_held_drew (S := (fun w' => w'.cell? ⟨w.heap.size, 0, none⟩ = some (.slice A nf cap) ∧ w'.cell? ⟨w.heap.size, 1, none⟩ = some (.slice A2 nm cap2))) (by kernel_rfl) ?_ (fun hHeld => ?_); (focus (first | exact hS | (simp [*, go_sem]; done) | fail)); refine rt 0 (some 4) (v := ?_) rfl rfl ?_ ?_; rotate_left; (focus (intro w' hSw; (try dsimp only at hSw); go_simp; (try with_reducible rfl))); (try simp only [Act.put, nA, nB, nC]); refine wpAnyH_ready (rs := [1]) (by kernel_rfl) (by simp) ?_; refine AllReadyH.cons rfl (fun K hK => ?_) AllReadyH.nil; go_simp; (go_at_call 62; refine Calls.mono (HBB.out _ belA) ?_; rintro e0 w1 ⟨rfl, hb⟩; have hS := And.intro (bkeep hb hHeld.1) (bkeep hb hHeld.2); have HB1 := Lib.hid (show Below w.heap.size w w1 from Below.trans belA (hb.mono (by first | omega | (simp <;> omega)))); clear hb); go_wp2_with fail; refine hK.out _ _ ?_ (fun hHeld => ?_); (focus (first | exact hS | (simp [*, go_sem]; done) | fail)); clear hK K; (try simp only [Act.put, nA, nB, nC]); refine rt 2 (some 6) (v := ?_) rfl rfl ?_ ?_; rotate_left; (focus (intro w' hSw; (try dsimp only at hSw); go_simp; (try with_reducible rfl))); (try simp only [Act.put, nA, nB, nC]); refine rg_take 3 (some 7) (v := undef) rfl (by kernel_rfl) (by kernel_rfl) (by kernel_rfl) (by kernel_rfl) (fun _ _ _ h => h) (Or.inr ⟨by kernel_rfl, rfl⟩) (by assumption) ?_; (try simp only [Act.put, nA, nB, nC]); refine rg_take 4 (some 8) (v := undef) rfl (by kernel_rfl) (by kernel_rfl) (by kernel_rfl) (by kernel_rfl) (fun _ _ _ h => h) (Or.inr ⟨by kernel_rfl, rfl⟩) (by assumption) ?_; (try simp only [Act.put, nA, nB, nC]); refine rg_take 5 (some 9) (v := undef) rfl (by kernel_rfl) (by kernel_rfl) (by kernel_rfl) (by kernel_rfl) (fun _ _ _ h => h) (Or.inr ⟨by kernel_rfl, rfl⟩) (by assumption) ?_; (try simp only [Act.put, nA, nB, nC]); refine rg_take 6 (some 10) (v := undef) rfl (by kernel_rfl) (by kernel_rfl) (by kernel_rfl) (by kernel_rfl) (fun _ _ _ h => h) (Or.inr ⟨by kernel_rfl, rfl⟩) (by assumption) ?_; (try simp only [Act.put, nA, nB, nC]); refine rg_take 7 (some 11) (v := undef) rfl (by kernel_rfl) (by kernel_rfl) (by kernel_rfl) (by kernel_rfl) (fun _ _ _ h => h) (Or.inr ⟨by kernel_rfl, rfl⟩) (by assumption) ?_; (try simp only [Act.put, nA, nB, nC]); refine rt 8 (some 12) (v := ?_) rfl rfl ?_ ?_; rotate_left; (focus (intro w' hSw; (try dsimp only at hSw); go_simp; (try with_reducible rfl))); (try simp only [Act.put, nA, nB, nC]); refine rt 9 (some 3) (v := ?_) rfl rfl ?_ ?_; rotate_left; (focus (intro w' hSw; (try dsimp only at hSw); go_simp; (try with_reducible rfl))); (try simp only [Act.put, nA, nB, nC]); refine wpAnyH_done (by kernel_rfl) ?_ _)
    clear hHeld
    have hb1 := HB1.out
    go_wp2_with fail
    exact bodyPost_ret (v := .bool true) (by simp [results, Tryz.results61, go_sem]) rfl ⟨by rw [hr.out], belA⟩
  · have hr : Hid (badBk sz (fs, mt) = decide (sz < roomB fs)) := Lib.hid (by unfold badBk; rw [hb]; rfl)
    have HRM : Hid (∀ W, Below w.heap.size w W → Calls Tryz.prog 63 #[.agg #[.slice A nf cap, .slice A2 nm cap2]] W fun e w' => e = .returned (.int .i64 (roomB fs)) ∧ Below W.heap.size W w') := Lib.hid fun W hW => room_any W fs _ _ (H1.out.below hW) (blk_hd hb).1 (blk_hd hb).2 ⟨_, _, _, rfl⟩
    rw [hb] at HBB
    clear hb
    go_enter Tryz.func61, Tryz.ntmps61
    go_wp2_with fail
    (refine wp_region_held_drew (S := (fun w' => w'.cell? ⟨w.heap.size, 0, none⟩ = some (.slice A nf cap) ∧ w'.cell? ⟨w.heap.size, 1, none⟩ = some (.slice A2 nm cap2) ∧ w'.cell? ⟨bc, 0, none⟩ = some (.int .i64 sz))) (by kernel_rfl) ?_ (fun hHeld => ?_); (focus (first | exact hS | (simp [*, go_sem]; done) | fail)); refine rt 0 (some 4) (v := ?_) rfl rfl ?_ ?_; rotate_left; (focus (intro w' hSw; (try dsimp only at hSw); go_simp; (try with_reducible rfl))); (try simp only [Act.put, nA, nB, nC]); refine wpAnyH_ready (rs := [1]) (by kernel_rfl) (by simp) ?_; refine AllReadyH.cons rfl (fun K hK => ?_) AllReadyH.nil; go_simp; (go_at_call 62; refine Calls.mono (HBB.out _ belA) ?_; rintro e0 w1 ⟨rfl, hb⟩; have hS := And.intro (bkeep hb hHeld.1) (And.intro (bkeep hb hHeld.2.1) (bkeep hb hHeld.2.2)); have HB1 := Lib.hid (show Below w.heap.size w w1 from Below.trans belA (hb.mono (by first | omega | (simp <;> omega)))); clear hb); go_wp2_with fail; refine hK.out _ _ ?_ (fun hHeld => ?_); (focus (first | exact hS | (simp [*, go_sem]; done) | fail)); clear hK K; (try simp only [Act.put, nA, nB, nC]); refine rt 2 (some 6) (v := ?_) rfl rfl ?_ ?_; rotate_left; (focus (intro w' hSw; (try dsimp only at hSw); go_simp; (try with_reducible rfl))); (try simp only [Act.put, nA, nB, nC]); refine rt 3 (some 7) (v := ?_) rfl rfl ?_ ?_; rotate_left; (focus (intro w' hSw; (try dsimp only at hSw); go_simp; (try with_reducible rfl))); (try simp only [Act.put, nA, nB, nC]); refine rt 5 (some 9) (v := ?_) rfl rfl ?_ ?_; rotate_left; (focus (intro w' hSw; (try dsimp only at hSw); go_simp; (try with_reducible rfl))); (try simp only [Act.put, nA, nB, nC]); refine rt 6 (some 10) (v := ?_) rfl rfl ?_ ?_; rotate_left; (focus (intro w' hSw; (try dsimp only at hSw); go_simp; (try with_reducible rfl))); (try simp only [Act.put, nA, nB, nC]); refine wpAnyH_ready (rs := [4]) (by kernel_rfl) (by simp) ?_; refine AllReadyH.cons rfl (fun K hK => ?_) AllReadyH.nil; go_simp; (go_at_call 63; refine Calls.mono (HRM.out _ HB1.out) ?_; rintro e0 w2 ⟨rfl, hb⟩; have hS := And.intro (bkeep hb hHeld.1) (And.intro (bkeep hb hHeld.2.1) (bkeep hb hHeld.2.2)); have HB2 := Lib.hid (HB1.out.trans (hb.mono HB1.out.size)); clear hb); go_wp2_with fail; refine hK.out _ _ ?_ (fun hHeld => ?_); (focus (first | exact hS | (simp [*, go_sem]; done) | fail)); clear hK K; (try simp only [Act.put, nA, nB, nC]); refine rt 7 (some 11) (v := ?_) rfl rfl ?_ ?_; rotate_left; (focus (intro w' hSw; (try dsimp only at hSw); go_simp; (try with_reducible rfl))); (try simp only [Act.put, nA, nB, nC]); refine rt 8 (some 12) (v := ?_) rfl rfl ?_ ?_; rotate_left; (focus (intro w' hSw; (try dsimp only at hSw); go_simp; (try with_reducible rfl))); (try simp only [Act.put, nA, nB, nC]); refine rt 9 (some 3) (v := ?_) rfl rfl ?_ ?_; rotate_left; (focus (intro w' hSw; (try dsimp only at hSw); go_simp; (try with_reducible rfl))); (try simp only [Act.put, nA, nB, nC]); refine wpAnyH_done (by kernel_rfl) ?_ _)
    clear hHeld
    have hb2 := HB2.out
    go_wp2_with fail
    exact bodyPost_ret (v := .bool (decide (sz < roomB fs))) (by simp [results, Tryz.results61, go_sem]) rfl ⟨by rw [hr.out], belA⟩
set_option maxHeartbeats 4000000 in
theorem ValidCertificate_any (w : World) (gs : List (Int × Int)) (tn te s : Int) (xs : List Trm) (p q : Int) (sz : Int) (bs : List Blk) (v u x : Value) (h : Lst shGr w gs v) (hx : Lst shTerm w xs u) (hb : Lst shBlock w bs x) (he : 0 ≤ te ∧ te ≤ 4294967295) (hp : okI .i64 p) (hq : okI .i64 q) (hl : gs.length ≤ 1048576) (hbl : bs.length ≤ 1048576) (hbs : ∀ b ∈ bs, b.1.length ≤ 1048576) :
    Calls Tryz.prog 24 #[.agg #[v, .int .i64 tn, .int .u32 te, .int .i64 s, u, .int .i64 p, .int .i64 q], .agg #[.int .i64 sz, x]] w fun e w' => e = .returned (.bool (ctOk gs tn te s xs p q sz bs)) ∧ Below w.heap.size w w' := by
  obtain ⟨A, cap, rfl, _, _⟩ := formGraph h
  obtain ⟨A2, cap2, rfl, _, _⟩ := formTerm hx
  obtain ⟨A3, cap3, rfl, _, _⟩ := formBlock hb
  have HV : Hid (∀ W, Below w.heap.size w W → Calls Tryz.prog 58 #[.agg #[.slice A gs.length cap, .int .i64 tn, .int .u32 te, .int .i64 s, .slice A2 xs.length cap2, .int .i64 p, .int .i64 q]] W fun e w' => e = .returned (.bool (stOk gs tn te s xs p q)) ∧ Below W.heap.size W w') := Lib.hid fun W hW => ValidStatement_any W gs tn te s xs p q _ _ (h.below hW) (hx.below hW) he hp hq hl
  have e1 : ∀ args w, (callFunc 61 args).run Tryz.prog w = .ok (.enter 61 args) w := fun args w => enters_of Tryz.func61 (by kernel_rfl) rfl args w
  have HC : Hid (∀ W, Below w.heap.size w W → W.heap[w.heap.size + 1]? = some (.cells #[.int .i64 sz, .slice A3 bs.length cap3] 59 (0, 0)) → Calls Tryz.prog 60 #[.slice A3 bs.length cap3, .func (.func 61) #[] #[.pointer (some ⟨w.heap.size + 1, 0, none⟩)]] W fun e W' => e = .returned (.bool (anyBk (badBk sz) bs)) ∧ Below W.heap.size W W') := Lib.hid fun W hW k0 => hasBlock_any W bs _ 61 #[.pointer (some ⟨w.heap.size + 1, 0, none⟩)] (badBk sz) (hb.below hW) hbl e1 (fun V b va vb hV hm hL hM => badOne_any V b.1 b.2 va vb _ sz _ hL hM (hbs b hm) (bblk hV (blklt k0) k0))
  clear h hx hb e1 hbs hp hq he
  cases g1 : stOk gs tn te s xs p q
  · have hr : Hid (ctOk gs tn te s xs p q sz bs = false) := Lib.hid (by simp [ctOk, g1])
    have G1 := Lib.hid g1
    clear g1
    go_enter Tryz.func24, Tryz.ntmps24
    go_wp2_with (first | (go_at_call 58; refine Calls.mono (HV.out _ belA) ?_; rw [G1.out]; rintro e w1 ⟨rfl, hb⟩; obtain ⟨X, m, rfl⟩ := plsOf hb; clear hb))
    exact bodyPost_ret (v := .bool false) (by simp [results, Tryz.results24, go_sem]) rfl ⟨by rw [hr.out], belA⟩
  have G1 := Lib.hid g1
  clear g1
  cases g2 : inB sz s 5
  · have hr : Hid (ctOk gs tn te s xs p q sz bs = false) := Lib.hid (by simp [ctOk, g2])
    have G2 := Lib.hid g2
    clear g2
    go_enter Tryz.func24, Tryz.ntmps24
    go_wp2_with (first | (go_at_call 58; refine Calls.mono (HV.out _ belA) ?_; rw [G1.out]; rintro e w1 ⟨rfl, hb⟩; obtain ⟨X, m, rfl⟩ := plsOf hb; clear hb) | (go_at_call 59; refine Calls.mono ((G2.out ▸ in_any sz s 5 _)) ?_; rintro e w1 ⟨rfl, rfl⟩))
    exact bodyPost_ret (v := .bool false) (by simp [results, Tryz.results24, go_sem]) rfl ⟨by rw [hr.out], belA⟩
  have G2 := Lib.hid g2
  clear g2
  by_cases g3 : bs.length ≤ 6
  · have hr : Hid (ctOk gs tn te s xs p q sz bs = !anyBk (badBk sz) bs) := Lib.hid (by simp [ctOk, G1.out, G2.out, g3])
    have h6 : ¬ (6 : Int) < (bs.length : Int) := by omega
    have h7 : ¬ 6 < bs.length := by omega
    go_enter Tryz.func24, Tryz.ntmps24
    go_wp2_with (first | (go_at_call 58; refine Calls.mono (HV.out _ belA) ?_; rw [G1.out]; rintro e w1 ⟨rfl, hb⟩; obtain ⟨X, m, rfl⟩ := plsOf hb; clear hb) | (go_at_call 59; refine Calls.mono ((G2.out ▸ in_any sz s 5 _)) ?_; rintro e w1 ⟨rfl, rfl⟩) | (go_at_call 60; refine Calls.mono (HC.out _ belA blkA) ?_; rintro e w1 ⟨rfl, hb⟩; obtain ⟨X2, m2, rfl⟩ := plsOf hb; clear hb))
    exact bodyPost_ret (v := .bool (!anyBk (badBk sz) bs)) (by simp [results, Tryz.results24, go_sem]) rfl ⟨by rw [hr.out], belA⟩
  · have hr : Hid (ctOk gs tn te s xs p q sz bs = false) := Lib.hid (by simp [ctOk, g3])
    have h6 : (6 : Int) < (bs.length : Int) := by omega
    have h7 : 6 < bs.length := by omega
    go_enter Tryz.func24, Tryz.ntmps24
    go_wp2_with (first | (go_at_call 58; refine Calls.mono (HV.out _ belA) ?_; rw [G1.out]; rintro e w1 ⟨rfl, hb⟩; obtain ⟨X, m, rfl⟩ := plsOf hb; clear hb) | (go_at_call 59; refine Calls.mono ((G2.out ▸ in_any sz s 5 _)) ?_; rintro e w1 ⟨rfl, rfl⟩))
    exact bodyPost_ret (v := .bool false) (by simp [results, Tryz.results24, go_sem]) rfl ⟨by rw [hr.out], belA⟩
end Go.Proofs.YtpcjinbbgnmchaaGreat
