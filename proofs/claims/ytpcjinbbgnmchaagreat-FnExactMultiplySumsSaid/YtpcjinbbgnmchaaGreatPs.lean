/- Parts and free graphs, spec: l01Part, l01Free. -/
import Derived.Test.YtpcjinbbgnmchaaGreatPp
import Derived.Test.YtpcjinbbgnmchaaGreatGl
import Derived.Test.YtpcjinbbgnmchaaGreatGo
import Derived.Test.YtpcjinbbgnmchaaGreatSl
namespace Go.Proofs.YtpcjinbbgnmchaaGreat
open Go.ChangeShapes Go.WideShapes Go.RowKit
set_option linter.unusedVariables false
set_option linter.unusedSimpArgs false
attribute [local irreducible] Calls
theorem partB_and (gn hm : Nat) {ge he : Int} (hh : okI .u32 he) : partB gn ge hm he = (arrs gn hm).any fun L => bits .and .u32 he (onE ge L) == he := by
  unfold partB
  congr 1
  funext L
  exact andNot_and hh (onE_ok _ _)
set_option maxHeartbeats 4000000 in
theorem l01Part_any (w : World) (gn hm : Nat) (ge he : Int) (hg : okI .u32 ge) (hh : okI .u32 he) (hn : gn ≤ 5) (hm5 : hm ≤ 5) :
    Calls Tryz.prog 228 #[.agg #[.int .i64 gn, .int .u32 ge], .agg #[.int .i64 hm, .int .u32 he]] w fun e0 w' => e0 = .returned (.bool (partB gn ge hm he)) ∧ Below w.heap.size w w' := by
  by_cases hlt : gn < hm
  · have hr : Hid (partB gn ge hm he = false) := Lib.hid (by unfold partB; rw [arrs_none hn hm5 hlt]; rfl)
    have hlt' : (gn : Int) < (hm : Int) := by omega
    go_enter Tryz.func228, Tryz.ntmps228
    go_wp2_with fail
    exact bodyPost_ret (v := .bool false) (by simp [results, Tryz.results228, go_sem]) rfl ⟨by rw [hr.out], belA⟩
  have hle : hm ≤ gn := by omega
  have hlt' : (hm : Int) ≤ (gn : Int) := by omega
  obtain ⟨ha1, ha2, ha3⟩ := arrs_all hn hle
  have hpt : Hid (partB gn ge hm he = (ordsN gn 130 (seqI hm)).any fun L => bits .and .u32 he (onE ge L) == he) := Lib.hid (by rw [partB_and gn hm hh, ha1])
  have HR := Lib.hid ha2
  clear ha1 ha2 ha3 hg hh hlt
  go_enter Tryz.func228, Tryz.ntmps228
  go_wp2_with fail
  refine Calls.mono (l01First_any _ hm (by omega)) ?_
  rintro e0 w1 ⟨v7, rfl, hA7, hb⟩
  obtain ⟨A, cap, rfl⟩ := hA7.form
  obtain ⟨F, hO7⟩ := hA7.own
  obtain ⟨X7, m7, rfl⟩ := plsOf hb
  clear hb hA7
  rw [seqI_len] at hO7 ⊢
  (try simp only [pls_pls, drew_pls, drewN_pls, pls_drew, pls_drewN] at hO7)
  have hO7 := Lib.hid hO7
  go_wp2_with fail
  go_loopg [6] 130 (fun f x wr => ∃ (more : Bool) (o : List Int), x = .bool more ∧ wr.heap[w.heap.size]? = some (.cells #[.int .i64 gn, .int .u32 ge] 31 (0, 0)) ∧ wr.heap[w.heap.size + 1]? = some (.cells #[.int .i64 hm, .int .u32 he] 31 (0, 0)) ∧ Hid (Own (shI .i64) (w.heap.size + 2) wr o (.slice A hm cap) F) ∧ Hid (more = true → runN gn hm f o = true ∧ ((ordsN gn f o).any fun L => bits .and .u32 he (onE ge L) == he) = partB gn ge hm he) ∧ Hid (more = false → partB gn ge hm he = false) ∧ Below w.heap.size w wr)
  case atStart => exact ⟨true, seqI hm, rfl, blkA, blkA, Lib.hid (by simpa using hO7.out), Lib.hid (fun _ => ⟨HR.out, hpt.out.symm⟩), Lib.hid (fun h => absurd h (by simp)), belA⟩
  case round =>
    clear hO7
    obtain ⟨more, o, rfl, bg, bh, hO, hT, hF, hB⟩ := hrel
    obtain ⟨s0, s1, _, _⟩ := blk2 bg
    obtain ⟨s2, s3, _, _⟩ := blk2 bh
    have z0 := blklt bg
    have z1 := blklt bh
    cases more
    · have hr := Lib.hid (hF.out rfl)
      go_wp2_with fail
      exact bodyPost_ret (v := .bool false) (by simp [results, Tryz.results228, go_sem]) rfl ⟨by rw [hr.out], belA⟩
    · obtain ⟨hT1, hT2⟩ := hT.out rfl
      cases gk with
      | zero => simp [runN] at hT1
      | succ f =>
        simp only [runN, Bool.and_eq_true, decide_eq_true_eq] at hT1
        obtain ⟨⟨⟨⟨hl, hvs⟩, hch⟩, hvl⟩, hnx⟩ := hT1
        clear hT hF
        have HVS := Lib.hid hvs
        have HCH := Lib.hid hch
        have HVL := Lib.hid (VL.of hvl)
        have HL := Lib.hid hl
        have HNX := Lib.hid hnx
        have HT2 := Lib.hid hT2
        have hFge : Hid (∀ b ∈ F, w.heap.size + 2 ≤ b) := Lib.hid hO.out.ge
        have BG := Lib.hid bg
        have BH := Lib.hid bh
        have hzz := hB.size
        have hstep : Hid (ordsN gn (f + 1) o = o :: (if (nxI gn o o.length).isSome then ordsN gn f (nextL gn o) else [])) := Lib.hid rfl
        clear hvs hch hvl hl hnx hT2 bg bh
        cases hx : (bits .and .u32 he (onE ge o) == he)
        · have HX := Lib.hid hx
          go_wp2_with fail
          (refine wp_region_held_drew (S := (fun w' => w'.cell? ⟨w.heap.size, 0, none⟩ = some (.int .i64 gn) ∧ w'.cell? ⟨w.heap.size, 1, none⟩ = some (.int .u32 ge) ∧ w'.cell? ⟨w.heap.size + 1, 0, none⟩ = some (.int .i64 hm) ∧ w'.cell? ⟨w.heap.size + 1, 1, none⟩ = some (.int .u32 he))) (by kernel_rfl) ?_ (fun hHeld => ?_); (focus (simp [*, go_sem])); refine rt 0 (some 20) (v := ?_) rfl rfl ?_ ?_; rotate_left; (focus (intro w' hSw; (try dsimp only at hSw); go_simp; (try with_reducible rfl))); (try simp only [Act.put, nA, nB, nC]); refine rt 1 (some 21) (v := ?_) rfl rfl ?_ ?_; rotate_left; (focus (intro w' hSw; (try dsimp only at hSw); go_simp; (try with_reducible rfl))); (try simp only [Act.put, nA, nB, nC]); refine rt 2 (some 22) (v := ?_) rfl rfl ?_ ?_; rotate_left; (focus (intro w' hSw; (try dsimp only at hSw); go_simp; (try with_reducible rfl))); (try simp only [Act.put, nA, nB, nC]); refine rt 3 (some 23) (v := ?_) rfl rfl ?_ ?_; rotate_left; (focus (intro w' hSw; (try dsimp only at hSw); go_simp; (try with_reducible rfl))); (try simp only [Act.put, nA, nB, nC]); refine rt 7 (some 27) (v := ?_) rfl rfl ?_ ?_; rotate_left; (focus (intro w' hSw; (try dsimp only at hSw); go_simp; (try with_reducible rfl))); (try simp only [Act.put, nA, nB, nC]); refine rt 8 (some 28) (v := ?_) rfl rfl ?_ ?_; rotate_left; (focus (intro w' hSw; (try dsimp only at hSw); go_simp; (try with_reducible rfl))); (try simp only [Act.put, nA, nB, nC]); refine wpAnyH_ready (rs := [4]) (by kernel_rfl) (by simp) ?_; refine AllReadyH.cons rfl (fun K hK => ?_) AllReadyH.nil; go_simp; (go_at_call 141; refine Calls.mono (l01On_any' _ gn ge hm o _ (hO.out.lst.below belA) HVL.out HL.out) ?_; rintro e w1 ⟨rfl, hb⟩; obtain ⟨X, m, rfl⟩ := plsOf hb; clear hb); go_wp2_with fail; refine hK.out _ _ ?_ (fun hHeld => ?_); (focus (simp [*, go_sem])); clear hK K; (try simp only [Act.put, nA, nB, nC]); refine rt 5 (some 25) (v := ?_) rfl rfl ?_ ?_; rotate_left; (focus (intro w' hSw; (try dsimp only at hSw); go_simp; (try with_reducible rfl))); (try simp only [Act.put, nA, nB, nC]); refine rt 6 (some 26) (v := ?_) rfl rfl ?_ ?_; rotate_left; (focus (intro w' hSw; (try dsimp only at hSw); go_simp; (try with_reducible rfl))); (try simp only [Act.put, nA, nB, nC]); refine rt 9 (some 29) (v := ?_) rfl rfl ?_ ?_; rotate_left; (focus (intro w' hSw; (try dsimp only at hSw); go_simp; (try with_reducible rfl))); (try simp only [Act.put, nA, nB, nC]); refine wpAnyH_done (by kernel_rfl) ?_ _)
          clear hHeld
          go_wp2_with fail
          refine Calls.mono (l01Next_any' _ (w.heap.size + 2) gn hm o _ _ F HL.out (hO.out.below (Nat.le_refl _) belA) hm5 hn HVS.out HCH.out) ?_
          rintro e1 w3 ⟨rfl, hO3, hCh⟩
          have bg := BG.out
          have bh := BH.out
          have kg : w3.heap[w.heap.size]? = some (.cells #[.int .i64 gn, .int .u32 ge] 31 (0, 0)) := (hCh.2.2.2.2 _ (by simp <;> omega) (fun h => by have := hFge.out _ h; omega)).trans (blkA)
          have kh : w3.heap[w.heap.size + 1]? = some (.cells #[.int .i64 hm, .int .u32 he] 31 (0, 0)) := (hCh.2.2.2.2 _ (by simp <;> omega) (fun h => by have := hFge.out _ h; omega)).trans (blkA)
          have kB : Below w.heap.size w w3 := Below.trans (belA) (hCh.below (fun b hb => by have := hFge.out b hb; omega) (by simp <;> omega))
          clear bg bh
          have KG := Lib.hid kg
          have KH := Lib.hid kh
          have KB := Lib.hid kB
          have hO3 := Lib.hid hO3
          clear kg kh kB hCh hx
          cases hsm : (nxI gn o o.length).isSome
          · have hTot : Hid (partB gn ge hm he = false) := Lib.hid (by rw [← HT2.out, hstep.out, hsm]; simp [HX.out])
            go_wp2_with fail
            go_roundg f
            case measure => omega
            case rel => exact ⟨false, nextL gn o, rfl, KG.out, KH.out, hO3, Lib.hid (fun h => absurd h (by simp)), Lib.hid (fun _ => hTot.out), KB.out⟩
          · have hTot : Hid (((ordsN gn f (nextL gn o)).any fun L => bits .and .u32 he (onE ge L) == he) = partB gn ge hm he) := Lib.hid (by rw [← HT2.out, hstep.out, hsm]; simp [HX.out])
            have hOk : Hid (runN gn hm f (nextL gn o) = true) := Lib.hid (by have := HNX.out; rw [hsm] at this; exact this)
            go_wp2_with fail
            go_roundg f
            case measure => omega
            case rel => exact ⟨true, nextL gn o, rfl, KG.out, KH.out, hO3, Lib.hid (fun _ => ⟨hOk.out, hTot.out⟩), Lib.hid (fun h => absurd h (by simp)), KB.out⟩
        · have hr : Hid (partB gn ge hm he = true) := Lib.hid (by rw [← HT2.out, hstep.out]; simp [hx])
          go_wp2_with fail
          (refine wp_region_held_drew (S := (fun w' => w'.cell? ⟨w.heap.size, 0, none⟩ = some (.int .i64 gn) ∧ w'.cell? ⟨w.heap.size, 1, none⟩ = some (.int .u32 ge) ∧ w'.cell? ⟨w.heap.size + 1, 0, none⟩ = some (.int .i64 hm) ∧ w'.cell? ⟨w.heap.size + 1, 1, none⟩ = some (.int .u32 he))) (by kernel_rfl) ?_ (fun hHeld => ?_); (focus (simp [*, go_sem])); refine rt 0 (some 20) (v := ?_) rfl rfl ?_ ?_; rotate_left; (focus (intro w' hSw; (try dsimp only at hSw); go_simp; (try with_reducible rfl))); (try simp only [Act.put, nA, nB, nC]); refine rt 1 (some 21) (v := ?_) rfl rfl ?_ ?_; rotate_left; (focus (intro w' hSw; (try dsimp only at hSw); go_simp; (try with_reducible rfl))); (try simp only [Act.put, nA, nB, nC]); refine rt 2 (some 22) (v := ?_) rfl rfl ?_ ?_; rotate_left; (focus (intro w' hSw; (try dsimp only at hSw); go_simp; (try with_reducible rfl))); (try simp only [Act.put, nA, nB, nC]); refine rt 3 (some 23) (v := ?_) rfl rfl ?_ ?_; rotate_left; (focus (intro w' hSw; (try dsimp only at hSw); go_simp; (try with_reducible rfl))); (try simp only [Act.put, nA, nB, nC]); refine rt 7 (some 27) (v := ?_) rfl rfl ?_ ?_; rotate_left; (focus (intro w' hSw; (try dsimp only at hSw); go_simp; (try with_reducible rfl))); (try simp only [Act.put, nA, nB, nC]); refine rt 8 (some 28) (v := ?_) rfl rfl ?_ ?_; rotate_left; (focus (intro w' hSw; (try dsimp only at hSw); go_simp; (try with_reducible rfl))); (try simp only [Act.put, nA, nB, nC]); refine wpAnyH_ready (rs := [4]) (by kernel_rfl) (by simp) ?_; refine AllReadyH.cons rfl (fun K hK => ?_) AllReadyH.nil; go_simp; (go_at_call 141; refine Calls.mono (l01On_any' _ gn ge hm o _ (hO.out.lst.below belA) HVL.out HL.out) ?_; rintro e w1 ⟨rfl, hb⟩; obtain ⟨X, m, rfl⟩ := plsOf hb; clear hb); go_wp2_with fail; refine hK.out _ _ ?_ (fun hHeld => ?_); (focus (simp [*, go_sem])); clear hK K; (try simp only [Act.put, nA, nB, nC]); refine rt 5 (some 25) (v := ?_) rfl rfl ?_ ?_; rotate_left; (focus (intro w' hSw; (try dsimp only at hSw); go_simp; (try with_reducible rfl))); (try simp only [Act.put, nA, nB, nC]); refine rt 6 (some 26) (v := ?_) rfl rfl ?_ ?_; rotate_left; (focus (intro w' hSw; (try dsimp only at hSw); go_simp; (try with_reducible rfl))); (try simp only [Act.put, nA, nB, nC]); refine rt 9 (some 29) (v := ?_) rfl rfl ?_ ?_; rotate_left; (focus (intro w' hSw; (try dsimp only at hSw); go_simp; (try with_reducible rfl))); (try simp only [Act.put, nA, nB, nC]); refine wpAnyH_done (by kernel_rfl) ?_ _)
          clear hHeld
          go_wp2_with fail
          exact bodyPost_ret (v := .bool true) (by simp [results, Tryz.results228, go_sem]) rfl ⟨by rw [hr.out], belA⟩
theorem l01Free_any (w : World) (gn : Nat) (ge : Int) (gs : List (Int × Int)) (v : Value) (h : Lst shGr w gs v) (hge : okI .u32 ge) (hn : gn ≤ 5) (hg : ∀ d ∈ gs, 0 ≤ d.1 ∧ d.1 ≤ 5) :
    Calls Tryz.prog 196 #[.agg #[.int .i64 gn, .int .u32 ge], v] w fun e0 w' => e0 = .returned (.bool (freeB gn ge gs)) ∧ Below w.heap.size w w' := by
  obtain ⟨A, cap, rfl, hc, hm, hok, hel⟩ := lstGraph h
  unfold maxLen at hm
  have H1 := Lib.hid hel
  have HG := Lib.hid hg
  have HE := Lib.hid hge
  clear h hel hok hg hge
  go_enter Tryz.func196, Tryz.ntmps196
  go_wp2_with fail
  go_loopw [5] (fun i wr => ∃ (k : Nat), k ≤ gs.length ∧ i = .int .i64 k ∧ wr.heap[w.heap.size]? = some (.cells #[.int .i64 gn, .int .u32 ge] 31 (0, 0)) ∧ Hid (∀ a ∈ gs.take k, partB gn ge a.1.toNat a.2 = false) ∧ Below w.heap.size w wr) (fun i _ => gs.length - (intOf i).toNat)
  case atStart => exact ⟨0, Nat.zero_le _, rfl, blkA, Lib.hid (by simp), belA⟩
  case round =>
    obtain ⟨k, hk, rfl, b0, HT, hB⟩ := hrel
    obtain ⟨s0, s1, _, _⟩ := blk2 b0
    have z0 := blklt b0
    have B0 := Lib.hid b0
    clear b0
    by_cases hlt : k < gs.length
    · have hk8 : (k : Int) < (gs.length : Int) := by omega
      obtain ⟨bl, off, rfl, hel⟩ := H1.out (by omega)
      clear H1
      obtain ⟨d, hd, hok, c0, c1⟩ := hel k hlt
      clear hel
      have zb : bl < w.heap.size := World.block_lt_of_cell? _ _ c0
      have hz := hB.size
      have zb2 : bl < wr.heap.size := by omega
      have hmem : Hid (d ∈ gs) := Lib.hid (List.mem_of_getElem? hd)
      have HD := Lib.hid hd
      have hd5 := HG.out d hmem.out
      have HP : Hid (∀ W, Calls Tryz.prog 228 #[.agg #[.int .i64 gn, .int .u32 ge], .agg #[.int .i64 d.1, .int .u32 d.2]] W fun e0 W' => e0 = .returned (.bool (partB gn ge d.1.toNat d.2)) ∧ Below W.heap.size W W') := Lib.hid fun W => by
        have := l01Part_any W gn d.1.toNat ge d.2 HE.out hok.2 hn (by omega)
        rwa [show ((d.1.toNat : Nat) : Int) = d.1 by omega] at this
      clear hd hok
      replace c0 := bkeep hB c0
      replace c1 := bkeep hB c1
      cases hp : partB gn ge d.1.toNat d.2
      · have HQ := Lib.hid hp
        clear hp
        go_wp2_with fail
        (refine wp_region_held_drew (S := (fun w' => w'.cell? ⟨w.heap.size, 0, none⟩ = some (.int .i64 gn) ∧ w'.cell? ⟨w.heap.size, 1, none⟩ = some (.int .u32 ge) ∧ w'.cell? ⟨bl, off + k * 2, none⟩ = some (.int .i64 d.1) ∧ w'.cell? ⟨bl, off + k * 2 + 1, none⟩ = some (.int .u32 d.2))) (by kernel_rfl) ?_ (fun hHeld => ?_); (focus (simp [*, go_sem])); refine rt 0 (some 12) (v := ?_) rfl rfl ?_ ?_; rotate_left; (focus (intro w' hSw; (try dsimp only at hSw); go_simp; (try with_reducible rfl))); (try simp only [Act.put, nA, nB, nC]); refine rt 1 (some 13) (v := ?_) rfl rfl ?_ ?_; rotate_left; (focus (intro w' hSw; (try dsimp only at hSw); go_simp; (try with_reducible rfl))); (try simp only [Act.put, nA, nB, nC]); refine rt 2 (some 14) (v := ?_) rfl rfl ?_ ?_; rotate_left; (focus (intro w' hSw; (try dsimp only at hSw); go_simp; (try with_reducible rfl))); (try simp only [Act.put, nA, nB, nC]); refine rt 3 (some 15) (v := ?_) rfl rfl ?_ ?_; rotate_left; (focus (intro w' hSw; (try dsimp only at hSw); go_simp; (try with_reducible rfl))); (try simp only [Act.put, nA, nB, nC]); refine rt 4 (some 16) (v := ?_) rfl rfl ?_ ?_; rotate_left; (focus (intro w' hSw; (try dsimp only at hSw); go_simp; (try with_reducible rfl))); (try simp only [Act.put, nA, nB, nC]); refine wpAnyH_ready (rs := [5]) (by kernel_rfl) (by simp) ?_; refine AllReadyH.cons rfl (fun K hK => ?_) AllReadyH.nil; go_simp; (go_at_call 228; refine Calls.mono (HP.out _) ?_; rw [HQ.out]; rintro e w1 ⟨rfl, hb⟩; obtain ⟨X, m, rfl⟩ := plsOf hb; clear hb); go_wp2_with fail; refine hK.out _ _ ?_ (fun hHeld => ?_); (focus (simp [*, go_sem])); clear hK K; (try simp only [Act.put, nA, nB, nC]); refine wpAnyH_done (by kernel_rfl) ?_ _)
        clear hHeld
        go_wp2_with fail
        go_roundw
        case rel =>
          have b0 := B0.out
          exact ⟨k + 1, by omega, by go_num, blkA, Lib.hid (mem_take_succ HT.out HD.out HQ.out), belA⟩
        case measure => simp [intOf]; omega
      · have hr : Hid (freeB gn ge gs = false) := Lib.hid (by
          have : anyB (fun h => partB gn ge h.1.toNat h.2) gs = true := List.any_eq_true.2 ⟨d, hmem.out, hp⟩
          simp [freeB, this])
        have HQ := Lib.hid hp
        clear hp
        go_wp2_with fail
        (refine wp_region_held_drew (S := (fun w' => w'.cell? ⟨w.heap.size, 0, none⟩ = some (.int .i64 gn) ∧ w'.cell? ⟨w.heap.size, 1, none⟩ = some (.int .u32 ge) ∧ w'.cell? ⟨bl, off + k * 2, none⟩ = some (.int .i64 d.1) ∧ w'.cell? ⟨bl, off + k * 2 + 1, none⟩ = some (.int .u32 d.2))) (by kernel_rfl) ?_ (fun hHeld => ?_); (focus (simp [*, go_sem])); refine rt 0 (some 12) (v := ?_) rfl rfl ?_ ?_; rotate_left; (focus (intro w' hSw; (try dsimp only at hSw); go_simp; (try with_reducible rfl))); (try simp only [Act.put, nA, nB, nC]); refine rt 1 (some 13) (v := ?_) rfl rfl ?_ ?_; rotate_left; (focus (intro w' hSw; (try dsimp only at hSw); go_simp; (try with_reducible rfl))); (try simp only [Act.put, nA, nB, nC]); refine rt 2 (some 14) (v := ?_) rfl rfl ?_ ?_; rotate_left; (focus (intro w' hSw; (try dsimp only at hSw); go_simp; (try with_reducible rfl))); (try simp only [Act.put, nA, nB, nC]); refine rt 3 (some 15) (v := ?_) rfl rfl ?_ ?_; rotate_left; (focus (intro w' hSw; (try dsimp only at hSw); go_simp; (try with_reducible rfl))); (try simp only [Act.put, nA, nB, nC]); refine rt 4 (some 16) (v := ?_) rfl rfl ?_ ?_; rotate_left; (focus (intro w' hSw; (try dsimp only at hSw); go_simp; (try with_reducible rfl))); (try simp only [Act.put, nA, nB, nC]); refine wpAnyH_ready (rs := [5]) (by kernel_rfl) (by simp) ?_; refine AllReadyH.cons rfl (fun K hK => ?_) AllReadyH.nil; go_simp; (go_at_call 228; refine Calls.mono (HP.out _) ?_; rw [HQ.out]; rintro e w1 ⟨rfl, hb⟩; obtain ⟨X, m, rfl⟩ := plsOf hb; clear hb); go_wp2_with fail; refine hK.out _ _ ?_ (fun hHeld => ?_); (focus (simp [*, go_sem])); clear hK K; (try simp only [Act.put, nA, nB, nC]); refine wpAnyH_done (by kernel_rfl) ?_ _)
        clear hHeld
        go_wp2_with fail
        exact bodyPost_ret (v := .bool false) (by simp [results, Tryz.results196, go_sem]) rfl ⟨by rw [hr.out], belA⟩
    · have e : k = gs.length := by omega
      subst e
      have hr : Hid (freeB gn ge gs = true) := Lib.hid (by
        have : anyB (fun h => partB gn ge h.1.toNat h.2) gs = false := by
          rw [anyB, List.any_eq_false]
          intro a ha
          have := HT.out
          rw [List.take_length] at this
          simp [this a ha]
        simp [freeB, this])
      go_wp2_with fail
      exact bodyPost_ret (v := .bool true) (by simp [results, Tryz.results196, go_sem]) rfl ⟨by rw [hr.out], belA⟩
end Go.Proofs.YtpcjinbbgnmchaaGreat
