import Derived.Laws.EntriesVeiled
import Derived.Test.YtekchdgpaemofaaGreatYyGm
import Derived.Test.YtekchdgpaemofaaGreatYySl
namespace Go.Proofs.YtekchdgpaemofaaGreat
open Go.ChangeShapes Go.WideShapes Go.RowKit
set_option linter.unusedVariables false
set_option linter.unusedSimpArgs false
attribute [local irreducible] Calls
def chs (xs : List Int) : Nat → Nat → List Int → List (List Int)
  | 0, _, L => [L]
  | d + 1, j, L => (List.range' j (xs.length - j)).flatMap fun (i : Nat) => chs xs d (i + 1) (L ++ [gi xs i])
def chsTo (xs : List Int) (d j : Nat) (L : List Int) (k : Nat) : List (List Int) := (List.range' j (k - j)).flatMap fun (i : Nat) => chs xs d (i + 1) (L ++ [gi xs i])
theorem chsTo_succ (xs : List Int) (d j : Nat) (L : List Int) (k : Nat) (h : j ≤ k) : chsTo xs d j L (k + 1) = chsTo xs d j L k ++ chs xs d (k + 1) (L ++ [gi xs k]) := by
  unfold chsTo
  rw [show k + 1 - j = (k - j) + 1 by omega, List.range'_concat, List.flatMap_append]
  simp [show j + (k - j) = k by omega]
theorem chs_to (xs : List Int) (d j : Nat) (L : List Int) : chs xs (d + 1) j L = chsTo xs d j L xs.length := rfl
theorem chsTo_none (xs : List Int) (d j : Nat) (L : List Int) : chsTo xs d j L j = [] := by simp [chsTo]
structure Does (f : FuncId) (caps : Array Value) (B : Nat) (F : List Nat) {σ : Type} (I : σ → World → Prop) (step : σ → List Int → σ) (ok : List Int → Prop) : Prop where
  enters : ∀ args w, (callFunc f args).run Tryz.prog w = .ok (.enter f args) w
  keep : ∀ s W W', I s W → Below W.heap.size W W' → I s W'
  call : ∀ s W L v, ok L → I s W → B ≤ W.heap.size → AppI B W v L → Calls Tryz.prog f (#[v] ++ caps) W fun e W' => e = .returned (.tuple #[]) ∧ I (step s L) W' ∧ Chg F W W'
  lt : ∀ b ∈ F, b < B
def ChK (bl bm bd bw : Nat) (lv : Value) (many : Nat) (f : FuncId) (caps : Array Value) (W : World) : Prop :=
  W.heap[bl]? = some (.cells #[lv] 168 (0, 0)) ∧ W.heap[bm]? = some (.cells #[.int .i64 many] 3 (0, 0)) ∧ W.heap[bd]? = some (.cells #[.func (.func f) #[] caps] 256 (0, 0)) ∧
  W.heap[bw]? = some (.cells #[.func (.func 269) #[] #[.pointer (some ⟨bm, 0, none⟩), .pointer (some ⟨bd, 0, none⟩), .pointer (some ⟨bl, 0, none⟩), .pointer (some ⟨bw, 0, none⟩)]] 278 (0, 0))
theorem ChK.chg {bl bm bd bw : Nat} {lv : Value} {many : Nat} {f : FuncId} {caps : Array Value} {W W' : World} {F : List Nat} (h : ChK bl bm bd bw lv many f caps W) (hF : bl ∉ F ∧ bm ∉ F ∧ bd ∉ F ∧ bw ∉ F) (hc : Chg F W W') : ChK bl bm bd bw lv many f caps W' :=
  ⟨(hc.2.2.2.2 _ (blklt h.1) hF.1).trans h.1, (hc.2.2.2.2 _ (blklt h.2.1) hF.2.1).trans h.2.1, (hc.2.2.2.2 _ (blklt h.2.2.1) hF.2.2.1).trans h.2.2.1, (hc.2.2.2.2 _ (blklt h.2.2.2) hF.2.2.2).trans h.2.2.2⟩
theorem blkOne {w : World} {k : Nat} {t : TypeId} {u : Value} (h : w.heap[k]? = some (.cells #[u] t (0, 0))) : w.cell? ⟨k, 0, none⟩ = some u ∧ k < w.heap.size := ⟨(blk1 h).1, blklt h⟩
theorem lst_cell {w : World} {xs : List Int} {be oe n capl k : Nat} (h : Lst (shI .i64) w xs (.slice (some ⟨be, oe, none⟩) n capl)) (hk : k < xs.length) : w.cell? ⟨be, oe + k, none⟩ = some (.int .i64 (gi xs k)) := by
  obtain ⟨A, c, hv, _, _, hel⟩ := lstI h
  injection hv with e1
  obtain ⟨b, o, e2, hel⟩ := hel (by omega)
  rw [← e1] at e2
  injection e2 with e2
  injection e2 with e3 e4
  subst e3; subst e4
  exact hel k hk
def DRet {σ : Type} (F : List Nat) (I : σ → World → Prop) (w : World) (s : σ) (e : Ending) (w' : World) : Prop := e = .returned (.tuple #[]) ∧ I s w' ∧ Chg F w w'
set_option maxHeartbeats 2000000 in
set_option maxRecDepth 100000 in
theorem chwalk_any {σ : Type} {f : FuncId} {caps : Array Value} {B : Nat} {F : List Nat} {I : σ → World → Prop} {step : σ → List Int → σ} {ok : List Int → Prop} (H : Does f caps B F I step ok) (xs : List Int) (lv : Value) (many bl bm bd bw : Nat) (hn : xs.length ≤ 100) (hm : many ≤ 100)
    (hF : bl ∉ F ∧ bm ∉ F ∧ bd ∉ F ∧ bw ∉ F) (hkeep : ∀ W W', Lst (shI .i64) W xs lv → Chg F W W' → Lst (shI .i64) W' xs lv) :
    ∀ (d j : Nat) (L : List Int) (w : World) (v : Value) (s : σ), L.length + d = many → j ≤ xs.length → AppI B w v L → B ≤ w.heap.size → I s w → ChK bl bm bd bw lv many f caps w → Lst (shI .i64) w xs lv → (∀ L' ∈ chs xs d j L, ok L') →
      Calls Tryz.prog 269 #[.int .i64 j, v, .pointer (some ⟨bm, 0, none⟩), .pointer (some ⟨bd, 0, none⟩), .pointer (some ⟨bl, 0, none⟩), .pointer (some ⟨bw, 0, none⟩)] w (DRet F I w ((chs xs d j L).foldl step s)) := by
  obtain ⟨i1, zv1, hi1, hz1, hs1, hb1, hl1⟩ := infoB_spec (P := Tryz.prog) (e := 2) (sz := 1) (bytes := 8) (by kernel_rfl)
  have I1 := Lib.hid hi1
  have Z1 := Lib.hid hz1
  clear hi1 hz1
  have HH := Lib.hid H
  have eg := H.enters
  have eg2 : ∀ args w, (callFunc 269 args).run Tryz.prog w = .ok (.enter 269 args) w := enters_of Tryz.func269 (by kernel_rfl) rfl
  have HKP := Lib.hid hkeep
  have HF := Lib.hid hF
  clear H hkeep hF
  intro d
  induction d with
  | zero =>
    intro j L w v s hl hj hA hB hI hK hX hok
    obtain ⟨A, cap, rfl⟩ := hA.form
    have hlm : ((L.length : Int) == (many : Int)) = true := by simp; omega
    have HA := Lib.hid hA
    have HI := Lib.hid hI
    have HO := Lib.hid (hok L (by simp [chs]))
    obtain ⟨cm, ym⟩ := blkOne hK.2.1
    obtain ⟨cd, yd⟩ := blkOne hK.2.2.1
    clear hA hI hok hK hX
    go_enter Tryz.func269, Tryz.ntmps269
    go_wp2_with fail
    refine Calls.mono (HH.out.call s _ L _ HO.out (HH.out.keep _ _ _ HI.out belA) (Nat.le_trans hB (by simp)) (HA.out.below belA)) ?_
    rintro e w1 ⟨rfl, hI1, hC1⟩
    have hI1 := Lib.hid hI1
    have hC1 := Lib.hid hC1
    go_wp2_with fail
    exact bodyPost_ret (v := .tuple #[]) (by simp [results, Tryz.results269, go_sem]) rfl ⟨rfl, hI1.out, (Chg.of (show Below w.heap.size w _ from belA) F).trans hC1.out⟩
  | succ d ih =>
    intro j L w v s hl hj hA hB hI hK hX hok
    have IH := Lib.hid ih
    clear ih
    obtain ⟨A, cap, rfl⟩ := hA.form
    obtain ⟨A', cap', hv, hcap, hmx⟩ := formI hA.lst
    injection hv with e1 e2 e3
    subst e3
    have hlm : ((L.length : Int) == (many : Int)) = false := by simp; omega
    have HA := Lib.hid hA
    have HI := Lib.hid hI
    have HO := Lib.hid hok
    have HK := Lib.hid hK
    have HX := Lib.hid hX
    obtain ⟨cm, ym⟩ := blkOne hK.2.1
    have hlen := Lib.hid hl
    have hL100 : L.length ≤ 100 := by omega
    clear hA hI hok hK hX hl e1
    go_enter Tryz.func269, Tryz.ntmps269
    go_wp2_with fail
    go_loopw [8] (fun i wr => ∃ (k : Nat), j ≤ k ∧ k ≤ xs.length ∧ i = .int .i64 k ∧ Hid (I ((chsTo xs d j L k).foldl step s) wr) ∧ Hid (Chg F w wr)) (fun i _ => xs.length - (intOf i).toNat)
    case atStart => exact ⟨j, Nat.le_refl _, hj, rfl, Lib.hid (by rw [chsTo_none]; exact HH.out.keep _ _ _ HI.out belA), Lib.hid (Chg.of belA F)⟩
    case round =>
      obtain ⟨k, hjk, hk, rfl, hI1, hC⟩ := hrel
      have hA1 := Lib.hid (HA.out.chg HH.out.lt hC.out)
      have hK1 := Lib.hid (HK.out.chg HF.out hC.out)
      have hX1 := Lib.hid (HKP.out _ _ HX.out hC.out)
      have hB1 : B ≤ wr.heap.size := Nat.le_trans hB hC.out.2.2.2.1
      obtain ⟨cl, yl⟩ := blkOne hK1.out.1
      obtain ⟨cw, yw⟩ := blkOne hK1.out.2.2.2
      obtain ⟨Al, capl, hlv, hcl, hml, hel0⟩ := lstI hX1.out
      subst hlv
      unfold maxLen at hml
      by_cases hlt : k < xs.length
      · have hk8 : (k : Int) < 9223372036854775807 := by omega
        have hk9 : (k : Int) < (xs.length : Int) := by omega
        obtain ⟨be, oe, rfl, hel⟩ := hel0 (by omega)
        have ce := hel k hlt
        have ye := World.block_lt_of_cell? _ _ ce
        simp only at ye
        have hsucc : Hid ((chsTo xs d j L (k + 1)).foldl step s = (chs xs d (k + 1) (L ++ [gi xs k])).foldl step ((chsTo xs d j L k).foldl step s)) := Lib.hid (by rw [chsTo_succ _ _ _ _ _ hjk, List.foldl_append])
        have hok2 : Hid (∀ L' ∈ chs xs d (k + 1) (L ++ [gi xs k]), ok L') := Lib.hid fun L' hL' => HO.out L' (by rw [chs_to, chsTo, List.mem_flatMap]; exact ⟨k, by rw [List.mem_range']; exact ⟨k - j, by omega, by omega⟩, hL'⟩)
        have hgi : okI .i64 (gi xs k) := by
          have := oks_of (flat_int .i64) hX1.out xs[k] (List.getElem_mem hlt)
          simpa [gi, List.getElem?_eq_getElem hlt] using this
        have HW8 : Hid (IntKind.i64.wrap ((k : Int) + 1) = (k : Int) + 1) := Lib.hid (IntWalk.i64_in _ (by omega))
        clear hel hel0
        obtain ⟨W0, rfl⟩ : ∃ x, x = wr := ⟨_, rfl⟩
        go_wp2_with fail
        (refine wp_region_held_drew (S := (fun w' => w'.cell? ⟨bw, 0, none⟩ = some (.func (.func 269) #[] #[.pointer (some ⟨bm, 0, none⟩), .pointer (some ⟨bd, 0, none⟩), .pointer (some ⟨bl, 0, none⟩), .pointer (some ⟨bw, 0, none⟩)]) ∧ w'.cell? ⟨bl, 0, none⟩ = some (.slice (some ⟨be, oe, none⟩) xs.length capl) ∧ w'.cell? ⟨be, oe + k, none⟩ = some (.int .i64 (gi xs k)))) (by kernel_rfl) ?_ (fun hHeld => ?_); (focus (first | (simp [*, go_sem]; done) | fail)); refine rt 0 (some 23) (v := ?_) rfl rfl ?_ ?_; rotate_left; (focus (intro w' hSw; (try dsimp only at hSw); go_simp; (try with_reducible rfl))); (try simp only [Act.put, nA, nB, nC]); refine rt 1 (some 24) (v := ?_) rfl rfl ?_ ?_; rotate_left; (focus (intro w' hSw; (try dsimp only at hSw); go_simp; (try with_reducible rfl))); (try simp only [Act.put, nA, nB, nC]); refine rt 2 (some 25) (v := ?_) rfl rfl ?_ ?_; rotate_left; (focus (intro w' hSw; (try dsimp only at hSw); go_simp; (try with_reducible rfl))); (try simp only [Act.put, nA, nB, nC]); refine rt 3 (some 26) (v := ?_) rfl rfl ?_ ?_; rotate_left; (focus (intro w' hSw; (try dsimp only at hSw); go_simp; (try with_reducible rfl))); (try simp only [Act.put, nA, nB, nC]); refine rt 5 (some 28) (v := ?_) rfl rfl ?_ ?_; rotate_left; (focus (intro w' hSw; (try dsimp only at hSw); go_simp; (try with_reducible rfl))); (try simp only [Act.put, nA, nB, nC]); refine rt 6 (some 29) (v := ?_) rfl rfl ?_ ?_; rotate_left; (focus (intro w' hSw; (try dsimp only at hSw); go_simp; (try with_reducible rfl))); (try simp only [Act.put, nA, nB, nC]); refine rt 7 (some 30) (v := ?_) rfl rfl ?_ ?_; rotate_left; (focus (intro w' hSw; (try dsimp only at hSw); go_simp; (try with_reducible rfl))); (try simp only [Act.put, nA, nB, nC]); refine rt 8 (some 31) (v := ?_) rfl rfl ?_ ?_; rotate_left; (focus (intro w' hSw; (try dsimp only at hSw); go_simp; (try with_reducible rfl))); (try simp only [Act.put, nA, nB, nC]); refine wpAnyH_ready (rs := [4, 9]) (by kernel_rfl) (by simp) ?_; refine AllReadyH.cons rfl (fun K hK => ?_) (AllReadyH.cons rfl (fun K hK => ?_) AllReadyH.nil); (focus (go_simp; (go_at_call 270; refine Calls.mono (clip_any _ A L.length cap hcap hmx (fun h => by have := hA1.out; rw [h] at this; exact this.isNone.2)) ?_; rintro e w1 ⟨rfl, rfl⟩); go_wp2_with fail; refine hK.out _ _ ?_ (fun hHeld => ?_); (focus (first | (simp [*, go_sem]; done) | fail)); clear hK K; (try simp only [Act.put, nA, nB, nC]); refine wpAnyH_ready (rs := [9]) (by kernel_rfl) (by simp) ?_; refine AllReadyH.cons rfl (fun K hK => ?_) AllReadyH.nil; (try go_simp); refine hK.out _ _ ?_ (fun hHeld => ?_); (focus (first | (simp [*, go_sem]; done) | fail)); clear hK K; (try simp only [Act.put, nA, nB, nC]); refine wpAnyH_ready (rs := [10]) (by kernel_rfl) (by simp) ?_; refine AllReadyH.cons rfl (fun K hK => ?_) AllReadyH.nil; (rw [if_pos (by simp [Region.wanted])]; refine wp_append_full _ (.tmp 27) (.tmp 32) 168 rfl 2 i1 zv1 1 8 Tryz.underlying168 I1.out Z1.out hs1 hb1 hl1 (by decide) A L.length L.length (L.map fun d => .int .i64 d) rfl (fun h => by have := hA1.out; rw [h] at this; have := this.isNone.1; omega) (by simp) (hA1.out.below belA).olds ⟨W0.heap.size, 0, none⟩ 1 1 [.int .i64 (gi xs k)] rfl rfl (World.news_of_block (blknew' _ _ _ (by simp))) (by simp [Value.oneCell']) (by decide) (by omega) (by unfold maxLen; omega) (by omega) ?_; intro g1 cap1 w2 hown hgrow; have hb2 : Below W0.heap.size W0 w2 := (show Below W0.heap.size W0 (W0.drew.alloc _) from belA).trans (grown_below (v := .slice none 0 0) hgrow (fun q hq => by cases hq) (by simp)); have hA2 := Lib.hid (hA1.out.grow hgi hown (by simp; omega)); have hI2 := Lib.hid (HH.out.keep _ _ _ hI1.out hb2); have hC2 := Lib.hid (hC.out.trans (Chg.of hb2 F)); have hB2 : B ≤ w2.heap.size := Nat.le_trans hB1 hb2.size; have hK2 := Lib.hid (hK1.out.chg HF.out (Chg.of hb2 F)); have hX2 := Lib.hid (hX1.out.below hb2); have m0 := bkeep hb2 cw; have m1 := bkeep hb2 cl; have m2 := bkeep hb2 ce; clear hown hgrow hb2); refine hK.out _ _ ?_ (fun hHeld => ?_); (focus (first | (simp [*, go_sem]; done) | fail)); clear hK K; (try simp only [Act.put, nA, nB, nC]); refine wpAnyH_ready (rs := [11]) (by kernel_rfl) (by simp) ?_; refine AllReadyH.cons rfl (fun K hK => ?_) AllReadyH.nil; go_simp; (have hIH := IH.out (k + 1) (L ++ [gi xs k]) w2 _ _ (by have := hlen.out; simp; omega) (by omega) hA2.out hB2 hI2.out hK2.out hX2.out hok2.out; rw [show ((k + 1 : Nat) : Int) = IntKind.i64.wrap ((k : Int) + 1) from by rw [HW8.out]; omega] at hIH; refine Calls.mono hIH ?_; clear hIH; rintro e w3 ⟨rfl, hI3, hC3⟩; have hK3 := hK2.out.chg HF.out hC3; have n2 := lst_cell (HKP.out _ _ hX2.out hC3) hlt; have n0 := (blkOne hK3.2.2.2).1; have n1 := (blkOne hK3.1).1; have hI3 := Lib.hid hI3; have hC3 := Lib.hid (hC2.out.trans hC3); clear hK3); go_wp2_with fail; refine hK.out _ _ ?_ (fun hHeld => ?_); (focus (first | (simp [*, go_sem]; done) | fail)); clear hK K; (try simp only [Act.put, nA, nB, nC]); refine wpAnyH_done (by kernel_rfl) ?_ _)); rotate_left 1; (focus ((try go_simp); refine hK.out _ _ ?_ (fun hHeld => ?_); (focus (first | (simp [*, go_sem]; done) | fail)); clear hK K; (try simp only [Act.put, nA, nB, nC]); refine wpAnyH_ready (rs := [4]) (by kernel_rfl) (by simp) ?_; refine AllReadyH.cons rfl (fun K hK => ?_) AllReadyH.nil; go_simp; (go_at_call 270; refine Calls.mono (clip_any _ A L.length cap hcap hmx (fun h => by have := hA1.out; rw [h] at this; exact this.isNone.2)) ?_; rintro e w1 ⟨rfl, rfl⟩); go_wp2_with fail; refine hK.out _ _ ?_ (fun hHeld => ?_); (focus (first | (simp [*, go_sem]; done) | fail)); clear hK K; (try simp only [Act.put, nA, nB, nC]); refine wpAnyH_ready (rs := [10]) (by kernel_rfl) (by simp) ?_; refine AllReadyH.cons rfl (fun K hK => ?_) AllReadyH.nil; (rw [if_pos (by simp [Region.wanted])]; refine wp_append_full _ (.tmp 27) (.tmp 32) 168 rfl 2 i1 zv1 1 8 Tryz.underlying168 I1.out Z1.out hs1 hb1 hl1 (by decide) A L.length L.length (L.map fun d => .int .i64 d) rfl (fun h => by have := hA1.out; rw [h] at this; have := this.isNone.1; omega) (by simp) (hA1.out.below belA).olds ⟨W0.heap.size, 0, none⟩ 1 1 [.int .i64 (gi xs k)] rfl rfl (World.news_of_block (blknew' _ _ _ (by simp))) (by simp [Value.oneCell']) (by decide) (by omega) (by unfold maxLen; omega) (by omega) ?_; intro g1 cap1 w2 hown hgrow; have hb2 : Below W0.heap.size W0 w2 := (show Below W0.heap.size W0 (W0.drew.alloc _) from belA).trans (grown_below (v := .slice none 0 0) hgrow (fun q hq => by cases hq) (by simp)); have hA2 := Lib.hid (hA1.out.grow hgi hown (by simp; omega)); have hI2 := Lib.hid (HH.out.keep _ _ _ hI1.out hb2); have hC2 := Lib.hid (hC.out.trans (Chg.of hb2 F)); have hB2 : B ≤ w2.heap.size := Nat.le_trans hB1 hb2.size; have hK2 := Lib.hid (hK1.out.chg HF.out (Chg.of hb2 F)); have hX2 := Lib.hid (hX1.out.below hb2); have m0 := bkeep hb2 cw; have m1 := bkeep hb2 cl; have m2 := bkeep hb2 ce; clear hown hgrow hb2); refine hK.out _ _ ?_ (fun hHeld => ?_); (focus (first | (simp [*, go_sem]; done) | fail)); clear hK K; (try simp only [Act.put, nA, nB, nC]); refine wpAnyH_ready (rs := [11]) (by kernel_rfl) (by simp) ?_; refine AllReadyH.cons rfl (fun K hK => ?_) AllReadyH.nil; go_simp; (have hIH := IH.out (k + 1) (L ++ [gi xs k]) w2 _ _ (by have := hlen.out; simp; omega) (by omega) hA2.out hB2 hI2.out hK2.out hX2.out hok2.out; rw [show ((k + 1 : Nat) : Int) = IntKind.i64.wrap ((k : Int) + 1) from by rw [HW8.out]; omega] at hIH; refine Calls.mono hIH ?_; clear hIH; rintro e w3 ⟨rfl, hI3, hC3⟩; have hK3 := hK2.out.chg HF.out hC3; have n2 := lst_cell (HKP.out _ _ hX2.out hC3) hlt; have n0 := (blkOne hK3.2.2.2).1; have n1 := (blkOne hK3.1).1; have hI3 := Lib.hid hI3; have hC3 := Lib.hid (hC2.out.trans hC3); clear hK3); go_wp2_with fail; refine hK.out _ _ ?_ (fun hHeld => ?_); (focus (first | (simp [*, go_sem]; done) | fail)); clear hK K; (try simp only [Act.put, nA, nB, nC]); refine wpAnyH_done (by kernel_rfl) ?_ _)); rotate_left 1)
        all_goals
          clear hHeld
          go_wp2_with fail
          go_roundw
          case rel => exact ⟨k + 1, by omega, by omega, by go_num, Lib.hid (by rw [hsucc.out]; exact hI3.out), hC3⟩
          case measure => simp [intOf]; omega
      · have e : k = xs.length := by omega
        subst e
        go_wp2_with fail
        refine bodyPost_ret (v := .tuple #[]) (by simp [results, Tryz.results269, go_sem]) rfl ⟨rfl, ?_, hC.out⟩
        rw [chs_to]
        exact hI1.out
theorem lst_chg {W W' : World} {xs : List Int} {g o n c : Nat} {F : List Nat} (h : Lst (shI .i64) W xs (.slice (some ⟨g, o, none⟩) n c)) (hg : g ∉ F) (hc : Chg F W W') : Lst (shI .i64) W' xs (.slice (some ⟨g, o, none⟩) n c) := by
  obtain ⟨A, c', e, h1, h2, hel⟩ := rep_slice h
  injection e with e1 e2 e3
  subst e3
  refine ⟨_, _, by rw [e2], h1, h2, fun hp => ⟨g, o, rfl, fun i d hi => ?_⟩⟩
  obtain ⟨bl, off, e4, hel⟩ := hel hp
  rw [← e1] at e4
  injection e4 with e4
  injection e4 with e4 e5
  subst e4; subst e5
  obtain ⟨ec, h3, h4⟩ := hel i d hi
  refine ⟨ec, h3, fun j hj => ?_⟩
  have h5 := h4 j hj
  have hlt : g < W.heap.size := by
    have : j < ec.length := by rw [(shI .i64).len _ _ _ h3]; exact hj
    rw [List.getElem?_eq_getElem this] at h5
    exact World.block_lt_of_cell? _ _ h5
  rw [← h5]
  exact World.cell?_of_block (hc.2.2.2.2 g hlt hg)
theorem chosen_any {σ : Type} {f : FuncId} {caps : Array Value} {B : Nat} {F : List Nat} {I : σ → World → Prop} {step : σ → List Int → σ} {ok : List Int → Prop} (H : Does f caps B F I step ok) (xs : List Int) (g o n c many : Nat) (hn : xs.length ≤ 100) (hm : many ≤ 100)
    (w : World) (s : σ) (hB : B ≤ w.heap.size) (hg : g ∉ F) (hX : Lst (shI .i64) w xs (.slice (some ⟨g, o, none⟩) n c)) (hI : I s w) (hok : ∀ L' ∈ chs xs many 0 [], ok L') :
    Calls Tryz.prog 224 #[.slice (some ⟨g, o, none⟩) n c, .int .i64 many, .func (.func f) #[] caps] w (DRet F I w ((chs xs many 0 []).foldl step s)) := by
  have hlt := H.lt
  have HH := Lib.hid H
  have HX := Lib.hid hX
  have HI := Lib.hid hI
  have HO := Lib.hid hok
  have eg := H.enters
  have eg2 : ∀ args w, (callFunc 269 args).run Tryz.prog w = .ok (.enter 269 args) w := enters_of Tryz.func269 (by kernel_rfl) rfl
  have HF : Hid (∀ q, w.heap.size ≤ q → q ∉ F) := Lib.hid fun q hq hm => by have := hlt q hm; omega
  clear H hX hI hok hlt
  go_enter Tryz.func224, Tryz.ntmps224
  go_wp2_with fail
  have hb : Below w.heap.size w ((((w.alloc (.cells #[.slice (some ⟨g, o, none⟩) n c] 168)).alloc (.cells #[.int .i64 many] 3)).alloc (.cells #[.func (.func f) #[] caps] 256)).alloc (.cells #[.func (.func 269) #[] #[.pointer (some ⟨w.heap.size + 1, 0, none⟩), .pointer (some ⟨w.heap.size + 1 + 1, 0, none⟩), .pointer (some ⟨w.heap.size, 0, none⟩), .pointer (some ⟨w.heap.size + 1 + 1 + 1, 0, none⟩)]] 278)) := belA
  have hK : ChK w.heap.size (w.heap.size + 1) (w.heap.size + 1 + 1) (w.heap.size + 1 + 1 + 1) (.slice (some ⟨g, o, none⟩) n c) many f caps ((((w.alloc (.cells #[.slice (some ⟨g, o, none⟩) n c] 168)).alloc (.cells #[.int .i64 many] 3)).alloc (.cells #[.func (.func f) #[] caps] 256)).alloc (.cells #[.func (.func 269) #[] #[.pointer (some ⟨w.heap.size + 1, 0, none⟩), .pointer (some ⟨w.heap.size + 1 + 1, 0, none⟩), .pointer (some ⟨w.heap.size, 0, none⟩), .pointer (some ⟨w.heap.size + 1 + 1 + 1, 0, none⟩)]] 278)) := ⟨blkA, blkA, blkA, blkA⟩
  have hN : AppI B ((((w.alloc (.cells #[.slice (some ⟨g, o, none⟩) n c] 168)).alloc (.cells #[.int .i64 many] 3)).alloc (.cells #[.func (.func f) #[] caps] 256)).alloc (.cells #[.func (.func 269) #[] #[.pointer (some ⟨w.heap.size + 1, 0, none⟩), .pointer (some ⟨w.heap.size + 1 + 1, 0, none⟩), .pointer (some ⟨w.heap.size, 0, none⟩), .pointer (some ⟨w.heap.size + 1 + 1 + 1, 0, none⟩)]] 278)) (.slice none 0 0) [] := ⟨World.ownsRow_nil _ _ _ _, by simp⟩
  have h := chwalk_any HH.out xs (.slice (some ⟨g, o, none⟩) n c) many w.heap.size (w.heap.size + 1) (w.heap.size + 1 + 1) (w.heap.size + 1 + 1 + 1) hn hm ⟨HF.out _ (by omega), HF.out _ (by omega), HF.out _ (by omega), HF.out _ (by omega)⟩ (fun W W' h1 h2 => lst_chg h1 hg h2) many 0 [] ((((w.alloc (.cells #[.slice (some ⟨g, o, none⟩) n c] 168)).alloc (.cells #[.int .i64 many] 3)).alloc (.cells #[.func (.func f) #[] caps] 256)).alloc (.cells #[.func (.func 269) #[] #[.pointer (some ⟨w.heap.size + 1, 0, none⟩), .pointer (some ⟨w.heap.size + 1 + 1, 0, none⟩), .pointer (some ⟨w.heap.size, 0, none⟩), .pointer (some ⟨w.heap.size + 1 + 1 + 1, 0, none⟩)]] 278)) (.slice none 0 0) s (by simp) (Nat.zero_le _) hN (Nat.le_trans hB hb.size) (HH.out.keep _ _ _ HI.out hb) hK (HX.out.below hb) HO.out
  refine Calls.mono h ?_
  rintro e w1 ⟨rfl, hI1, hC1⟩
  have hI1 := Lib.hid hI1
  have hC1 := Lib.hid hC1
  have hb := Lib.hid hb
  clear h hK hN
  go_wp2_with fail
  exact bodyPost_ret (v := .tuple #[]) (by simp [results, Tryz.results224, go_sem]) rfl ⟨rfl, hI1.out, (Chg.of hb.out F).trans hC1.out⟩
end Go.Proofs.YtekchdgpaemofaaGreat
