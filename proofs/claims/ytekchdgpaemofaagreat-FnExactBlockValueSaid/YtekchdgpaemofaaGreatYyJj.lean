import Derived.BigGuardPart
import Derived.Deep.RegionHeld3
import Derived.Test.YtekchdgpaemofaaGreatProg
import Derived.Test.YtekchdgpaemofaaGreatYyJf
import Derived.Test.YtekchdgpaemofaaGreatYyVs
import Derived.Test.YtekchdgpaemofaaGreatYyMt
import Derived.Test.YtekchdgpaemofaaGreatYySl
import Derived.Test.YtekchdgpaemofaaGreatYyJg
namespace Go.Proofs.YtekchdgpaemofaaGreat
open Go.ChangeShapes Go.WideShapes Go.ChangeAt Go.RowKit
set_option linter.unusedVariables false
set_option linter.unusedSimpArgs false
attribute [local irreducible] Calls
set_option maxHeartbeats 2000000 in
theorem l04Table_any (w : World) (fs : List Flg) (v : Value) (g : Flg) (D : Nat → Nat → Int × Int) (h : Lst shFlag w fs v) (hl : fs.length ≤ 8) (hD : ∀ i j, i < fs.length → j < fs.length → okFr (D i j))
    (hJ : ∀ i j a b, fs[i]? = some a → fs[j]? = some b → ∀ W, Calls Tryz.prog 129 #[.agg #[.int .i64 a.1, .int .i64 a.2.1, .int .u32 a.2.2], .agg #[.int .i64 b.1, .int .i64 b.2.1, .int .u32 b.2.2], .agg #[.int .i64 g.1, .int .i64 g.2.1, .int .u32 g.2.2]] W fun r w' => r = .returned (.agg #[.int .i64 (D i j).1, .int .i64 (D i j).2]) ∧ Below W.heap.size W w') :
    Calls Tryz.prog 160 #[v, .agg #[.int .i64 g.1, .int .i64 g.2.1, .int .u32 g.2.2]] w fun e w' => ∃ A cap F, e = .returned (.slice A fs.length cap) ∧ Own (shL shFr) w.heap.size w' (matL fs.length fs.length D) (.slice A fs.length cap) F ∧ Below w.heap.size w w' := by
  obtain ⟨i1, z1, hi1, hz1, hs1, hb1, hl1⟩ := infoB_spec (P := Tryz.prog) (e := 54) (sz := 2) (bytes := 16) (by kernel_rfl)
  obtain ⟨i2, z2, hi2, hz2, hs2, hb2, hl2⟩ := infoB_spec (P := Tryz.prog) (e := 94) (sz := 1) (bytes := 24) (by kernel_rfl)
  have HD := Lib.hid hD
  have HJ := Lib.hid hJ
  have I1 := Lib.hid hi1
  have I2 := Lib.hid hi2
  have Z1 := Lib.hid hz1
  have Z2 := Lib.hid hz2
  obtain ⟨A, cap, rfl, hcc, hm, hok, hel⟩ := lstFlag h
  obtain ⟨n, hn⟩ : ∃ n, Hid (fs.length = n) := ⟨_, Lib.hid rfl⟩
  have HEL := Lib.hid hel
  rw [hn.out] at hl hcc HD HEL ⊢
  unfold maxLen at hm
  clear hD hJ hi1 hi2 hz1 hz2 hok hel h
  go_enter Tryz.func160, Tryz.ntmps160
  go_wp2_with fail
  go_loopw [5, 6] (fun o i wr => ∃ (k : Nat), k ≤ n ∧ i = .int .i64 k ∧ Hid (AppS (shL shFr) (w.heap.size + 1) 94 wr o (matL k n D)) ∧ wr.heap[w.heap.size]? = some (.cells #[.int .i64 g.1, .int .i64 g.2.1, .int .u32 g.2.2] 104 (0, 0)) ∧ Below w.heap.size w wr) (fun _ i _ => n - (intOf i).toNat)
  case atStart => exact ⟨0, Nat.zero_le _, rfl, Lib.hid (AppS.new _ (blknew' _ _ _ (by simp)) (by simp)), blkA, belA⟩
  case round =>
    obtain ⟨k, hk, rfl, hA, jg, hB⟩ := hrel
    have yg := blklt jg
    have KG := Lib.hid jg
    clear jg
    by_cases hlt : k < n
    · have hk8 : (k : Int) < (n : Int) := by omega
      go_wp2_with fail
      obtain ⟨W0, rfl⟩ : ∃ x, x = wr := ⟨_, rfl⟩
      go_loopw [7, 8] (fun r j wq => ∃ (l : Nat), l ≤ n ∧ j = .int .i64 l ∧ Hid (AppS shFr W0.heap.size 54 wq r (rowL l (D k))) ∧ Below W0.heap.size W0 wq) (fun _ j _ => n - (intOf j).toNat)
      case atStart => exact ⟨0, Nat.zero_le _, rfl, Lib.hid (AppS.new _ (blknew _ _) (Nat.le_refl _)), belA⟩
      case round =>
        obtain ⟨l, hll, rfl, hA1, hBi⟩ := hrel
        obtain ⟨V0, rfl⟩ : ∃ x, x = wr := ⟨_, rfl⟩
        by_cases hlt2 : l < n
        · have hl8 : (l : Int) < (n : Int) := by omega
          obtain ⟨bl, off, rfl, hel⟩ := HEL.out (by omega)
          obtain ⟨a, ha, _, x0, x1, x2⟩ := hel k hlt
          obtain ⟨b, hb, _, x3, x4, x5⟩ := hel l hlt2
          obtain ⟨x6, x7, x8⟩ := blkc3 KG.out
          have zb := World.block_lt_of_cell? _ _ x0
          simp only at zb
          replace x0 := bkeep hB x0
          replace x1 := bkeep hB x1
          replace x2 := bkeep hB x2
          replace x3 := bkeep hB x3
          replace x4 := bkeep hB x4
          replace x5 := bkeep hB x5
          have HS0 : Hid ((fun w' => w'.cell? ⟨bl, off + k * 3, none⟩ = some (.int .i64 a.1) ∧ w'.cell? ⟨bl, off + k * 3 + 1, none⟩ = some (.int .i64 a.2.1) ∧ w'.cell? ⟨bl, off + k * 3 + 2, none⟩ = some (.int .u32 a.2.2) ∧ w'.cell? ⟨bl, off + l * 3, none⟩ = some (.int .i64 b.1) ∧ w'.cell? ⟨bl, off + l * 3 + 1, none⟩ = some (.int .i64 b.2.1) ∧ w'.cell? ⟨bl, off + l * 3 + 2, none⟩ = some (.int .u32 b.2.2) ∧ w'.cell? ⟨w.heap.size, 0, none⟩ = some (.int .i64 g.1) ∧ w'.cell? ⟨w.heap.size, 1, none⟩ = some (.int .i64 g.2.1) ∧ w'.cell? ⟨w.heap.size, 2, none⟩ = some (.int .u32 g.2.2)) W0) := Lib.hid ⟨x0, x1, x2, x3, x4, x5, x6, x7, x8⟩
          have HKP : Hid (∀ w' : World, Below W0.heap.size W0 w' → (fun w' => w'.cell? ⟨bl, off + k * 3, none⟩ = some (.int .i64 a.1) ∧ w'.cell? ⟨bl, off + k * 3 + 1, none⟩ = some (.int .i64 a.2.1) ∧ w'.cell? ⟨bl, off + k * 3 + 2, none⟩ = some (.int .u32 a.2.2) ∧ w'.cell? ⟨bl, off + l * 3, none⟩ = some (.int .i64 b.1) ∧ w'.cell? ⟨bl, off + l * 3 + 1, none⟩ = some (.int .i64 b.2.1) ∧ w'.cell? ⟨bl, off + l * 3 + 2, none⟩ = some (.int .u32 b.2.2) ∧ w'.cell? ⟨w.heap.size, 0, none⟩ = some (.int .i64 g.1) ∧ w'.cell? ⟨w.heap.size, 1, none⟩ = some (.int .i64 g.2.1) ∧ w'.cell? ⟨w.heap.size, 2, none⟩ = some (.int .u32 g.2.2)) w') := Lib.hid fun w' hb => by
            obtain ⟨h0, h1, h2, h3, h4, h5, h6, h7, h8⟩ := HS0.out
            exact ⟨bkeep hb h0, bkeep hb h1, bkeep hb h2, bkeep hb h3, bkeep hb h4, bkeep hb h5, bkeep hb h6, bkeep hb h7, bkeep hb h8⟩
          obtain ⟨s0, s1, s2, s3, s4, s5, s6, s7, s8⟩ := HKP.out V0 hBi
          have HC := Lib.hid (HJ.out k l a b ha hb)
          obtain ⟨X, hX⟩ : ∃ X, Hid (D k l = X) := ⟨_, Lib.hid rfl⟩
          rw [hX.out] at HC
          have hXok : Hid (okFr X) := Lib.hid (by rw [← hX.out]; exact HD.out k l hlt hlt2)
          have hz := hBi.size
          have hzW := hB.size
          have HGE := Lib.hid hA1.out.ge
          have hml : Hid (List.length (α := shFr.T) (rowL l (D k)) = l) := Lib.hid (rowL_len _ _)
          clear hel ha hb x0 x1 x2 x3 x4 x5 x6 x7 x8
          go_wp2_with fail
          (refine wp_region_held_drew (S := (fun w' => w'.cell? ⟨bl, off + k * 3, none⟩ = some (.int .i64 a.1) ∧ w'.cell? ⟨bl, off + k * 3 + 1, none⟩ = some (.int .i64 a.2.1) ∧ w'.cell? ⟨bl, off + k * 3 + 2, none⟩ = some (.int .u32 a.2.2) ∧ w'.cell? ⟨bl, off + l * 3, none⟩ = some (.int .i64 b.1) ∧ w'.cell? ⟨bl, off + l * 3 + 1, none⟩ = some (.int .i64 b.2.1) ∧ w'.cell? ⟨bl, off + l * 3 + 2, none⟩ = some (.int .u32 b.2.2) ∧ w'.cell? ⟨w.heap.size, 0, none⟩ = some (.int .i64 g.1) ∧ w'.cell? ⟨w.heap.size, 1, none⟩ = some (.int .i64 g.2.1) ∧ w'.cell? ⟨w.heap.size, 2, none⟩ = some (.int .u32 g.2.2))) (by kernel_rfl) ?_ (fun hHeld => ?_); (focus (first | exact hS | (simp [*, go_sem]; done) | fail)); refine rt 0 (some 23) (v := ?_) rfl rfl ?_ ?_; rotate_left; (focus (intro w' hSw; (try dsimp only at hSw); go_simp; (try with_reducible rfl))); (try simp only [Act.put, nA, nB, nC]); refine rt 1 (some 24) (v := ?_) rfl rfl ?_ ?_; rotate_left; (focus (intro w' hSw; (try dsimp only at hSw); go_simp; (try with_reducible rfl))); (try simp only [Act.put, nA, nB, nC]); refine rt 2 (some 25) (v := ?_) rfl rfl ?_ ?_; rotate_left; (focus (intro w' hSw; (try dsimp only at hSw); go_simp; (try with_reducible rfl))); (try simp only [Act.put, nA, nB, nC]); refine rt 3 (some 26) (v := ?_) rfl rfl ?_ ?_; rotate_left; (focus (intro w' hSw; (try dsimp only at hSw); go_simp; (try with_reducible rfl))); (try simp only [Act.put, nA, nB, nC]); refine rt 4 (some 27) (v := ?_) rfl rfl ?_ ?_; rotate_left; (focus (intro w' hSw; (try dsimp only at hSw); go_simp; (try with_reducible rfl))); (try simp only [Act.put, nA, nB, nC]); refine rt 5 (some 28) (v := ?_) rfl rfl ?_ ?_; rotate_left; (focus (intro w' hSw; (try dsimp only at hSw); go_simp; (try with_reducible rfl))); (try simp only [Act.put, nA, nB, nC]); refine rt 6 (some 29) (v := ?_) rfl rfl ?_ ?_; rotate_left; (focus (intro w' hSw; (try dsimp only at hSw); go_simp; (try with_reducible rfl))); (try simp only [Act.put, nA, nB, nC]); refine rt 7 (some 30) (v := ?_) rfl rfl ?_ ?_; rotate_left; (focus (intro w' hSw; (try dsimp only at hSw); go_simp; (try with_reducible rfl))); (try simp only [Act.put, nA, nB, nC]); refine rt 8 (some 31) (v := ?_) rfl rfl ?_ ?_; rotate_left; (focus (intro w' hSw; (try dsimp only at hSw); go_simp; (try with_reducible rfl))); (try simp only [Act.put, nA, nB, nC]); refine rt 9 (some 32) (v := ?_) rfl rfl ?_ ?_; rotate_left; (focus (intro w' hSw; (try dsimp only at hSw); go_simp; (try with_reducible rfl))); (try simp only [Act.put, nA, nB, nC]); refine wpAnyH_ready (rs := [10]) (by kernel_rfl) (by simp) ?_; refine AllReadyH.cons rfl (fun K hK => ?_) AllReadyH.nil; go_simp; (go_at_call 129; refine Calls.mono (HC.out _) ?_; rintro e0 w3 ⟨rfl, hb⟩; have HB3 := Lib.hid (show Below V0.heap.size V0 w3 from Below.trans belA (hb.mono (by first | exact Nat.le_refl _ | (simp; done)))); have hS := HKP.out _ (hBi.trans (HB3.out.mono hz)); have hz3 := HB3.out.size; have v1 : bl < w3.heap.size := (by omega); have v2 : w.heap.size < w3.heap.size := (by omega); clear hb); go_wp2_with fail; refine hK.out _ _ ?_ (fun hHeld => ?_); (focus (first | exact hS | (simp [*, go_sem]; done) | fail)); clear hK K; (try simp only [Act.put, nA, nB, nC]); refine wpAnyH_ready (rs := [11]) (by kernel_rfl) (by simp) ?_; refine AllReadyH.cons rfl (fun K hK => ?_) AllReadyH.nil; (try go_simp); refine hK.out _ _ ?_ (fun hHeld => ?_); (focus (first | exact hS | (simp [*, go_sem]; done) | fail)); clear hK K; (try simp only [Act.put, nA, nB, nC]); refine wpAnyH_ready (rs := [12]) (by kernel_rfl) (by simp) ?_; refine AllReadyH.cons rfl (fun K hK => ?_) AllReadyH.nil; (obtain ⟨L, hown0, hnext⟩ := AppS.flat flatFr ((hA1.out.below HB3.out).below (bal (Below.refl _ _) (.cells #[.int .i64 X.1, .int .i64 X.2] 54))); rw [hml.out] at hown0 hnext; refine step_append_lies _ rfl (.tmp 23) (.tmp 34) 94 rfl W0.heap.size 54 i1 z1 2 16 Tryz.underlying94 I1.out Z1.out hs1 hb1 hl1 (by decide) u7 l L rfl hown0 ⟨w3.heap.size, 0, none⟩ 1 1 [.int .i64 X.1, .int .i64 X.2] rfl rfl (World.news_of_block (blknew _ _)) (by simp [Value.oneCell']) (by decide) (by unfold maxLen; omega) (by omega) (by simp; omega) _ rfl ?_; intro g1 cap2 w5 hown hgrow hat hlt3; have hN2 := Lib.hid (hnext X hXok.out g1 cap2 w5 hown hgrow hat); have hg2 := grown_below (B := W0.heap.size) hgrow (fun q hq => (HGE.out q hq).1) (by simp; omega); have HB5 := Lib.hid ((hBi.trans ((bal HB3.out (.cells #[.int .i64 X.1, .int .i64 X.2] 54)).mono hz)).trans hg2); have hS := HKP.out _ HB5.out; clear hown0 hnext hown hgrow hat hg2); refine hK.out _ _ ?_ (fun hHeld => ?_); (focus (first | exact hS | (simp [*, go_sem]; done) | fail)); clear hK K; (try simp only [Act.put, nA, nB, nC]); refine rt 13 (some 7) (v := ?_) rfl rfl ?_ ?_; rotate_left; (focus (intro w' hSw; (try dsimp only at hSw); go_simp; (try with_reducible rfl))); (try simp only [Act.put, nA, nB, nC]); refine wpAnyH_done (by kernel_rfl) ?_ _)
          clear hHeld
          go_wp2_with fail
          go_roundw
          case rel => exact ⟨l + 1, by omega, by go_num, Lib.hid (by rw [rowL_succ, hX.out]; exact hN2.out), HB5.out⟩
          case measure => simp [intOf]; omega
        · have e : l = n := by omega
          subst e
          obtain ⟨A1, cap1, F1, he, hO⟩ := hA1.out.own
          replace he : u7 = .slice A1 (rowL l (D k)).length cap1 := he
          rw [rowL_len] at he
          subst he
          obtain ⟨L, F, hW00⟩ := hA.out
          have hW0 := hW00.move (w' := V0) (fun b h1 h2 => hBi.block b h2)
          have hW := hW0.move (w' := V0.alloc (.cells #[.slice A1 l cap1] 94)) (fun b _ hl => Below.heap_alloc V0 _ b hl)
          have hW := Lib.hid hW
          have hO := Lib.hid hO
          have hFb : Hid (∀ b ∈ F, b < W0.heap.size) := Lib.hid hW00.2.1.lt
          have hz := hBi.size
          have hzW := hB.size
          clear hW0 hW00
          go_wp2_with (at_builtin; refine wpList_append_lies _ rfl (.tmp 36) (.tmp 38) 36 rfl (w.heap.size + 1) 94 i2 z2 1 24 Tryz.underlying36 I2.out Z2.out hs2 hb2 hl2 (by decide) u5 (matL k l D).length L rfl hW.out.1 ⟨V0.heap.size, 0, none⟩ 1 1 [.slice A1 l cap1] rfl rfl (World.news_of_block (blknew _ _)) (by simp [Value.oneCell']) (by decide) (by rw [matL_len]; unfold maxLen; omega) (by rw [matL_len]; omega) (by simp; omega) _ rfl ?_; intro g1 cap2 w2 hown hgrow hat hlt3)
          go_roundw
          case rel =>
            have hOw : (shL shFr).own (V0.alloc (.cells #[.slice A1 l cap1] 94)) (rowL l (D k)) [.slice A1 l cap1] F1 := (shL shFr).ownKeep _ _ _ _ _ (fun b hb => Below.heap_alloc V0 _ b (hO.out.lt b hb)) hO.out.1
            have hAo := hA.out.ge
            have hFo := hFb.out
            have hN := hW.out.next (s := shL shFr) (d := rowL l (D k)) hOw hO.out.2.1 (fun b hb => by have := hO.out.2.2 b hb; omega) (fun b hb hb2 => by have := hO.out.2.2 b hb; have := hFo b hb2; omega) (fun q hq hb => by have := hO.out.2.2 q hb; have := (hAo q hq).2; omega) hown hgrow hat
            have hbA : Below W0.heap.size W0 (V0.alloc (.cells #[.slice A1 l cap1] 94)) := bthen hBi (bal (Below.refl _ _) _)
            have hb2 := grown_below (B := w.heap.size + 1) hgrow (fun q hq => (hAo q hq).1) (by simp; omega)
            refine ⟨k + 1, by omega, by go_num, Lib.hid ?_, bblk hb2 (by omega) (bblk hbA yg KG.out), (hB.trans (hbA.mono hB.size)).trans (hb2.mono (by omega))⟩
            have hN : AppS (shL shFr) (w.heap.size + 1) 94 w2 (.slice (some ⟨g1, 0, none⟩) ((matL k l D).length + 1) cap2) (matL k l D ++ [rowL l (D k)]) := hN
            rw [← matL_succ] at hN
            exact hN
          case measure => simp [intOf]; omega
    · have e : k = n := by omega
      subst e
      obtain ⟨A1, cap1, F1, he, hO⟩ := hA.out.own
      replace he : u5 = .slice A1 (matL k k D).length cap1 := he
      rw [matL_len] at he
      subst he
      have hO := Lib.hid hO
      go_wp2_with fail
      exact bodyPost_ret (v := .slice A1 k cap1) (by simp [results, Tryz.results160, go_sem]) rfl ⟨A1, cap1, F1, rfl, hO.out.below (by omega) (Below.refl _ _), hB⟩
end Go.Proofs.YtekchdgpaemofaaGreat
