/- impl.overAll: the sum of all flags, each times what is told of it. -/
import Derived.Test.YtpcjinbbgnmchaaGreatTd
import Derived.Test.YtpcjinbbgnmchaaGreatFa
import Derived.Test.YtpcjinbbgnmchaaGreatSl
namespace Go.Proofs.YtpcjinbbgnmchaaGreat
open Go.ChangeShapes Go.WideShapes Go.RowKit
set_option linter.unusedVariables false
set_option linter.unusedSimpArgs false
attribute [local irreducible] Calls
/-- The terms: each flag with its fraction. -/
def tmOf (D : shFlag.T → Int × Int) (h : shFlag.T) : shTerm.T := (h, D h)
def ovX (L : List shFlag.T) (D : shFlag.T → Int × Int) : List shTerm.T := L.map (tmOf D)
def anyZ (z : shFlag.T → Bool) (L : List shFlag.T) : Bool := L.any z
theorem anyZ_succ {z : shFlag.T → Bool} {L : List shFlag.T} {k : Nat} {d : shFlag.T} (h : L[k]? = some d) : anyZ z (L.take (k + 1)) = (anyZ z (L.take k) || z d) := by
  unfold anyZ; rw [List.take_add_one, h, List.any_append]; simp
def ovC (tn : Nat) (te : Int) (n : Nat) (D : shFlag.T → Int × Int) (z : shFlag.T → Bool) : Int := if (flagsL tn te n []).length ≤ 64 then tdC (anyZ z (flagsF tn te n [])) (ovX (flagsF tn te n []) D) else 3
set_option maxHeartbeats 4000000 in
theorem overAll_any (w : World) (tn n : Nat) (te : Int) (f : FuncId) (caps : Array Value) (D : shFlag.T → Int × Int) (z : shFlag.T → Bool) (htn : tn ≤ n) (hn : n ≤ 5)
    (eg : ∀ args w, (callFunc f args).run Tryz.prog w = .ok (.enter f args) w) (hD : ∀ h, h ∈ flagsF tn te n [] → okFr (D h))
    (hof : ∀ (W : World) (b : Nat) (g : Bool) (h : shFlag.T), h ∈ flagsF tn te n [] → Below w.heap.size w W → w.heap.size ≤ b → W.cell? ⟨b, 0, none⟩ = some (.bool g) → W.frozen? ⟨b, 0, none⟩ = false →
      Calls Tryz.prog f (#[.pointer (some ⟨b, 0, none⟩), .agg #[.int .i64 h.1, .int .i64 h.2.1, .int .u32 h.2.2]] ++ caps) W fun e W' => e = .returned (.agg #[.int .i64 (D h).1, .int .i64 (D h).2]) ∧ Below W.heap.size (W.setCell ⟨b, 0, none⟩ (.bool (g || z h))) W') :
    Calls Tryz.prog 41 #[.agg #[.int .i64 tn, .int .u32 te], .int .i64 n, .func (.func f) #[] caps] w (SumRet w.heap.size w (ovC tn te n D z) (tdT (ovC tn te n D z) (tn, te)) (tdS (ovC tn te n D z) n) (tdL (ovC tn te n D z) (nzT (ovX (flagsF tn te n []) D)))) := by
  obtain ⟨i1, z1, hi1, hz1, hs1, hb1, hl1⟩ := infoB_spec (P := Tryz.prog) (e := 84) (sz := 5) (bytes := 40) (by kernel_rfl)
  have I1 := Lib.hid hi1
  have Z1 := Lib.hid hz1
  have HOF := Lib.hid hof
  have HD := Lib.hid hD
  clear hi1 hz1 hof hD
  obtain ⟨GL, hGL, N, hN, hLn, hNl⟩ : ∃ GL : List shFlag.T, Hid ((show List shFlag.T from flagsF tn te n []) = GL) ∧ ∃ N : Nat, Hid (GL.length = N) ∧ Hid ((flagsL tn te n []).length = N) ∧ N ≤ 1024 :=
    ⟨_, Lib.hid rfl, _, Lib.hid rfl, Lib.hid (List.length_map _).symm, by rw [show List.length (α := shFlag.T) (flagsF tn te n []) = (flagsL tn te n []).length from List.length_map _]; exact flagsL_len tn te n hn []⟩
  have hdec : Hid (decide ((flagsL tn te n []).length ≤ 64) = decide (N ≤ 64)) := Lib.hid (by rw [hLn.out])
  go_enter Tryz.func41, Tryz.ntmps41
  go_wp2_with fail
  refine Calls.mono (allFlags_any _ tn n te [] _ (Own.nil shGr 0 _ 0 (Nat.zero_le _) none).lst htn hn (by simp) (by simp)) ?_
  rintro e0 w1 ⟨A1, cap1, F1, rfl, hO1, hb⟩
  have hO1' : Own shFlag w.heap.size w1 GL (.slice A1 N cap1) F1 := by
    have := hO1.below (B' := w.heap.size) (by simp; omega) (Below.refl _ _)
    rw [hGL.out, hN.out] at this
    exact this
  rw [hGL.out, hN.out, hdec.out]
  have hF1 : Hid (∀ b ∈ F1, b < w1.heap.size) := Lib.hid fun b hb => hO1'.lt b hb
  have hz1 : w.heap.size + 1 + 1 ≤ w1.heap.size := by have := hb.size; simp at this; exact this
  have hbl : Below w.heap.size w w1 := Below.trans belA (hb.mono (by simp; omega))
  have k0 : w1.heap[w.heap.size]? = some (.cells #[.int .i64 tn, .int .u32 te] 31 (0, 0)) := bblk hb (by simp; omega) blkA
  have k1 : w1.heap[w.heap.size + 1]? = some (.cells #[.int .i64 0, .int .u32 0, .int .i64 0, .slice none 0 0] 34 (0, 0)) := bblk hb (by simp) blkA
  have HO1 := Lib.hid hO1'
  have HB1 := Lib.hid hbl
  have K0 := Lib.hid k0
  have K1 := Lib.hid k1
  obtain ⟨s0, s1, _, _⟩ := blk2 k0
  obtain ⟨r0, r1, r2, r3⟩ : w1.cell? ⟨w.heap.size + 1, 0, none⟩ = some (.int .i64 0) ∧ w1.cell? ⟨w.heap.size + 1, 1, none⟩ = some (.int .u32 0) ∧ w1.cell? ⟨w.heap.size + 1, 2, none⟩ = some (.int .i64 0) ∧ w1.cell? ⟨w.heap.size + 1, 3, none⟩ = some (.slice none 0 0) := by simp [World.cell?, k1]
  obtain ⟨f0, f1, f2, f3⟩ : w1.frozen? ⟨w.heap.size + 1, 0, none⟩ = false ∧ w1.frozen? ⟨w.heap.size + 1, 1, none⟩ = false ∧ w1.frozen? ⟨w.heap.size + 1, 2, none⟩ = false ∧ w1.frozen? ⟨w.heap.size + 1, 3, none⟩ = false := by simp [World.frozen?, k1]
  clear hb hO1 hO1' hbl k0 k1
  by_cases h64 : N ≤ 64
  rotate_left
  · have hc : Hid (ovC tn te n D z = 3) := Lib.hid (by unfold ovC; rw [hLn.out, if_neg h64])
    have hd : decide (N ≤ 64) = false := by simp; omega
    rw [hd, hc.out]
    clear hd
    go_wp2_with fail
    refine bodyPost_ret (v := .tuple #[.agg #[.int .i64 0, .int .u32 0, .int .i64 0, .slice none 0 0], .int .i64 3]) (by simp [results, Tryz.results41, go_sem, *]) rfl ?_
    rw [hc.out]
    exact sumRet_no rfl rfl rfl (by have hb2 := HB1.out; exact belA) rfl
  have hd : decide (N ≤ 64) = true := by simp; omega
  rw [hd]
  clear hd
  go_wp2_with fail
  go_loopw [28] (fun i wr => ∃ (k : Nat) (o : Value), k ≤ N ∧ i = .int .i64 k ∧ wr.heap[w1.heap.size]? = some (.cells #[.bool (anyZ z (GL.take k)), .int .i64 tn, .int .u32 te, .int .i64 n, o] 116 (0, 0)) ∧ wr.heap[w.heap.size + 1]? = some (.cells #[.int .i64 0, .int .u32 0, .int .i64 0, .slice none 0 0] 34 (0, 0)) ∧ Hid (AppS shTerm (w1.heap.size + 1) 84 wr o ((GL.take k).map (tmOf D))) ∧ Hid (Own shFlag 0 wr GL (.slice A1 N cap1) F1) ∧ Below w.heap.size w wr ∧ w1.heap.size ≤ wr.heap.size) (fun i _ => N - (intOf i).toNat)
  case atStart =>
    have hb2 := HB1.out
    have hK1 := K1.out
    refine ⟨0, .slice none 0 0, Nat.zero_le _, rfl, (by rw [show anyZ z (GL.take 0) = false from rfl]; exact blknew _ _), blkA, Lib.hid (AppS.nil _ _ _ _), Lib.hid (HO1.out.below (Nat.zero_le _) belA), belA, by simp⟩
  case round =>
    obtain ⟨k, o, hk, rfl, b0, b1, hA, hG, hB, hzz⟩ := hrel
    obtain ⟨⟨q0, q1, q2, q3, q4⟩, p0⟩ := blk5 b0
    have p4 := p0 4
    have p00 := p0 0
    have y0 := blklt b0
    have y1 := blklt b1
    have B0 := Lib.hid b0
    have B1 := Lib.hid b1
    clear b0 b1 p0
    by_cases hlt : k < N
    · have hk8 : (k : Int) < (N : Int) := by omega
      obtain ⟨_, _, hv, _, _, hoks, hel⟩ := lstFlag hG.out.lst
      injection hv with e1 e2 e3
      obtain ⟨bl, off, e4, hel⟩ := hel (by omega)
      rw [← e1] at e4
      subst e4
      obtain ⟨d, hd, hok, c0, c1, c2⟩ := hel k (by omega)
      have zb := World.block_lt_of_cell? _ _ c0
      simp only at zb
      have HDd := Lib.hid hd
      have HOK := Lib.hid hok
      have HM : Hid (d ∈ flagsF tn te n []) := Lib.hid (by have := List.mem_of_getElem? hd; rw [← hGL.out] at this; exact this)
      clear hel hoks hd hok e1 e2 e3
      obtain ⟨W0, rfl⟩ : ∃ x, x = wr := ⟨_, rfl⟩
      have hW0 : Below W0.heap.size W0 (W0.alloc (.cells #[.int .i64 d.1, .int .i64 d.2.1, .int .u32 d.2.2] 81)) := belA
      have HW0 := Lib.hid hW0
      have hnx : Hid ((GL.take (k + 1)).map (tmOf D) = (GL.take k).map (tmOf D) ++ [tmOf D d]) := Lib.hid (by have hd' : (GL[k]? : Option shFlag.T) = some d := HDd.out; rw [List.take_add_one, hd', List.map_append]; rfl)
      have hml : Hid (List.length (α := shTerm.T) ((GL.take k).map (tmOf D)) = k) := Lib.hid ((List.length_map _).trans (take_len (by rw [hN.out]; exact hk)))
      have hAge : Hid (∀ q, o.ownBlock = some q → w1.heap.size + 1 ≤ q ∧ q < W0.heap.size) := Lib.hid hA.out.ge
      have hne : w1.heap.size ≠ W0.heap.size := by omega
      have HCALL : Hid (Calls Tryz.prog f (#[.pointer (some ⟨w1.heap.size, 0, none⟩), .agg #[.int .i64 d.1, .int .i64 d.2.1, .int .u32 d.2.2]] ++ caps) (W0.alloc (.cells #[.int .i64 d.1, .int .i64 d.2.1, .int .u32 d.2.2] 81)).drew fun e W' => e = .returned (.agg #[.int .i64 (D d).1, .int .i64 (D d).2]) ∧
          W'.heap[w1.heap.size]? = some (.cells #[.bool (anyZ z (GL.take (k + 1))), .int .i64 tn, .int .u32 te, .int .i64 n, o] 116 (0, 0)) ∧ W'.heap[W0.heap.size]? = some (.cells #[.int .i64 d.1, .int .i64 d.2.1, .int .u32 d.2.2] 81 (0, 0)) ∧
          W'.heap[w.heap.size + 1]? = some (.cells #[.int .i64 0, .int .u32 0, .int .i64 0, .slice none 0 0] 34 (0, 0)) ∧ AppS shTerm (w1.heap.size + 1) 84 W' o ((GL.take k).map (tmOf D)) ∧ Own shFlag 0 W' GL (.slice (some ⟨bl, off, none⟩) N cap1) F1 ∧ Below w.heap.size w W' ∧ W0.heap.size + 1 ≤ W'.heap.size) := Lib.hid (by
        have b0 := B0.out
        have b1 := B1.out
        refine Calls.mono (HOF.out _ w1.heap.size (anyZ z (GL.take k)) d HM.out (by exact belA) (by omega) (by show (W0.alloc _).cell? _ = _; exact (blk5 (show (W0.alloc _).heap[w1.heap.size]? = _ from blkA)).1.1) (by exact (blk5 (show (W0.alloc _).heap[w1.heap.size]? = _ from blkA)).2 0)) ?_
        rintro e W' ⟨rfl, hb⟩
        have hlt1 : w1.heap.size < ((W0.alloc (.cells #[.int .i64 d.1, .int .i64 d.2.1, .int .u32 d.2.2] 81)).drew).heap.size := by simp; omega
        have hlt2 : W0.heap.size < ((W0.alloc (.cells #[.int .i64 d.1, .int .i64 d.2.1, .int .u32 d.2.2] 81)).drew).heap.size := by simp
        have kb : (W0.alloc (.cells #[.int .i64 d.1, .int .i64 d.2.1, .int .u32 d.2.2] 81)).heap[w1.heap.size]? = some (.cells #[.bool (anyZ z (GL.take k)), .int .i64 tn, .int .u32 te, .int .i64 n, o] 116 (0, 0)) := blkA
        have kh : (W0.alloc (.cells #[.int .i64 d.1, .int .i64 d.2.1, .int .u32 d.2.2] 81)).heap[W0.heap.size]? = some (.cells #[.int .i64 d.1, .int .i64 d.2.1, .int .u32 d.2.2] 81 (0, 0)) := blkA
        have kr : (W0.alloc (.cells #[.int .i64 d.1, .int .i64 d.2.1, .int .u32 d.2.2] 81)).heap[w.heap.size + 1]? = some (.cells #[.int .i64 0, .int .u32 0, .int .i64 0, .slice none 0 0] 34 (0, 0)) := blkA
        have hbb : Below w.heap.size w (W0.alloc (.cells #[.int .i64 d.1, .int .i64 d.2.1, .int .u32 d.2.2] 81)) := belA
        refine ⟨rfl, ?_, ?_, ?_, ?_, ?_, ?_, by have := hb.size; simp at this; omega⟩
        · rw [anyZ_succ HDd.out]
          exact (hb.block _ hlt1).trans (blkset0 (w := (W0.alloc (.cells #[.int .i64 d.1, .int .i64 d.2.1, .int .u32 d.2.2] 81)).drew) kb 0 _)
        · exact (hb.block _ hlt2).trans (blkset (w := (W0.alloc (.cells #[.int .i64 d.1, .int .i64 d.2.1, .int .u32 d.2.2] 81)).drew) kh (by show W0.heap.size ≠ w1.heap.size; omega) _)
        · exact (hb.block _ (by omega)).trans (blkset (w := (W0.alloc (.cells #[.int .i64 d.1, .int .i64 d.2.1, .int .u32 d.2.2] 81)).drew) kr (by show w.heap.size + 1 ≠ w1.heap.size; omega) _)
        · refine AppS.move (AppS.below hA.out HW0.out) fun q h1 h2 => (hb.block q (by simpa using h2)).trans (Below.heap_setCell _ ⟨w1.heap.size, 0, none⟩ _ q (by show q ≠ w1.heap.size; omega))
        · have hG2 := hG.out.below (Nat.le_refl _) HW0.out
          refine ⟨(shL shFlag).ownKeep _ _ _ _ _ (fun q hq => (hb.block q (by have := hG2.lt q hq; simpa using this)).trans (Below.heap_setCell _ ⟨w1.heap.size, 0, none⟩ _ q (by have := hF1.out q hq; show q ≠ w1.heap.size; omega))) hG2.1, hG2.2⟩
        · exact (Below.setCell (bdrew1 hbb) (by show w.heap.size ≤ w1.heap.size; omega) _).trans (hb.mono (by simp; omega)))
      go_wp2_with fail
      (refine wp_region_held_drew (S := (fun w' => w'.cell? ⟨W0.heap.size, 0, none⟩ = some (.int .i64 d.1) ∧ w'.cell? ⟨W0.heap.size, 1, none⟩ = some (.int .i64 d.2.1) ∧ w'.cell? ⟨W0.heap.size, 2, none⟩ = some (.int .u32 d.2.2))) (by kernel_rfl) ?_ (fun hHeld => ?_); (focus (first | (simp [*, go_sem]; done) | fail)); refine rt 0 (some 32) (v := ?_) rfl rfl ?_ ?_; rotate_left; (focus (intro w' hSw; (try dsimp only at hSw); go_simp; (try with_reducible rfl))); (try simp only [Act.put, nA, nB, nC]); refine rt 1 (some 33) (v := ?_) rfl rfl ?_ ?_; rotate_left; (focus (intro w' hSw; (try dsimp only at hSw); go_simp; (try with_reducible rfl))); (try simp only [Act.put, nA, nB, nC]); refine rt 2 (some 34) (v := ?_) rfl rfl ?_ ?_; rotate_left; (focus (intro w' hSw; (try dsimp only at hSw); go_simp; (try with_reducible rfl))); (try simp only [Act.put, nA, nB, nC]); refine rt 3 (some 35) (v := ?_) rfl rfl ?_ ?_; rotate_left; (focus (intro w' hSw; (try dsimp only at hSw); go_simp; (try with_reducible rfl))); (try simp only [Act.put, nA, nB, nC]); refine rt 5 (some 37) (v := ?_) rfl rfl ?_ ?_; rotate_left; (focus (intro w' hSw; (try dsimp only at hSw); go_simp; (try with_reducible rfl))); (try simp only [Act.put, nA, nB, nC]); refine rt 6 (some 38) (v := ?_) rfl rfl ?_ ?_; rotate_left; (focus (intro w' hSw; (try dsimp only at hSw); go_simp; (try with_reducible rfl))); (try simp only [Act.put, nA, nB, nC]); refine rt 7 (some 39) (v := ?_) rfl rfl ?_ ?_; rotate_left; (focus (intro w' hSw; (try dsimp only at hSw); go_simp; (try with_reducible rfl))); (try simp only [Act.put, nA, nB, nC]); refine rt 8 (some 40) (v := ?_) rfl rfl ?_ ?_; rotate_left; (focus (intro w' hSw; (try dsimp only at hSw); go_simp; (try with_reducible rfl))); (try simp only [Act.put, nA, nB, nC]); refine rt 9 (some 41) (v := ?_) rfl rfl ?_ ?_; rotate_left; (focus (intro w' hSw; (try dsimp only at hSw); go_simp; (try with_reducible rfl))); (try simp only [Act.put, nA, nB, nC]); refine rt 10 (some 42) (v := ?_) rfl rfl ?_ ?_; rotate_left; (focus (intro w' hSw; (try dsimp only at hSw); go_simp; (try with_reducible rfl))); (try simp only [Act.put, nA, nB, nC]); refine wpAnyH_ready (rs := [4, 11]) (by kernel_rfl) (by simp) ?_; refine AllReadyH.cons rfl (fun K hK => ?_) (AllReadyH.cons rfl (fun K hK => ?_) AllReadyH.nil); (focus ((try go_simp); refine hK.out _ _ ?_ (fun hHeld => ?_); (focus (first | (simp [*, go_sem]; done) | fail)); clear hK K; (try simp only [Act.put, nA, nB, nC]); refine wpAnyH_ready (rs := [11]) (by kernel_rfl) (by simp) ?_; refine AllReadyH.cons rfl (fun K hK => ?_) AllReadyH.nil; go_simp; (refine Calls.mono HCALL.out ?_; rintro e0 w3 ⟨rfl, g1, g2, g3, hA3, hG3, hB3, hz3⟩; have G1 := Lib.hid g1; have G2 := Lib.hid g2; have G3 := Lib.hid g3; have hA3 := Lib.hid hA3; have hG3 := Lib.hid hG3; have hB3 := Lib.hid hB3; obtain ⟨hh0, hh1, hh2⟩ := blk3c g2; have hg4 := (blk5 g1).1.2.2.2.2; clear g1 g2 g3; have hz4 : W0.heap.size < w3.heap.size := (by omega); have hz7 : w1.heap.size < w3.heap.size := (by omega)); go_wp2_with fail; refine hK.out _ _ ?_ (fun hHeld => ?_); (focus (first | (simp [*, go_sem]; done) | fail)); clear hK K; (try simp only [Act.put, nA, nB, nC]); refine rt 12 (some 44) (v := ?_) rfl rfl ?_ ?_; rotate_left; (focus (intro w' hSw; (try dsimp only at hSw); go_simp; (try with_reducible rfl))); (try simp only [Act.put, nA, nB, nC]); refine wpAnyH_ready (rs := [13]) (by kernel_rfl) (by simp) ?_; refine AllReadyH.cons rfl (fun K hK => ?_) AllReadyH.nil; (try go_simp); refine hK.out _ _ ?_ (fun hHeld => ?_); (focus (first | (simp [*, go_sem]; done) | fail)); clear hK K; (try simp only [Act.put, nA, nB, nC]); refine wpAnyH_ready (rs := [14]) (by kernel_rfl) (by simp) ?_; refine AllReadyH.cons rfl (fun K hK => ?_) AllReadyH.nil; (obtain ⟨L, hown0, hnext⟩ := AppS.flat flatTerm (hA3.out.below (bal (Below.refl _ _) (.cells #[.int .i64 d.1, .int .i64 d.2.1, .int .u32 d.2.2, .int .i64 (D d).1, .int .i64 (D d).2] 84))); rw [hml.out] at hown0 hnext; refine step_append_lies _ rfl (.tmp 36) (.tmp 45) 32 rfl (w1.heap.size + 1) 84 i1 z1 5 40 Tryz.underlying32 I1.out Z1.out hs1 hb1 hl1 (by decide) o k L rfl hown0 ⟨w3.heap.size, 0, none⟩ 1 1 [.int .i64 d.1, .int .i64 d.2.1, .int .u32 d.2.2, .int .i64 (D d).1, .int .i64 (D d).2] rfl rfl (World.news_of_block (blknew _ _)) (by simp [Value.oneCell']) (by decide) (by unfold maxLen; omega) (by omega) (by simp; omega) _ rfl ?_; intro g1 cap2 w4 hown hgrow hat hlt3; have hN4 := Lib.hid (hnext (tmOf D d) ⟨HOK.out, HD.out d HM.out⟩ g1 cap2 w4 hown hgrow hat); have k4 : w4.heap[w1.heap.size]? = _ := (hgrow.block w1.heap.size (by simp; omega) (fun e => by have := (hAge.out _ e.symm).1; omega)).trans ((Below.heap_alloc _ _ _ (by omega)).trans G1.out); have K4 := Lib.hid k4; have hq4 := (blk5 k4).1.2.2.2.2; have hp4 := (blk5 k4).2 4; have hz5 := blklt k4; have k5 : w4.heap[W0.heap.size]? = _ := (hgrow.block W0.heap.size (by simp; omega) (fun e => by have := (hAge.out _ e.symm).2; omega)).trans ((Below.heap_alloc _ _ _ (by omega)).trans G2.out); obtain ⟨hk0, hk1, hk2⟩ := blk3c k5; have K6 : Hid (w4.heap[w.heap.size + 1]? = _) := Lib.hid ((hgrow.block (w.heap.size + 1) (by simp; omega) (fun e => by have := (hAge.out _ e.symm).1; omega)).trans ((Below.heap_alloc _ _ _ (by omega)).trans G3.out)); have hG4 := Lib.hid ((hG3.out.below (Nat.le_refl _) (bal (Below.refl _ _) _)).grown hgrow (fun q hq hm => by have h1 := (hAge.out q hq).1; have h2 := hF1.out q hm; omega)); have hB4 := Lib.hid ((hB3.out.alloc (by omega) _).trans ((grown_below (B := w1.heap.size + 1) hgrow (fun q hq => (hAge.out q hq).1) (by simp; omega)).mono (by omega))); have hz6 : W0.heap.size ≤ w4.heap.size := (by have := hgrow.size; simp at this; omega); clear hown0 hnext hown hgrow hat hlt3 k4 k5); refine hK.out _ _ ?_ (fun hHeld => ?_); (focus (first | (simp [*, go_sem]; done) | fail)); clear hK K; (try simp only [Act.put, nA, nB, nC]); refine rt 15 (some 47) (v := ?_) rfl rfl ?_ ?_; rotate_left; (focus (intro w' hSw; (try dsimp only at hSw); go_simp; (try with_reducible rfl))); (try simp only [Act.put, nA, nB, nC]); refine rt 16 (some 48) (v := ?_) rfl rfl ?_ ?_; rotate_left; (focus (intro w' hSw; (try dsimp only at hSw); go_simp; (try with_reducible rfl))); (try simp only [Act.put, nA, nB, nC]); refine wpAnyH_ready (rs := [17]) (by kernel_rfl) (by simp) ?_; refine AllReadyH.cons rfl (fun K hK => ?_) AllReadyH.nil; (try go_simp); refine hK.out _ _ ?_ (fun hHeld => ?_); (focus (first | (simp [*, go_sem]; done) | fail)); clear hK K; (try simp only [Act.put, nA, nB, nC]); refine wpAnyH_done (by kernel_rfl) ?_ _)); rotate_left 1; (focus (go_simp; (refine Calls.mono HCALL.out ?_; rintro e0 w3 ⟨rfl, g1, g2, g3, hA3, hG3, hB3, hz3⟩; have G1 := Lib.hid g1; have G2 := Lib.hid g2; have G3 := Lib.hid g3; have hA3 := Lib.hid hA3; have hG3 := Lib.hid hG3; have hB3 := Lib.hid hB3; obtain ⟨hh0, hh1, hh2⟩ := blk3c g2; have hg4 := (blk5 g1).1.2.2.2.2; clear g1 g2 g3; have hz4 : W0.heap.size < w3.heap.size := (by omega); have hz7 : w1.heap.size < w3.heap.size := (by omega)); go_wp2_with fail; refine hK.out _ _ ?_ (fun hHeld => ?_); (focus (first | (simp [*, go_sem]; done) | fail)); clear hK K; (try simp only [Act.put, nA, nB, nC]); refine rt 12 (some 44) (v := ?_) rfl rfl ?_ ?_; rotate_left; (focus (intro w' hSw; (try dsimp only at hSw); go_simp; (try with_reducible rfl))); (try simp only [Act.put, nA, nB, nC]); refine wpAnyH_ready (rs := [4, 13]) (by kernel_rfl) (by simp) ?_; refine AllReadyH.cons rfl (fun K hK => ?_) (AllReadyH.cons rfl (fun K hK => ?_) AllReadyH.nil); (focus ((try go_simp); refine hK.out _ _ ?_ (fun hHeld => ?_); (focus (first | (simp [*, go_sem]; done) | fail)); clear hK K; (try simp only [Act.put, nA, nB, nC]); refine wpAnyH_ready (rs := [13]) (by kernel_rfl) (by simp) ?_; refine AllReadyH.cons rfl (fun K hK => ?_) AllReadyH.nil; (try go_simp); refine hK.out _ _ ?_ (fun hHeld => ?_); (focus (first | (simp [*, go_sem]; done) | fail)); clear hK K; (try simp only [Act.put, nA, nB, nC]); refine wpAnyH_ready (rs := [14]) (by kernel_rfl) (by simp) ?_; refine AllReadyH.cons rfl (fun K hK => ?_) AllReadyH.nil; (obtain ⟨L, hown0, hnext⟩ := AppS.flat flatTerm (hA3.out.below (bal (Below.refl _ _) (.cells #[.int .i64 d.1, .int .i64 d.2.1, .int .u32 d.2.2, .int .i64 (D d).1, .int .i64 (D d).2] 84))); rw [hml.out] at hown0 hnext; refine step_append_lies _ rfl (.tmp 36) (.tmp 45) 32 rfl (w1.heap.size + 1) 84 i1 z1 5 40 Tryz.underlying32 I1.out Z1.out hs1 hb1 hl1 (by decide) o k L rfl hown0 ⟨w3.heap.size, 0, none⟩ 1 1 [.int .i64 d.1, .int .i64 d.2.1, .int .u32 d.2.2, .int .i64 (D d).1, .int .i64 (D d).2] rfl rfl (World.news_of_block (blknew _ _)) (by simp [Value.oneCell']) (by decide) (by unfold maxLen; omega) (by omega) (by simp; omega) _ rfl ?_; intro g1 cap2 w4 hown hgrow hat hlt3; have hN4 := Lib.hid (hnext (tmOf D d) ⟨HOK.out, HD.out d HM.out⟩ g1 cap2 w4 hown hgrow hat); have k4 : w4.heap[w1.heap.size]? = _ := (hgrow.block w1.heap.size (by simp; omega) (fun e => by have := (hAge.out _ e.symm).1; omega)).trans ((Below.heap_alloc _ _ _ (by omega)).trans G1.out); have K4 := Lib.hid k4; have hq4 := (blk5 k4).1.2.2.2.2; have hp4 := (blk5 k4).2 4; have hz5 := blklt k4; have k5 : w4.heap[W0.heap.size]? = _ := (hgrow.block W0.heap.size (by simp; omega) (fun e => by have := (hAge.out _ e.symm).2; omega)).trans ((Below.heap_alloc _ _ _ (by omega)).trans G2.out); obtain ⟨hk0, hk1, hk2⟩ := blk3c k5; have K6 : Hid (w4.heap[w.heap.size + 1]? = _) := Lib.hid ((hgrow.block (w.heap.size + 1) (by simp; omega) (fun e => by have := (hAge.out _ e.symm).1; omega)).trans ((Below.heap_alloc _ _ _ (by omega)).trans G3.out)); have hG4 := Lib.hid ((hG3.out.below (Nat.le_refl _) (bal (Below.refl _ _) _)).grown hgrow (fun q hq hm => by have h1 := (hAge.out q hq).1; have h2 := hF1.out q hm; omega)); have hB4 := Lib.hid ((hB3.out.alloc (by omega) _).trans ((grown_below (B := w1.heap.size + 1) hgrow (fun q hq => (hAge.out q hq).1) (by simp; omega)).mono (by omega))); have hz6 : W0.heap.size ≤ w4.heap.size := (by have := hgrow.size; simp at this; omega); clear hown0 hnext hown hgrow hat hlt3 k4 k5); refine hK.out _ _ ?_ (fun hHeld => ?_); (focus (first | (simp [*, go_sem]; done) | fail)); clear hK K; (try simp only [Act.put, nA, nB, nC]); refine rt 15 (some 47) (v := ?_) rfl rfl ?_ ?_; rotate_left; (focus (intro w' hSw; (try dsimp only at hSw); go_simp; (try with_reducible rfl))); (try simp only [Act.put, nA, nB, nC]); refine rt 16 (some 48) (v := ?_) rfl rfl ?_ ?_; rotate_left; (focus (intro w' hSw; (try dsimp only at hSw); go_simp; (try with_reducible rfl))); (try simp only [Act.put, nA, nB, nC]); refine wpAnyH_ready (rs := [17]) (by kernel_rfl) (by simp) ?_; refine AllReadyH.cons rfl (fun K hK => ?_) AllReadyH.nil; (try go_simp); refine hK.out _ _ ?_ (fun hHeld => ?_); (focus (first | (simp [*, go_sem]; done) | fail)); clear hK K; (try simp only [Act.put, nA, nB, nC]); refine wpAnyH_done (by kernel_rfl) ?_ _)); rotate_left 1; (focus ((try go_simp); refine hK.out _ _ ?_ (fun hHeld => ?_); (focus (first | (simp [*, go_sem]; done) | fail)); clear hK K; (try simp only [Act.put, nA, nB, nC]); refine wpAnyH_ready (rs := [4]) (by kernel_rfl) (by simp) ?_; refine AllReadyH.cons rfl (fun K hK => ?_) AllReadyH.nil; (try go_simp); refine hK.out _ _ ?_ (fun hHeld => ?_); (focus (first | (simp [*, go_sem]; done) | fail)); clear hK K; (try simp only [Act.put, nA, nB, nC]); refine wpAnyH_ready (rs := [14]) (by kernel_rfl) (by simp) ?_; refine AllReadyH.cons rfl (fun K hK => ?_) AllReadyH.nil; (obtain ⟨L, hown0, hnext⟩ := AppS.flat flatTerm (hA3.out.below (bal (Below.refl _ _) (.cells #[.int .i64 d.1, .int .i64 d.2.1, .int .u32 d.2.2, .int .i64 (D d).1, .int .i64 (D d).2] 84))); rw [hml.out] at hown0 hnext; refine step_append_lies _ rfl (.tmp 36) (.tmp 45) 32 rfl (w1.heap.size + 1) 84 i1 z1 5 40 Tryz.underlying32 I1.out Z1.out hs1 hb1 hl1 (by decide) o k L rfl hown0 ⟨w3.heap.size, 0, none⟩ 1 1 [.int .i64 d.1, .int .i64 d.2.1, .int .u32 d.2.2, .int .i64 (D d).1, .int .i64 (D d).2] rfl rfl (World.news_of_block (blknew _ _)) (by simp [Value.oneCell']) (by decide) (by unfold maxLen; omega) (by omega) (by simp; omega) _ rfl ?_; intro g1 cap2 w4 hown hgrow hat hlt3; have hN4 := Lib.hid (hnext (tmOf D d) ⟨HOK.out, HD.out d HM.out⟩ g1 cap2 w4 hown hgrow hat); have k4 : w4.heap[w1.heap.size]? = _ := (hgrow.block w1.heap.size (by simp; omega) (fun e => by have := (hAge.out _ e.symm).1; omega)).trans ((Below.heap_alloc _ _ _ (by omega)).trans G1.out); have K4 := Lib.hid k4; have hq4 := (blk5 k4).1.2.2.2.2; have hp4 := (blk5 k4).2 4; have hz5 := blklt k4; have k5 : w4.heap[W0.heap.size]? = _ := (hgrow.block W0.heap.size (by simp; omega) (fun e => by have := (hAge.out _ e.symm).2; omega)).trans ((Below.heap_alloc _ _ _ (by omega)).trans G2.out); obtain ⟨hk0, hk1, hk2⟩ := blk3c k5; have K6 : Hid (w4.heap[w.heap.size + 1]? = _) := Lib.hid ((hgrow.block (w.heap.size + 1) (by simp; omega) (fun e => by have := (hAge.out _ e.symm).1; omega)).trans ((Below.heap_alloc _ _ _ (by omega)).trans G3.out)); have hG4 := Lib.hid ((hG3.out.below (Nat.le_refl _) (bal (Below.refl _ _) _)).grown hgrow (fun q hq hm => by have h1 := (hAge.out q hq).1; have h2 := hF1.out q hm; omega)); have hB4 := Lib.hid ((hB3.out.alloc (by omega) _).trans ((grown_below (B := w1.heap.size + 1) hgrow (fun q hq => (hAge.out q hq).1) (by simp; omega)).mono (by omega))); have hz6 : W0.heap.size ≤ w4.heap.size := (by have := hgrow.size; simp at this; omega); clear hown0 hnext hown hgrow hat hlt3 k4 k5); refine hK.out _ _ ?_ (fun hHeld => ?_); (focus (first | (simp [*, go_sem]; done) | fail)); clear hK K; (try simp only [Act.put, nA, nB, nC]); refine rt 15 (some 47) (v := ?_) rfl rfl ?_ ?_; rotate_left; (focus (intro w' hSw; (try dsimp only at hSw); go_simp; (try with_reducible rfl))); (try simp only [Act.put, nA, nB, nC]); refine rt 16 (some 48) (v := ?_) rfl rfl ?_ ?_; rotate_left; (focus (intro w' hSw; (try dsimp only at hSw); go_simp; (try with_reducible rfl))); (try simp only [Act.put, nA, nB, nC]); refine wpAnyH_ready (rs := [17]) (by kernel_rfl) (by simp) ?_; refine AllReadyH.cons rfl (fun K hK => ?_) AllReadyH.nil; (try go_simp); refine hK.out _ _ ?_ (fun hHeld => ?_); (focus (first | (simp [*, go_sem]; done) | fail)); clear hK K; (try simp only [Act.put, nA, nB, nC]); refine wpAnyH_done (by kernel_rfl) ?_ _)); rotate_left 1)); rotate_left 2)
      all_goals
        clear hHeld
        go_wp2_with fail
        go_roundw
        case rel =>
          refine ⟨k + 1, .slice (some ⟨g1, 0, none⟩) (k + 1) cap2, by omega, by go_num, blkset0 K4.out 4 _, blkset K6.out (by show w.heap.size + 1 ≠ w1.heap.size; omega) _, Lib.hid ?_, Lib.hid ?_, Below.setCell hB4.out (by show w.heap.size ≤ w1.heap.size; omega) _, by simp; omega⟩
          · rw [hnx.out]
            exact AppS.move hN4.out fun q h1 _ => Below.heap_setCell _ ⟨w1.heap.size, 4, none⟩ _ q (by show q ≠ w1.heap.size; omega)
          · refine hG4.out.chg (Chg.set (F := [w1.heap.size]) (Chg.refl _ _) (by simp) _) fun q hq => ?_
            have := hF1.out q hq
            simp
            omega
        case measure => simp [intOf]; omega
    · have e : k = N := by omega
      subst e
      have hx : Hid ((GL.take k).map (tmOf D) = ovX GL D) := Lib.hid (by rw [show GL.take k = GL from by rw [← hN.out]; exact List.take_length]; rfl)
      have hg : Hid (anyZ z (GL.take k) = anyZ z GL) := Lib.hid (by rw [show GL.take k = GL from by rw [← hN.out]; exact List.take_length])
      have hA2 := hA.out
      rw [hx.out] at hA2
      obtain ⟨A2, cap2, F2, rfl, hO2⟩ := hA2.own
      rw [hg.out] at B0
      have hc : Hid (ovC tn te n D z = tdC (anyZ z GL) (ovX GL D)) := Lib.hid (by unfold ovC; rw [hLn.out, if_pos h64]; exact congrArg (fun L => tdC (anyZ z L) (ovX L D)) hGL.out)
      have hxl : (ovX GL D).length ≤ 1048576 := by
        have : (ovX GL D).length = k := (List.length_map _).trans hN.out
        rw [this]; omega
      have HTOLD := Lib.hid (smTold_any wr w1.heap.size (anyZ z GL) tn te n (ovX GL D) _ B0.out hO2.lst hxl)
      clear hA2 hO2
      go_wp2_with fail
      refine Calls.mono HTOLD.out ?_
      rintro e0 w5 ⟨A5, cap5, F5, rfl, hO5, hb5⟩
      have HO5 := Lib.hid hO5
      have kr : w5.heap[w.heap.size + 1]? = some (.cells #[.int .i64 0, .int .u32 0, .int .i64 0, .slice none 0 0] 34 (0, 0)) := bblk hb5 y1 B1.out
      have hbb : Below w.heap.size w w5 := hB.trans (hb5.mono hB.size)
      obtain ⟨C, hC⟩ : ∃ C, Hid (tdC (anyZ z GL) (ovX GL D) = C) := ⟨_, Lib.hid rfl⟩
      rw [hC.out] at hO5 ⊢
      obtain ⟨XL, hXL, NX, hNX⟩ : ∃ XL : List ((Int × (Int × Int)) × (Int × Int)), Hid (tdL C (nzT (ovX GL D)) = XL) ∧ ∃ NX : Nat, Hid (XL.length = NX) := ⟨_, Lib.hid rfl, _, Lib.hid rfl⟩
      rw [hXL.out] at hO5 ⊢
      rw [hNX.out] at hO5 ⊢
      have HO5 := Lib.hid hO5
      have hzz5 : wr.heap.size ≤ w5.heap.size := hb5.size
      obtain ⟨c50, c51, c52, c53⟩ : w5.cell? ⟨w.heap.size + 1, 0, none⟩ = some (.int .i64 0) ∧ w5.cell? ⟨w.heap.size + 1, 1, none⟩ = some (.int .u32 0) ∧ w5.cell? ⟨w.heap.size + 1, 2, none⟩ = some (.int .i64 0) ∧ w5.cell? ⟨w.heap.size + 1, 3, none⟩ = some (.slice none 0 0) := by simp [World.cell?, kr]
      obtain ⟨f50, f51, f52, f53⟩ : w5.frozen? ⟨w.heap.size + 1, 0, none⟩ = false ∧ w5.frozen? ⟨w.heap.size + 1, 1, none⟩ = false ∧ w5.frozen? ⟨w.heap.size + 1, 2, none⟩ = false ∧ w5.frozen? ⟨w.heap.size + 1, 3, none⟩ = false := by simp [World.frozen?, kr]
      have zz5 := blklt kr
      clear hO5 hb5 kr
      go_wp2_with fail
      refine bodyPost_ret (v := .tuple #[.agg #[.int .i64 (tdT C (tn, te)).1, .int .u32 (tdT C (tn, te)).2, .int .i64 (tdS C n), .slice A5 NX cap5], .int .i64 C]) (by simp [results, Tryz.results41, go_sem, *]) rfl ?_
      rw [hc.out, hC.out]
      have hgl : nzT (ovX (flagsF tn te n []) D) = nzT (ovX GL D) := congrArg (fun L => nzT (ovX L D)) hGL.out
      rw [hgl, hXL.out]
      refine ⟨A5, cap5, F5, ?_, ?_, ?_⟩
      · rw [hNX.out]
      · rw [hNX.out]
        refine HO5.out.move (by omega) fun q h1 _ => ?_
        have hne : q ≠ w.heap.size + 1 := by omega
        exact (Below.heap_setCell _ ⟨w.heap.size + 1, 3, none⟩ _ q hne).trans ((Below.heap_setCell _ ⟨w.heap.size + 1, 2, none⟩ _ q hne).trans ((Below.heap_setCell _ ⟨w.heap.size + 1, 1, none⟩ _ q hne).trans (Below.heap_setCell _ ⟨w.heap.size + 1, 0, none⟩ _ q hne)))
      · exact belA
end Go.Proofs.YtpcjinbbgnmchaaGreat
