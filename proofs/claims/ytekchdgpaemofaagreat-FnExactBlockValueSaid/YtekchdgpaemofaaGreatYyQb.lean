import Derived.Test.YtekchdgpaemofaaGreatYyQa
import Derived.Test.YtekchdgpaemofaaGreatYyBc
import Derived.Test.YtekchdgpaemofaaGreatYyAm
namespace Go.Proofs.YtekchdgpaemofaaGreat
open Go.ChangeShapes Go.WideShapes Go.ChangeAt Go.RowKit
set_option linter.unusedVariables false
set_option linter.unusedSimpArgs false
attribute [local irreducible] Calls
set_option maxHeartbeats 1000000 in
theorem pairAv11 (W : World) (bf bi bj bl off cap i j : Nat) (fs : List Flg) (f h x : Flg) (X : Int × Int) (hi : i < fs.length) (hj : j < fs.length) (hl : fs.length ≤ 8)
    (hcall : ∀ W', Below W.heap.size W W' → Calls Tryz.prog 150 #[.agg #[.int .i64 f.1, .int .i64 f.2.1, .int .u32 f.2.2], .agg #[.int .i64 h.1, .int .i64 h.2.1, .int .u32 h.2.2], .agg #[.int .i64 x.1, .int .i64 x.2.1, .int .u32 x.2.2]] W' fun r w' => r = .returned (.agg #[.int .i64 X.1, .int .i64 X.2]) ∧ Below W'.heap.size W' w')
    (c0 : W.cell? ⟨bl, off + i * 3, none⟩ = some (.int .i64 f.1)) (c1 : W.cell? ⟨bl, off + i * 3 + 1, none⟩ = some (.int .i64 f.2.1)) (c2 : W.cell? ⟨bl, off + i * 3 + 2, none⟩ = some (.int .u32 f.2.2))
    (e0 : W.cell? ⟨bl, off + j * 3, none⟩ = some (.int .i64 h.1)) (e1 : W.cell? ⟨bl, off + j * 3 + 1, none⟩ = some (.int .i64 h.2.1)) (e2 : W.cell? ⟨bl, off + j * 3 + 2, none⟩ = some (.int .u32 h.2.2))
    (jf : W.heap[bf]? = some (.cells #[.slice (some ⟨bl, off, none⟩) fs.length cap] 34 (0, 0))) (ji : W.heap[bi]? = some (.cells #[.int .i64 i] 3 (0, 0))) (jj : W.heap[bj]? = some (.cells #[.int .i64 j] 3 (0, 0))) :
    Calls Tryz.prog 168 #[.agg #[.int .i64 x.1, .int .i64 x.2.1, .int .u32 x.2.2], .pointer (some ⟨bf, 0, none⟩), .pointer (some ⟨bi, 0, none⟩), .pointer (some ⟨bj, 0, none⟩)] W fun r W' => r = .returned (.agg #[.int .i64 X.1, .int .i64 X.2]) ∧ Below W.heap.size W W' := by
  have HC := Lib.hid hcall
  have p0 := blkc1 jf
  have q0 := blkc1 ji
  have r0 := blkc1 jj
  have yf := blklt jf
  have yi := blklt ji
  have yj := blklt jj
  have yb := World.block_lt_of_cell? _ _ c0
  simp only at yb
  have hi8 : (i : Int) < (fs.length : Int) := by omega
  have hj8 : (j : Int) < (fs.length : Int) := by omega
  have HKP : Hid (∀ V w' : World, Below V.heap.size V w' → (fun w' => w'.cell? ⟨bf, 0, none⟩ = some (.slice (some ⟨bl, off, none⟩) fs.length cap) ∧ w'.cell? ⟨bi, 0, none⟩ = some (.int .i64 i) ∧ w'.cell? ⟨bj, 0, none⟩ = some (.int .i64 j) ∧ w'.cell? ⟨bl, off + i * 3, none⟩ = some (.int .i64 f.1) ∧ w'.cell? ⟨bl, off + i * 3 + 1, none⟩ = some (.int .i64 f.2.1) ∧ w'.cell? ⟨bl, off + i * 3 + 2, none⟩ = some (.int .u32 f.2.2) ∧ w'.cell? ⟨bl, off + j * 3, none⟩ = some (.int .i64 h.1) ∧ w'.cell? ⟨bl, off + j * 3 + 1, none⟩ = some (.int .i64 h.2.1) ∧ w'.cell? ⟨bl, off + j * 3 + 2, none⟩ = some (.int .u32 h.2.2) ∧ w'.cell? ⟨W.heap.size, 0, none⟩ = some (.int .i64 x.1) ∧ w'.cell? ⟨W.heap.size, 1, none⟩ = some (.int .i64 x.2.1) ∧ w'.cell? ⟨W.heap.size, 2, none⟩ = some (.int .u32 x.2.2)) V → (fun w' => w'.cell? ⟨bf, 0, none⟩ = some (.slice (some ⟨bl, off, none⟩) fs.length cap) ∧ w'.cell? ⟨bi, 0, none⟩ = some (.int .i64 i) ∧ w'.cell? ⟨bj, 0, none⟩ = some (.int .i64 j) ∧ w'.cell? ⟨bl, off + i * 3, none⟩ = some (.int .i64 f.1) ∧ w'.cell? ⟨bl, off + i * 3 + 1, none⟩ = some (.int .i64 f.2.1) ∧ w'.cell? ⟨bl, off + i * 3 + 2, none⟩ = some (.int .u32 f.2.2) ∧ w'.cell? ⟨bl, off + j * 3, none⟩ = some (.int .i64 h.1) ∧ w'.cell? ⟨bl, off + j * 3 + 1, none⟩ = some (.int .i64 h.2.1) ∧ w'.cell? ⟨bl, off + j * 3 + 2, none⟩ = some (.int .u32 h.2.2) ∧ w'.cell? ⟨W.heap.size, 0, none⟩ = some (.int .i64 x.1) ∧ w'.cell? ⟨W.heap.size, 1, none⟩ = some (.int .i64 x.2.1) ∧ w'.cell? ⟨W.heap.size, 2, none⟩ = some (.int .u32 x.2.2)) w') := Lib.hid fun V w' hb h => by
    simp only at h ⊢
    exact ⟨bkeep hb h.1, bkeep hb h.2.1, bkeep hb h.2.2.1, bkeep hb h.2.2.2.1, bkeep hb h.2.2.2.2.1, bkeep hb h.2.2.2.2.2.1, bkeep hb h.2.2.2.2.2.2.1, bkeep hb h.2.2.2.2.2.2.2.1, bkeep hb h.2.2.2.2.2.2.2.2.1, bkeep hb h.2.2.2.2.2.2.2.2.2.1, bkeep hb h.2.2.2.2.2.2.2.2.2.2.1, bkeep hb h.2.2.2.2.2.2.2.2.2.2.2⟩
  clear hcall jf ji jj
  go_enter Tryz.func168, Tryz.ntmps168
  go_wp2_with fail
  (refine wp_region_held_drew (S := (fun w' => w'.cell? ⟨bf, 0, none⟩ = some (.slice (some ⟨bl, off, none⟩) fs.length cap) ∧ w'.cell? ⟨bi, 0, none⟩ = some (.int .i64 i) ∧ w'.cell? ⟨bj, 0, none⟩ = some (.int .i64 j) ∧ w'.cell? ⟨bl, off + i * 3, none⟩ = some (.int .i64 f.1) ∧ w'.cell? ⟨bl, off + i * 3 + 1, none⟩ = some (.int .i64 f.2.1) ∧ w'.cell? ⟨bl, off + i * 3 + 2, none⟩ = some (.int .u32 f.2.2) ∧ w'.cell? ⟨bl, off + j * 3, none⟩ = some (.int .i64 h.1) ∧ w'.cell? ⟨bl, off + j * 3 + 1, none⟩ = some (.int .i64 h.2.1) ∧ w'.cell? ⟨bl, off + j * 3 + 2, none⟩ = some (.int .u32 h.2.2) ∧ w'.cell? ⟨W.heap.size, 0, none⟩ = some (.int .i64 x.1) ∧ w'.cell? ⟨W.heap.size, 1, none⟩ = some (.int .i64 x.2.1) ∧ w'.cell? ⟨W.heap.size, 2, none⟩ = some (.int .u32 x.2.2))) (by kernel_rfl) ?_ (fun hHeld => ?_); (focus (first | exact hS | (simp [*, go_sem]; done) | fail)); refine rt 0 (some 6) (v := ?_) rfl rfl ?_ ?_; rotate_left; (focus (intro w' hSw; (try dsimp only at hSw); go_simp; (try with_reducible rfl))); (try simp only [Act.put, nA, nB, nC]); refine rt 1 (some 7) (v := ?_) rfl rfl ?_ ?_; rotate_left; (focus (intro w' hSw; (try dsimp only at hSw); go_simp; (try with_reducible rfl))); (try simp only [Act.put, nA, nB, nC]); refine rt 2 (some 8) (v := ?_) rfl rfl ?_ ?_; rotate_left; (focus (intro w' hSw; (try dsimp only at hSw); go_simp; (try with_reducible rfl))); (try simp only [Act.put, nA, nB, nC]); refine rt 3 (some 9) (v := ?_) rfl rfl ?_ ?_; rotate_left; (focus (intro w' hSw; (try dsimp only at hSw); go_simp; (try with_reducible rfl))); (try simp only [Act.put, nA, nB, nC]); refine rt 4 (some 10) (v := ?_) rfl rfl ?_ ?_; rotate_left; (focus (intro w' hSw; (try dsimp only at hSw); go_simp; (try with_reducible rfl))); (try simp only [Act.put, nA, nB, nC]); refine rt 5 (some 11) (v := ?_) rfl rfl ?_ ?_; rotate_left; (focus (intro w' hSw; (try dsimp only at hSw); go_simp; (try with_reducible rfl))); (try simp only [Act.put, nA, nB, nC]); refine rt 6 (some 12) (v := ?_) rfl rfl ?_ ?_; rotate_left; (focus (intro w' hSw; (try dsimp only at hSw); go_simp; (try with_reducible rfl))); (try simp only [Act.put, nA, nB, nC]); refine rt 7 (some 13) (v := ?_) rfl rfl ?_ ?_; rotate_left; (focus (intro w' hSw; (try dsimp only at hSw); go_simp; (try with_reducible rfl))); (try simp only [Act.put, nA, nB, nC]); refine rt 8 (some 14) (v := ?_) rfl rfl ?_ ?_; rotate_left; (focus (intro w' hSw; (try dsimp only at hSw); go_simp; (try with_reducible rfl))); (try simp only [Act.put, nA, nB, nC]); refine wpAnyH_ready (rs := [9]) (by kernel_rfl) (by simp) ?_; refine AllReadyH.cons rfl (fun K hK => ?_) AllReadyH.nil; go_simp; (go_at_call 150; refine Calls.mono (HC.out _ belA) ?_; rintro e3 w3 ⟨rfl, hb⟩; have hS := HKP.out _ _ hb hHeld; have kr : w3.heap[W.heap.size + 1]? = some (.cells #[.int .i64 0, .int .i64 0] 54 (0, 0)) := bblk hb (by simp) (blkdrew (blknew' _ _ _ (by simp))); obtain ⟨zr0, zr1, zf0, zf1⟩ := blk2 kr; have yr := blklt kr; have HB3 := Lib.hid (show Below W.heap.size W w3 from Below.trans belA (hb.mono (by simp <;> omega))); have zb := World.block_lt_of_cell? _ _ hS.2.2.2.1; have zf := World.block_lt_of_cell? _ _ hS.1; have zi := World.block_lt_of_cell? _ _ hS.2.1; have zj := World.block_lt_of_cell? _ _ hS.2.2.1; have zx := World.block_lt_of_cell? _ _ hS.2.2.2.2.2.2.2.2.2.1; simp only at zb zf zi zj zx; clear hb kr); go_wp2_with fail; refine hK.out _ _ ?_ (fun hHeld => ?_); (focus (first | exact hS | (simp [*, go_sem]; done) | fail)); clear hK K; (try simp only [Act.put, nA, nB, nC]); refine wpAnyH_ready (rs := [10]) (by kernel_rfl) (by simp) ?_; refine AllReadyH.cons rfl (fun K hK => ?_) AllReadyH.nil; (try go_simp); refine hK.out _ _ ?_ (fun hHeld => ?_); (focus (first | exact hS | (simp [*, go_sem]; done) | fail)); clear hK K; (try simp only [Act.put, nA, nB, nC]); refine wpAnyH_done (by kernel_rfl) ?_ _)
  clear hHeld
  have hb3 := HB3.out
  go_wp2_with fail
  exact bodyPost_ret (v := .agg #[.int .i64 X.1, .int .i64 X.2]) (by simp [results, Tryz.results168, go_sem, *]) rfl ⟨rfl, belA⟩
set_option maxHeartbeats 2000000 in
theorem pairAv1 (W w0 : World) (bs bt bg bf b k n q i j : Nat) (te e : Int) (fs : List Flg) (v : Value) (f h : Flg) (g : Bool) (hk : k ≤ 3) (hn : n ≤ 5) (hkq : k + q + q ≤ n) (hi : i < fs.length) (hj : j < fs.length) (hl : fs.length ≤ 8) (hfi : fs[i]? = some f) (hfj : fs[j]? = some h)
    (hfv : flV f = true ∧ okFlag f ∧ f.1 = k ∧ f.2.1 = ((k + q : Nat) : Int)) (hhv : flV h = true ∧ okFlag h ∧ h.1 = k ∧ h.2.1 = ((k + q : Nat) : Int))
    (hL : Lst shFlag w0 fs v) (hW : Below w0.heap.size w0 W) (hb0 : w0.heap.size ≤ b)
    (js : W.heap[bs]? = some (.cells #[.pointer (some ⟨b, 0, none⟩)] 191 (0, 0))) (jt : W.heap[bt]? = some (.cells #[.int .i64 k, .int .u32 te] 28 (0, 0))) (jg : W.heap[bg]? = some (.cells #[.int .i64 n, .int .u32 e] 28 (0, 0))) (jf : W.heap[bf]? = some (.cells #[v] 34 (0, 0))) (hb : W.heap[b]? = some (.cells #[.bool g] 129 (0, 0))) (hne : bf ≠ b) :
    Calls Tryz.prog 166 #[.int .i64 i, .int .i64 j, .pointer (some ⟨bs, 0, none⟩), .pointer (some ⟨bt, 0, none⟩), .pointer (some ⟨bg, 0, none⟩), .pointer (some ⟨bf, 0, none⟩)] W fun r W' => r = .returned (.agg #[.int .i64 (paV k n q te e f h).1, .int .i64 (paV k n q te e f h).2]) ∧ Below W.heap.size W W' := by
  obtain ⟨d, hdi, hdS, hdd, hdV⟩ := pa_all (te := te) (e := e) f h hk hn hkq
  obtain ⟨A0, cap, rfl, hc0, hm0, hok, hel⟩ := lstFlag hL
  obtain ⟨bl, off, rfl, hel2⟩ := hel (by omega)
  obtain ⟨f', hf', hfo, c0, c1, c2⟩ := hel2 i hi
  obtain ⟨h', hh', hho, e0, e1, e2⟩ := hel2 j hj
  obtain rfl : f = f' := Option.some.inj (hfi.symm.trans hf')
  obtain rfl : h = h' := Option.some.inj (hfj.symm.trans hh')
  have HW := Lib.hid hW
  obtain ⟨V, hV⟩ : ∃ V, Hid (paV k n q te e f h = V) := ⟨_, Lib.hid rfl⟩
  rw [hV.out] at hdd hdV ⊢
  have eg : ∀ args w, (callFunc 168 args).run Tryz.prog w = .ok (.enter 168 args) w := enters_of Tryz.func168 (by kernel_rfl) rfl
  have yb := blklt hb
  have ys := blklt js
  have yt := blklt jt
  have yg := blklt jg
  have yf := blklt jf
  have hz0 := hW.size
  have HAV : Hid (∀ w1, Below W.heap.size W w1 → W.heap.size + 3 ≤ w1.heap.size → w1.heap[W.heap.size]? = some (.cells #[.int .i64 i] 3 (0, 0)) → w1.heap[W.heap.size + 1]? = some (.cells #[.int .i64 j] 3 (0, 0)) → Calls Tryz.prog 167 #[.pointer (some ⟨b, 0, none⟩), .agg #[.int .i64 k, .int .u32 te], .agg #[.int .i64 n, .int .u32 e], .func (.func 168) #[] #[.pointer (some ⟨bf, 0, none⟩), .pointer (some ⟨W.heap.size, 0, none⟩), .pointer (some ⟨W.heap.size + 1, 0, none⟩)]] w1 fun e0 w' => e0 = .returned (.agg #[.int .i64 V.1, .int .i64 V.2]) ∧ Below w1.heap.size w1 w') := Lib.hid fun w1 hb1 hz1 ki kj => by
    have kb := bblk hb1 yb hb
    have kf := bblk hb1 yf jf
    have hav := average_any w1 b k n te e (paX q f h) 168 #[] #[.pointer (some ⟨bf, 0, none⟩), .pointer (some ⟨W.heap.size, 0, none⟩), .pointer (some ⟨W.heap.size + 1, 0, none⟩)]
      (fun V => (V.heap[bf]? = some (.cells #[.slice (some ⟨bl, off, none⟩) fs.length cap] 34 (0, 0)) ∧ V.heap[W.heap.size]? = some (.cells #[.int .i64 i] 3 (0, 0)) ∧ V.heap[W.heap.size + 1]? = some (.cells #[.int .i64 j] 3 (0, 0))) ∧ Below w0.heap.size w0 V) g hn hk (by omega) eg
      (fun L hL _ => by
        obtain ⟨N, h1, h2⟩ := pa_vl (f := f) (h := h) (e := e) hk hn hkq L
        have h3 := jnA_bd hk hn hkq
        exact (h1.small h3.1 (by omega) (by omega)).2)
      (fun c hc V V' hJ hC => ⟨⟨hC.blk (by simp; omega) hJ.1.1, hC.blk (by simp; omega) hJ.1.2.1, hC.blk (by simp; omega) hJ.1.2.2⟩, hJ.2.trans (hC.below (by simp; omega) hJ.2.size)⟩)
      (fun L hL hP V hJ => by
        have hw := hJ.2
        have := pairAv11 V bf W.heap.size (W.heap.size + 1) bl off cap i j fs f h ((k : Int), ((n : Int), onE e (L ++ rstI L n))) (paX q f h (avF k e n L)) hi hj hl
          (fun W' _ => joint_any W' k n q q (onE e (L ++ rstI L n)) f h hk hn hkq hfv.1 hfv.2.1 hfv.2.2.1 hfv.2.2.2 hhv.1 hhv.2.1 hhv.2.2.1 hhv.2.2.2)
          (bkeep hw c0) (bkeep hw c1) (bkeep hw c2) (bkeep hw e0) (bkeep hw e1) (bkeep hw e2) hJ.1.1 hJ.1.2.1 hJ.1.2.2
        exact this)
      ⟨⟨kf, ki, kj⟩, hW.trans (hb1.mono hz0)⟩ kb
    rw [pa_mark, hdS, hdd] at hav
    refine hav.mono ?_
    rintro r w' ⟨rfl, h2, h3⟩
    refine ⟨rfl, h3.1, h3.2.1, h3.2.2.1, h3.2.2.2.1, fun c hc => ?_⟩
    by_cases hcb : c = b
    · subst hcb
      rw [h2, kb]
      simp [noB]
    · exact h3.2.2.2.2 c hc (by simpa using hcb)
  have ps := blkc1 js
  obtain ⟨t0, t1⟩ := blkc2 jt
  obtain ⟨g0, g1⟩ := blkc2 jg
  clear hdi hdS hdd hdV hel hel2 hok hf' hh' hfo hho c0 c1 c2 e0 e1 e2 hL hW js jt jg jf hb hfv hhv
  go_enter Tryz.func166, Tryz.ntmps166
  go_wp2_with fail
  refine Calls.mono (HAV.out _ belA (by simp) blkA blkA) ?_
  rintro e9 w9 ⟨rfl, hb9⟩
  have HB9 := Lib.hid (show Below W.heap.size W w9 from Below.trans belA (hb9.mono (by simp <;> omega)))
  have kr : w9.heap[W.heap.size + 1 + 1]? = some (.cells #[.int .i64 0, .int .i64 0] 54 (0, 0)) := bblk hb9 (by simp) (blknew' _ _ _ (by simp))
  obtain ⟨zr0, zr1, zf0, zf1⟩ := blk2 kr
  have yr := blklt kr
  clear hb9
  have hb9 := HB9.out
  go_wp2_with fail
  exact bodyPost_ret (v := .agg #[.int .i64 V.1, .int .i64 V.2]) (by simp [results, Tryz.results166, go_sem, *]) rfl ⟨rfl, belA⟩
set_option maxHeartbeats 2000000 in
theorem pairAverages_any (w w0 : World) (b k q n : Nat) (e : Int) (g : Bool) (fs : List Flg) (v : Value) (hF : Fam fs k q) (hn : n ≤ 5) (hkq : k + q + q ≤ n) (hL : Lst shFlag w0 fs v) (hW : Below w0.heap.size w0 w) (hb0 : w0.heap.size ≤ b) (hb : w.heap[b]? = some (.cells #[.bool g] 129 (0, 0))) :
    Calls Tryz.prog 83 #[.pointer (some ⟨b, 0, none⟩), v, .agg #[.int .i64 n, .int .u32 e]] w fun r w' => ∃ A cap F, r = .returned (.slice A fs.length cap) ∧ Own (shL shFr) w.heap.size w' (matL fs.length fs.length (paD fs n e)) (.slice A fs.length cap) F ∧ Below w.heap.size w w' := by
  obtain ⟨hd0, hd1, hd2, hd3, hd4⟩ := hF.head
  obtain ⟨F0, hF0⟩ : ∃ F0, Hid (hdF fs = F0) := ⟨_, Lib.hid rfl⟩
  have HL := Lib.hid hL
  obtain ⟨A0, cap, rfl, hc0, hm0, hok, hel⟩ := lstFlag hL
  obtain ⟨N, hN⟩ : ∃ N, Hid (fs.length = N) := ⟨_, Lib.hid rfl⟩
  have hN0 : 0 < N ∧ N ≤ 8 := by rw [← hN.out]; exact ⟨hF.1, hF.2.1⟩
  rw [hN.out] at hel hc0 ⊢
  obtain ⟨hN1, hN2⟩ := hN0
  obtain ⟨bl, off, rfl, hel2⟩ := hel hN1
  obtain ⟨f', hf', _, c0, c1, c2⟩ := hel2 0 hN1
  obtain rfl : hdF fs = f' := Option.some.inj (hd0.symm.trans hf')
  have HELF := Lib.hid hel2
  obtain ⟨TE, hTE⟩ : ∃ TE, Hid (tyE (hdF fs) = TE) := ⟨_, Lib.hid rfl⟩
  have hff := (flV_iff _).1 hd3
  have HTY : Hid (∀ w, Calls Tryz.prog 67 #[.agg #[.int .i64 (hdF fs).1, .int .i64 (hdF fs).2.1, .int .u32 (hdF fs).2.2]] w fun e0 w' => e0 = .returned (.agg #[.int .i64 k, .int .u32 TE]) ∧ Below w.heap.size w w') := Lib.hid fun w => by
    have := typeOf_i w (hdF fs) (by omega)
    rw [hTE.out, hd1] at this
    rw [hd1]
    exact this
  have hz := hW.size
  have yb := blklt hb
  have HFI : Hid (∀ (bt : Nat) (Wm : World), Below w.heap.size w Wm → Wm.heap[w.heap.size]? = some (.cells #[.pointer (some ⟨b, 0, none⟩)] 191 (0, 0)) → Wm.heap[bt]? = some (.cells #[.int .i64 k, .int .u32 TE] 28 (0, 0)) → Wm.heap[w.heap.size + 1 + 1]? = some (.cells #[.int .i64 n, .int .u32 e] 28 (0, 0)) → Wm.heap[w.heap.size + 1]? = some (.cells #[.slice (some ⟨bl, off, none⟩) N cap] 34 (0, 0)) →
      Fills 166 #[.pointer (some ⟨w.heap.size, 0, none⟩), .pointer (some ⟨bt, 0, none⟩), .pointer (some ⟨w.heap.size + 1 + 1, 0, none⟩), .pointer (some ⟨w.heap.size + 1, 0, none⟩)] N Wm.heap.size (fun _ W => Below Wm.heap.size Wm W) (paD fs n e) (fun _ _ => false)) := Lib.hid fun bt Wm hWm js jt jg jf => by
    intro W g' i j hi hj hN' hR
    have hi' : i < fs.length := by rw [hN.out]; exact hi
    have hj' : j < fs.length := by rw [hN.out]; exact hj
    have e1 : fs[i]? = some fs[i] := List.getElem?_eq_getElem hi'
    have e2 : fs[j]? = some fs[j] := List.getElem?_eq_getElem hj'
    rw [paD_eq hF e1 e2, hTE.out]
    refine (pairAv1 W w0 w.heap.size bt (w.heap.size + 1 + 1) (w.heap.size + 1) b k n q i j TE e fs _ fs[i] fs[j] g hF.2.2.1 hn hkq hi' hj' hF.2.1 e1 e2 (hF.2.2.2 _ (List.getElem_mem hi')) (hF.2.2.2 _ (List.getElem_mem hj')) HL.out ((hW.trans (hWm.mono hz)).trans (hR.mono (Nat.le_trans hz hWm.size))) hb0 (bblk hR (blklt js) js) (bblk hR (blklt jt) jt) (bblk hR (blklt jg) jg) (by rw [hN.out]; exact bblk hR (blklt jf) jf) (bblk hR (blklt (bblk hWm yb hb)) (bblk hWm yb hb)) (by omega)).mono ?_
    rintro r W' ⟨rfl, h2⟩
    exact ⟨rfl, hR.trans (h2.mono hR.size), h2.size, fun c _ hc => h2.block c hc⟩
  have HDI : Hid (∀ i j, i < N → j < N → okFr (paD fs n e i j)) := Lib.hid fun i j hi hj => inF_ok (paD_in hF hn hkq (by rw [hN.out]; exact hi) (by rw [hN.out]; exact hj))
  have hZ : Hid (matZ N N (fun _ _ => false) = false) := Lib.hid (by unfold matZ rowZ; simp)
  have eg : ∀ args w, (callFunc 166 args).run Tryz.prog w = .ok (.enter 166 args) w := enters_of Tryz.func166 (by kernel_rfl) rfl
  obtain ⟨PD, hPD⟩ : ∃ PD, Hid (paD fs n e = PD) := ⟨_, Lib.hid rfl⟩
  rw [hPD.out] at HFI HDI ⊢
  have c0 := bkeep hW c0
  have c1 := bkeep hW c1
  have c2 := bkeep hW c2
  have zb := World.block_lt_of_cell? _ _ c0
  simp only at zb
  have hN3 : (0 : Int) < (N : Int) := by omega
  rw [Nat.zero_mul, Nat.add_zero] at c0 c1 c2
  clear hd0 hd1 hd2 hd3 hd4 hok hel hel2 hf' hff hL hF hW
  go_enter Tryz.func83, Tryz.ntmps83
  go_wp2_with fail
  refine Calls.mono (HTY.out _) ?_
  rintro e0 w1 ⟨rfl, hb1⟩
  have hB1 : Below w.heap.size w w1 := Below.trans belA (hb1.mono (by simp <;> omega))
  have k0 : w1.heap[w.heap.size]? = some (.cells #[.pointer (some ⟨b, 0, none⟩)] 191 (0, 0)) := bblk hb1 (by simp <;> omega) blkA
  have k1 : w1.heap[w.heap.size + 1]? = some (.cells #[.slice (some ⟨bl, off, none⟩) N cap] 34 (0, 0)) := bblk hb1 (by simp <;> omega) blkA
  have k2 : w1.heap[w.heap.size + 1 + 1]? = some (.cells #[.int .i64 n, .int .u32 e] 28 (0, 0)) := bblk hb1 (by simp <;> omega) blkA
  have y1 := blklt k1
  have p1 := blkc1 k1
  have HB1 := Lib.hid hB1
  clear hb1 hB1
  go_wp2_with fail
  have hb1 := HB1.out
  refine Calls.mono (matrix_any _ N 166 _ (fun _ W => Below _ _ W) false PD (fun _ _ => false) hN2 eg (fun g W W' h1 h2 => h1.trans (h2.mono (Nat.le_refl _))) (Below.refl _ _) HDI.out (HFI.out w1.heap.size _ belA blkA blkA blkA blkA)) ?_
  rintro e9 w9 ⟨A9, cap9, F9, rfl, hO9, hb9, hz9⟩
  have HO9 := Lib.hid (hO9.move (B' := w.heap.size) (by simp <;> omega) (fun _ _ _ => rfl))
  have HB9 := Lib.hid (show Below w.heap.size w w9 from Below.trans belA (hb9.mono (by simp <;> omega)))
  clear hO9 hb9
  go_wp2_with fail
  exact bodyPost_ret (v := .slice A9 N cap9) (by simp [results, Tryz.results83, go_sem]) rfl ⟨A9, cap9, F9, rfl, HO9.out, HB9.out⟩
end Go.Proofs.YtekchdgpaemofaaGreat
