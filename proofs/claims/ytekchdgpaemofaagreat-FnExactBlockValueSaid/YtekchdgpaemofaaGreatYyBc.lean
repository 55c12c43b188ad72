import Derived.Laws.EntriesVeiled
import Derived.Test.YtekchdgpaemofaaGreatYyAw
import Derived.Test.YtekchdgpaemofaaGreatYyBb
import Derived.Test.YtekchdgpaemofaaGreatYyFk
import Derived.Test.YtekchdgpaemofaaGreatYyRk
namespace Go.Proofs.YtekchdgpaemofaaGreat
open Go.ChangeShapes Go.WideShapes Go.RowKit
set_option linter.unusedVariables false
set_option linter.unusedSimpArgs false
attribute [local irreducible] Calls
theorem Chg.blk {F : List Nat} {w w' : World} (h : Chg F w w') {b : Nat} (hb : b ∉ F) {x : Obj} (hx : w.heap[b]? = some x) : w'.heap[b]? = some x := (h.2.2.2.2 b (blklt hx) hb).trans hx
set_option maxHeartbeats 2000000 in
theorem average1 (W : World) (bg bt bs bo bf b k n : Nat) (te e : Int) (D : Flg → Int × Int) (f : FuncId) (bnd caps : Array Value) (J : World → Prop) (s : Bool × (Int × Int)) (L : List Int) (v : Value)
    (hok : VL (L ++ rstI L n) ∧ (L ++ rstI L n).length = n ∧ L.length = k) (hn : n ≤ 5) (hk : k ≤ 3)
    (eg : ∀ args w, (callFunc f args).run Tryz.prog w = .ok (.enter f args) w)
    (hD : avP k te e n L = true → inF (D (avF k e n L)))
    (hJk : ∀ W W', J W → Chg [bo, b] W W' → J W')
    (hof : avP k te e n L = true → ∀ W', J W' → Calls Tryz.prog f (bnd ++ #[.agg #[.int .i64 k, .int .i64 n, .int .u32 (onE e (L ++ rstI L n))]] ++ caps) W' fun e0 W'' => e0 = .returned (.agg #[.int .i64 (D (avF k e n L)).1, .int .i64 (D (avF k e n L)).2]) ∧ Below W'.heap.size W' W'')
    (hJ : J W) (hg : W.heap[bg]? = some (.cells #[.int .i64 n, .int .u32 e] 28 (0, 0))) (ht : W.heap[bt]? = some (.cells #[.int .i64 k, .int .u32 te] 28 (0, 0)))
    (hs : W.heap[bs]? = some (.cells #[.pointer (some ⟨b, 0, none⟩)] 191 (0, 0))) (ho : W.heap[bo]? = some (.cells #[.int .i64 s.2.1, .int .i64 s.2.2] 54 (0, 0)))
    (hf : W.heap[bf]? = some (.cells #[.func (.func f) bnd caps] 210 (0, 0))) (hb : W.heap[b]? = some (.cells #[.bool s.1] 129 (0, 0))) (hin : inF s.2)
    (d1 : bo ≠ b) (d2 : bg ≠ bo ∧ bg ≠ b) (d3 : bt ≠ bo ∧ bt ≠ b) (d4 : bs ≠ bo ∧ bs ≠ b) (d5 : bf ≠ bo ∧ bf ≠ b) (hv : Lst (shI .i64) W L v) :
    Calls Tryz.prog 246 #[v, .pointer (some ⟨bg, 0, none⟩), .pointer (some ⟨bt, 0, none⟩), .pointer (some ⟨bs, 0, none⟩), .pointer (some ⟨bo, 0, none⟩), .pointer (some ⟨bf, 0, none⟩)] W fun e0 W' => e0 = .returned (.bool false) ∧
      (W'.heap[bo]? = some (.cells #[.int .i64 (avS (avP k te e n) (fun L => D (avF k e n L)) s L).2.1, .int .i64 (avS (avP k te e n) (fun L => D (avF k e n L)) s L).2.2] 54 (0, 0)) ∧ W'.heap[b]? = some (.cells #[.bool (avS (avP k te e n) (fun L => D (avF k e n L)) s L).1] 129 (0, 0))) ∧ Chg [bo, b] W W' := by
  obtain ⟨hV, hl, hlk⟩ := hok
  obtain ⟨g0, g1⟩ := blkc2 hg
  have yg := blklt hg
  have yt := blklt ht
  have ys := blklt hs
  have yo := blklt ho
  have yf := blklt hf
  have yb := blklt hb
  have KG := Lib.hid hg
  have KT := Lib.hid ht
  have KS := Lib.hid hs
  have KO := Lib.hid ho
  have KF := Lib.hid hf
  have KB := Lib.hid hb
  obtain ⟨E, hE⟩ : ∃ E, Hid (onE e (L ++ rstI L n) = E) := ⟨_, Lib.hid rfl⟩
  have HFO : Hid (∀ w', Below W.heap.size W w' → Calls Tryz.prog 247 #[.agg #[.int .i64 n, .int .u32 e], v] w' fun r w'' => r = .returned (.agg #[.int .i64 k, .int .i64 n, .int .u32 E]) ∧ Below w'.heap.size w' w'') := Lib.hid fun w' hb => by
    have := flagOf_any w' n e L v (hv.below hb) hn (by omega) hV
    rw [hl, hlk, hE.out] at this
    exact this
  obtain ⟨A, cap, rfl, _, _⟩ := lstI hv
  have HP0 : Hid (avP k te e n L = (onE E (seqI k) == te)) := Lib.hid (by unfold avP; rw [hE.out])
  have eqT : ∀ T : Int, (T == te) = eq2 (k : Int) T (k : Int) te := fun T => by unfold eq2; rw [Bool.eq_iff_iff]; simp
  obtain ⟨T, hT⟩ : ∃ T, Hid (onE E (seqI k) = T) := ⟨_, Lib.hid rfl⟩
  have HTY : Hid (∀ w', Calls Tryz.prog 67 #[.agg #[.int .i64 k, .int .i64 n, .int .u32 E]] w' fun r w'' => r = .returned (.agg #[.int .i64 k, .int .u32 T]) ∧ Below w'.heap.size w' w'') := Lib.hid fun w' => by
    have := typeOf_any w' k n E (by omega)
    rw [hT.out] at this
    exact this
  obtain ⟨X, hX⟩ : ∃ X, Hid (D (avF k e n L) = X) := ⟨_, Lib.hid rfl⟩
  have HD := Lib.hid hD
  have HOF := Lib.hid hof
  have HJ := Lib.hid hJ
  have HJK := Lib.hid hJk
  have HIN := Lib.hid hin
  rw [hX.out, hE.out] at HOF
  rw [hX.out] at HD
  obtain ⟨d21, d22⟩ := d2
  obtain ⟨d31, d32⟩ := d3
  obtain ⟨d41, d42⟩ := d4
  obtain ⟨d51, d52⟩ := d5
  have HST : Hid (avS (avP k te e n) (fun L => D (avF k e n L)) s L = if eq2 (k : Int) T (k : Int) te then (s.1 || noB (addO s.2 X), kD (addO s.2 X)) else s) := Lib.hid (by unfold avS; rw [HP0.out, hT.out, eqT]; dsimp only; rw [hX.out])
  rw [HP0.out, hT.out, eqT] at HD HOF
  clear hv hV hl hlk hD hof hJ hJk hin hg ht hs ho hf hb HP0 eqT
  cases hp : eq2 (k : Int) T (k : Int) te
  · have hst : Hid (avS (avP k te e n) (fun L => D (avF k e n L)) s L = s) := Lib.hid (by rw [HST.out, hp]; rfl)
    rw [hst.out]
    go_enter Tryz.func246, Tryz.ntmps246
    go_wp2_with fail
    refine Calls.mono (HFO.out _ belA) ?_
    rintro e0 w1 ⟨rfl, hb⟩
    have HB1 := Lib.hid (show Below W.heap.size W w1 from Below.trans belA (hb.mono (by first | omega | (simp <;> omega))))
    have hz1 := HB1.out.size
    have kt := bblk HB1.out yt KT.out
    obtain ⟨t0, t1⟩ := blkc2 kt
    have yt1 := blklt kt
    have HKP2 : Hid (∀ W w' : World, Below W.heap.size W w' → (fun w' => w'.cell? ⟨bt, 0, none⟩ = some (.int .i64 k) ∧ w'.cell? ⟨bt, 1, none⟩ = some (.int .u32 te) ∧ w'.cell? ⟨w1.heap.size, 0, none⟩ = some (.int .i64 k) ∧ w'.cell? ⟨w1.heap.size, 1, none⟩ = some (.int .i64 n) ∧ w'.cell? ⟨w1.heap.size, 2, none⟩ = some (.int .u32 E)) W → (fun w' => w'.cell? ⟨bt, 0, none⟩ = some (.int .i64 k) ∧ w'.cell? ⟨bt, 1, none⟩ = some (.int .u32 te) ∧ w'.cell? ⟨w1.heap.size, 0, none⟩ = some (.int .i64 k) ∧ w'.cell? ⟨w1.heap.size, 1, none⟩ = some (.int .i64 n) ∧ w'.cell? ⟨w1.heap.size, 2, none⟩ = some (.int .u32 E)) w') := Lib.hid fun W w' hb h => ⟨bkeep hb h.1, bkeep hb h.2.1, bkeep hb h.2.2.1, bkeep hb h.2.2.2.1, bkeep hb h.2.2.2.2⟩
    clear hb kt
    go_wp2_with fail
    (refine wp_region_held_drew (S := (fun w' => w'.cell? ⟨bt, 0, none⟩ = some (.int .i64 k) ∧ w'.cell? ⟨bt, 1, none⟩ = some (.int .u32 te) ∧ w'.cell? ⟨w1.heap.size, 0, none⟩ = some (.int .i64 k) ∧ w'.cell? ⟨w1.heap.size, 1, none⟩ = some (.int .i64 n) ∧ w'.cell? ⟨w1.heap.size, 2, none⟩ = some (.int .u32 E))) (by kernel_rfl) ?_ (fun hHeld => ?_); (focus (first | exact hS | (simp [*, go_sem]; done) | fail)); refine rt 0 (some 12) (v := ?_) rfl rfl ?_ ?_; rotate_left; (focus (intro w' hSw; (try dsimp only at hSw); go_simp; (try with_reducible rfl))); (try simp only [Act.put, nA, nB, nC]); refine rt 2 (some 14) (v := ?_) rfl rfl ?_ ?_; rotate_left; (focus (intro w' hSw; (try dsimp only at hSw); go_simp; (try with_reducible rfl))); (try simp only [Act.put, nA, nB, nC]); refine wpAnyH_ready (rs := [1]) (by kernel_rfl) (by simp) ?_; refine AllReadyH.cons rfl (fun K hK => ?_) AllReadyH.nil; go_simp; (go_at_call 67; refine Calls.mono (HTY.out _) ?_; rintro e0 w2 ⟨rfl, hb⟩; have hS := HKP2.out _ _ hb hHeld; have kx : w2.heap[w1.heap.size]? = some (.cells #[.int .i64 k, .int .i64 n, .int .u32 E] 104 (0, 0)) := bblk hb (by simp) (blkdrew (blknew w1 _)); have KX := Lib.hid kx; have hb1 := HB1.out; have HB2 := Lib.hid (show Below W.heap.size W w2 from Below.trans belA (hb.mono (by simp; omega))); have hz2 := HB2.out.size; clear hb hb1 kx); go_wp2_with fail; refine hK.out _ _ ?_ (fun hHeld => ?_); (focus (first | exact hS | (simp [*, go_sem]; done) | fail)); clear hK K; (try simp only [Act.put, nA, nB, nC]); refine rt 3 (some 15) (v := ?_) rfl rfl ?_ ?_; rotate_left; (focus (intro w' hSw; (try dsimp only at hSw); go_simp; (try with_reducible rfl))); (try simp only [Act.put, nA, nB, nC]); refine wpAnyH_done (by kernel_rfl) ?_ _)
    clear hHeld
    have hb2 := HB2.out
    go_wp2_with fail
    exact bodyPost_ret (v := .bool false) (by simp [results, Tryz.results246, go_sem]) rfl ⟨rfl, ⟨bblk hb2 yo KO.out, bblk hb2 yb KB.out⟩, Chg.of hb2 _⟩
  · have hst : Hid (avS (avP k te e n) (fun L => D (avF k e n L)) s L = (s.1 || noB (addO s.2 X), kD (addO s.2 X))) := Lib.hid (by rw [HST.out, hp]; rfl)
    rw [hst.out]
    obtain ⟨R, hR⟩ : ∃ R, Hid (kD (addO s.2 X) = R) := ⟨_, Lib.hid rfl⟩
    obtain ⟨G, hG⟩ : ∃ G, Hid ((s.1 || noB (addO s.2 X)) = G) := ⟨_, Lib.hid rfl⟩
    rw [hR.out, hG.out]
    have HXI := Lib.hid (HD.out hp)
    have HCALL := Lib.hid (HOF.out hp)
    have HADD : Hid (∀ w', w'.heap[b]? = some (.cells #[.bool s.1] 129 (0, 0)) → Calls Tryz.prog 148 #[.pointer (some ⟨b, 0, none⟩), .agg #[.int .i64 s.2.1, .int .i64 s.2.2], .agg #[.int .i64 X.1, .int .i64 X.2]] w' fun e w'' => e = .returned (.agg #[.int .i64 R.1, .int .i64 R.2]) ∧ Below w'.heap.size (w'.setCell ⟨b, 0, none⟩ (.bool G)) w'') := Lib.hid fun w' h => by
      have := kadd_any b 0 s.1 s.2 X w' (blklt h) (blk1 h).1 (blk1 h).2 HIN.out HXI.out
      rw [hR.out, hG.out] at this
      exact this
    go_enter Tryz.func246, Tryz.ntmps246
    go_wp2_with fail
    refine Calls.mono (HFO.out _ belA) ?_
    rintro e0 w1 ⟨rfl, hb⟩
    have HB1 := Lib.hid (show Below W.heap.size W w1 from Below.trans belA (hb.mono (by first | omega | (simp <;> omega))))
    have hz1 := HB1.out.size
    have kt := bblk HB1.out yt KT.out
    obtain ⟨t0, t1⟩ := blkc2 kt
    have yt1 := blklt kt
    have HKP2 : Hid (∀ W w' : World, Below W.heap.size W w' → (fun w' => w'.cell? ⟨bt, 0, none⟩ = some (.int .i64 k) ∧ w'.cell? ⟨bt, 1, none⟩ = some (.int .u32 te) ∧ w'.cell? ⟨w1.heap.size, 0, none⟩ = some (.int .i64 k) ∧ w'.cell? ⟨w1.heap.size, 1, none⟩ = some (.int .i64 n) ∧ w'.cell? ⟨w1.heap.size, 2, none⟩ = some (.int .u32 E)) W → (fun w' => w'.cell? ⟨bt, 0, none⟩ = some (.int .i64 k) ∧ w'.cell? ⟨bt, 1, none⟩ = some (.int .u32 te) ∧ w'.cell? ⟨w1.heap.size, 0, none⟩ = some (.int .i64 k) ∧ w'.cell? ⟨w1.heap.size, 1, none⟩ = some (.int .i64 n) ∧ w'.cell? ⟨w1.heap.size, 2, none⟩ = some (.int .u32 E)) w') := Lib.hid fun W w' hb h => ⟨bkeep hb h.1, bkeep hb h.2.1, bkeep hb h.2.2.1, bkeep hb h.2.2.2.1, bkeep hb h.2.2.2.2⟩
    clear hb kt
    go_wp2_with fail
    (refine wp_region_held_drew (S := (fun w' => w'.cell? ⟨bt, 0, none⟩ = some (.int .i64 k) ∧ w'.cell? ⟨bt, 1, none⟩ = some (.int .u32 te) ∧ w'.cell? ⟨w1.heap.size, 0, none⟩ = some (.int .i64 k) ∧ w'.cell? ⟨w1.heap.size, 1, none⟩ = some (.int .i64 n) ∧ w'.cell? ⟨w1.heap.size, 2, none⟩ = some (.int .u32 E))) (by kernel_rfl) ?_ (fun hHeld => ?_); (focus (first | exact hS | (simp [*, go_sem]; done) | fail)); refine rt 0 (some 12) (v := ?_) rfl rfl ?_ ?_; rotate_left; (focus (intro w' hSw; (try dsimp only at hSw); go_simp; (try with_reducible rfl))); (try simp only [Act.put, nA, nB, nC]); refine rt 2 (some 14) (v := ?_) rfl rfl ?_ ?_; rotate_left; (focus (intro w' hSw; (try dsimp only at hSw); go_simp; (try with_reducible rfl))); (try simp only [Act.put, nA, nB, nC]); refine wpAnyH_ready (rs := [1]) (by kernel_rfl) (by simp) ?_; refine AllReadyH.cons rfl (fun K hK => ?_) AllReadyH.nil; go_simp; (go_at_call 67; refine Calls.mono (HTY.out _) ?_; rintro e0 w2 ⟨rfl, hb⟩; have hS := HKP2.out _ _ hb hHeld; have kx : w2.heap[w1.heap.size]? = some (.cells #[.int .i64 k, .int .i64 n, .int .u32 E] 104 (0, 0)) := bblk hb (by simp) (blkdrew (blknew w1 _)); have KX := Lib.hid kx; have hb1 := HB1.out; have HB2 := Lib.hid (show Below W.heap.size W w2 from Below.trans belA (hb.mono (by simp; omega))); have hz2 := HB2.out.size; clear hb hb1 kx); go_wp2_with fail; refine hK.out _ _ ?_ (fun hHeld => ?_); (focus (first | exact hS | (simp [*, go_sem]; done) | fail)); clear hK K; (try simp only [Act.put, nA, nB, nC]); refine rt 3 (some 15) (v := ?_) rfl rfl ?_ ?_; rotate_left; (focus (intro w' hSw; (try dsimp only at hSw); go_simp; (try with_reducible rfl))); (try simp only [Act.put, nA, nB, nC]); refine wpAnyH_done (by kernel_rfl) ?_ _)
    clear hHeld
    have ks := bblk HB2.out ys KS.out
    have ko := bblk HB2.out yo KO.out
    have kf := bblk HB2.out yf KF.out
    have s0 := blkc1 ks
    obtain ⟨o0, o1⟩ := blkc2 ko
    have f0 := blkc1 kf
    obtain ⟨x0, x1, x2⟩ := blkc3 KX.out
    have HKP3 : Hid (∀ W w' : World, Below W.heap.size W w' → (fun w' => w'.cell? ⟨bs, 0, none⟩ = some (.pointer (some ⟨b, 0, none⟩)) ∧ w'.cell? ⟨bo, 0, none⟩ = some (.int .i64 s.2.1) ∧ w'.cell? ⟨bo, 1, none⟩ = some (.int .i64 s.2.2) ∧ w'.cell? ⟨bf, 0, none⟩ = some (.func (.func f) bnd caps) ∧ w'.cell? ⟨w1.heap.size, 0, none⟩ = some (.int .i64 k) ∧ w'.cell? ⟨w1.heap.size, 1, none⟩ = some (.int .i64 n) ∧ w'.cell? ⟨w1.heap.size, 2, none⟩ = some (.int .u32 E)) W → (fun w' => w'.cell? ⟨bs, 0, none⟩ = some (.pointer (some ⟨b, 0, none⟩)) ∧ w'.cell? ⟨bo, 0, none⟩ = some (.int .i64 s.2.1) ∧ w'.cell? ⟨bo, 1, none⟩ = some (.int .i64 s.2.2) ∧ w'.cell? ⟨bf, 0, none⟩ = some (.func (.func f) bnd caps) ∧ w'.cell? ⟨w1.heap.size, 0, none⟩ = some (.int .i64 k) ∧ w'.cell? ⟨w1.heap.size, 1, none⟩ = some (.int .i64 n) ∧ w'.cell? ⟨w1.heap.size, 2, none⟩ = some (.int .u32 E)) w') := Lib.hid fun W w' hb h => ⟨bkeep hb h.1, bkeep hb h.2.1, bkeep hb h.2.2.1, bkeep hb h.2.2.2.1, bkeep hb h.2.2.2.2.1, bkeep hb h.2.2.2.2.2.1, bkeep hb h.2.2.2.2.2.2⟩
    clear ks ko kf
    go_wp2_with fail
    (refine last_region (S := (fun w' => w'.cell? ⟨bs, 0, none⟩ = some (.pointer (some ⟨b, 0, none⟩)) ∧ w'.cell? ⟨bo, 0, none⟩ = some (.int .i64 s.2.1) ∧ w'.cell? ⟨bo, 1, none⟩ = some (.int .i64 s.2.2) ∧ w'.cell? ⟨bf, 0, none⟩ = some (.func (.func f) bnd caps) ∧ w'.cell? ⟨w1.heap.size, 0, none⟩ = some (.int .i64 k) ∧ w'.cell? ⟨w1.heap.size, 1, none⟩ = some (.int .i64 n) ∧ w'.cell? ⟨w1.heap.size, 2, none⟩ = some (.int .u32 E))) 6 (by kernel_rfl) ?_ (fun hHeld => ?_); (focus (first | exact hS | (simp [*, go_sem]; done) | fail)); refine last_take 0 (some 16) (v := ?_) rfl (by kernel_rfl) (by kernel_rfl) (by kernel_rfl) (by kernel_rfl) (by decide) (by kernel_rfl) (fun _ _ _ h => h) (Or.inl ⟨by kernel_rfl, ?_⟩) (by assumption) ?_; rotate_left; (focus (intro w' hSw; (try dsimp only at hSw); go_simp; (try with_reducible rfl))); (try simp only [Act.put, nA, nB, nC]); refine last_take 1 (some 17) (v := ?_) rfl (by kernel_rfl) (by kernel_rfl) (by kernel_rfl) (by kernel_rfl) (by decide) (by kernel_rfl) (fun _ _ _ h => h) (Or.inl ⟨by kernel_rfl, ?_⟩) (by assumption) ?_; rotate_left; (focus (intro w' hSw; (try dsimp only at hSw); go_simp; (try with_reducible rfl))); (try simp only [Act.put, nA, nB, nC]); refine last_take 2 (some 18) (v := ?_) rfl (by kernel_rfl) (by kernel_rfl) (by kernel_rfl) (by kernel_rfl) (by decide) (by kernel_rfl) (fun _ _ _ h => h) (Or.inl ⟨by kernel_rfl, ?_⟩) (by assumption) ?_; rotate_left; (focus (intro w' hSw; (try dsimp only at hSw); go_simp; (try with_reducible rfl))); (try simp only [Act.put, nA, nB, nC]); refine last_take 3 (some 19) (v := ?_) rfl (by kernel_rfl) (by kernel_rfl) (by kernel_rfl) (by kernel_rfl) (by decide) (by kernel_rfl) (fun _ _ _ h => h) (Or.inl ⟨by kernel_rfl, ?_⟩) (by assumption) ?_; rotate_left; (focus (intro w' hSw; (try dsimp only at hSw); go_simp; (try with_reducible rfl))); (try simp only [Act.put, nA, nB, nC]); refine last_ready (i := 4) (by kernel_rfl) rfl (fun K hK => ?_); go_simp; (refine Calls.mono (HCALL.out _ (HJK.out _ _ HJ.out (Chg.of (by have hb2 := HB2.out; exact belA) _))) ?_; rintro e0 w3 ⟨rfl, hb⟩; have hS := HKP3.out _ _ hb hHeld; have hb2 := HB2.out; have HB3 := Lib.hid (show Below W.heap.size W w3 from Below.trans belA (hb.mono (by first | omega | (simp <;> omega)))); have KX3 := Lib.hid (bblk hb (blklt KX.out) KX.out); have hz3 := HB3.out.size; have hzx3 := blklt KX3.out; clear hb hb2); go_wp2_with fail; refine hK.out _ _ ?_ (fun hHeld => ?_); (focus (first | exact hS | (simp [*, go_sem]; done) | fail)); clear hK K; (try simp only [Act.put, nA, nB, nC]); refine last_ready (i := 5) (by kernel_rfl) rfl (fun K hK => ?_); go_simp; (go_at_call 148; refine Calls.mono (HADD.out _ (bblk HB3.out yb KB.out)) ?_; rintro e0 w4 ⟨rfl, hb⟩; have ks4 := (hb.block bs (by show bs < w3.heap.size; omega)).trans (blkset (w := w3) (bblk HB3.out ys KS.out) (by show bs ≠ b; exact d42) _); have ko4 := (hb.block bo (by show bo < w3.heap.size; omega)).trans (blkset (w := w3) (bblk HB3.out yo KO.out) (by show bo ≠ b; exact d1) _); have kf4 := (hb.block bf (by show bf < w3.heap.size; omega)).trans (blkset (w := w3) (bblk HB3.out yf KF.out) (by show bf ≠ b; exact d52) _); have kx4 := (hb.block w1.heap.size (by show w1.heap.size < w3.heap.size; omega)).trans (blkset (w := w3) KX3.out (by show w1.heap.size ≠ b; omega) _); have kb4 := (hb.block b (by show b < w3.heap.size; omega)).trans (blkset1 (w := w3) (bblk HB3.out yb KB.out) _); have hS := And.intro (blkc1 ks4) (And.intro (blkc2 ko4).1 (And.intro (blkc2 ko4).2 (And.intro (blkc1 kf4) (blkc3 kx4)))); have KO4 := Lib.hid ko4; have KB4 := Lib.hid kb4; have yo4 := blklt ko4; obtain ⟨z0, z1, zf0, zf1⟩ := blk2 ko4; have HC4 : Hid (Chg [bo, b] W w4) := Lib.hid ((Chg.set (Chg.of HB3.out [bo, b]) (by simp) _).trans (Chg.of (show Below (w3.setCell ⟨b, 0, none⟩ (.bool G)).heap.size _ w4 from by rw [setCell_size]; exact hb) _)); clear hb ks4 ko4 kf4 kx4 kb4); go_wp2_with fail; refine hK.out _ _ ?_ (fun hHeld => ?_); (focus (first | exact hS | (simp [*, go_sem]; done) | fail)); clear hK K; (try simp only [Act.put, nA, nB, nC]); refine last_end (by kernel_rfl) rfl (fun K hK => ?_); (try go_simp); refine hK.out _ _ ?_; clear hK K hHeld; (try simp only [Act.put, nA, nB, nC]); refine last_done (by kernel_rfl) ?_ _)
    go_wp2_with fail
    exact bodyPost_ret (v := .bool false) (by simp [results, Tryz.results246, go_sem]) rfl ⟨rfl, ⟨blkset2 KO4.out _ _, blkset (blkset KB4.out (by show b ≠ bo; omega) _) (by show b ≠ bo; omega) _⟩, (HC4.out.set (by simp) _).set (by simp) _⟩
set_option maxHeartbeats 2000000 in
theorem average_any (w : World) (b k n : Nat) (te e : Int) (D : Flg → Int × Int) (f : FuncId) (bnd caps : Array Value) (J : World → Prop) (g : Bool) (hn : n ≤ 5) (hk : k ≤ 3) (hkn : k ≤ n)
    (eg : ∀ args w, (callFunc f args).run Tryz.prog w = .ok (.enter f args) w)
    (hD : ∀ L ∈ lsts n k [], avP k te e n L = true → inF (D (avF k e n L)))
    (hJk : ∀ q, w.heap.size ≤ q → ∀ W W', J W → Chg [q, b] W W' → J W')
    (hof : ∀ L ∈ lsts n k [], avP k te e n L = true → ∀ W', J W' → Calls Tryz.prog f (bnd ++ #[.agg #[.int .i64 k, .int .i64 n, .int .u32 (onE e (L ++ rstI L n))]] ++ caps) W' fun e0 W'' => e0 = .returned (.agg #[.int .i64 (D (avF k e n L)).1, .int .i64 (D (avF k e n L)).2]) ∧ Below W'.heap.size W' W'')
    (hJ : J w) (hb : w.heap[b]? = some (.cells #[.bool g] 129 (0, 0))) :
    Calls Tryz.prog 167 #[.pointer (some ⟨b, 0, none⟩), .agg #[.int .i64 k, .int .u32 te], .agg #[.int .i64 n, .int .u32 e], .func (.func f) bnd caps] w fun e0 w' =>
      e0 = .returned (.agg #[.int .i64 (kD (divO ((lsts n k []).foldl (avS (avP k te e n) (fun L => D (avF k e n L))) (g, (0, 1))).2 (lisI n k, 1))).1, .int .i64 (kD (divO ((lsts n k []).foldl (avS (avP k te e n) (fun L => D (avF k e n L))) (g, (0, 1))).2 (lisI n k, 1))).2]) ∧
      w'.heap[b]? = some (.cells #[.bool (((lsts n k []).foldl (avS (avP k te e n) (fun L => D (avF k e n L))) (g, (0, 1))).1 || noB (divO ((lsts n k []).foldl (avS (avP k te e n) (fun L => D (avF k e n L))) (g, (0, 1))).2 (lisI n k, 1)))] 129 (0, 0)) ∧ Chg [b] w w' := by
  have eg1 : ∀ args w, (callFunc 246 args).run Tryz.prog w = .ok (.enter 246 args) w := enters_of Tryz.func246 (by kernel_rfl) rfl
  have yb := blklt hb
  obtain ⟨S, hS⟩ : ∃ S, Hid ((lsts n k []).foldl (avS (avP k te e n) (fun L => D (avF k e n L))) (g, (0, 1)) = S) := ⟨_, Lib.hid rfl⟩
  rw [hS.out]
  obtain ⟨C, hC⟩ : ∃ C, Hid (lisI n k = C) := ⟨_, Lib.hid rfl⟩
  obtain ⟨c1, c2⟩ := lisI_pos hn hkn
  rw [hC.out] at c1 c2 ⊢
  obtain ⟨R, hR⟩ : ∃ R, Hid (kD (divO S.2 (C, 1)) = R) := ⟨_, Lib.hid rfl⟩
  obtain ⟨G, hG⟩ : ∃ G, Hid ((S.1 || noB (divO S.2 (C, 1))) = G) := ⟨_, Lib.hid rfl⟩
  rw [hR.out, hG.out]
  have HLS : Hid (∀ w, Calls Tryz.prog 249 #[.int .i64 n, .int .i64 k] w fun r w' => r = .returned (.int .i64 C) ∧ Below w.heap.size w w') := Lib.hid fun w => by
    have := lists_any w n k hn hkn
    rw [hC.out] at this
    exact this
  have HH : ∀ q : Nat, w.heap.size + 5 ≤ q → Hands 246 #[.pointer (some ⟨w.heap.size + 1 + 1, 0, none⟩), .pointer (some ⟨w.heap.size + 1, 0, none⟩), .pointer (some ⟨w.heap.size, 0, none⟩), .pointer (some ⟨q, 0, none⟩), .pointer (some ⟨w.heap.size + 1 + 1 + 1, 0, none⟩)] (q + 1) [q, b]
      (fun (s : Bool × (Int × Int)) (W : World) => (W.heap[w.heap.size + 1 + 1]? = some (.cells #[.int .i64 n, .int .u32 e] 28 (0, 0)) ∧ W.heap[w.heap.size + 1]? = some (.cells #[.int .i64 k, .int .u32 te] 28 (0, 0)) ∧
        W.heap[w.heap.size]? = some (.cells #[.pointer (some ⟨b, 0, none⟩)] 191 (0, 0)) ∧ W.heap[w.heap.size + 1 + 1 + 1]? = some (.cells #[.func (.func f) bnd caps] 210 (0, 0))) ∧
        W.heap[q]? = some (.cells #[.int .i64 s.2.1, .int .i64 s.2.2] 54 (0, 0)) ∧ W.heap[b]? = some (.cells #[.bool s.1] 129 (0, 0)) ∧ inF s.2 ∧ J W)
      (fun _ => false) (avS (avP k te e n) (fun L => D (avF k e n L))) (fun L => L ∈ lsts n k []) := fun q hq =>
    { enters := eg1
      keep := fun s W W' h hb => ⟨⟨bblk hb (blklt h.1.1) h.1.1, bblk hb (blklt h.1.2.1) h.1.2.1, bblk hb (blklt h.1.2.2.1) h.1.2.2.1, bblk hb (blklt h.1.2.2.2) h.1.2.2.2⟩, bblk hb (blklt h.2.1) h.2.1, bblk hb (blklt h.2.2.1) h.2.2.1, h.2.2.2.1, hJk q (by omega) _ _ h.2.2.2.2 (Chg.of hb _)⟩
      call := fun s W L v h hI hB hv => by
        have hL := lists_vl hn hk (by rw [lists_eq hn hk]; exact h)
        refine (average1 W _ _ _ q _ b k n te e D f bnd caps J s L v hL hn hk eg (hD L h) (hJk q (by omega)) (hof L h) hI.2.2.2.2 hI.1.1 hI.1.2.1 hI.1.2.2.1 hI.2.1 hI.1.2.2.2 hI.2.2.1 hI.2.2.2.1 (by omega) ⟨by omega, by omega⟩ ⟨by omega, by omega⟩ ⟨by omega, by omega⟩ ⟨by omega, by omega⟩ hv).mono ?_
        rintro e0 W' ⟨rfl, ⟨h1, h2⟩, hc⟩
        refine ⟨rfl, ⟨⟨hc.blk (by simp <;> omega) hI.1.1, hc.blk (by simp <;> omega) hI.1.2.1, hc.blk (by simp <;> omega) hI.1.2.2.1, hc.blk (by simp <;> omega) hI.1.2.2.2⟩, h1, h2, ?_, hJk q (by omega) _ _ hI.2.2.2.2 hc⟩, hc⟩
        unfold avS
        split
        · rename_i hP
          exact kaddI hI.2.2.2.1 (hD L h hP)
        · exact hI.2.2.2.1
      lt := by simp; omega }
  have HHH := Lib.hid HH
  have HJ := Lib.hid hJ
  have HJK := Lib.hid hJk
  have KB := Lib.hid hb
  clear HH hJ hJk hb hof hD
  go_enter Tryz.func167, Tryz.ntmps167
  go_wp2_with fail
  refine Calls.mono (zero_any _) ?_
  rintro e0 w1 ⟨rfl, hb⟩
  have hbl : Below w.heap.size w w1 := Below.trans belA (hb.mono (by simp <;> omega))
  have k0 : w1.heap[w.heap.size]? = some (.cells #[.pointer (some ⟨b, 0, none⟩)] 191 (0, 0)) := bblk hb (by simp <;> omega) blkA
  have k1 : w1.heap[w.heap.size + 1]? = some (.cells #[.int .i64 k, .int .u32 te] 28 (0, 0)) := bblk hb (by simp <;> omega) blkA
  have k2 : w1.heap[w.heap.size + 1 + 1]? = some (.cells #[.int .i64 n, .int .u32 e] 28 (0, 0)) := bblk hb (by simp <;> omega) blkA
  have k3 : w1.heap[w.heap.size + 1 + 1 + 1]? = some (.cells #[.func (.func f) bnd caps] 210 (0, 0)) := bblk hb (by simp <;> omega) blkA
  have k4 : w1.heap[w.heap.size + 1 + 1 + 1 + 1]? = some (.cells #[.int .i64 0, .int .i64 0] 54 (0, 0)) := bblk hb (by simp <;> omega) blkA
  have kb := bblk hbl yb KB.out
  have y4 := blklt k4
  have y1 := blklt k1
  have y2 := blklt k2
  obtain ⟨p10, p11⟩ := blkc2 k1
  obtain ⟨p20, p21⟩ := blkc2 k2
  have K0 := Lib.hid k0
  have K1 := Lib.hid k1
  have K2 := Lib.hid k2
  have K3 := Lib.hid k3
  have K4 := Lib.hid k4
  have KB1 := Lib.hid kb
  have HB1 := Lib.hid hbl
  have HJ1 := Lib.hid (fun q (hq : w.heap.size ≤ q) W (hW : Below w.heap.size w W) => HJK.out q hq w W HJ.out (Chg.of hW _))
  clear hb hbl k0 k1 k2 k3 k4 kb
  go_wp2_with fail
  have hk0 := K0.out
  have hk1 := K1.out
  have hk2 := K2.out
  have hk3 := K3.out
  have hkb := KB1.out
  have hb1 := HB1.out
  refine Calls.mono (listed_any (HHH.out w1.heap.size (by omega)) n k (by omega) (by omega) k [] _ _ (g, (0, 1)) (by simp) AppI.none (by simp) ⟨⟨blkA, blkA, blkA, blkA⟩, blknew _ _, blkA, zero_in, HJ1.out w.heap.size (Nat.le_refl _) _ belA⟩ (fun L h => h)) ?_
  rw [handed_no, hS.out]
  rintro e0 w2 ⟨rfl, ⟨⟨j2, j1, j0, j3⟩, jo, jb, hin, hj⟩, hC2⟩
  dsimp only at jo jb hin
  have k4 := hC2.blk (b := w.heap.size + 1 + 1 + 1 + 1) (by simp; omega) (blkal K4.out _)
  have hcw : Chg [b] w w2 := by
    have hbw : Below w.heap.size w (w1.alloc (.cells #[.int .i64 0, .int .i64 1] 54)) := belA
    refine ⟨hC2.1.trans hbw.os, hC2.2.1.trans hbw.tape, hC2.2.2.1.trans hbw.output, Nat.le_trans hbw.size hC2.size, fun c hc hm => ?_⟩
    rw [hC2.2.2.2.2 c (Nat.lt_of_lt_of_le hc hbw.size) (by simp at hm ⊢; omega)]
    exact hbw.block c hc
  have HC2 := Lib.hid hcw
  have J0 := Lib.hid j0
  have J1 := Lib.hid j1
  have J2 := Lib.hid j2
  have JO := Lib.hid jo
  have JB := Lib.hid jb
  have K42 := Lib.hid k4
  have e0 := blkc1 j0
  obtain ⟨o0, o1⟩ := blkc2 jo
  obtain ⟨r0, _⟩ := blkc2 j1
  obtain ⟨u0, _⟩ := blkc2 j2
  have z4 := blklt k4
  have zb := blklt jb
  have HDIV : Hid (∀ w', w'.heap[b]? = some (.cells #[.bool S.1] 129 (0, 0)) → Calls Tryz.prog 248 #[.pointer (some ⟨b, 0, none⟩), .agg #[.int .i64 S.2.1, .int .i64 S.2.2], .agg #[.int .i64 C, .int .i64 1]] w' fun e w'' => e = .returned (.agg #[.int .i64 R.1, .int .i64 R.2]) ∧ Below w'.heap.size (w'.setCell ⟨b, 0, none⟩ (.bool G)) w'') := Lib.hid fun w' h => by
    have := kdiv_any b 0 S.1 S.2 (C, 1) w' (blklt h) (blk1 h).1 (blk1 h).2 hin (by unfold inF; simp only; omega) (by simp only; omega)
    rw [hR.out, hG.out] at this
    exact this
  have HKP : Hid (∀ W w' : World, Below W.heap.size W w' → (fun w' => w'.cell? ⟨w.heap.size, 0, none⟩ = some (.pointer (some ⟨b, 0, none⟩)) ∧ w'.cell? ⟨w1.heap.size, 0, none⟩ = some (.int .i64 S.2.1) ∧ w'.cell? ⟨w1.heap.size, 1, none⟩ = some (.int .i64 S.2.2) ∧ w'.cell? ⟨w.heap.size + 1 + 1, 0, none⟩ = some (.int .i64 n) ∧ w'.cell? ⟨w.heap.size + 1, 0, none⟩ = some (.int .i64 k)) W → (fun w' => w'.cell? ⟨w.heap.size, 0, none⟩ = some (.pointer (some ⟨b, 0, none⟩)) ∧ w'.cell? ⟨w1.heap.size, 0, none⟩ = some (.int .i64 S.2.1) ∧ w'.cell? ⟨w1.heap.size, 1, none⟩ = some (.int .i64 S.2.2) ∧ w'.cell? ⟨w.heap.size + 1 + 1, 0, none⟩ = some (.int .i64 n) ∧ w'.cell? ⟨w.heap.size + 1, 0, none⟩ = some (.int .i64 k)) w') := Lib.hid fun W w' hb h => ⟨bkeep hb h.1, bkeep hb h.2.1, bkeep hb h.2.2.1, bkeep hb h.2.2.2.1, bkeep hb h.2.2.2.2⟩
  clear hk0 hk1 hk2 hk3 hkb hb1 p10 p11 p20 p21 j0 j1 j2 j3 jo jb hin hj k4 hcw hC2
  go_wp2_with fail
  (refine wp_region_held_drew (S := (fun w' => w'.cell? ⟨w.heap.size, 0, none⟩ = some (.pointer (some ⟨b, 0, none⟩)) ∧ w'.cell? ⟨w1.heap.size, 0, none⟩ = some (.int .i64 S.2.1) ∧ w'.cell? ⟨w1.heap.size, 1, none⟩ = some (.int .i64 S.2.2) ∧ w'.cell? ⟨w.heap.size + 1 + 1, 0, none⟩ = some (.int .i64 n) ∧ w'.cell? ⟨w.heap.size + 1, 0, none⟩ = some (.int .i64 k))) (by kernel_rfl) ?_ (fun hHeld => ?_); (focus (first | exact hS | (simp [*, go_sem]; done) | fail)); refine rt 0 (some 17) (v := ?_) rfl rfl ?_ ?_; rotate_left; (focus (intro w' hSw; (try dsimp only at hSw); go_simp; (try with_reducible rfl))); (try simp only [Act.put, nA, nB, nC]); refine rt 1 (some 18) (v := ?_) rfl rfl ?_ ?_; rotate_left; (focus (intro w' hSw; (try dsimp only at hSw); go_simp; (try with_reducible rfl))); (try simp only [Act.put, nA, nB, nC]); refine rt 2 (some 19) (v := ?_) rfl rfl ?_ ?_; rotate_left; (focus (intro w' hSw; (try dsimp only at hSw); go_simp; (try with_reducible rfl))); (try simp only [Act.put, nA, nB, nC]); refine rt 3 (some 20) (v := ?_) rfl rfl ?_ ?_; rotate_left; (focus (intro w' hSw; (try dsimp only at hSw); go_simp; (try with_reducible rfl))); (try simp only [Act.put, nA, nB, nC]); refine rt 4 (some 21) (v := ?_) rfl rfl ?_ ?_; rotate_left; (focus (intro w' hSw; (try dsimp only at hSw); go_simp; (try with_reducible rfl))); (try simp only [Act.put, nA, nB, nC]); refine rt 5 (some 22) (v := ?_) rfl rfl ?_ ?_; rotate_left; (focus (intro w' hSw; (try dsimp only at hSw); go_simp; (try with_reducible rfl))); (try simp only [Act.put, nA, nB, nC]); refine wpAnyH_ready (rs := [6]) (by kernel_rfl) (by simp) ?_; refine AllReadyH.cons rfl (fun K hK => ?_) AllReadyH.nil; go_simp; (go_at_call 249; refine Calls.mono (HLS.out _) ?_; rintro e3 w3 ⟨rfl, hb⟩; have hS := HKP.out _ _ hb hHeld; have hz3 := hb.size; have JB3 := Lib.hid (bblk hb zb JB.out); have K43 := Lib.hid (bblk hb z4 K42.out); have HC3 := Lib.hid (HC2.out.trans (Chg.of (show Below w2.heap.size w2 w3 from Below.trans belA (hb.mono (by first | omega | (simp <;> omega)))) _)); have J03 := Lib.hid (bblk hb (blklt J0.out) J0.out); have J13 := Lib.hid (bblk hb (blklt J1.out) J1.out); have J23 := Lib.hid (bblk hb (blklt J2.out) J2.out); have JO3 := Lib.hid (bblk hb (blklt JO.out) JO.out); clear hb); go_wp2_with fail; refine hK.out _ _ ?_ (fun hHeld => ?_); (focus (first | exact hS | (simp [*, go_sem]; done) | fail)); clear hK K; (try simp only [Act.put, nA, nB, nC]); refine rt 7 (some 24) (v := ?_) rfl rfl ?_ ?_; rotate_left; (focus (intro w' hSw; (try dsimp only at hSw); go_simp; (try with_reducible rfl))); (try simp only [Act.put, nA, nB, nC]); refine wpAnyH_ready (rs := [8]) (by kernel_rfl) (by simp) ?_; refine AllReadyH.cons rfl (fun K hK => ?_) AllReadyH.nil; go_simp; (go_at_call 248; refine Calls.mono (HDIV.out _ JB3.out) ?_; rintro e4 w4 ⟨rfl, hb⟩; have k04 := (hb.block _ (blklt J03.out)).trans (blkset (w := w3) J03.out (by show w.heap.size ≠ b; omega) _); have k14 := (hb.block _ (blklt J13.out)).trans (blkset (w := w3) J13.out (by show w.heap.size + 1 ≠ b; omega) _); have k24 := (hb.block _ (blklt J23.out)).trans (blkset (w := w3) J23.out (by show w.heap.size + 1 + 1 ≠ b; omega) _); have ko4 := (hb.block _ (blklt JO3.out)).trans (blkset (w := w3) JO3.out (by show w1.heap.size ≠ b; omega) _); have k44 := (hb.block _ (blklt K43.out)).trans (blkset (w := w3) K43.out (by show w.heap.size + 1 + 1 + 1 + 1 ≠ b; omega) _); have kb4 := (hb.block _ (blklt JB3.out)).trans (blkset1 (w := w3) JB3.out _); have hS := And.intro (blkc1 k04) (And.intro (blkc2 ko4).1 (And.intro (blkc2 ko4).2 (And.intro (blkc2 k24).1 (blkc2 k14).1))); have K44 := Lib.hid k44; have KB4 := Lib.hid kb4; have yo4 := blklt k44; obtain ⟨z0, z1, zf0, zf1⟩ := blk2 k44; have HC4 : Hid (Chg [b] w w4) := Lib.hid ((Chg.set HC3.out (by simp) _).trans (Chg.of (show Below (w3.setCell ⟨b, 0, none⟩ (.bool G)).heap.size _ w4 from by rw [setCell_size]; exact hb) _)); clear hb k04 k14 k24 ko4 k44 kb4); go_wp2_with fail; refine hK.out _ _ ?_ (fun hHeld => ?_); (focus (first | exact hS | (simp [*, go_sem]; done) | fail)); clear hK K; (try simp only [Act.put, nA, nB, nC]); refine wpAnyH_ready (rs := [9]) (by kernel_rfl) (by simp) ?_; refine AllReadyH.cons rfl (fun K hK => ?_) AllReadyH.nil; (try go_simp); refine hK.out _ _ ?_ (fun hHeld => ?_); (focus (first | exact hS | (simp [*, go_sem]; done) | fail)); clear hK K; (try simp only [Act.put, nA, nB, nC]); refine wpAnyH_done (by kernel_rfl) ?_ _)
  clear hHeld
  go_wp2_with fail
  have hfin : Chg [b] w ((w4.setCell ⟨w.heap.size + 1 + 1 + 1 + 1, 0, none⟩ (.int .i64 R.1)).setCell ⟨w.heap.size + 1 + 1 + 1 + 1, 1, none⟩ (.int .i64 R.2)) := by
    have h := HC4.out
    refine ⟨h.1, h.2.1, h.2.2.1, by rw [setCell_size, setCell_size]; exact h.size, fun c hc hm => ?_⟩
    rw [Below.heap_setCell _ _ _ c (by show c ≠ w.heap.size + 1 + 1 + 1 + 1; omega), Below.heap_setCell _ _ _ c (by show c ≠ w.heap.size + 1 + 1 + 1 + 1; omega)]
    exact h.2.2.2.2 c hc hm
  exact bodyPost_ret (v := .agg #[.int .i64 R.1, .int .i64 R.2]) (by simp [results, Tryz.results167, go_sem, *]) rfl ⟨rfl, blkset (blkset KB4.out (by show b ≠ w.heap.size + 1 + 1 + 1 + 1; omega) _) (by show b ≠ w.heap.size + 1 + 1 + 1 + 1; omega) _, hfin⟩
end Go.Proofs.YtekchdgpaemofaaGreat
