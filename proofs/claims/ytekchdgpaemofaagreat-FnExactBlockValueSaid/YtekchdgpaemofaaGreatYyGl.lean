import Derived.Deep.LoopGhost
import Derived.Test.YtekchdgpaemofaaGreatYyGm
import Derived.Test.YtekchdgpaemofaaGreatYySl
namespace Go.Proofs.YtekchdgpaemofaaGreat
open Go.ChangeShapes Go.WideShapes Go.RowKit
set_option linter.unusedVariables false
set_option linter.unusedSimpArgs false
attribute [local irreducible] Calls
theorem VL_seq {n : Nat} (h : n ≤ 5) : VL (seqI n) := by
  have h1 : n = 0 ∨ n = 1 ∨ n = 2 ∨ n = 3 ∨ n = 4 ∨ n = 5 := by omega
  rcases h1 with rfl | rfl | rfl | rfl | rfl | rfl <;> exact VL.of (by decide)
set_option maxHeartbeats 1000000 in
theorem l01On_any (w : World) (m e : Int) (L : List Int) (v : Value) (h : Lst (shI .i64) w L v) (hL : VL L) :
    Calls Tryz.prog 121 #[.agg #[.int .i64 m, .int .u32 e], v] w fun e0 w' => e0 = .returned (.agg #[.int .i64 L.length, .int .u32 (onE e L)]) ∧ Below w.heap.size w w' := by
  obtain ⟨A, cap, rfl, hc, hm, hel⟩ := lstI h
  have H1 := Lib.hid hel
  have HL := Lib.hid hL
  have hl5 := hL.1
  clear hel hL
  unfold maxLen at hm
  have hE : Hid (onE e L = madeE (fun i j => hasE e (gi L i) (gi L j)) L.length) := Lib.hid rfl
  generalize hP : (fun i j => hasE e (gi L i) (gi L j)) = P at hE
  have HP : Hid (∀ i j, P i j = hasE e (gi L i) (gi L j)) := Lib.hid (by intro i j; rw [← hP])
  clear hP
  go_enter Tryz.func121, Tryz.ntmps121
  go_wp2_with fail
  go_loopw [6] (fun i wr => ∃ (k : Nat), 1 ≤ k ∧ k ≤ max 1 L.length ∧ i = .int .i64 k ∧ wr.heap[w.heap.size + 2]? = some (.cells #[.int .i64 L.length, .int .u32 (madeE P k)] 28 (0, 0)) ∧ wr.heap[w.heap.size]? = some (.cells #[.int .i64 m, .int .u32 e] 28 (0, 0)) ∧ (∃ u v, wr.heap[w.heap.size + 1]? = some (.cells #[u, v] 28 (0, 0))) ∧ Below w.heap.size w wr) (fun i _ => 6 - (intOf i).toNat)
  case atStart => exact ⟨1, Nat.le_refl _, Nat.le_max_left _ _, rfl, (by rw [show madeE P 1 = 0 from rfl]; exact blkA), blkA, ⟨_, _, blkA⟩, belA⟩
  case round =>
    obtain ⟨k, hk1, hk, rfl, b0, bg, ⟨u0, v0, b1⟩, hB⟩ := hrel
    obtain ⟨s0, s1, f0, f1⟩ := blk2 b0
    obtain ⟨s2, s3, f2, f3⟩ := blk2 b1
    have z0 := blklt b0
    have z1 := blklt b1
    by_cases hlt : k < L.length
    · have hk8 : (k : Int) < 9223372036854775807 := by omega
      have B0 := Lib.hid b0
      have B1 := Lib.hid b1
      have BG := Lib.hid bg
      clear b0 b1 bg
      go_wp2_with fail
      have HB := Lib.hid hB
      obtain ⟨W0, rfl⟩ : ∃ x, x = wr := ⟨_, rfl⟩
      go_loopw [7] (fun i wr => ∃ (l : Nat), l ≤ k ∧ i = .int .i64 l ∧ wr.heap[w.heap.size + 2]? = some (.cells #[.int .i64 L.length, .int .u32 (rowE P k l (madeE P k))] 28 (0, 0)) ∧ wr.heap[w.heap.size]? = some (.cells #[.int .i64 m, .int .u32 e] 28 (0, 0)) ∧ wr.heap[w.heap.size + 1]? = some (.cells #[u0, v0] 28 (0, 0)) ∧ Below w.heap.size w wr) (fun i _ => k - (intOf i).toNat)
      case atStart => exact ⟨0, Nat.zero_le _, rfl, B0.out, BG.out, B1.out, hB⟩
      case round =>
        clear s0 s1 s2 s3 f0 f1 f2 f3 z0 z1 B0 B1 BG hB HB
        obtain ⟨l, hl, rfl, b0, bg, b1, hB⟩ := hrel
        obtain ⟨s0, s1, f0, f1⟩ := blk2 b0
        obtain ⟨s4, s5, f4, f5⟩ := blk2 bg
        have z0 := blklt b0
        have z1 := blklt b1
        have z2 := blklt bg
        have B0 := Lib.hid b0
        have B1 := Lib.hid b1
        have BG := Lib.hid bg
        clear b0 b1 bg
        by_cases hlt2 : l < k
        · have hl8 : (l : Int) < 9223372036854775807 := by omega
          obtain ⟨bl, off, rfl, hel⟩ := H1.out (by omega)
          have c1 := hel l (by omega)
          have c2 := hel k hlt
          have zb : bl < w.heap.size := World.block_lt_of_cell? _ _ c1
          replace c1 := bkeep hB c1
          replace c2 := bkeep hB c2
          have g1 := HL.out.2.1 l (by omega)
          have g2 := HL.out.2.1 k hlt
          have g3 := HL.out.2.2 l k hlt2 hlt
          have G3 := Lib.hid g3
          have hll' : (l : Int) < (L.length : Int) := by omega
          have hkk' : (k : Int) < (L.length : Int) := by omega
          have hzz := hB.size
          have zb2 : bl < wr.heap.size := by omega
          clear hel g3
          cases hp : P l k
          · have hr : Hid (rowE P k (l + 1) (madeE P k) = rowE P k l (madeE P k)) := Lib.hid (by simp [rowE, hp])
            rw [HP.out] at hp
            have Hp := Lib.hid hp
            clear hp
            go_wp2_with fail
            go_region_held3 (fun w' => w'.cell? ⟨w.heap.size, 0, none⟩ = some (.int .i64 m) ∧ w'.cell? ⟨w.heap.size, 1, none⟩ = some (.int .u32 e) ∧ w'.cell? ⟨bl, off + l, none⟩ = some (.int .i64 (gi L l)) ∧ w'.cell? ⟨bl, off + k, none⟩ = some (.int .i64 (gi L k))) (simp [*, go_sem]) (first | (go_at_call 198; refine Calls.mono ((Hp.out ▸ l01Joined_any m e _ _ _ g1 g2 G3.out)) ?_; rintro e w1 ⟨rfl, hb⟩; obtain ⟨X, m, rfl⟩ := plsOf hb; clear hb))
            all_goals (go_wp2_with fail)
            all_goals (
              go_roundw
              case rel =>
                have b0 := B0.out
                have b1 := B1.out
                have bg := BG.out
                exact ⟨l + 1, by omega, by go_num, by rw [hr.out]; exact blkA, blkA, blkA, belA⟩
              case measure => simp [intOf]; omega)
          · have hr : Hid (rowE P k (l + 1) (madeE P k) = setE (rowE P k l (madeE P k)) l k) := Lib.hid (by simp [rowE, hp])
            rw [HP.out] at hp
            have Hp := Lib.hid hp
            clear hp
            go_wp2_with fail
            go_region_held3 (fun w' => w'.cell? ⟨w.heap.size, 0, none⟩ = some (.int .i64 m) ∧ w'.cell? ⟨w.heap.size, 1, none⟩ = some (.int .u32 e) ∧ w'.cell? ⟨bl, off + l, none⟩ = some (.int .i64 (gi L l)) ∧ w'.cell? ⟨bl, off + k, none⟩ = some (.int .i64 (gi L k))) (simp [*, go_sem]) (first | (go_at_call 198; refine Calls.mono ((Hp.out ▸ l01Joined_any m e _ _ _ g1 g2 G3.out)) ?_; rintro e w1 ⟨rfl, hb⟩; obtain ⟨X, m, rfl⟩ := plsOf hb; clear hb))
            all_goals (go_wp2_with fail)
            all_goals (go_region_law (first | (go_simp; go_at_call 199; refine Calls.mono (l01Bit_any l k _ (by omega) (by omega)) ?_; rintro e w1 ⟨rfl, rfl⟩)))
            all_goals (go_wp2_with fail)
            all_goals (
              go_roundw
              case rel =>
                have b0 := B0.out
                have b1 := B1.out
                have bg := BG.out
                exact ⟨l + 1, by omega, by go_num, by rw [hr.out]; (repeat (first | with_reducible refine pls_block _ _ ?_ | exact blkset21 b0 _)), blkA, blkA, belA⟩
              case measure => simp [intOf]; omega)
        · have e : l = k := by omega
          subst e
          go_wp2_with fail
          go_roundw
          case rel => exact ⟨l + 1, by omega, by omega, by go_num, B0.out, BG.out, ⟨_, _, B1.out⟩, hB⟩
          case measure => simp [intOf]; omega
    · have hEq : madeE P k = madeE P L.length := by
        rcases Nat.eq_zero_or_pos L.length with h0 | h0
        · have : k = 1 := by omega
          rw [this, h0]; rfl
        · have : k = L.length := by omega
          rw [this]
      rw [hEq] at s1 b0
      clear hEq b0
      go_wp2_with fail
      exact bodyPost_ret (v := .agg #[.int .i64 L.length, .int .u32 (madeE P L.length)]) (by simp [results, Tryz.results121, go_sem, *]) rfl ⟨by rw [hE.out], belA⟩
theorem l03Type_any (w : World) (k : Nat) (n e : Int) (hk : k ≤ 5) : Calls Tryz.prog 57 #[.agg #[.int .i64 k, .int .i64 n, .int .u32 e]] w fun e0 w' => e0 = .returned (.agg #[.int .i64 k, .int .u32 (onE e (seqI k))]) ∧ Below w.heap.size w w' := by
  go_enter Tryz.func57, Tryz.ntmps57
  go_wp2_with fail
  (refine wp_region_held_drew (S := (fun w' => w'.cell? ⟨w.heap.size, 0, none⟩ = some (.int .i64 k) ∧ w'.cell? ⟨w.heap.size, 1, none⟩ = some (.int .i64 n) ∧ w'.cell? ⟨w.heap.size, 2, none⟩ = some (.int .u32 e))) (by kernel_rfl) ?_ (fun hHeld => ?_); (focus (simp [*, go_sem])); refine rt 0 (some 3) (v := ?_) rfl rfl ?_ ?_; rotate_left; (focus (intro w' hSw; (try dsimp only at hSw); go_simp; (try with_reducible rfl))); (try simp only [Act.put, nA, nB, nC]); refine rt 1 (some 4) (v := ?_) rfl rfl ?_ ?_; rotate_left; (focus (intro w' hSw; (try dsimp only at hSw); go_simp; (try with_reducible rfl))); (try simp only [Act.put, nA, nB, nC]); refine rt 2 (some 5) (v := ?_) rfl rfl ?_ ?_; rotate_left; (focus (intro w' hSw; (try dsimp only at hSw); go_simp; (try with_reducible rfl))); (try simp only [Act.put, nA, nB, nC]); refine rt 3 (some 6) (v := ?_) rfl rfl ?_ ?_; rotate_left; (focus (intro w' hSw; (try dsimp only at hSw); go_simp; (try with_reducible rfl))); (try simp only [Act.put, nA, nB, nC]); refine wpAnyH_ready (rs := [4]) (by kernel_rfl) (by simp) ?_; refine AllReadyH.cons rfl (fun K hK => ?_) AllReadyH.nil; go_simp; (go_at_call 122; refine Calls.mono (l01First_any _ k (by omega)) ?_; rintro e0 w1 ⟨v7, rfl, hA7, hb⟩; obtain ⟨X7, m7, rfl⟩ := plsOf hb; clear hb; (try simp only [pls_pls, drew_pls, drewN_pls, pls_drew, pls_drewN] at hA7); have hA7 := Lib.hid hA7); go_wp2_with fail; refine hK.out _ _ ?_ (fun hHeld => ?_); (focus (simp [*, go_sem])); clear hK K; (try simp only [Act.put, nA, nB, nC]); refine wpAnyH_ready (rs := [5]) (by kernel_rfl) (by simp) ?_; refine AllReadyH.cons rfl (fun K hK => ?_) AllReadyH.nil; go_simp; (go_at_call 121; refine Calls.mono (l01On_any _ n e (seqI k) _ (hA7.out.lst.below belA) (VL_seq hk)) ?_; rw [seqI_len]; rintro e0 w1 ⟨rfl, hb⟩; obtain ⟨X8, m8, rfl⟩ := plsOf hb; clear hb); go_wp2_with fail; refine hK.out _ _ ?_ (fun hHeld => ?_); (focus (simp [*, go_sem])); clear hK K; (try simp only [Act.put, nA, nB, nC]); refine wpAnyH_ready (rs := [6]) (by kernel_rfl) (by simp) ?_; refine AllReadyH.cons rfl (fun K hK => ?_) AllReadyH.nil; (try go_simp); refine hK.out _ _ ?_ (fun hHeld => ?_); (focus (simp [*, go_sem])); clear hK K; (try simp only [Act.put, nA, nB, nC]); refine wpAnyH_done (by kernel_rfl) ?_ _)
  clear hHeld
  go_wp2_with fail
  exact bodyPost_ret (v := .agg #[.int .i64 k, .int .u32 (onE e (seqI k))]) (by simp [results, Tryz.results57, go_sem, *]) rfl ⟨rfl, belA⟩
end Go.Proofs.YtekchdgpaemofaaGreat

/- spec.l03Least. -/
namespace Go.Proofs.YtekchdgpaemofaaGreat
open Go.ChangeShapes Go.WideShapes Go.RowKit
set_option linter.unusedVariables false
set_option linter.unusedSimpArgs false
attribute [local irreducible] Calls
def lessE (x b : Int) : Int := if x < b then x else b
def leastR (e : Int) (k m : Nat) : Nat → List Int → Int → Int
  | 0, _, b => b
  | f + 1, o, b => if (nxI m o o.length).isSome then leastR e k m f (nextL m o) (lessE (onE e (ordL k o)) b) else lessE (onE e (ordL k o)) b
def runOk (k m : Nat) : Nat → List Int → Bool
  | 0, _ => false
  | f + 1, o => (decide (o.length = m) && vsB o && chainB m o && vlB (ordL k o)) && (if (nxI m o o.length).isSome then runOk k m f (nextL m o) else true)
def leastS (e : Int) (k m : Nat) : Int := leastR e k m 130 (seqI m) e
theorem onE_ok (e : Int) (L : List Int) : okI .u32 (onE e L) := madeE_ok _ _
theorem lessE_ok {x b : Int} (h1 : okI .u32 x) (h2 : okI .u32 b) : okI .u32 (lessE x b) := by unfold lessE; split <;> assumption
theorem Own.setOther {s : Sh} {B : Nat} {w : World} {xs : List s.T} {v : Value} {F : List Nat} (h : Own s B w xs v F) (p : Addr) (u : Value) (hp : p.block < B) : Own s B (w.setCell p u) xs v F :=
  h.move (Nat.le_refl _) fun b hb _ => Below.heap_setCell w p u b (by omega)
theorem l01Next_any' (w : World) (B n m : Nat) (L : List Int) (A : Option Addr) (cap : Nat) (F : List Nat) (hL : L.length = m) (h : Own (shI .i64) B w L (.slice A m cap) F) (hl : m ≤ 5) (hn : n ≤ 5) (hv : vsB L = true) (hch : chainB n L = true) :
    Calls Tryz.prog 200 #[.slice A m cap, .int .i64 n] w fun e w' => e = .returned (.bool (nxI n L L.length).isSome) ∧ Own (shI .i64) B w' (nextL n L) (.slice A m cap) F ∧ Chg F w w' := by
  subst hL
  exact l01Next_any w B n L A cap F h hl hn hv hch
theorem l01On_any' (w : World) (m e : Int) (n : Nat) (L : List Int) (v : Value) (h : Lst (shI .i64) w L v) (hL : VL L) (hn : L.length = n) :
    Calls Tryz.prog 121 #[.agg #[.int .i64 m, .int .u32 e], v] w fun e0 w' => e0 = .returned (.agg #[.int .i64 n, .int .u32 (onE e L)]) ∧ Below w.heap.size w w' := by
  subst hn
  exact l01On_any w m e L v h hL
theorem blkset32 {w : World} {k : Nat} {t : TypeId} {u v x : Value} (h : w.heap[k]? = some (.cells #[u, v, x] t (0, 0))) (a b : Value) : ((w.setCell ⟨k, 1, none⟩ a).setCell ⟨k, 2, none⟩ b).heap[k]? = some (.cells #[u, a, b] t (0, 0)) := blkset0 (blkset0 h 1 a) 2 b
set_option maxHeartbeats 2000000 in
theorem l03Least_any (w : World) (k q n : Nat) (e : Int) (he : okI .u32 e) (hn : n = k + q) (hn5 : n ≤ 5) (hr : runOk k q 130 (seqI q) = true) :
    Calls Tryz.prog 123 #[.agg #[.int .i64 k, .int .i64 n, .int .u32 e]] w fun e0 w' => e0 = .returned (.agg #[.int .i64 k, .int .i64 n, .int .u32 (leastS e k q)]) ∧ Below w.heap.size w w' := by
  have hnk : (n : Int) - (k : Int) = (q : Int) := by omega
  have HE := Lib.hid he
  have HR := Lib.hid hr
  have HN := Lib.hid hn
  have hk5 : k ≤ 5 := by omega
  have hm5 : q ≤ 5 := by omega
  clear he hr hn
  go_enter Tryz.func123, Tryz.ntmps123
  go_wp2_with fail
  refine Calls.mono (l01First_any _ q (by omega)) ?_
  rintro e0 w1 ⟨v7, rfl, hA7, hb⟩
  obtain ⟨A, cap, rfl⟩ := hA7.form
  obtain ⟨F, hO7⟩ := hA7.own
  obtain ⟨X7, m7, rfl⟩ := plsOf hb
  clear hb hA7
  rw [seqI_len] at hO7 ⊢
  (try simp only [pls_pls, drew_pls, drewN_pls, pls_drew, pls_drewN] at hO7)
  have hO7 := Lib.hid hO7
  go_wp2_with fail
  go_loopg [5] 130 (fun f x wr => ∃ (more : Bool) (o : List Int) (b : Int), x = .bool more ∧ wr.heap[w.heap.size]? = some (.cells #[.int .i64 k, .int .i64 n, .int .u32 e] 104 (0, 0)) ∧ (∃ u1 u2 u3, wr.heap[w.heap.size + 1]? = some (.cells #[u1, u2, u3] 104 (0, 0))) ∧ wr.heap[w.heap.size + 2]? = some (.cells #[.int .i64 k, .int .i64 n, .int .u32 b] 104 (0, 0)) ∧ Hid (Own (shI .i64) (w.heap.size + 3) wr o (.slice A q cap) F) ∧ Hid (okI .u32 b) ∧ Hid (more = true → runOk k q f o = true ∧ leastR e k q f o b = leastS e k q) ∧ Hid (more = false → b = leastS e k q) ∧ Below w.heap.size w wr)
  case atStart => exact ⟨true, seqI q, e, rfl, blkA, ⟨_, _, _, blkA⟩, blkA, Lib.hid (by simpa using hO7.out), HE, Lib.hid (fun _ => ⟨HR.out, rfl⟩), Lib.hid (fun h => absurd h (by simp)), belA⟩
  case round =>
    clear hO7
    obtain ⟨more, o, b, rfl, bg, ⟨u1, u2, u3, b1⟩, b0, hO, hb, hT, hF, hB⟩ := hrel
    obtain ⟨s0, s1, s2, f0, f1, f2⟩ := blk3 b0
    obtain ⟨s3, s4, s5, f3, f4, f5⟩ := blk3 bg
    obtain ⟨s6, s7, s8, f6, f7, f8⟩ := blk3 b1
    have z0 := blklt b0
    have z1 := blklt b1
    have z2 := blklt bg
    cases more
    · have hbr := hF.out rfl
      subst hbr
      clear b0 b1 bg
      go_wp2_with fail
      exact bodyPost_ret (v := .agg #[.int .i64 k, .int .i64 n, .int .u32 (leastS e k q)]) (by simp [results, Tryz.results123, go_sem, *]) rfl ⟨rfl, belA⟩
    · obtain ⟨hT1, hT2⟩ := hT.out rfl
      cases gk with
      | zero => simp [runOk] at hT1
      | succ f =>
        simp only [runOk, Bool.and_eq_true, decide_eq_true_eq] at hT1
        obtain ⟨⟨⟨⟨hl, hvs⟩, hch⟩, hvl⟩, hnx⟩ := hT1
        clear hT hF
        have hbig : ∀ i, i < o.length → 0 ≤ gi o i ∧ gi o i ≤ 100 := fun i hi => by have := vsB_of hvs hi; omega
        have HBIG := Lib.hid hbig
        have HVS := Lib.hid hvs
        have HCH := Lib.hid hch
        have HVL := Lib.hid (VL.of hvl)
        have HL := Lib.hid hl
        have HNX := Lib.hid hnx
        have HT2 := Lib.hid hT2
        have hFge : Hid (∀ b ∈ F, w.heap.size + 3 ≤ b) := Lib.hid hO.out.ge
        have B0 := Lib.hid b0
        have BG := Lib.hid bg
        have B1 := Lib.hid b1
        have hzz := hB.size
        have hstep : Hid (leastR e k q (f + 1) o b = if (nxI q o o.length).isSome then leastR e k q f (nextL q o) (lessE (onE e (ordL k o)) b) else lessE (onE e (ordL k o)) b) := Lib.hid rfl
        clear hbig hvs hch hvl hl hnx hT2 b0 bg b1
        by_cases hx : onE e (ordL k o) < b
        · have hmin : lessE (onE e (ordL k o)) b = onE e (ordL k o) := if_pos hx
          have HMIN := Lib.hid hmin
          clear hmin
          go_wp2_with fail
          go_region_held3 (fun w' => w'.cell? ⟨w.heap.size, 0, none⟩ = some (.int .i64 k) ∧ w'.cell? ⟨w.heap.size, 1, none⟩ = some (.int .i64 n) ∧ w'.cell? ⟨w.heap.size, 2, none⟩ = some (.int .u32 e)) (simp [*, go_sem]) (first | (go_at_call 201; refine Calls.mono (l03Order_any _ k o _ (hO.out.lst.below belA) (by omega) (by rw [HL.out]; omega) HBIG.out) ?_; rintro e0 w1 ⟨v9, rfl, hA9, hb⟩; obtain ⟨X9, m9, rfl⟩ := plsOf hb; clear hb; (try simp only [pls_pls, drew_pls, drewN_pls, pls_drew, pls_drewN] at hA9); have hA9 := Lib.hid hA9) | (go_at_call 121; refine Calls.mono (l01On_any' _ n e n (ordL k o) _ (hA9.out.lst.below belA) HVL.out (by rw [ordL_len, HL.out, HN.out])) ?_; rintro e w1 ⟨rfl, hb⟩; obtain ⟨X, m, rfl⟩ := plsOf hb; clear hb))
          all_goals (go_wp2_with fail)
          all_goals (
            refine Calls.mono (l01Next_any' _ (w.heap.size + 3) q q o _ _ F HL.out (((hO.out.setOther ⟨w.heap.size + 2, 1, none⟩ _ (by simp)).setOther ⟨w.heap.size + 2, 2, none⟩ _ (by simp)).below (Nat.le_refl _) belA) hm5 hm5 HVS.out HCH.out) ?_
            rintro e1 w3 ⟨rfl, hO3, hCh⟩
            have b0 := B0.out
            have bg := BG.out
            have b1 := B1.out
            have k0 : w3.heap[w.heap.size + 2]? = some (.cells #[.int .i64 k, .int .i64 n, .int .u32 (lessE (onE e (ordL k o)) b)] 104 (0, 0)) := (hCh.2.2.2.2 _ (by simp <;> omega) (fun h => by have := hFge.out _ h; omega)).trans (by rw [HMIN.out]; repeat (first | with_reducible refine pls_block _ _ ?_ | exact blkset32 b0 _ _ | refine blkal ?_ _))
            have kg : w3.heap[w.heap.size]? = some (.cells #[.int .i64 k, .int .i64 n, .int .u32 e] 104 (0, 0)) := (hCh.2.2.2.2 _ (by simp <;> omega) (fun h => by have := hFge.out _ h; omega)).trans (blkA)
            have k1 : w3.heap[w.heap.size + 1]? = some (.cells #[u1, u2, u3] 104 (0, 0)) := (hCh.2.2.2.2 _ (by simp <;> omega) (fun h => by have := hFge.out _ h; omega)).trans (blkA)
            have kB : Below w.heap.size w w3 := Below.trans (belA) (hCh.below (fun b hb => by have := hFge.out b hb; omega) (by simp <;> omega))
            clear b0 bg b1
            have K0 := Lib.hid k0
            have KG := Lib.hid kg
            have K1 := Lib.hid k1
            have KB := Lib.hid kB
            have hO3 := Lib.hid hO3
            clear k0 kg k1 kB hCh
            cases hsm : (nxI q o o.length).isSome
            · have hTot : Hid (lessE (onE e (ordL k o)) b = leastS e k q) := Lib.hid (by rw [← HT2.out, hstep.out, hsm]; rfl)
              go_wp2_with fail
              go_roundg f
              case measure => omega
              case rel => exact ⟨false, nextL q o, _, rfl, KG.out, ⟨_, _, _, K1.out⟩, K0.out, hO3, Lib.hid (lessE_ok (onE_ok _ _) hb.out), Lib.hid (fun h => absurd h (by simp)), Lib.hid (fun _ => hTot.out), KB.out⟩
            · have hTot : Hid (leastR e k q f (nextL q o) (lessE (onE e (ordL k o)) b) = leastS e k q) := Lib.hid (by rw [← HT2.out, hstep.out, hsm]; rfl)
              have hOk : Hid (runOk k q f (nextL q o) = true) := Lib.hid (by have := HNX.out; rw [hsm] at this; exact this)
              go_wp2_with fail
              go_roundg f
              case measure => omega
              case rel => exact ⟨true, nextL q o, _, rfl, KG.out, ⟨_, _, _, K1.out⟩, K0.out, hO3, Lib.hid (lessE_ok (onE_ok _ _) hb.out), Lib.hid (fun _ => ⟨hOk.out, hTot.out⟩), Lib.hid (fun h => absurd h (by simp)), KB.out⟩)
        · have hmin : lessE (onE e (ordL k o)) b = b := if_neg hx
          have HMIN := Lib.hid hmin
          clear hmin
          go_wp2_with fail
          go_region_held3 (fun w' => w'.cell? ⟨w.heap.size, 0, none⟩ = some (.int .i64 k) ∧ w'.cell? ⟨w.heap.size, 1, none⟩ = some (.int .i64 n) ∧ w'.cell? ⟨w.heap.size, 2, none⟩ = some (.int .u32 e)) (simp [*, go_sem]) (first | (go_at_call 201; refine Calls.mono (l03Order_any _ k o _ (hO.out.lst.below belA) (by omega) (by rw [HL.out]; omega) HBIG.out) ?_; rintro e0 w1 ⟨v9, rfl, hA9, hb⟩; obtain ⟨X9, m9, rfl⟩ := plsOf hb; clear hb; (try simp only [pls_pls, drew_pls, drewN_pls, pls_drew, pls_drewN] at hA9); have hA9 := Lib.hid hA9) | (go_at_call 121; refine Calls.mono (l01On_any' _ n e n (ordL k o) _ (hA9.out.lst.below belA) HVL.out (by rw [ordL_len, HL.out, HN.out])) ?_; rintro e w1 ⟨rfl, hb⟩; obtain ⟨X, m, rfl⟩ := plsOf hb; clear hb))
          all_goals (go_wp2_with fail)
          all_goals (
            refine Calls.mono (l01Next_any' _ (w.heap.size + 3) q q o _ _ F HL.out (hO.out.below (Nat.le_refl _) belA) hm5 hm5 HVS.out HCH.out) ?_
            rintro e1 w3 ⟨rfl, hO3, hCh⟩
            have b0 := B0.out
            have bg := BG.out
            have b1 := B1.out
            have k0 : w3.heap[w.heap.size + 2]? = some (.cells #[.int .i64 k, .int .i64 n, .int .u32 (lessE (onE e (ordL k o)) b)] 104 (0, 0)) := (hCh.2.2.2.2 _ (by simp <;> omega) (fun h => by have := hFge.out _ h; omega)).trans (by rw [HMIN.out]; exact blkA)
            have kg : w3.heap[w.heap.size]? = some (.cells #[.int .i64 k, .int .i64 n, .int .u32 e] 104 (0, 0)) := (hCh.2.2.2.2 _ (by simp <;> omega) (fun h => by have := hFge.out _ h; omega)).trans (blkA)
            have k1 : w3.heap[w.heap.size + 1]? = some (.cells #[u1, u2, u3] 104 (0, 0)) := (hCh.2.2.2.2 _ (by simp <;> omega) (fun h => by have := hFge.out _ h; omega)).trans (blkA)
            have kB : Below w.heap.size w w3 := Below.trans (belA) (hCh.below (fun b hb => by have := hFge.out b hb; omega) (by simp <;> omega))
            clear b0 bg b1
            have K0 := Lib.hid k0
            have KG := Lib.hid kg
            have K1 := Lib.hid k1
            have KB := Lib.hid kB
            have hO3 := Lib.hid hO3
            clear k0 kg k1 kB hCh
            cases hsm : (nxI q o o.length).isSome
            · have hTot : Hid (lessE (onE e (ordL k o)) b = leastS e k q) := Lib.hid (by rw [← HT2.out, hstep.out, hsm]; rfl)
              go_wp2_with fail
              go_roundg f
              case measure => omega
              case rel => exact ⟨false, nextL q o, _, rfl, KG.out, ⟨_, _, _, K1.out⟩, K0.out, hO3, Lib.hid (lessE_ok (onE_ok _ _) hb.out), Lib.hid (fun h => absurd h (by simp)), Lib.hid (fun _ => hTot.out), KB.out⟩
            · have hTot : Hid (leastR e k q f (nextL q o) (lessE (onE e (ordL k o)) b) = leastS e k q) := Lib.hid (by rw [← HT2.out, hstep.out, hsm]; rfl)
              have hOk : Hid (runOk k q f (nextL q o) = true) := Lib.hid (by have := HNX.out; rw [hsm] at this; exact this)
              go_wp2_with fail
              go_roundg f
              case measure => omega
              case rel => exact ⟨true, nextL q o, _, rfl, KG.out, ⟨_, _, _, K1.out⟩, K0.out, hO3, Lib.hid (lessE_ok (onE_ok _ _) hb.out), Lib.hid (fun _ => ⟨hOk.out, hTot.out⟩), Lib.hid (fun h => absurd h (by simp)), KB.out⟩)
end Go.Proofs.YtekchdgpaemofaaGreat
