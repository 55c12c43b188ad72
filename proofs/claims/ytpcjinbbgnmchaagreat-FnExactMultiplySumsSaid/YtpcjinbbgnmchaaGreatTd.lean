/- impl.summing.told: a sum's terms that are not 0, if there are not too many. -/
import Derived.Test.YtpcjinbbgnmchaaGreatDf
import Derived.Test.YtpcjinbbgnmchaaGreatGk
namespace Go.Proofs.YtpcjinbbgnmchaaGreat
open Go.ChangeShapes Go.WideShapes Go.RowKit
set_option linter.unusedVariables false
set_option linter.unusedSimpArgs false
attribute [local irreducible] Calls
/-- The terms that are not 0; the code of a sum with such terms; the parts of a sum with a code. -/
def nzT (xs : List shTerm.T) : List shTerm.T := xs.filter fun d => !(d.2.1 == 0)
def tdC (g : Bool) (xs : List shTerm.T) : Int := if g then 3 else if (nzT xs).length ≤ 64 then 0 else 3
def tdT (c : Int) (t : Int × Int) : Int × Int := if c = 0 then t else (0, 0)
def tdS (c : Int) (s : Int) : Int := if c = 0 then s else 0
def tdL (c : Int) (xs : List shTerm.T) : List shTerm.T := if c = 0 then xs else []
theorem blk4 {w : World} {k : Nat} {t : TypeId} {a b c d : Value} (h : w.heap[k]? = some (.cells #[a, b, c, d] t (0, 0))) : (w.cell? ⟨k, 0, none⟩ = some a ∧ w.cell? ⟨k, 1, none⟩ = some b ∧ w.cell? ⟨k, 2, none⟩ = some c ∧ w.cell? ⟨k, 3, none⟩ = some d) ∧ (w.frozen? ⟨k, 0, none⟩ = false ∧ w.frozen? ⟨k, 1, none⟩ = false ∧ w.frozen? ⟨k, 2, none⟩ = false ∧ w.frozen? ⟨k, 3, none⟩ = false) := by
  simp [World.cell?, World.frozen?, h]
theorem blk3c {w : World} {k : Nat} {t : TypeId} {u v x : Value} (h : w.heap[k]? = some (.cells #[u, v, x] t (0, 0))) : w.cell? ⟨k, 0, none⟩ = some u ∧ w.cell? ⟨k, 1, none⟩ = some v ∧ w.cell? ⟨k, 2, none⟩ = some x := by
  simp [World.cell?, h]
theorem blk5 {w : World} {k : Nat} {t : TypeId} {a b c d e : Value} (h : w.heap[k]? = some (.cells #[a, b, c, d, e] t (0, 0))) : (w.cell? ⟨k, 0, none⟩ = some a ∧ w.cell? ⟨k, 1, none⟩ = some b ∧ w.cell? ⟨k, 2, none⟩ = some c ∧ w.cell? ⟨k, 3, none⟩ = some d ∧ w.cell? ⟨k, 4, none⟩ = some e) ∧ ∀ i, w.frozen? ⟨k, i, none⟩ = false := by
  constructor
  · simp [World.cell?, h]
  · intro i; simp [World.frozen?, h]
theorem smTold1_any (w : World) (d : shTerm.T) : Calls Tryz.prog 136 #[.agg #[.int .i64 d.1.1, .int .i64 d.1.2.1, .int .u32 d.1.2.2, .int .i64 d.2.1, .int .i64 d.2.2]] w fun e w' => e = .returned (.bool (d.2.1 == 0)) ∧ Below w.heap.size w w' := by
  go_enter Tryz.func136, Tryz.ntmps136
  go_wp2_with fail
  exact bodyPost_ret (v := .bool (d.2.1 == 0)) (by simp [results, Tryz.results136, go_sem]) rfl ⟨rfl, belA⟩
theorem sumRet_no {w w' : World} {c : Int} {t : Int × Int} {s : Int} {xs : List shTerm.T} (ht : t = (0, 0)) (hs : s = 0) (hx : xs = []) (hb : Below w.heap.size w w') {c' : Int} (hc : c = c') :
    SumRet w.heap.size w c t s xs (.returned (.tuple #[.agg #[.int .i64 0, .int .u32 0, .int .i64 0, .slice none 0 0], .int .i64 c'])) w' := by
  subst ht hs hx hc
  exact ⟨none, 0, [], rfl, Own.nil _ _ _ 0 (Nat.zero_le _) none, hb⟩
set_option maxHeartbeats 2000000 in
theorem smTold_any (w : World) (b : Nat) (g : Bool) (tn te sz : Int) (xs : List shTerm.T) (v : Value) (hc : w.heap[b]? = some (.cells #[.bool g, .int .i64 tn, .int .u32 te, .int .i64 sz, v] 116 (0, 0))) (h : Lst shTerm w xs v) (hl : xs.length ≤ 1048576) :
    Calls Tryz.prog 70 #[.pointer (some ⟨b, 0, none⟩)] w (SumRet w.heap.size w (tdC g xs) (tdT (tdC g xs) (tn, te)) (tdS (tdC g xs) sz) (tdL (tdC g xs) (nzT xs))) := by
  have eg : ∀ args w, (callFunc 136 args).run Tryz.prog w = .ok (.enter 136 args) w := enters_of Tryz.func136 (by kernel_rfl) rfl
  have c4 : w.cell? ⟨b, 4, none⟩ = some v := by simp [World.cell?, hc]
  have zb := blklt hc
  have HC := Lib.hid hc
  have H := Lib.hid h
  clear hc h
  obtain ⟨A0, cap0, rfl, hcp, hmx⟩ := formTerm H.out
  go_enter Tryz.func70, Tryz.ntmps70
  go_wp2_with fail
  refine Calls.mono (cloneTerm_any _ xs _ (H.out.below belA) hl) ?_
  rintro e0 w1 ⟨A1, cap1, F1, rfl, hO1, hb⟩
  have hb1 : Below w.heap.size w w1 := Below.trans belA (hb.mono (by simp))
  have hBw : w.heap.size + 1 ≤ w1.heap.size := by have := hb.size; simpa using this
  have hO1 : Own shTerm (w.heap.size + 1) w1 xs (.slice A1 xs.length cap1) F1 := hO1.below (by simp) (Below.refl _ _)
  have a1 : w1.heap[w.heap.size]? = some (.cells #[.int .i64 0, .int .u32 0, .int .i64 0, .slice none 0 0] 34 (0, 0)) := bblk hb (by simp) blkA
  have A1' := Lib.hid a1
  have HO1 := Lib.hid hO1
  have HB1 := Lib.hid hb1
  clear hb hb1 a1 hO1
  go_wp2_with fail
  refine Calls.mono (delTerm_any (w.heap.size + 1) w1 xs A1 cap1 F1 _ #[] (fun d => d.2.1 == 0) HO1.out hl hBw eg (fun W d _ _ => smTold1_any W d)) ?_
  rintro e0 w2 ⟨F2, rfl, hO2, hb⟩
  have hb2 : Below w.heap.size w w2 := HB1.out.trans (hb.mono (by omega))
  have kr : w2.heap[w.heap.size]? = some (.cells #[.int .i64 0, .int .u32 0, .int .i64 0, .slice none 0 0] 34 (0, 0)) := bblk hb (by omega) A1'.out
  have hk : w2.heap[b]? = some (.cells #[.bool g, .int .i64 tn, .int .u32 te, .int .i64 sz, .slice A0 xs.length cap0] 116 (0, 0)) := bblk hb2 zb HC.out
  obtain ⟨L, hL, N, hN⟩ : ∃ L : List shTerm.T, Hid (nzT xs = L) ∧ ∃ N : Nat, Hid (L.length = N) := ⟨_, Lib.hid rfl, _, Lib.hid rfl⟩
  have hO2 : Own shTerm (w.heap.size + 1) w2 L (.slice A1 N cap1) F2 := by
    have h1 := hO2.below (B' := w.heap.size + 1) (Nat.le_refl _) (Below.refl _ _)
    rw [show (xs.filter fun d => !(d.2.1 == 0)) = L from hL.out, hN.out] at h1
    exact h1
  rw [show (xs.filter fun d => !(d.2.1 == 0)) = L from hL.out, hN.out]
  have HO2 := Lib.hid hO2
  have HB2 := Lib.hid hb2
  have q0 : w2.cell? ⟨b, 0, none⟩ = some (.bool g) := by simp [World.cell?, hk]
  have q1 : w2.cell? ⟨b, 1, none⟩ = some (.int .i64 tn) := by simp [World.cell?, hk]
  have q2 : w2.cell? ⟨b, 2, none⟩ = some (.int .u32 te) := by simp [World.cell?, hk]
  have q3 : w2.cell? ⟨b, 3, none⟩ = some (.int .i64 sz) := by simp [World.cell?, hk]
  have zr := blklt kr
  have zb2 := blklt hk
  have HC0 : Hid (tdC g xs = if g then 3 else if N ≤ 64 then 0 else 3) := Lib.hid (by unfold tdC; rw [hL.out, hN.out])
  have hcapN : N ≤ cap1 ∧ cap1 ≤ maxLen := by
    obtain ⟨A, cap, he, h1, h2⟩ := formTerm HO2.out.lst
    injection he with _ e2 e3
    exact ⟨by rw [e2, e3]; exact h1, by rw [e3]; exact h2⟩
  have KR := Lib.hid kr
  obtain ⟨r0, r1, r2, r3⟩ : w2.cell? ⟨w.heap.size, 0, none⟩ = some (.int .i64 0) ∧ w2.cell? ⟨w.heap.size, 1, none⟩ = some (.int .u32 0) ∧ w2.cell? ⟨w.heap.size, 2, none⟩ = some (.int .i64 0) ∧ w2.cell? ⟨w.heap.size, 3, none⟩ = some (.slice none 0 0) := by simp [World.cell?, kr]
  obtain ⟨f0, f1, f2, f3⟩ : w2.frozen? ⟨w.heap.size, 0, none⟩ = false ∧ w2.frozen? ⟨w.heap.size, 1, none⟩ = false ∧ w2.frozen? ⟨w.heap.size, 2, none⟩ = false ∧ w2.frozen? ⟨w.heap.size, 3, none⟩ = false := by simp [World.frozen?, kr]
  clear hO2 hb2 hb hk kr
  cases g
  · by_cases h64 : N ≤ 64
    · have h64' : ((N : Int) > 64) = False := by simp; omega
      have hc : Hid (tdC false xs = 0) := Lib.hid (by rw [HC0.out]; simp [h64])
      go_wp2_with fail
      (refine wp_region_held_drew (S := (fun w' => w'.cell? ⟨b, 1, none⟩ = some (.int .i64 tn) ∧ w'.cell? ⟨b, 2, none⟩ = some (.int .u32 te) ∧ w'.cell? ⟨b, 3, none⟩ = some (.int .i64 sz))) (by kernel_rfl) ?_ (fun hHeld => ?_); (focus (simp [*, go_sem])); refine rt 0 (some 22) (v := ?_) rfl rfl ?_ ?_; rotate_left; (focus (intro w' hSw; (try dsimp only at hSw); go_simp; (try with_reducible rfl))); (try simp only [Act.put, nA, nB, nC]); refine rt 1 (some 23) (v := ?_) rfl rfl ?_ ?_; rotate_left; (focus (intro w' hSw; (try dsimp only at hSw); go_simp; (try with_reducible rfl))); (try simp only [Act.put, nA, nB, nC]); refine rt 2 (some 24) (v := ?_) rfl rfl ?_ ?_; rotate_left; (focus (intro w' hSw; (try dsimp only at hSw); go_simp; (try with_reducible rfl))); (try simp only [Act.put, nA, nB, nC]); refine rt 3 (some 25) (v := ?_) rfl rfl ?_ ?_; rotate_left; (focus (intro w' hSw; (try dsimp only at hSw); go_simp; (try with_reducible rfl))); (try simp only [Act.put, nA, nB, nC]); refine rt 4 (some 26) (v := ?_) rfl rfl ?_ ?_; rotate_left; (focus (intro w' hSw; (try dsimp only at hSw); go_simp; (try with_reducible rfl))); (try simp only [Act.put, nA, nB, nC]); refine rt 5 (some 27) (v := ?_) rfl rfl ?_ ?_; rotate_left; (focus (intro w' hSw; (try dsimp only at hSw); go_simp; (try with_reducible rfl))); (try simp only [Act.put, nA, nB, nC]); refine rt 6 (some 28) (v := ?_) rfl rfl ?_ ?_; rotate_left; (focus (intro w' hSw; (try dsimp only at hSw); go_simp; (try with_reducible rfl))); (try simp only [Act.put, nA, nB, nC]); refine rt 7 (some 29) (v := ?_) rfl rfl ?_ ?_; rotate_left; (focus (intro w' hSw; (try dsimp only at hSw); go_simp; (try with_reducible rfl))); (try simp only [Act.put, nA, nB, nC]); refine rt 8 (some 30) (v := ?_) rfl rfl ?_ ?_; rotate_left; (focus (intro w' hSw; (try dsimp only at hSw); go_simp; (try with_reducible rfl))); (try simp only [Act.put, nA, nB, nC]); refine rt 9 (some 31) (v := ?_) rfl rfl ?_ ?_; rotate_left; (focus (intro w' hSw; (try dsimp only at hSw); go_simp; (try with_reducible rfl))); (try simp only [Act.put, nA, nB, nC]); refine wpAnyH_ready (rs := [10]) (by kernel_rfl) (by simp) ?_; refine AllReadyH.cons rfl (fun K hK => ?_) AllReadyH.nil; (try go_simp); refine hK.out _ _ ?_ (fun hHeld => ?_); (focus (simp [*, go_sem])); clear hK K; (try simp only [Act.put, nA, nB, nC]); refine rt 11 (some 3) (v := ?_) rfl rfl ?_ ?_; rotate_left; (focus (intro w' hSw; (try dsimp only at hSw); go_simp; (try with_reducible rfl))); (try simp only [Act.put, nA, nB, nC]); refine wpAnyH_done (by kernel_rfl) ?_ _)
      clear hHeld
      go_wp2_with fail
      rw [hc.out]
      have hb : Below w2.heap.size w2 (w2.drewN 1) := bdrew (Below.refl _ _) 1
      refine bodyPost_ret (v := .tuple #[.agg #[.int .i64 tn, .int .u32 te, .int .i64 sz, .slice A1 N cap1], .int .i64 0]) (by simp [results, Tryz.results70, go_sem, *]) rfl ⟨A1, cap1, F2, ?_, ?_, ?_⟩
      · show _ = Ending.returned (.tuple #[.agg #[.int .i64 tn, .int .u32 te, .int .i64 sz, .slice A1 (nzT xs).length cap1], .int .i64 0])
        rw [hL.out, hN.out]
      · show Own shTerm w.heap.size _ (nzT xs) (.slice A1 (nzT xs).length cap1) F2
        rw [hL.out, hN.out]
        refine HO2.out.move (by omega) fun q h1 _ => ?_
        have hne : q ≠ w.heap.size := by omega
        exact (Below.heap_setCell _ ⟨w.heap.size, 3, none⟩ _ q hne).trans ((Below.heap_setCell _ ⟨w.heap.size, 2, none⟩ _ q hne).trans ((Below.heap_setCell _ ⟨w.heap.size, 1, none⟩ _ q hne).trans (Below.heap_setCell _ ⟨w.heap.size, 0, none⟩ _ q hne)))
      · have hb2 := HB2.out
        exact belA
    · have h64' : (64 : Int) < N := by omega
      have hc : Hid (tdC false xs = 3) := Lib.hid (by rw [HC0.out]; simp [h64])
      go_wp2_with fail
      rw [hc.out]
      exact bodyPost_ret (v := .tuple #[.agg #[.int .i64 0, .int .u32 0, .int .i64 0, .slice none 0 0], .int .i64 3]) (by simp [results, Tryz.results70, go_sem, *]) rfl (sumRet_no rfl rfl rfl (by have hb2 := HB2.out; exact belA) rfl)
  · have hc : Hid (tdC true xs = 3) := Lib.hid (by rw [HC0.out]; rfl)
    go_wp2_with fail
    rw [hc.out]
    exact bodyPost_ret (v := .tuple #[.agg #[.int .i64 0, .int .u32 0, .int .i64 0, .slice none 0 0], .int .i64 3]) (by simp [results, Tryz.results70, go_sem, *]) rfl (sumRet_no rfl rfl rfl (by have hb2 := HB2.out; exact belA) rfl)
end Go.Proofs.YtpcjinbbgnmchaaGreat
