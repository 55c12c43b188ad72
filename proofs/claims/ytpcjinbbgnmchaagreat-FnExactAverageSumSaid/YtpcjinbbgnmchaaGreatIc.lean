/- impl.summing.add: a flag times a fraction is added to a sum under construction. -/
import Derived.Test.YtpcjinbbgnmchaaGreatIb
import Derived.Test.YtpcjinbbgnmchaaGreatIw
import Derived.Test.YtpcjinbbgnmchaaGreatGk
namespace Go.Proofs.YtpcjinbbgnmchaaGreat
open Go.ChangeShapes Go.WideShapes Go.RowKit
set_option linter.unusedVariables false
set_option linter.unusedSimpArgs false
attribute [local irreducible] Calls
/-- What is added: whether a sum was too great, and the terms. -/
def adI (g : Bool × List Trm) (f : Flg) (q : Int × Int) : Bool × List Trm :=
  match g.2[posT f.2.2 g.2]? with
  | some d => if d.1.2.2 = f.2.2 then (g.1 || noB (addO d.2 q), g.2.set (posT f.2.2 g.2) (d.1, kD (addO d.2 q))) else (g.1, insT (posT f.2.2 g.2) g.2 (f, q))
  | none => (g.1, insT (posT f.2.2 g.2) g.2 (f, q))
theorem adI_yes {g : Bool} {xs : List Trm} {f : Flg} {q : Int × Int} {d : Trm} (h : xs[posT f.2.2 xs]? = some d) (hd : d.1.2.2 = f.2.2) : adI (g, xs) f q = (g || noB (addO d.2 q), xs.set (posT f.2.2 xs) (d.1, kD (addO d.2 q))) := by
  unfold adI
  simp only [h, hd, if_true]
theorem adI_no {g : Bool} {xs : List Trm} {f : Flg} {q : Int × Int} (h : isT f.2.2 xs = false) : adI (g, xs) f q = (g, insT (posT f.2.2 xs) xs (f, q)) := by
  unfold adI
  unfold isT at h
  cases hx : xs[posT f.2.2 xs]? with
  | none => rfl
  | some d =>
    rw [hx] at h
    have hne : ¬ d.1.2.2 = f.2.2 := by simpa using h
    simp only [hne, if_false]
/-- A sum under construction lies in memory. -/
def Smg (B : Nat) (w : World) (bs : Nat) (g : Bool) (tn te s : Int) (xs : List Trm) : Prop := B ≤ bs ∧ ∃ o, w.heap[bs]? = some (.cells #[.bool g, .int .i64 tn, .int .u32 te, .int .i64 s, o] 116 (0, 0)) ∧ TmA (bs + 1) w o xs
theorem Smg.below {B : Nat} {w w' : World} {bs : Nat} {g : Bool} {tn te s : Int} {xs : List Trm} (h : Smg B w bs g tn te s xs) (hb : Below w.heap.size w w') : Smg B w' bs g tn te s xs := by
  obtain ⟨h1, o, h2, h3⟩ := h
  exact ⟨h1, o, bblk hb (blklt h2) h2, h3.below hb⟩
theorem Smg.lt {B : Nat} {w : World} {bs : Nat} {g : Bool} {tn te s : Int} {xs : List Trm} (h : Smg B w bs g tn te s xs) : bs < w.heap.size := by
  obtain ⟨h1, o, h2, h3⟩ := h
  exact blklt h2
set_option maxHeartbeats 4000000 in
theorem smAdd_any (w : World) (B bs : Nat) (g : Bool) (tn te s : Int) (xs : List Trm) (f : Flg) (q : Int × Int) (h : Smg B w bs g tn te s xs) (hpw : xs.Pairwise ltE) (hin : ∀ x ∈ xs, inF x.2) (hf : okFlag f) (hv : flV f = true) (hq : inF q) (hl : xs.length ≤ 1048576) :
    Calls Tryz.prog 68 #[.pointer (some ⟨bs, 0, none⟩), .agg #[.int .i64 f.1, .int .i64 f.2.1, .int .u32 f.2.2], .agg #[.int .i64 q.1, .int .i64 q.2]] w fun e w' => e = .returned (.tuple #[]) ∧ Smg B w' bs (adI (g, xs) (f.1, (f.2.1, leastF f)) q).1 tn te s (adI (g, xs) (f.1, (f.2.1, leastF f)) q).2 ∧ Below B w w' := by
  obtain ⟨hBb, o, hbb, hA⟩ := h
  have HFL : Hid (∀ W, Calls Tryz.prog 87 #[.agg #[.int .i64 f.1, .int .i64 f.2.1, .int .u32 f.2.2]] W fun e0 w' => e0 = .returned (.agg #[.int .i64 f.1, .int .i64 f.2.1, .int .u32 (leastF f)]) ∧ Below W.heap.size W w') := Lib.hid fun W => fleast_i W f hf hv
  obtain ⟨L, hL⟩ : ∃ L, leastF f = L := ⟨_, rfl⟩
  have hLo : Hid (okFlag (f.1, (f.2.1, L))) := Lib.hid ⟨hf.1, hf.2.1, by rw [← hL]; exact leastI_ok _ _ hf.2.2⟩
  rw [hL] at HFL ⊢
  obtain ⟨N, hN⟩ : ∃ N : Nat, Hid (xs.length = N) := ⟨_, Lib.hid rfl⟩
  obtain ⟨pk, hK⟩ : ∃ pk : Nat, Hid (posT L xs = pk) := ⟨_, Lib.hid rfl⟩
  have hKN : pk ≤ N := by rw [← hK.out, ← hN.out]; exact posT_le _ _
  have hlN : N ≤ 1048576 := by rw [← hN.out]; exact hl
  obtain ⟨A, cap, _, rfl, _⟩ := hA.own
  rw [hN.out] at hA hbb
  have hcap : Hid (N ≤ cap) := Lib.hid (by
    obtain ⟨A', cap', he, h1, h2⟩ := formTerm hA.lst
    injection he with _ e2 e3
    subst e3
    omega)
  have HA := Lib.hid hA
  have KB := Lib.hid hbb
  have HP := Lib.hid hpw
  have HIN := Lib.hid hin
  have HQ := Lib.hid hq
  have HQO : Hid (okFr q) := Lib.hid (inF_okB hq)
  have HFD : Hid (∀ W, Below w.heap.size w W → Calls Tryz.prog 129 #[.slice A N cap, .agg #[.int .i64 f.1, .int .i64 f.2.1, .int .u32 L], .func (.func 130) #[] #[]] W fun e w' => e = .returned (.tuple #[.int .i64 pk, .bool (isT L xs)]) ∧ Below W.heap.size W w') := Lib.hid fun W hW => by
    have h := findTerm_any W xs (.slice A N cap) (f.1, (f.2.1, L)) (HA.out.lst.below hW) (by rw [hN.out]; omega) HP.out
    rw [hK.out] at h
    exact h
  have yb := blklt hbb
  clear hbb hA hpw hin hq hl hL hf hv
  go_enter Tryz.func68, Tryz.ntmps68
  go_wp2_with fail
  refine Calls.mono (HFL.out _) ?_
  rintro e0 w1 ⟨rfl, hb⟩
  have k0 : w1.heap[bs]? = some (.cells #[.bool g, .int .i64 tn, .int .u32 te, .int .i64 s, .slice A N cap] 116 (0, 0)) := bblk hb (by simp <;> omega) (blkal (blkal KB.out _) _)
  have k1 : w1.heap[w.heap.size]? = some (.cells #[.int .i64 f.1, .int .i64 f.2.1, .int .u32 f.2.2] 81 (0, 0)) := bblk hb (by simp <;> omega) blkA
  have k2 : w1.heap[w.heap.size + 1]? = some (.cells #[.int .i64 q.1, .int .i64 q.2] 53 (0, 0)) := bblk hb (by simp <;> omega) blkA
  have HB1 := Lib.hid (show Below w.heap.size w w1 from Below.trans belA (hb.mono (by simp <;> omega)))
  obtain ⟨⟨a0, a1, a2, a3, a4⟩, fz⟩ := blk5 k0
  have K0 := Lib.hid k0
  have K1 := Lib.hid k1
  have K2 := Lib.hid k2
  have y0 := blklt k0
  have y1 := blklt k1
  have y2 := blklt k2
  obtain ⟨b0, b1, b2⟩ := blkc3 k1
  obtain ⟨c0, c1⟩ := blkc2 k2
  have hz1 := HB1.out.size
  obtain ⟨g0, g1, g2⟩ : w1.frozen? ⟨w.heap.size, 0, none⟩ = false ∧ w1.frozen? ⟨w.heap.size, 1, none⟩ = false ∧ w1.frozen? ⟨w.heap.size, 2, none⟩ = false := by simp [World.frozen?, k1]
  clear hb k0 k1 k2
  go_wp2_with fail
  obtain ⟨w2, hw2⟩ : ∃ x, x = ((w1.setCell ⟨w.heap.size, 0, none⟩ (.int .i64 f.1)).setCell ⟨w.heap.size, 1, none⟩ (.int .i64 f.2.1)).setCell ⟨w.heap.size, 2, none⟩ (.int .u32 L) := ⟨_, rfl⟩
  rw [← hw2]
  have hbn : bs ≠ w.heap.size := by omega
  have k0 : w2.heap[bs]? = some (.cells #[.bool g, .int .i64 tn, .int .u32 te, .int .i64 s, .slice A N cap] 116 (0, 0)) := by rw [hw2]; exact blkset (blkset (blkset K0.out hbn _) hbn _) hbn _
  have k1 : w2.heap[w.heap.size]? = some (.cells #[.int .i64 f.1, .int .i64 f.2.1, .int .u32 L] 81 (0, 0)) := by rw [hw2]; exact blkset0 (blkset0 (blkset0 K1.out 0 _) 1 _) 2 _
  have k2 : w2.heap[w.heap.size + 1]? = some (.cells #[.int .i64 q.1, .int .i64 q.2] 53 (0, 0)) := by rw [hw2]; exact blkset (blkset (blkset K2.out (by show _ ≠ w.heap.size; omega) _) (by show _ ≠ w.heap.size; omega) _) (by show _ ≠ w.heap.size; omega) _
  have HB2 : Hid (Below w.heap.size w w2) := Lib.hid (by rw [hw2]; exact Below.setCell (Below.setCell (Below.setCell HB1.out (Nat.le_refl _) _) (Nat.le_refl _) _) (Nat.le_refl _) _)
  clear hw2 a0 a1 a2 a3 a4 fz b0 b1 b2 c0 c1 y0 y1 y2 K0 K1 K2 HB1 g0 g1 g2 hz1
  clear w1
  obtain ⟨⟨a0, a1, a2, a3, a4⟩, fz⟩ := blk5 k0
  have K0 := Lib.hid k0
  have K1 := Lib.hid k1
  have K2 := Lib.hid k2
  have y0 := blklt k0
  have y1 := blklt k1
  have y2 := blklt k2
  obtain ⟨b0, b1, b2⟩ := blkc3 k1
  have hz2 := HB2.out.size
  clear k0 k1 k2
  go_wp2_with fail
  (refine wp_region_held_drew (S := (fun w' => w'.cell? ⟨bs, 4, none⟩ = some (.slice A N cap) ∧ w'.cell? ⟨w.heap.size, 0, none⟩ = some (.int .i64 f.1) ∧ w'.cell? ⟨w.heap.size, 1, none⟩ = some (.int .i64 f.2.1) ∧ w'.cell? ⟨w.heap.size, 2, none⟩ = some (.int .u32 L))) (by kernel_rfl) ?_ (fun hHeld => ?_); (focus (first | exact hS | (simp [*, go_sem]; done) | fail)); refine rt 0 (some 11) (v := ?_) rfl rfl ?_ ?_; rotate_left; (focus (intro w' hSw; (try dsimp only at hSw); go_simp; (try with_reducible rfl))); (try simp only [Act.put, nA, nB, nC]); refine rt 1 (some 12) (v := ?_) rfl rfl ?_ ?_; rotate_left; (focus (intro w' hSw; (try dsimp only at hSw); go_simp; (try with_reducible rfl))); (try simp only [Act.put, nA, nB, nC]); refine rt 2 (some 13) (v := ?_) rfl rfl ?_ ?_; rotate_left; (focus (intro w' hSw; (try dsimp only at hSw); go_simp; (try with_reducible rfl))); (try simp only [Act.put, nA, nB, nC]); refine rt 3 (some 14) (v := ?_) rfl rfl ?_ ?_; rotate_left; (focus (intro w' hSw; (try dsimp only at hSw); go_simp; (try with_reducible rfl))); (try simp only [Act.put, nA, nB, nC]); refine rt 4 (some 15) (v := ?_) rfl rfl ?_ ?_; rotate_left; (focus (intro w' hSw; (try dsimp only at hSw); go_simp; (try with_reducible rfl))); (try simp only [Act.put, nA, nB, nC]); refine wpAnyH_ready (rs := [5]) (by kernel_rfl) (by simp) ?_; refine AllReadyH.cons rfl (fun K hK => ?_) AllReadyH.nil; go_simp; (go_at_call 129; refine Calls.mono (HFD.out _ (by have hb2 := HB2.out; exact belA)) ?_; rintro e0 w3 ⟨rfl, hb⟩; have hS := And.intro (bkeep hb hHeld.1) (And.intro (bkeep hb hHeld.2.1) (And.intro (bkeep hb hHeld.2.2.1) (bkeep hb hHeld.2.2.2))); have hb2 := HB2.out; have HB3 := Lib.hid (show Below w.heap.size w w3 from Below.trans belA (hb.mono (by first | omega | (simp <;> omega)))); have K03 := Lib.hid (bblk hb y0 (blkdrew K0.out)); have K13 := Lib.hid (bblk hb y1 (blkdrew K1.out)); have K23 := Lib.hid (bblk hb y2 (blkdrew K2.out)); clear hb hb2); go_wp2_with fail; refine hK.out _ _ ?_ (fun hHeld => ?_); (focus (first | exact hS | (simp [*, go_sem]; done) | fail)); clear hK K; (try simp only [Act.put, nA, nB, nC]); refine rt 6 (some 10) (v := ?_) rfl rfl ?_ ?_; rotate_left; (focus (intro w' hSw; (try dsimp only at hSw); go_simp; (try with_reducible rfl))); (try simp only [Act.put, nA, nB, nC]); refine rt 7 (some 17) (v := ?_) rfl rfl ?_ ?_; rotate_left; (focus (intro w' hSw; (try dsimp only at hSw); go_simp; (try with_reducible rfl))); (try simp only [Act.put, nA, nB, nC]); refine rt 8 (some 18) (v := ?_) rfl rfl ?_ ?_; rotate_left; (focus (intro w' hSw; (try dsimp only at hSw); go_simp; (try with_reducible rfl))); (try simp only [Act.put, nA, nB, nC]); refine rt 9 (some 6) (v := ?_) rfl rfl ?_ ?_; rotate_left; (focus (intro w' hSw; (try dsimp only at hSw); go_simp; (try with_reducible rfl))); (try simp only [Act.put, nA, nB, nC]); refine rt 10 (some 7) (v := ?_) rfl rfl ?_ ?_; rotate_left; (focus (intro w' hSw; (try dsimp only at hSw); go_simp; (try with_reducible rfl))); (try simp only [Act.put, nA, nB, nC]); refine wpAnyH_done (by kernel_rfl) ?_ _)
  clear hHeld hS a0 a1 a2 a3 a4 fz b0 b1 b2 y0 y1 y2
  have HA3 := Lib.hid (HA.out.below HB3.out)
  have hz3 := HB3.out.size
  obtain ⟨⟨a0, a1, a2, a3, a4⟩, fz⟩ := blk5 K03.out
  obtain ⟨b0, b1, b2⟩ := blkc3 K13.out
  obtain ⟨c0, c1⟩ := blkc2 K23.out
  have y0 := blklt K03.out
  have y1 := blklt K13.out
  have y2 := blklt K23.out
  cases hT : isT L xs
  · have HR : Hid (adI (g, xs) (f.1, (f.2.1, L)) q = (g, insT pk xs ((f.1, (f.2.1, L)), q))) := Lib.hid (by rw [adI_no hT]; show (g, insT (posT L xs) xs _) = _; rw [hK.out])
    have hge : Hid (∀ k, (Value.slice A N cap).ownBlock = some k → bs + 1 ≤ k ∧ k < w3.heap.size) := Lib.hid HA3.out.ge
    have hgw : Hid (∀ k, (Value.slice A N cap).ownBlock = some k → k < w.heap.size) := Lib.hid fun k h => (HA.out.ge k h).2
    have HINS := Lib.hid (insTerm_any (w3.alloc (.cells #[.int .i64 f.1, .int .i64 f.2.1, .int .u32 L, .int .i64 q.1, .int .i64 q.2] 84)).drew (bs + 1) w3.heap.size xs pk ((f.1, (f.2.1, L)), q) (.slice A N cap) (HA3.out.below (bdrew1 (bal (Below.refl _ _) _))) (blkdrew (blknew w3 _)) (by simp; omega) ⟨hLo.out, HQO.out⟩ (fun h => by have := (hge.out _ h).2; omega) (by rw [hN.out]; exact hKN) (by rw [hN.out]; exact hlN))
    clear hT
    go_wp2_with fail
    (refine last_region (S := (fun w' => w'.cell? ⟨bs, 4, none⟩ = some (.slice A N cap) ∧ w'.cell? ⟨w.heap.size, 0, none⟩ = some (.int .i64 f.1) ∧ w'.cell? ⟨w.heap.size, 1, none⟩ = some (.int .i64 f.2.1) ∧ w'.cell? ⟨w.heap.size, 2, none⟩ = some (.int .u32 L) ∧ w'.cell? ⟨w.heap.size + 1, 0, none⟩ = some (.int .i64 q.1) ∧ w'.cell? ⟨w.heap.size + 1, 1, none⟩ = some (.int .i64 q.2))) 13 (by kernel_rfl) ?_ (fun hHeld => ?_); (focus (first | exact hS | (simp [*, go_sem]; done) | fail)); refine last_take 0 (some 40) (v := ?_) rfl (by kernel_rfl) (by kernel_rfl) (by kernel_rfl) (by kernel_rfl) (by decide) (by kernel_rfl) (fun _ _ _ h => h) (Or.inl ⟨by kernel_rfl, ?_⟩) (by assumption) ?_; rotate_left; (focus (intro w' hSw; (try dsimp only at hSw); go_simp; (try with_reducible rfl))); (try simp only [Act.put, nA, nB, nC]); refine last_take 1 (some 41) (v := ?_) rfl (by kernel_rfl) (by kernel_rfl) (by kernel_rfl) (by kernel_rfl) (by decide) (by kernel_rfl) (fun _ _ _ h => h) (Or.inl ⟨by kernel_rfl, ?_⟩) (by assumption) ?_; rotate_left; (focus (intro w' hSw; (try dsimp only at hSw); go_simp; (try with_reducible rfl))); (try simp only [Act.put, nA, nB, nC]); refine last_take 2 (some 42) (v := ?_) rfl (by kernel_rfl) (by kernel_rfl) (by kernel_rfl) (by kernel_rfl) (by decide) (by kernel_rfl) (fun _ _ _ h => h) (Or.inl ⟨by kernel_rfl, ?_⟩) (by assumption) ?_; rotate_left; (focus (intro w' hSw; (try dsimp only at hSw); go_simp; (try with_reducible rfl))); (try simp only [Act.put, nA, nB, nC]); refine last_take 3 (some 43) (v := ?_) rfl (by kernel_rfl) (by kernel_rfl) (by kernel_rfl) (by kernel_rfl) (by decide) (by kernel_rfl) (fun _ _ _ h => h) (Or.inl ⟨by kernel_rfl, ?_⟩) (by assumption) ?_; rotate_left; (focus (intro w' hSw; (try dsimp only at hSw); go_simp; (try with_reducible rfl))); (try simp only [Act.put, nA, nB, nC]); refine last_take 4 (some 44) (v := ?_) rfl (by kernel_rfl) (by kernel_rfl) (by kernel_rfl) (by kernel_rfl) (by decide) (by kernel_rfl) (fun _ _ _ h => h) (Or.inl ⟨by kernel_rfl, ?_⟩) (by assumption) ?_; rotate_left; (focus (intro w' hSw; (try dsimp only at hSw); go_simp; (try with_reducible rfl))); (try simp only [Act.put, nA, nB, nC]); refine last_take 5 (some 45) (v := ?_) rfl (by kernel_rfl) (by kernel_rfl) (by kernel_rfl) (by kernel_rfl) (by decide) (by kernel_rfl) (fun _ _ _ h => h) (Or.inl ⟨by kernel_rfl, ?_⟩) (by assumption) ?_; rotate_left; (focus (intro w' hSw; (try dsimp only at hSw); go_simp; (try with_reducible rfl))); (try simp only [Act.put, nA, nB, nC]); refine last_take 6 (some 46) (v := ?_) rfl (by kernel_rfl) (by kernel_rfl) (by kernel_rfl) (by kernel_rfl) (by decide) (by kernel_rfl) (fun _ _ _ h => h) (Or.inl ⟨by kernel_rfl, ?_⟩) (by assumption) ?_; rotate_left; (focus (intro w' hSw; (try dsimp only at hSw); go_simp; (try with_reducible rfl))); (try simp only [Act.put, nA, nB, nC]); refine last_take 7 (some 47) (v := ?_) rfl (by kernel_rfl) (by kernel_rfl) (by kernel_rfl) (by kernel_rfl) (by decide) (by kernel_rfl) (fun _ _ _ h => h) (Or.inl ⟨by kernel_rfl, ?_⟩) (by assumption) ?_; rotate_left; (focus (intro w' hSw; (try dsimp only at hSw); go_simp; (try with_reducible rfl))); (try simp only [Act.put, nA, nB, nC]); refine last_take 8 (some 48) (v := ?_) rfl (by kernel_rfl) (by kernel_rfl) (by kernel_rfl) (by kernel_rfl) (by decide) (by kernel_rfl) (fun _ _ _ h => h) (Or.inl ⟨by kernel_rfl, ?_⟩) (by assumption) ?_; rotate_left; (focus (intro w' hSw; (try dsimp only at hSw); go_simp; (try with_reducible rfl))); (try simp only [Act.put, nA, nB, nC]); refine last_ready (i := 9) (by kernel_rfl) rfl (fun K hK => ?_); (try go_simp); refine hK.out _ _ ?_ (fun hHeld => ?_); (focus (first | exact hS | (simp [*, go_sem]; done) | fail)); clear hK K; (try simp only [Act.put, nA, nB, nC]); refine last_ready (i := 10) (by kernel_rfl) rfl (fun K hK => ?_); go_simp; (go_at_call 131; refine Calls.mono HINS.out ?_; rintro e0 w4 ⟨v4, rfl, hA4, hb4, hk4, ho4⟩; have hlb : bs < (w3.alloc (.cells #[.int .i64 f.1, .int .i64 f.2.1, .int .u32 L, .int .i64 q.1, .int .i64 q.2] 84)).drew.heap.size := (by simp; omega); have K04 := Lib.hid ((hk4 bs hlb (fun h => by have := (hge.out _ h).1; omega)).trans (blkdrew (blkal K03.out _))); have HB4 := Lib.hid (show Below B w w4 from ((bdrew1 (HB3.out.alloc hz3 _)).mono (by omega)).trans (hb4.mono (by omega))); obtain ⟨A4, cap4, _, rfl, _⟩ := hA4.own; obtain ⟨n4, hn4⟩ : ∃ n4, (insT pk xs ((f.1, (f.2.1, L)), q)).length = n4 := ⟨_, rfl⟩; rw [hn4] at hA4 ⊢; have HA4 := Lib.hid hA4; obtain ⟨⟨e40, e41, e42, e43, e44⟩, fz4⟩ := blk5 K04.out; have hkp : ∀ (b i : Nat) (v : Value), w.heap.size ≤ b → b < w3.heap.size → (w3.alloc (.cells #[.int .i64 f.1, .int .i64 f.2.1, .int .u32 L, .int .i64 q.1, .int .i64 q.2] 84)).drew.cell? ⟨b, i, none⟩ = some v → w4.cell? ⟨b, i, none⟩ = some v := (fun b i v h1 h2 h3 => (World.cell?_of_block (hk4 b (by simp; omega) (fun h => by have := hgw.out _ h; omega))).trans h3); have hS := And.intro e44 (And.intro (hkp _ _ _ (Nat.le_refl _) y1 hHeld.2.1) (And.intro (hkp _ _ _ (Nat.le_refl _) y1 hHeld.2.2.1) (And.intro (hkp _ _ _ (Nat.le_refl _) y1 hHeld.2.2.2.1) (And.intro (hkp _ _ _ (Nat.le_succ _) y2 hHeld.2.2.2.2.1) (hkp _ _ _ (Nat.le_succ _) y2 hHeld.2.2.2.2.2))))); clear hkp; have y04 := blklt K04.out; clear hA4 hb4 hk4 ho4 hn4); go_wp2_with fail; refine hK.out _ _ ?_ (fun hHeld => ?_); (focus (first | exact hS | (simp [*, go_sem]; done) | fail)); clear hK K; (try simp only [Act.put, nA, nB, nC]); refine last_take 11 (some 51) (v := ?_) rfl (by kernel_rfl) (by kernel_rfl) (by kernel_rfl) (by kernel_rfl) (by decide) (by kernel_rfl) (fun _ _ _ h => h) (Or.inl ⟨by kernel_rfl, ?_⟩) (by assumption) ?_; rotate_left; (focus (intro w' hSw; (try dsimp only at hSw); go_simp; (try with_reducible rfl))); (try simp only [Act.put, nA, nB, nC]); refine last_take 12 (some 52) (v := ?_) rfl (by kernel_rfl) (by kernel_rfl) (by kernel_rfl) (by kernel_rfl) (by decide) (by kernel_rfl) (fun _ _ _ h => h) (Or.inl ⟨by kernel_rfl, ?_⟩) (by assumption) ?_; rotate_left; (focus (intro w' hSw; (try dsimp only at hSw); go_simp; (try with_reducible rfl))); (try simp only [Act.put, nA, nB, nC]); refine last_end (by kernel_rfl) rfl (fun K hK => ?_); (try go_simp); refine hK.out _ _ ?_; clear hK K hHeld; (try simp only [Act.put, nA, nB, nC]); refine last_done (by kernel_rfl) ?_ _)
    go_wp2_with fail
    refine bodyPost_end (v := .tuple #[]) (by simp [results, Tryz.results68, go_sem]) rfl ⟨rfl, ?_, Below.setCell HB4.out (by show B ≤ bs; exact hBb) _⟩
    rw [HR.out]
    exact ⟨hBb, .slice A4 n4 cap4, blkset0 K04.out 4 _, HA4.out.move fun b h1 _ => Below.heap_setCell _ ⟨bs, 4, none⟩ _ b (by show b ≠ bs; omega)⟩
  · obtain ⟨d, HD, hdl⟩ : ∃ d, Hid (xs[pk]? = some d) ∧ Hid (d.1.2.2 = L) := by
      cases hx : xs[posT L xs]? with
      | none => rw [isT_none hx] at hT; cases hT
      | some d => rw [isT_some hx] at hT; rw [hK.out] at hx; exact ⟨d, Lib.hid hx, Lib.hid (by simpa using hT)⟩
    have hpkN : pk < N := by rw [← hN.out]; exact (List.getElem?_eq_some_iff.1 HD.out).1
    have hpk8 : (pk : Int) < (N : Int) := by omega
    have HR : Hid (adI (g, xs) (f.1, (f.2.1, L)) q = (g || noB (addO d.2 q), xs.set pk (d.1, ((kD (addO d.2 q)).1, (kD (addO d.2 q)).2)))) := Lib.hid (by
      have h := adI_yes (g := g) (xs := xs) (f := (f.1, (f.2.1, L))) (q := q) (d := d) (by show xs[posT L xs]? = _; rw [hK.out]; exact HD.out) hdl.out
      rw [h]
      show (_, xs.set (posT L xs) _) = _
      rw [hK.out])
    have HDI := Lib.hid (HIN.out d (List.mem_of_getElem? HD.out))
    obtain ⟨R, hR⟩ : ∃ R, Hid (kD (addO d.2 q) = R) := ⟨_, Lib.hid rfl⟩
    obtain ⟨G, hG⟩ : ∃ G, Hid ((g || noB (addO d.2 q)) = G) := ⟨_, Lib.hid rfl⟩
    have hRO : Hid (okFr R) := Lib.hid (by
      rw [← hR.out]
      cases h : addO d.2 q with
      | none => exact ⟨by decide, by decide⟩
      | some z => exact inF_okB (addO_in HDI.out.2.2.1 HQ.out.2.2.1 h))
    obtain ⟨Ax, capx, hv, _, _, _, hel⟩ := lstTerm HA3.out.lst
    injection hv with e1 e2 e3
    obtain ⟨bl, off, e4, hel⟩ := hel (by rw [hN.out]; omega)
    rw [← e1] at e4
    subst e4
    obtain ⟨d', hd', hok, x0, x1, x2, x3, x4⟩ := hel pk (by rw [hN.out]; omega)
    rw [HD.out] at hd'
    injection hd' with hd'
    subst hd'
    obtain ⟨ho0, hgB, hgl, hgf⟩ : off = 0 ∧ bs + 1 ≤ bl ∧ bl < w.heap.size ∧ ∀ i, w3.frozen? ⟨bl, i, none⟩ = false := by
      have h9 := (HA.out.ge bl rfl).2
      rcases HA3.out.form with ⟨h, _⟩ | ⟨g', cap', h, h1, h2, _, _, h3⟩
      · injection h with h; cases h
      · injection h with h
        injection h with h
        injection h with h h'
        subst h
        exact ⟨h', h1, h9, h3⟩
    subst ho0
    simp only [Nat.zero_add] at x0 x1 x2 x3 x4
    have zb := World.block_lt_of_cell? _ _ x0
    simp only at zb
    have hbb1 : bs ≠ bl := by omega
    have hbb2 : bl ≠ bs := by omega
    clear hT hel hok e1 e2 e3 x0 x1 x2
    have CG : Hid (w3.drew.cell? ⟨bs, 0, none⟩ = some (.bool g)) := Lib.hid a0
    have CF : Hid (w3.drew.frozen? ⟨bs, 0, none⟩ = false) := Lib.hid (fz 0)
    go_wp2_with fail
    (refine last_region (S := (fun w' => w'.cell? ⟨bs, 4, none⟩ = some (.slice (some ⟨bl, 0, none⟩) N cap) ∧ w'.cell? ⟨bl, pk * 5 + 3, none⟩ = some (.int .i64 d.2.1) ∧ w'.cell? ⟨bl, pk * 5 + 4, none⟩ = some (.int .i64 d.2.2) ∧ w'.cell? ⟨w.heap.size + 1, 0, none⟩ = some (.int .i64 q.1) ∧ w'.cell? ⟨w.heap.size + 1, 1, none⟩ = some (.int .i64 q.2))) 20 (by kernel_rfl) ?_ (fun hHeld => ?_); (focus (first | exact hS | (simp [*, go_sem]; done) | fail)); refine last_take 0 (some 20) (v := ?_) rfl (by kernel_rfl) (by kernel_rfl) (by kernel_rfl) (by kernel_rfl) (by decide) (by kernel_rfl) (fun _ _ _ h => h) (Or.inl ⟨by kernel_rfl, ?_⟩) (by assumption) ?_; rotate_left; (focus (intro w' hSw; (try dsimp only at hSw); go_simp; (try with_reducible rfl))); (try simp only [Act.put, nA, nB, nC]); refine last_take 1 (some 21) (v := ?_) rfl (by kernel_rfl) (by kernel_rfl) (by kernel_rfl) (by kernel_rfl) (by decide) (by kernel_rfl) (fun _ _ _ h => h) (Or.inl ⟨by kernel_rfl, ?_⟩) (by assumption) ?_; rotate_left; (focus (intro w' hSw; (try dsimp only at hSw); go_simp; (try with_reducible rfl))); (try simp only [Act.put, nA, nB, nC]); refine last_take 2 (some 22) (v := ?_) rfl (by kernel_rfl) (by kernel_rfl) (by kernel_rfl) (by kernel_rfl) (by decide) (by kernel_rfl) (fun _ _ _ h => h) (Or.inl ⟨by kernel_rfl, ?_⟩) (by assumption) ?_; rotate_left; (focus (intro w' hSw; (try dsimp only at hSw); go_simp; (try with_reducible rfl))); (try simp only [Act.put, nA, nB, nC]); refine last_take 3 (some 23) (v := ?_) rfl (by kernel_rfl) (by kernel_rfl) (by kernel_rfl) (by kernel_rfl) (by decide) (by kernel_rfl) (fun _ _ _ h => h) (Or.inl ⟨by kernel_rfl, ?_⟩) (by assumption) ?_; rotate_left; (focus (intro w' hSw; (try dsimp only at hSw); go_simp; (try with_reducible rfl))); (try simp only [Act.put, nA, nB, nC]); refine last_take 4 (some 24) (v := ?_) rfl (by kernel_rfl) (by kernel_rfl) (by kernel_rfl) (by kernel_rfl) (by decide) (by kernel_rfl) (fun _ _ _ h => h) (Or.inl ⟨by kernel_rfl, ?_⟩) (by assumption) ?_; rotate_left; (focus (intro w' hSw; (try dsimp only at hSw); go_simp; (try with_reducible rfl))); (try simp only [Act.put, nA, nB, nC]); refine last_take 5 (some 25) (v := ?_) rfl (by kernel_rfl) (by kernel_rfl) (by kernel_rfl) (by kernel_rfl) (by decide) (by kernel_rfl) (fun _ _ _ h => h) (Or.inl ⟨by kernel_rfl, ?_⟩) (by assumption) ?_; rotate_left; (focus (intro w' hSw; (try dsimp only at hSw); go_simp; (try with_reducible rfl))); (try simp only [Act.put, nA, nB, nC]); refine last_take 6 (some 26) (v := ?_) rfl (by kernel_rfl) (by kernel_rfl) (by kernel_rfl) (by kernel_rfl) (by decide) (by kernel_rfl) (fun _ _ _ h => h) (Or.inl ⟨by kernel_rfl, ?_⟩) (by assumption) ?_; rotate_left; (focus (intro w' hSw; (try dsimp only at hSw); go_simp; (try with_reducible rfl))); (try simp only [Act.put, nA, nB, nC]); refine last_take 7 (some 27) (v := ?_) rfl (by kernel_rfl) (by kernel_rfl) (by kernel_rfl) (by kernel_rfl) (by decide) (by kernel_rfl) (fun _ _ _ h => h) (Or.inl ⟨by kernel_rfl, ?_⟩) (by assumption) ?_; rotate_left; (focus (intro w' hSw; (try dsimp only at hSw); go_simp; (try with_reducible rfl))); (try simp only [Act.put, nA, nB, nC]); refine last_take 8 (some 28) (v := ?_) rfl (by kernel_rfl) (by kernel_rfl) (by kernel_rfl) (by kernel_rfl) (by decide) (by kernel_rfl) (fun _ _ _ h => h) (Or.inl ⟨by kernel_rfl, ?_⟩) (by assumption) ?_; rotate_left; (focus (intro w' hSw; (try dsimp only at hSw); go_simp; (try with_reducible rfl))); (try simp only [Act.put, nA, nB, nC]); refine last_take 9 (some 29) (v := ?_) rfl (by kernel_rfl) (by kernel_rfl) (by kernel_rfl) (by kernel_rfl) (by decide) (by kernel_rfl) (fun _ _ _ h => h) (Or.inl ⟨by kernel_rfl, ?_⟩) (by assumption) ?_; rotate_left; (focus (intro w' hSw; (try dsimp only at hSw); go_simp; (try with_reducible rfl))); (try simp only [Act.put, nA, nB, nC]); refine last_take 10 (some 30) (v := ?_) rfl (by kernel_rfl) (by kernel_rfl) (by kernel_rfl) (by kernel_rfl) (by decide) (by kernel_rfl) (fun _ _ _ h => h) (Or.inl ⟨by kernel_rfl, ?_⟩) (by assumption) ?_; rotate_left; (focus (intro w' hSw; (try dsimp only at hSw); go_simp; (try with_reducible rfl))); (try simp only [Act.put, nA, nB, nC]); refine last_take 11 (some 31) (v := ?_) rfl (by kernel_rfl) (by kernel_rfl) (by kernel_rfl) (by kernel_rfl) (by decide) (by kernel_rfl) (fun _ _ _ h => h) (Or.inl ⟨by kernel_rfl, ?_⟩) (by assumption) ?_; rotate_left; (focus (intro w' hSw; (try dsimp only at hSw); go_simp; (try with_reducible rfl))); (try simp only [Act.put, nA, nB, nC]); refine last_take 12 (some 32) (v := ?_) rfl (by kernel_rfl) (by kernel_rfl) (by kernel_rfl) (by kernel_rfl) (by decide) (by kernel_rfl) (fun _ _ _ h => h) (Or.inl ⟨by kernel_rfl, ?_⟩) (by assumption) ?_; rotate_left; (focus (intro w' hSw; (try dsimp only at hSw); go_simp; (try with_reducible rfl))); (try simp only [Act.put, nA, nB, nC]); refine last_take 13 (some 33) (v := ?_) rfl (by kernel_rfl) (by kernel_rfl) (by kernel_rfl) (by kernel_rfl) (by decide) (by kernel_rfl) (fun _ _ _ h => h) (Or.inl ⟨by kernel_rfl, ?_⟩) (by assumption) ?_; rotate_left; (focus (intro w' hSw; (try dsimp only at hSw); go_simp; (try with_reducible rfl))); (try simp only [Act.put, nA, nB, nC]); refine last_take 14 (some 34) (v := ?_) rfl (by kernel_rfl) (by kernel_rfl) (by kernel_rfl) (by kernel_rfl) (by decide) (by kernel_rfl) (fun _ _ _ h => h) (Or.inl ⟨by kernel_rfl, ?_⟩) (by assumption) ?_; rotate_left; (focus (intro w' hSw; (try dsimp only at hSw); go_simp; (try with_reducible rfl))); (try simp only [Act.put, nA, nB, nC]); refine last_take 15 (some 35) (v := ?_) rfl (by kernel_rfl) (by kernel_rfl) (by kernel_rfl) (by kernel_rfl) (by decide) (by kernel_rfl) (fun _ _ _ h => h) (Or.inl ⟨by kernel_rfl, ?_⟩) (by assumption) ?_; rotate_left; (focus (intro w' hSw; (try dsimp only at hSw); go_simp; (try with_reducible rfl))); (try simp only [Act.put, nA, nB, nC]); refine last_take 16 (some 36) (v := ?_) rfl (by kernel_rfl) (by kernel_rfl) (by kernel_rfl) (by kernel_rfl) (by decide) (by kernel_rfl) (fun _ _ _ h => h) (Or.inl ⟨by kernel_rfl, ?_⟩) (by assumption) ?_; rotate_left; (focus (intro w' hSw; (try dsimp only at hSw); go_simp; (try with_reducible rfl))); (try simp only [Act.put, nA, nB, nC]); refine last_ready (i := 17) (by kernel_rfl) rfl (fun K hK => ?_); go_simp; (go_at_call 44; refine Calls.mono (kadd_any bs 0 g d.2 q _ (by simp; omega) CG.out CF.out HDI.out HQ.out) ?_; rw [hR.out, hG.out]; rintro e0 w4 ⟨rfl, hb⟩; have hfl : Fl bs 0 _ _ w4 := hb; have hS := And.intro (hfl.keep CG.out (by simp) hHeld.1) (And.intro (hfl.keep CG.out (by first | (simp; done) | (simp; omega)) hHeld.2.1) (And.intro (hfl.keep CG.out (by first | (simp; done) | (simp; omega)) hHeld.2.2.1) (And.intro (hfl.keep CG.out (by first | (simp; done) | (simp; omega)) hHeld.2.2.2.1) (hfl.keep CG.out (by first | (simp; done) | (simp; omega)) hHeld.2.2.2.2)))); have K04 := Lib.hid ((hb.block _ (by first | (simp; done) | (simp; omega))).trans (blkset0 (w := w3.drew) K03.out 0 _)); have HM4 : Hid (∀ b, bs + 1 ≤ b → b < w3.heap.size → w4.heap[b]? = w3.heap[b]?) := Lib.hid (fun b h1 h2 => (hb.block b (by first | (simp; done) | (simp; omega))).trans (Below.heap_setCell w3.drew ⟨bs, 0, none⟩ _ b (by show b ≠ bs; omega))); have HB4 := Lib.hid (show Below B w w4 from ((Below.setCell (bdrew1 (HB3.out.mono (by omega))) (by show B ≤ bs; exact hBb) _)).trans (hb.mono (by first | (simp; done) | (simp; omega)))); have HA4 := Lib.hid (HA3.out.move HM4.out); have hgf4 : ∀ i, w4.frozen? ⟨bl, i, none⟩ = false := (by intro i; have h := hgf i; unfold World.frozen? at h ⊢; rw [HM4.out bl hgB zb]; exact h); have zb4 : bl < w4.heap.size := (by have := hb.size; simp at this; omega); clear hb); go_wp2_with fail; refine hK.out _ _ ?_ (fun hHeld => ?_); (focus (first | exact hS | (simp [*, go_sem]; done) | fail)); clear hK K; (try simp only [Act.put, nA, nB, nC]); refine last_take 18 (some 38) (v := ?_) rfl (by kernel_rfl) (by kernel_rfl) (by kernel_rfl) (by kernel_rfl) (by decide) (by kernel_rfl) (fun _ _ _ h => h) (Or.inl ⟨by kernel_rfl, ?_⟩) (by assumption) ?_; rotate_left; (focus (intro w' hSw; (try dsimp only at hSw); go_simp; (try with_reducible rfl))); (try simp only [Act.put, nA, nB, nC]); refine last_take 19 (some 39) (v := ?_) rfl (by kernel_rfl) (by kernel_rfl) (by kernel_rfl) (by kernel_rfl) (by decide) (by kernel_rfl) (fun _ _ _ h => h) (Or.inl ⟨by kernel_rfl, ?_⟩) (by assumption) ?_; rotate_left; (focus (intro w' hSw; (try dsimp only at hSw); go_simp; (try with_reducible rfl))); (try simp only [Act.put, nA, nB, nC]); refine last_end (by kernel_rfl) rfl (fun K hK => ?_); (try go_simp); refine hK.out _ _ ?_; clear hK K hHeld; (try simp only [Act.put, nA, nB, nC]); refine last_done (by kernel_rfl) ?_ _)
    go_wp2_with fail
    refine bodyPost_ret (v := .tuple #[]) (by simp [results, Tryz.results68, go_sem]) rfl ⟨rfl, ?_, ?_⟩
    · rw [HR.out, hR.out, hG.out]
      exact ⟨hBb, .slice (some ⟨bl, 0, none⟩) N cap, blkset (blkset K04.out (by show bs ≠ bl; omega) _) (by show bs ≠ bl; omega) _, HA4.out.put HD.out hRO.out⟩
    · exact Below.setCell (Below.setCell HB4.out (by show B ≤ bl; omega) _) (by show B ≤ bl; omega) _
end Go.Proofs.YtpcjinbbgnmchaaGreat
