/- impl.pivotsOf. -/
import Derived.Test.YtekchdgpaemofaaPl
namespace Go.Proofs.Ytekchdgpaemofaa
open Go.ChangeShapes Go.WideShapes Go.ChangeAt Go.RowKit
set_option linter.unusedVariables false
set_option linter.unusedSimpArgs false
attribute [local irreducible] Calls
/-- What the steps told: the code, and where they ended if it is 0, all that they made. -/
def PvRet (B : Nat) (w : World) (n : Nat) (S : Nat → Nat → Int × Int) (e : Ending) (w' : World) : Prop :=
  ∃ (b kk : Nat) (G : Bool) (E : Nat → Nat → Int × Int) (Ps : List (Int × Int)) (Rs : List (List (Int × Int))), e = .returned (.tuple #[.pointer (some ⟨b, 0, none⟩), .int .i64 kk]) ∧ B ≤ b ∧ PvI B b n w G E Ps Rs w' ∧ kk ≤ n ∧
    ((pvC (pvS S) n n 0 = 0 ∧ G = false ∧ kk = n ∧ Ps = rowL n (fun k => pvS S k k k) ∧ Rs = matL n n (fun k => pvX (pvS S k) k)) ∨ (pvC (pvS S) n n 0 = 3 ∧ G = true) ∨ (pvC (pvS S) n n 0 = 4 ∧ G = false ∧ kk < n))
theorem PvI.start {B b n cap : Nat} {w V : World} {A : Option Addr} {S : Nat → Nat → Int × Int} (hw : w.heap.size = B) (hb : B ≤ b) (hk : V.heap[b]? = some (.cells #[.bool false, .slice A n cap, .slice none 0 0, .slice none 0 0] 86 (0, 0))) (h : Lst (shL shFr) w (matL n n S) (.slice A n cap)) (hB : Below w.heap.size w V) : PvI B b n w false S [] [] V := by
  subst hw
  exact ⟨A, cap, _, _, [], hk, PRs.nil _ _ _, LstK.old (B := 0) h hb (fun q hq => by simp [Value.ownBlock] at hq) (fun q hq => by simp [Value.ownBlock] at hq) hB, hB⟩
theorem PvI.below {B b n : Nat} {w V V' : World} {G : Bool} {E : Nat → Nat → Int × Int} {Ps : List (Int × Int)} {Rs : List (List (Int × Int))} (h : PvI B b n w G E Ps Rs V) (hBb : B ≤ b) (hb : Below V.heap.size V V') : PvI B b n w G E Ps Rs V' := by
  obtain ⟨A, cap, vP, vR, FR, h1, h2, h3, h4⟩ := h
  exact ⟨A, cap, vP, vR, FR, bblk hb (blklt h1) h1, h2.below hb, h3.step (Moves.below hb) (fun _ e => .inl e) (fun _ e => .inl e), h4.trans (hb.mono (by have := blklt h1; omega))⟩
theorem PvI.base {B b n : Nat} {w W V : World} {G : Bool} {E : Nat → Nat → Int × Int} {Ps : List (Int × Int)} {Rs : List (List (Int × Int))} (h : PvI B b n W G E Ps Rs V) (hb : Below B w W) : PvI B b n w G E Ps Rs V := by
  obtain ⟨A, cap, vP, vR, FR, h1, h2, h3, h4⟩ := h
  exact ⟨A, cap, vP, vR, FR, h1, h2, h3, hb.trans h4⟩
theorem PvI.size {B b n : Nat} {w V : World} {G : Bool} {E : Nat → Nat → Int × Int} {Ps : List (Int × Int)} {Rs : List (List (Int × Int))} (h : PvI B b n w G E Ps Rs V) : w.heap.size ≤ V.heap.size := by
  obtain ⟨_, _, _, _, _, _, _, _, h4⟩ := h
  exact h4.size
/-- The pivots and the rows of the first k steps. -/
def pvPs (S : Nat → Nat → Int × Int) (k : Nat) : List (Int × Int) := (List.range k).map fun k => pvS S k k k
def pvRs (S : Nat → Nat → Int × Int) (n k : Nat) : List (List (Int × Int)) := (List.range k).map fun k => rowL n (pvX (pvS S k) k)
theorem pvPs_succ (S : Nat → Nat → Int × Int) (k : Nat) : pvPs S (k + 1) = pvPs S k ++ [pvS S k k k] := by simp [pvPs, List.range_succ]
theorem pvRs_succ (S : Nat → Nat → Int × Int) (n k : Nat) : pvRs S n (k + 1) = pvRs S n k ++ [rowL n (pvX (pvS S k) k)] := by simp [pvRs, List.range_succ]
theorem pvN_pvS (S : Nat → Nat → Int × Int) (k : Nat) : pvN (pvS S k) k = pvS S (k + 1) := rfl
theorem pvPs_len (S : Nat → Nat → Int × Int) (k : Nat) : (pvPs S k).length = k := by simp [pvPs]
theorem pvRs_len (S : Nat → Nat → Int × Int) (n k : Nat) : (pvRs S n k).length = k := by simp [pvRs]
set_option maxHeartbeats 2000000 in
theorem pivotsOf_any (w : World) (n cap : Nat) (S : Nat → Nat → Int × Int) (A : Option Addr) (hn : n ≤ 8) (hL : Lst (shL shFr) w (matL n n S) (.slice A n cap)) (hS : ∀ i, i < n → ∀ j, j < n → inF (S i j)) :
    Calls Try.prog 44 #[.slice A n cap] w (PvRet w.heap.size w n S) := by
  have HS := Lib.hid (pvS_in hS)
  have HL := Lib.hid hL
  clear hS hL
  go_enter Try.func44, Try.ntmps44
  go_wp2_with fail
  go_loopw [12] (fun i wr => ∃ (k : Nat), k ≤ n ∧ i = .int .i64 k ∧ Hid (PvI w.heap.size w.heap.size n w false (pvS S k) (pvPs S k) (pvRs S n k) wr) ∧ Hid (pvC (pvS S) n n 0 = pvC (pvS S) n (n - k) k)) (fun i _ => n - (intOf i).toNat)
  case atStart => exact ⟨0, Nat.zero_le _, rfl, Lib.hid (PvI.start rfl (Nat.le_refl _) blkA HL.out belA), Lib.hid rfl⟩
  case round =>
    obtain ⟨k, hk, rfl, hI, hC⟩ := hrel
    by_cases hlt : k < n
    · have hl8 : (k : Int) < (n : Int) := by omega
      have HSK := Lib.hid (HS.out k hk)
      have hC1 : Hid (pvC (pvS S) n n 0 = if pvE (pvS S k) n k then 4 else if pvG (pvS S k) n k then 3 else pvC (pvS S) n (n - (k + 1)) (k + 1)) := Lib.hid (hC.out.trans (pvC_step hlt))
      obtain ⟨A1, cap1, vP, vR, FR, j0, hP, hLK, hB⟩ := hI.out
      obtain ⟨W0, rfl⟩ : ∃ x, x = wr := ⟨_, rfl⟩
      obtain ⟨⟨c0, c1, c2, c3⟩, f0, f1, f2, f3⟩ := blk4p j0
      have zb := blklt j0
      obtain ⟨a1, o1, r3, p3, d3, rfl, k1, k4, za1, zr3, n1, n2, q3, y1, y2⟩ := left_apart hLK hn HSK.out (i := k) (j := k) hlt hlt
      obtain ⟨D, hD⟩ : ∃ D, Hid (pvS S k k k = D) := ⟨_, Lib.hid rfl⟩
      rw [hD.out] at y1 y2
      have J0 := Lib.hid j0
      have HP := Lib.hid hP
      have HLK := Lib.hid hLK
      have HB := Lib.hid hB
      clear j0 hP hLK hB
      have fin4 : pvE (pvS S k) n k = true → ∀ W, Below W0.heap.size W0 W → PvRet w.heap.size w n S (.returned (.tuple #[.pointer (some ⟨w.heap.size, 0, none⟩), .int .i64 k])) W := fun he W hW =>
        ⟨w.heap.size, k, false, _, _, _, rfl, Nat.le_refl _, hI.out.below (Nat.le_refl _) hW, hk, .inr (.inr ⟨by rw [hC1.out, if_pos he], rfl, hlt⟩)⟩
      have HF4 := Lib.hid fin4
      clear fin4
      by_cases hneg : D.1 < 0
      · have hE : Hid (pvE (pvS S k) n k = true) := Lib.hid (by unfold pvE; rw [hD.out]; simp [hneg])
        go_wp2_with fail
        exact bodyPost_ret (v := .tuple #[.pointer (some ⟨w.heap.size, 0, none⟩), .int .i64 k]) (by simp [results, Try.results44, go_sem]) rfl (HF4.out hE.out _ belA)
      · by_cases h0 : D.1 = 0
        · have hd0 : (D.1 == 0) = true := by simp [h0]
          have hd1 : decide (D.1 < 0) = false := by simp [hneg]
          have HFT : Hid (∀ V, Below W0.heap.size W0 V → Calls Try.prog 78 #[.pointer (some ⟨w.heap.size, 0, none⟩), .int .i64 k] V fun e w' => ∃ r : Int, e = .returned (.int .i64 r) ∧ decide (0 ≤ r) = rowZ n (pvF (pvS S k) n k) ∧ Below V.heap.size V w') := Lib.hid fun V hV =>
            fault_any V w.heap.size n k cap1 (pvS S k) (some ⟨a1, o1, none⟩) hn hlt (bkeep hV (by exact c1)) ((HLK.out.lst).below hV) HSK.out
          go_upto_region 6 with fail
          go_wp2_with fail
          refine Calls.mono (HFT.out _ belA) ?_
          rintro e0 w2 ⟨r, rfl, hr, hb⟩
          have HB2 := Lib.hid (show Below W0.heap.size W0 w2 from Below.trans belA (hb.mono (by first | omega | (simp <;> omega))))
          clear hb
          cases hf : rowZ n (pvF (pvS S k) n k)
          · rw [hf] at hr
            have hE : Hid (pvE (pvS S k) n k = false) := Lib.hid (by unfold pvE; rw [hD.out, hf]; simp [hneg])
            have hr1 : ¬ (0 : Int) ≤ r := by simpa using hr
            clear hf hr
            go_wp2_with fail
            refine Calls.mono (row_any _ w.heap.size w.heap.size n k cap1 false (pvS S k) (some ⟨a1, o1, none⟩) (pvPs S k) (pvRs S n k) vP vR FR hn hlt (Nat.le_refl _) (bblk HB2.out zb J0.out) (HP.out.below (show Below W0.heap.size W0 _ from HB2.out)) (by rw [pvPs_len]; omega) (by rw [pvRs_len]; omega) (HLK.out.step (Moves.below (show Below W0.heap.size W0 _ from HB2.out)) (fun _ e => .inl e) (fun _ e => .inl e)) HSK.out) ?_
            rintro e0 w3 ⟨rfl, hI3⟩
            have hI4 := hI3.base (HB.out.trans (Below.mono (B := W0.heap.size) (show Below W0.heap.size W0 _ from HB2.out) (by have := HB.out.size; omega)))
            rw [Bool.false_or, pvN_pvS, ← pvPs_succ, ← pvRs_succ] at hI4
            have HI4 := Lib.hid hI4
            clear hI3 hI4
            obtain ⟨A5, cap5, vP5, vR5, FR5, j5, _⟩ := HI4.out
            have c5 := (blk4p j5).1.1
            have z5 := blklt j5
            clear j5
            cases hg : pvG (pvS S k) n k
            · rw [hg] at c5 HI4
              have hC2 : Hid (pvC (pvS S) n n 0 = pvC (pvS S) n (n - (k + 1)) (k + 1)) := Lib.hid (by rw [hC1.out, if_neg (by rw [hE.out]; decide), if_neg (by rw [hg]; decide)])
              clear hg
              go_wp2_with fail
              go_roundw
              case rel => exact ⟨k + 1, by omega, by go_num, HI4, hC2⟩
              case measure => simp [intOf]; omega
            · rw [hg] at c5 HI4
              have hC2 : Hid (pvC (pvS S) n n 0 = 3) := Lib.hid (by rw [hC1.out, if_neg (by rw [hE.out]; decide), if_pos hg])
              clear hg
              go_wp2_with fail
              exact bodyPost_ret (v := .tuple #[.pointer (some ⟨w.heap.size, 0, none⟩), .int .i64 k]) (by simp [results, Try.results44, go_sem]) rfl ⟨w.heap.size, k, true, _, _, _, rfl, Nat.le_refl _, HI4.out.below (Nat.le_refl _) belA, hk, .inr (.inl ⟨hC2.out, rfl⟩)⟩
          · rw [hf] at hr
            have hE : Hid (pvE (pvS S k) n k = true) := Lib.hid (by unfold pvE; rw [hD.out, hf]; simp [h0])
            have hr1 : (0 : Int) ≤ r := by simpa using hr
            clear hf hr
            go_wp2_with fail
            exact bodyPost_ret (v := .tuple #[.pointer (some ⟨w.heap.size, 0, none⟩), .int .i64 k]) (by simp [results, Try.results44, go_sem]) rfl (HF4.out hE.out _ HB2.out)
        · have hd0 : (D.1 == 0) = false := by simp [h0]
          have hE : Hid (pvE (pvS S k) n k = false) := Lib.hid (by unfold pvE; rw [hD.out]; simp [h0, hneg])
          go_wp2_with fail
          refine Calls.mono (row_any _ w.heap.size w.heap.size n k cap1 false (pvS S k) (some ⟨a1, o1, none⟩) (pvPs S k) (pvRs S n k) vP vR FR hn hlt (Nat.le_refl _) (by have j0 := J0.out; exact blkA) (HP.out.below belA) (by rw [pvPs_len]; omega) (by rw [pvRs_len]; omega) (HLK.out.step (Moves.below belA) (fun _ e => .inl e) (fun _ e => .inl e)) HSK.out) ?_
          rintro e0 w3 ⟨rfl, hI3⟩
          have hI4 := hI3.base (HB.out.trans (Below.mono (B := W0.heap.size) belA (by have := HB.out.size; omega)))
          rw [Bool.false_or, pvN_pvS, ← pvPs_succ, ← pvRs_succ] at hI4
          have HI4 := Lib.hid hI4
          clear hI3 hI4
          obtain ⟨A5, cap5, vP5, vR5, FR5, j5, _⟩ := HI4.out
          have c5 := (blk4p j5).1.1
          have z5 := blklt j5
          clear j5
          cases hg : pvG (pvS S k) n k
          · rw [hg] at c5 HI4
            have hC2 : Hid (pvC (pvS S) n n 0 = pvC (pvS S) n (n - (k + 1)) (k + 1)) := Lib.hid (by rw [hC1.out, if_neg (by rw [hE.out]; decide), if_neg (by rw [hg]; decide)])
            clear hg
            go_wp2_with fail
            go_roundw
            case rel => exact ⟨k + 1, by omega, by go_num, HI4, hC2⟩
            case measure => simp [intOf]; omega
          · rw [hg] at c5 HI4
            have hC2 : Hid (pvC (pvS S) n n 0 = 3) := Lib.hid (by rw [hC1.out, if_neg (by rw [hE.out]; decide), if_pos hg])
            clear hg
            go_wp2_with fail
            exact bodyPost_ret (v := .tuple #[.pointer (some ⟨w.heap.size, 0, none⟩), .int .i64 k]) (by simp [results, Try.results44, go_sem]) rfl ⟨w.heap.size, k, true, _, _, _, rfl, Nat.le_refl _, HI4.out.below (Nat.le_refl _) belA, hk, .inr (.inl ⟨hC2.out, rfl⟩)⟩
    · have e : k = n := by omega
      subst e
      have hC1 : Hid (pvC (pvS S) k k 0 = 0) := Lib.hid (by rw [hC.out, Nat.sub_self]; rfl)
      go_wp2_with fail
      exact bodyPost_ret (v := .tuple #[.pointer (some ⟨w.heap.size, 0, none⟩), .int .i64 k]) (by simp [results, Try.results44, go_sem]) rfl ⟨w.heap.size, k, false, _, _, _, rfl, Nat.le_refl _, hI.out.below (Nat.le_refl _) belA, Nat.le_refl _, .inl ⟨hC1.out, rfl, rfl, rfl, rfl⟩⟩
end Go.Proofs.Ytekchdgpaemofaa
