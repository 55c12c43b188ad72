import Derived.Lib.Strings
import Derived.Lib.Slices
import Derived.Lib.Small
import Derived.Lib.Walk
import Derived.Lib.BitFns
import Derived.Test.YtekchdgpaemofaaGreatYyPm
import Derived.Test.YtekchdgpaemofaaGreatYyVq
namespace Go.Proofs.YtekchdgpaemofaaGreat
open Go.ChangeShapes Go.WideShapes Go.RowKit
set_option linter.unusedVariables false
set_option linter.unusedSimpArgs false
attribute [local irreducible] Calls
def onesT (e : Int) : Int := IntKind.i64.wrap (IntKind.u8.wrap (IntKind.u8.wrap (IntKind.u8.wrap (Lib.pop8 0 + Lib.pop8 0) + Lib.pop8 (e / 256)) + Lib.pop8 (e % 256)))
set_option maxRecDepth 100000 in
theorem ones_any (e : Int) (w : World) (h0 : 0 ≤ e) (h1 : e ≤ 1023) : Calls Tryz.prog 288 #[.int .u32 e] w fun e0 w' => e0 = .returned (.int .i64 (onesT e)) ∧ Below w.heap.size w w' := by
  have hs := Tryz.underlying9
  have m1 : bits .and .u32 e 255 = e % 256 := bits_mask .u32 32 (by decide) (fun n a b => by rw [IntKind.wrap_u32]; omega) 8 (by decide) e h0 (by omega)
  have m2 : bits .and .u32 (e / 256) 255 = e / 256 := by
    have := bits_mask .u32 32 (by decide) (fun n a b => by rw [IntKind.wrap_u32]; omega) 8 (by decide) (e / 256) (by omega) (by omega)
    refine this.trans ?_
    show (e / 256) % 256 = _
    omega
  have d1 : e / 16777216 = 0 := by omega
  have d2 : e / 65536 = 0 := by omega
  have z3 : bits .and .u32 0 255 = 0 := by decide +kernel
  have b1 : 0 ≤ e % 256 := by omega
  have b2 : e % 256 ≤ 255 := by omega
  have b3 : 0 ≤ e / 256 := by omega
  have b4 : e / 256 ≤ 255 := by omega
  go_enter Tryz.func288, Tryz.ntmps288
  go_wp2_with fail
  (refine wp_region_held_drew (S := (fun w' => True)) (by kernel_rfl) ?_ (fun hHeld => ?_); (focus (trivial)); refine rt 0 (some 3) (v := ?_) rfl rfl ?_ ?_; rotate_left; (focus (intro w' hSw; (try dsimp only at hSw); go_simp; (try with_reducible rfl))); (try simp only [Act.put, nA, nB, nC]); refine rt 1 (some 4) (v := ?_) rfl rfl ?_ ?_; rotate_left; (focus (intro w' hSw; (try dsimp only at hSw); go_simp; (try with_reducible rfl))); (try simp only [Act.put, nA, nB, nC]); refine rt 2 (some 5) (v := ?_) rfl rfl ?_ ?_; rotate_left; (focus (intro w' hSw; (try dsimp only at hSw); go_simp; (try with_reducible rfl))); (try simp only [Act.put, nA, nB, nC]); refine rt 3 (some 6) (v := ?_) rfl rfl ?_ ?_; rotate_left; (focus (intro w' hSw; (try dsimp only at hSw); go_simp; (try with_reducible rfl))); (try simp only [Act.put, nA, nB, nC]); refine rt 4 (some 7) (v := ?_) rfl rfl ?_ ?_; rotate_left; (focus (intro w' hSw; (try dsimp only at hSw); go_simp; (try with_reducible rfl))); (try simp only [Act.put, nA, nB, nC]); refine rt 5 (some 8) (v := ?_) rfl rfl ?_ ?_; rotate_left; (focus (intro w' hSw; (try dsimp only at hSw); go_simp; (try with_reducible rfl))); (try simp only [Act.put, nA, nB, nC]); refine rt 6 (some 9) (v := ?_) rfl rfl ?_ ?_; rotate_left; (focus (intro w' hSw; (try dsimp only at hSw); go_simp; (try with_reducible rfl))); (try simp only [Act.put, nA, nB, nC]); refine rt 7 (some 10) (v := ?_) rfl rfl ?_ ?_; rotate_left; (focus (intro w' hSw; (try dsimp only at hSw); go_simp; (try with_reducible rfl))); (try simp only [Act.put, nA, nB, nC]); refine rt 8 (some 11) (v := ?_) rfl rfl ?_ ?_; rotate_left; (focus (intro w' hSw; (try dsimp only at hSw); go_simp; (try with_reducible rfl))); (try simp only [Act.put, nA, nB, nC]); refine rt 9 (some 12) (v := ?_) rfl rfl ?_ ?_; rotate_left; (focus (intro w' hSw; (try dsimp only at hSw); go_simp; (try with_reducible rfl))); (try simp only [Act.put, nA, nB, nC]); refine rt 10 (some 13) (v := ?_) rfl rfl ?_ ?_; rotate_left; (focus (intro w' hSw; (try dsimp only at hSw); go_simp; (try with_reducible rfl))); (try simp only [Act.put, nA, nB, nC]); refine rt 11 (some 14) (v := ?_) rfl rfl ?_ ?_; rotate_left; (focus (intro w' hSw; (try dsimp only at hSw); go_simp; (try with_reducible rfl))); (try simp only [Act.put, nA, nB, nC]); refine rt 12 (some 15) (v := ?_) rfl rfl ?_ ?_; rotate_left; (focus (intro w' hSw; (try dsimp only at hSw); go_simp; (try with_reducible rfl))); (try simp only [Act.put, nA, nB, nC]); refine rt 13 (some 16) (v := ?_) rfl rfl ?_ ?_; rotate_left; (focus (intro w' hSw; (try dsimp only at hSw); go_simp; (try with_reducible rfl))); (try simp only [Act.put, nA, nB, nC]); refine rt 14 (some 17) (v := ?_) rfl rfl ?_ ?_; rotate_left; (focus (intro w' hSw; (try dsimp only at hSw); go_simp; (try with_reducible rfl))); (try simp only [Act.put, nA, nB, nC]); refine rt 15 (some 18) (v := ?_) rfl rfl ?_ ?_; rotate_left; (focus (intro w' hSw; (try dsimp only at hSw); go_simp; (try with_reducible rfl))); (try simp only [Act.put, nA, nB, nC]); refine rt 16 (some 19) (v := ?_) rfl rfl ?_ ?_; rotate_left; (focus (intro w' hSw; (try dsimp only at hSw); go_simp; (try with_reducible rfl))); (try simp only [Act.put, nA, nB, nC]); refine rt 17 (some 20) (v := ?_) rfl rfl ?_ ?_; rotate_left; (focus (intro w' hSw; (try dsimp only at hSw); go_simp; (try with_reducible rfl))); (try simp only [Act.put, nA, nB, nC]); refine rt 18 (some 2) (v := ?_) rfl rfl ?_ ?_; rotate_left; (focus (intro w' hSw; (try dsimp only at hSw); go_simp; (try with_reducible rfl))); (try simp only [Act.put, nA, nB, nC]); refine wpAnyH_done (by kernel_rfl) ?_ _)
  clear hHeld
  go_wp2_with fail
  exact bodyPost_ret (v := .int .i64 (IntKind.i64.wrap (IntKind.u8.wrap (IntKind.u8.wrap (IntKind.u8.wrap (Lib.pop8 0 + Lib.pop8 0) + Lib.pop8 (e / 256)) + Lib.pop8 (e % 256))))) (by simp [results, Tryz.results288, go_sem]) rfl ⟨rfl, belA⟩
/-! An order leaves the count of edges -/
def gBit (e : Int) (a b : Int) : Nat := if a ≠ b ∧ hasE e a b = true then 1 else 0
def sum2 (e : Int) (L : List Int) : Nat := (L.map fun a => (L.map fun b => gBit e a b).sum).sum
def onesB : Bool := (List.range 6).all fun n => (List.range (limN n).toNat).all fun e => decide (2 * onesT (e : Int) = (sum2 (e : Int) (seqI n) : Int))
theorem onesB_t : onesB = true := by decide +kernel
theorem ones_sum {n : Nat} (hn : n ≤ 5) {e : Int} (h0 : 0 ≤ e) (he : e < limN n) : 2 * onesT e = (sum2 e (seqI n) : Int) := by
  have h := onesB_t
  simp only [onesB, List.all_eq_true, List.mem_range, decide_eq_true_eq] at h
  have := h n (by omega) e.toNat (by omega)
  rwa [show ((e.toNat : Nat) : Int) = e by omega] at this
def permB : Bool := (List.range 6).all fun n => (List.range (n + 1)).all fun q => (ordsL n q).all fun L => L.isPerm (seqI n)
theorem permB_t : permB = true := by decide +kernel
theorem ords_perm {n q : Nat} (hn : n ≤ 5) (hq : q ≤ n) {L : List Int} (hL : L ∈ ordsL n q) : L.Perm (seqI n) := by
  have h := permB_t
  simp only [permB, List.all_eq_true, List.mem_range] at h
  exact List.isPerm_iff.1 (h n (by omega) q (by omega) L hL)
theorem sum2_perm {e : Int} {L M : List Int} (h : L.Perm M) : sum2 e L = sum2 e M := by
  unfold sum2
  have h1 : (L.map fun a => (L.map fun b => gBit e a b).sum) = L.map fun a => (M.map fun b => gBit e a b).sum := by
    apply List.map_congr_left
    intro a _
    exact (h.map _).sum_nat
  rw [h1]
  exact (h.map _).sum_nat
theorem map_seq {n : Nat} {L : List Int} (hl : L.length = n) {β : Type} (f : Int → β) : (seqI n).map (fun i => f (gi L i.toNat)) = L.map f := by
  apply List.ext_getElem?
  intro i
  rw [List.getElem?_map, List.getElem?_map, seqI, List.getElem?_map]
  by_cases hi : i < n
  · rw [List.getElem?_range hi, List.getElem?_eq_getElem (by omega)]
    simp [gi, List.getElem?_eq_getElem (show i < L.length by omega)]
  · rw [List.getElem?_eq_none (by simpa using hi), List.getElem?_eq_none (by omega)]; rfl
theorem ones_on {n q : Nat} (hn : n ≤ 5) (hq : q ≤ n) {e : Int} (h0 : 0 ≤ e) (he : e < limN n) {L : List Int} (hL : L ∈ ordsL n q) : onesT (onE e L) = onesT e := by
  obtain ⟨hv, hl⟩ := ords_vl hn hq hL
  obtain ⟨g0, g1⟩ := ords_lt hn hq (e := e) hL
  have h1 := ones_sum hn h0 he
  have h2 := ones_sum hn g0 g1
  have h3 : sum2 (onE e L) (seqI n) = sum2 e L := by
    have key : ∀ a ∈ seqI n, ∀ b ∈ seqI n, gBit (onE e L) a b = gBit e (gi L a.toNat) (gi L b.toNat) := by
      intro a ha b hb
      simp [seqI] at ha hb
      obtain ⟨i, hi, rfl⟩ := ha
      obtain ⟨j, hj, rfl⟩ := hb
      unfold gBit
      by_cases hij : i = j
      · subst hij; simp
      · have h4 := onE_has (e := e) (L := L) (by omega) (i := i) (j := j) (by omega) (by omega) hij
        have h5 : gi L i ≠ gi L j := by
          rcases Nat.lt_or_ge i j with h | h
          · exact hv.2.2 i j h (by omega)
          · exact fun h6 => hv.2.2 j i (by omega) (by omega) h6.symm
        have h6 : ¬ ((i : Int) = (j : Int)) := by omega
        rw [h4]
        simp [h5, h6]
    unfold sum2
    have h4 : ((seqI n).map fun a => ((seqI n).map fun b => gBit (onE e L) a b).sum) = (seqI n).map fun a => ((fun x => (L.map fun b => gBit e x b).sum) (gi L a.toNat)) := by
      apply List.map_congr_left
      intro a ha
      rw [List.map_congr_left (key a ha), map_seq hl fun x => gBit e (gi L a.toNat) x]
    rw [h4, map_seq hl fun x => (L.map fun b => gBit e x b).sum]
  rw [h3, sum2_perm (ords_perm hn hq hL)] at h2
  omega
theorem alike_ones {n q : Nat} (hn : n ≤ 5) (hq : q ≤ n) {e f : Int} (h0 : 0 ≤ e) (he : e < limN n) (h : (onesT e != onesT f) = true) : alikeB n q e f = false := by
  rw [Bool.eq_false_iff]
  intro hc
  simp only [alikeB, List.any_eq_true, beq_iff_eq] at hc
  obtain ⟨L, hL, rfl⟩ := hc
  rw [ones_on hn hq h0 he hL] at h
  simp at h
theorem handed_any (stop : List Int → Bool) (LS : List (List Int)) : (handed stop (fun (u : Unit) _ => u) LS ()).1 = LS.any stop := by
  induction LS with
  | nil => rfl
  | cons L LS ih =>
    simp only [handed, List.any_cons]
    cases h : stop L
    · simpa using ih
    · rfl
end Go.Proofs.YtekchdgpaemofaaGreat
