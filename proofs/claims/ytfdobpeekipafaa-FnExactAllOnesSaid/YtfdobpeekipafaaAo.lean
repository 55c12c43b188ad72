/- impl.AllOnes, spec.AllOnes. -/
import Derived.Test.YtfdobpeekipafaaOv
import Derived.Test.YtfdobpeekipafaaSb
namespace Go.Proofs.Ytfdobpeekipafaa
open Go.ChangeShapes Go.WideShapes Go.RowKit
set_option linter.unusedVariables false
set_option linter.unusedSimpArgs false
attribute [local irreducible] Calls
def oneD (_ : shFlag.T) : Int × Int := (1, 1)
def noZ (_ : shFlag.T) : Bool := false
def aoC (tn te n : Int) : Int := if tyC tn te n = 0 then (if (flagsL tn.toNat te n.toNat []).length ≤ 64 then 0 else 3) else tyC tn te n
def aoL (tn te n : Int) : List shTerm.T := tdL (aoC tn te n) (ovX (flagsF tn.toNat te n.toNat []) oneD)
theorem anyZ_no (L : List shFlag.T) : anyZ noZ L = false := by
  unfold anyZ noZ; induction L with
  | nil => rfl
  | cons x L ih => simp
theorem nzT_one (L : List shFlag.T) : nzT (ovX L oneD) = ovX L oneD := by
  unfold nzT ovX
  rw [List.filter_eq_self]
  intro d hd
  obtain ⟨h, _, rfl⟩ := List.mem_map.1 hd
  rfl
theorem ovC_one (tn : Nat) (te : Int) (n : Nat) : ovC tn te n oneD noZ = if (flagsL tn te n []).length ≤ 64 then 0 else 3 := by
  unfold ovC tdC
  rw [nzT_one (flagsF tn te n []), anyZ_no (flagsF tn te n [])]
  have : (ovX (flagsF tn te n []) oneD).length = (flagsL tn te n []).length := (List.length_map _).trans (List.length_map _)
  rw [this]
  split <;> simp_all
theorem allOnes1 (W : World) (p : Option Addr) (h : shFlag.T) : Calls Try.prog 41 #[.pointer p, .agg #[.int .i64 h.1, .int .i64 h.2.1, .int .u32 h.2.2]] W fun e W' => e = .returned (.agg #[.int .i64 1, .int .i64 1]) ∧ Below W.heap.size W W' := by
  go_enter Try.func41, Try.ntmps41
  go_wp2_with (first | (go_at_call 42; refine Calls.mono (one_any _) ?_; rintro e w1 ⟨rfl, hb⟩; obtain ⟨X, m, rfl⟩ := plsOf hb; clear hb))
  exact bodyPost_ret (v := .agg #[.int .i64 1, .int .i64 1]) (by simp [results, Try.results41, go_sem]) rfl ⟨rfl, (by (try with_reducible refine bsz ?_); repeat (first | with_reducible exact Below.refl _ _ | ((with_reducible refine bpre ?_); (try simp only [Array.append_assoc]); repeat (first | with_reducible exact Pre.refl _ | with_reducible exact Pre.base _ _ | with_reducible refine Pre.cons _ ?_)) | with_reducible assumption | ((with_reducible refine bsetr ?_); rfl) | with_reducible refine Below.setCell ?_ (by simp <;> omega) _ | with_reducible refine bpl ?_ _ _ | with_reducible refine bal ?_ _ | with_reducible refine bdrew1 ?_ | with_reducible refine bdrew ?_ _))⟩
set_option maxHeartbeats 1000000 in
theorem AllOnes_any (tn te n : Int) (w : World) (he : 0 ≤ te ∧ te ≤ 4294967295) :
    Calls Try.prog 11 #[.agg #[.int .i64 tn, .int .u32 te], .int .i64 n] w (SumRet w.heap.size w (aoC tn te n) (tdT (aoC tn te n) (tn, te)) (tdS (aoC tn te n) n) (aoL tn te n)) := by
  cases hc : (tyC tn te n != 0)
  · have h0 : tyC tn te n = 0 := by simpa using hc
    obtain ⟨tN, hT, nN, hN, h5, h6⟩ : ∃ tN : Nat, tn = (tN : Int) ∧ ∃ nN : Nat, n = (nN : Int) ∧ tN ≤ nN ∧ nN ≤ 5 := by
      unfold tyC at h0
      split at h0
      · rename_i h1
        split at h0
        · rename_i h2
          simp [grOk, spOk, inB] at h1 h2
          exact ⟨tn.toNat, by omega, n.toNat, by omega, by omega, by omega⟩
        · omega
      · omega
    subst hT hN
    have hao : Hid (aoC tN te nN = ovC tN te nN oneD noZ) := Lib.hid (by rw [ovC_one]; unfold aoC; rw [if_pos h0]; rfl)
    have eg : ∀ args w, (callFunc 41 args).run Try.prog w = .ok (.enter 41 args) w := enters_of Try.func41 (by kernel_rfl) rfl
    have HOV : Hid (∀ W, Calls Try.prog 40 #[.agg #[.int .i64 tN, .int .u32 te], .int .i64 nN, .func (.func 41) #[] #[]] W (SumRet W.heap.size W (aoC tN te nN) (tdT (aoC tN te nN) (tN, te)) (tdS (aoC tN te nN) nN) (aoL tN te nN))) := Lib.hid fun W => by
      have := overAll_any W tN nN te 41 #[] oneD noZ h5 h6 eg (fun h _ => ⟨(by decide : okI .i64 1), (by decide : okI .i64 1)⟩) (fun W b g h _ _ _ hcell _ => (allOnes1 W _ h).mono fun e W' ⟨h1, h2⟩ => ⟨h1, by
        have e : (g || noZ h) = g := by simp [noZ]
        rw [e, setCell_same _ _ _ hcell]; exact h2⟩)
      rw [nzT_one (flagsF tN te nN []), ← hao.out] at this
      exact this
    have H0 := Lib.hid h0
    clear hc h0
    go_enter Try.func11, Try.ntmps11
    obtain ⟨C, hC, XL, hXL, NX, hNX⟩ : ∃ C, Hid (aoC tN te nN = C) ∧ ∃ XL : List ((Int × (Int × Int)) × (Int × Int)), Hid (aoL tN te nN = XL) ∧ ∃ NX : Nat, Hid (XL.length = NX) := ⟨_, Lib.hid rfl, _, Lib.hid rfl, _, Lib.hid rfl⟩
    rw [hC.out, hXL.out] at HOV ⊢
    go_wp2_with (first | (go_at_call 39; refine Calls.mono (typeOk_any _ _ _ _ he) ?_; rw [H0.out]; rintro e w1 ⟨rfl, hb⟩; obtain ⟨X, m, rfl⟩ := plsOf hb; clear hb))
    refine Calls.mono (HOV.out _) ?_
    rintro e0 w5 ⟨A5, cap5, F5, rfl, hO5, hb5⟩
    rw [hNX.out] at hO5 ⊢
    have HO5 := Lib.hid hO5
    have kr : w5.heap[w.heap.size + 1]? = some (.cells #[.int .i64 0, .int .u32 0, .int .i64 0, .slice none 0 0] 28 (0, 0)) := bblk hb5 (by simp <;> omega) (by repeat (first | with_reducible assumption | with_reducible refine pls_block _ _ ?_ | with_reducible apply blkset2 | with_reducible apply blkset1 | ((with_reducible refine blksetN ?_ ?_ _); (focus (simp <;> omega))) | with_reducible exact blknew _ _ | ((with_reducible refine blknew' _ _ _ ?_); (simp <;> omega)) | with_reducible refine blkal ?_ _))
    have hbb : Below w.heap.size w w5 := Below.trans (by (try with_reducible refine bsz ?_); repeat (first | with_reducible exact Below.refl _ _ | ((with_reducible refine bpre ?_); (try simp only [Array.append_assoc]); repeat (first | with_reducible exact Pre.refl _ | with_reducible exact Pre.base _ _ | with_reducible refine Pre.cons _ ?_)) | with_reducible assumption | ((with_reducible refine bsetr ?_); rfl) | with_reducible refine Below.setCell ?_ (by simp <;> omega) _ | with_reducible refine bpl ?_ _ _ | with_reducible refine bal ?_ _ | with_reducible refine bdrew1 ?_ | with_reducible refine bdrew ?_ _)) (hb5.mono (by simp <;> omega))
    obtain ⟨c50, c51, c52, c53⟩ : w5.cell? ⟨w.heap.size + 1, 0, none⟩ = some (.int .i64 0) ∧ w5.cell? ⟨w.heap.size + 1, 1, none⟩ = some (.int .u32 0) ∧ w5.cell? ⟨w.heap.size + 1, 2, none⟩ = some (.int .i64 0) ∧ w5.cell? ⟨w.heap.size + 1, 3, none⟩ = some (.slice none 0 0) := by simp [World.cell?, kr]
    obtain ⟨f50, f51, f52, f53⟩ : w5.frozen? ⟨w.heap.size + 1, 0, none⟩ = false ∧ w5.frozen? ⟨w.heap.size + 1, 1, none⟩ = false ∧ w5.frozen? ⟨w.heap.size + 1, 2, none⟩ = false ∧ w5.frozen? ⟨w.heap.size + 1, 3, none⟩ = false := by simp [World.frozen?, kr]
    have zz5 := blklt kr
    have hzz5 : w.heap.size + 1 + 1 ≤ w5.heap.size := by have := hb5.size; simp at this; omega
    have hge : Hid (∀ q ∈ F5, w.heap.size + 1 + 1 ≤ q) := Lib.hid fun q hq => by have := hO5.ge q hq; simp at this; omega
    clear hO5 hb5 kr
    go_wp2_with fail
    refine bodyPost_ret (v := .tuple #[.agg #[.int .i64 (tdT C (tN, te)).1, .int .u32 (tdT C (tN, te)).2, .int .i64 (tdS C nN), .slice A5 NX cap5], .int .i64 C]) (by simp [results, Try.results11, go_sem, *]) rfl ?_
    refine ⟨A5, cap5, F5, by rw [hNX.out], ?_, (by (try with_reducible refine bsz ?_); repeat (first | with_reducible exact Below.refl _ _ | ((with_reducible refine bpre ?_); (try simp only [Array.append_assoc]); repeat (first | with_reducible exact Pre.refl _ | with_reducible exact Pre.base _ _ | with_reducible refine Pre.cons _ ?_)) | with_reducible assumption | ((with_reducible refine bsetr ?_); rfl) | with_reducible refine Below.setCell ?_ (by simp <;> omega) _ | with_reducible refine bpl ?_ _ _ | with_reducible refine bal ?_ _ | with_reducible refine bdrew1 ?_ | with_reducible refine bdrew ?_ _))⟩
    rw [hNX.out]
    refine ⟨(shL shTerm).ownKeep _ _ _ _ _ (fun q hq => ?_) HO5.out.1, HO5.out.2.1, fun q hq => by have := hge.out q hq; omega⟩
    have hne : q ≠ w.heap.size + 1 := by have := hge.out q hq; omega
    exact (Below.heap_setCell _ ⟨w.heap.size + 1, 3, none⟩ _ q hne).trans ((Below.heap_setCell _ ⟨w.heap.size + 1, 2, none⟩ _ q hne).trans ((Below.heap_setCell _ ⟨w.heap.size + 1, 1, none⟩ _ q hne).trans (Below.heap_setCell _ ⟨w.heap.size + 1, 0, none⟩ _ q hne)))
  · have h0 : tyC tn te n ≠ 0 := by simpa using hc
    have hao : Hid (aoC tn te n = tyC tn te n) := Lib.hid (by unfold aoC; rw [if_neg h0])
    have hl : Hid (aoL tn te n = []) := Lib.hid (by unfold aoL tdL; rw [hao.out, if_neg h0])
    have HT : Hid (tdT (tyC tn te n) (tn, te) = (0, 0) ∧ tdS (tyC tn te n) n = 0) := Lib.hid ⟨by unfold tdT; rw [if_neg h0], by unfold tdS; rw [if_neg h0]⟩
    obtain ⟨T, hT⟩ : ∃ T, Hid (tyC tn te n = T) := ⟨_, Lib.hid rfl⟩
    rw [hT.out] at hc
    clear h0
    go_enter Try.func11, Try.ntmps11
    go_wp2_with (first | (go_at_call 39; refine Calls.mono (typeOk_any _ _ _ _ he) ?_; rw [hT.out]; rintro e w1 ⟨rfl, hb⟩; obtain ⟨X, m, rfl⟩ := plsOf hb; clear hb))
    refine bodyPost_ret (v := .tuple #[.agg #[.int .i64 0, .int .u32 0, .int .i64 0, .slice none 0 0], .int .i64 T]) (by simp [results, Try.results11, go_sem, *]) rfl ?_
    rw [hao.out, hl.out]
    exact sumRet_no HT.out.1 HT.out.2 rfl (by (try with_reducible refine bsz ?_); repeat (first | with_reducible exact Below.refl _ _ | ((with_reducible refine bpre ?_); (try simp only [Array.append_assoc]); repeat (first | with_reducible exact Pre.refl _ | with_reducible exact Pre.base _ _ | with_reducible refine Pre.cons _ ?_)) | with_reducible assumption | ((with_reducible refine bsetr ?_); rfl) | with_reducible refine Below.setCell ?_ (by simp <;> omega) _ | with_reducible refine bpl ?_ _ _ | with_reducible refine bal ?_ _ | with_reducible refine bdrew1 ?_ | with_reducible refine bdrew ?_ _)) hT.out
end Go.Proofs.Ytfdobpeekipafaa
