import Derived.BigGuardPart
import Derived.Deep.RegionHeld3
import Derived.Test.YtekchdgpaemofaaGreatProg
import Derived.Test.YtekchdgpaemofaaGreatYyQb
import Derived.Test.YtekchdgpaemofaaGreatYyQc
import Derived.Test.YtekchdgpaemofaaGreatYyJf
import Derived.Test.YtekchdgpaemofaaGreatYyVs
import Derived.Test.YtekchdgpaemofaaGreatYyMt
import Derived.Test.YtekchdgpaemofaaGreatYySl
import Derived.Test.YtekchdgpaemofaaGreatYyMx
import Derived.Test.YtekchdgpaemofaaGreatYyTSS
namespace Go.Proofs.YtekchdgpaemofaaGreat
open Go.ChangeShapes Go.WideShapes Go.ChangeAt Go.RowKit
set_option linter.unusedVariables false
set_option linter.unusedSimpArgs false
attribute [local irreducible] Calls
theorem tyNe_eqQ (f d : Flg) : tyNe f d = !eq2 d.1 (tyE d) f.1 (tyE f) := rfl
theorem fam_ofC {fs : List Flg} (h : famC fs = 0) (hok : ∀ d ∈ fs, okFlag d) : ∃ k q : Nat, Fam fs k q ∧ (hdF fs).1 = k ∧ (hdF fs).2.1 = ((k + q : Nat) : Int) := by
  unfold famC at h
  split at h
  · rename_i h1
    split at h
    · cases h
    · split at h
      · cases h
      · split at h
        · rename_i h8 h0 h6
          have hV := flagsB_iff.1 h1
          have hl : 0 < fs.length := by omega
          have hd : fs[0]? = some (fs[0]'hl) := List.getElem?_eq_getElem hl
          have hh := hdF_eq hd
          obtain ⟨d, hdd⟩ : ∃ d, fs[0]'hl = d := ⟨_, rfl⟩
          rw [hdd] at hh hd
          have hv := (flV_iff _).1 (hV d (List.mem_of_getElem? hd))
          rw [hh]
          refine ⟨d.1.toNat, (d.2.1 - d.1).toNat, ⟨hl, by omega, by omega, fun a ha => ?_⟩, by omega, by omega⟩
          have h8 := (alikesB_iff hd).1 h6 a ha
          refine ⟨hV a ha, hok a ha, ?_, ?_⟩
          · have := h8.1
            rw [tyNe_eqQ] at this
            simp [eq2] at this
            omega
          · have := h8.2
            have : a.2.1 = d.2.1 := by simpa [nNe] using this
            omega
        · cases h
  · cases h
theorem gr_n {n e : Int} (h : grOk n e = true) : ∃ m : Nat, n = m ∧ m ≤ 5 := by
  unfold grOk at h
  rw [Bool.and_eq_true] at h
  have := inB_iff.1 h.1
  exact ⟨n.toNat, by omega, by omega⟩
end Go.Proofs.YtekchdgpaemofaaGreat

namespace Go.Proofs.YtekchdgpaemofaaGreat
open Go.ChangeShapes Go.WideShapes Go.RowKit
set_option linter.unusedVariables false
set_option linter.unusedSimpArgs false
attribute [local irreducible] Calls
def blkOk (fs : List Flg) (mt : List (List (Int × Int))) : Bool := decide (famC fs = 0) && matOk mt && decide (mt.length = fs.length)
theorem famC_0 (fs : List Flg) : famC fs = 0 ↔ (1 ≤ fs.length ∧ fs.length ≤ 8) ∧ flagsB fs = true ∧ alikesB fs = true := by
  unfold famC
  by_cases h8 : 8 < fs.length <;> by_cases h0 : fs.length = 0 <;> cases flagsB fs <;> cases alikesB fs <;> simp only [h8, h0, if_true, if_false, Bool.false_eq_true] <;> simp <;> omega
theorem flag_k {fs : List Flg} (h : flagsB fs = true) : ∀ d ∈ fs, 0 ≤ d.1 ∧ d.1 ≤ 5 := fun d hd => by have := (flV_iff d).1 (flagsB_iff.1 h d hd); omega
set_option maxHeartbeats 1000000 in
theorem ValidBlock_any (w : World) (fs : List Flg) (mt : List (List (Int × Int))) (v u : Value) (h : Lst shFlag w fs v) (hm : Lst (shL shFr) w mt u) (hl : fs.length ≤ 1048576) :
    Calls Tryz.prog 170 #[.agg #[v, u]] w fun e w' => e = .returned (.bool (blkOk fs mt)) ∧ Below w.heap.size w w' := by
  obtain ⟨A, cap, rfl, hc, hmx, _, _⟩ := lstFlag h
  obtain ⟨A2, cap2, rfl, hc2, hmx2⟩ := formFrSS hm
  have H1 := Lib.hid h
  have H2 := Lib.hid hm
  clear h hm
  unfold maxLen at hmx hmx2
  cases hin : inB (fs.length : Int) 1 8
  · have hr : Hid (blkOk fs mt = false) := Lib.hid (by
      have : ¬ (famC fs = 0) := fun h => by have := ((famC_0 fs).1 h).1; simp [inB] at hin; omega
      simp [blkOk, this])
    have HIN := Lib.hid hin
    clear hin
    go_enter Tryz.func170, Tryz.ntmps170
    go_wp2_with (first | (go_at_call 163; refine Calls.mono ((HIN.out ▸ in_any fs.length 1 8 _)) ?_; rintro e w1 ⟨rfl, rfl⟩))
    exact bodyPost_ret (v := .bool false) (by simp [results, Tryz.results170, go_sem]) rfl ⟨by rw [hr.out], belA⟩
  · have HIN := Lib.hid hin
    have hlen : Hid (1 ≤ fs.length ∧ fs.length ≤ 8) := Lib.hid (by simp [inB] at hin; omega)
    clear hin
    cases hv : flagsB fs
    · have hr : Hid (blkOk fs mt = false) := Lib.hid (by
        have : ¬ (famC fs = 0) := fun h => by have := ((famC_0 fs).1 h).2.1; rw [hv] at this; cases this
        simp [blkOk, this])
      have HV := Lib.hid hv
      clear hv
      go_enter Tryz.func170, Tryz.ntmps170
      go_wp2_with (first | (go_at_call 163; refine Calls.mono ((HIN.out ▸ in_any fs.length 1 8 _)) ?_; rintro e w1 ⟨rfl, rfl⟩) | (go_at_call 64; refine Calls.mono (flagsOk_any _ fs _ (H1.out.below belA) hl) ?_; rw [HV.out]; rintro e w1 ⟨rfl, hb⟩; obtain ⟨X, m, rfl⟩ := plsOf hb; clear hb))
      exact bodyPost_ret (v := .bool false) (by simp [results, Tryz.results170, go_sem]) rfl ⟨by rw [hr.out], belA⟩
    · have hk := Lib.hid (flag_k hv)
      have HV := Lib.hid hv
      clear hv
      cases ha : alikesB fs
      · have hr : Hid (blkOk fs mt = false) := Lib.hid (by
          have : ¬ (famC fs = 0) := fun h => by have := ((famC_0 fs).1 h).2.2; rw [ha] at this; cases this
          simp [blkOk, this])
        have HA := Lib.hid ha
        clear ha
        go_enter Tryz.func170, Tryz.ntmps170
        go_wp2_with (first | (go_at_call 163; refine Calls.mono ((HIN.out ▸ in_any fs.length 1 8 _)) ?_; rintro e w1 ⟨rfl, rfl⟩) | (go_at_call 64; refine Calls.mono (flagsOk_any _ fs _ (H1.out.below belA) hl) ?_; rw [HV.out]; rintro e w1 ⟨rfl, hb⟩; obtain ⟨X, m, rfl⟩ := plsOf hb; clear hb) | (go_at_call 66; refine Calls.mono (alikes_any _ fs _ (H1.out.below belA) hl hk.out) ?_; rw [HA.out]; rintro e w1 ⟨rfl, hb⟩; obtain ⟨X, m, rfl⟩ := plsOf hb; clear hb))
        exact bodyPost_ret (v := .bool false) (by simp [results, Tryz.results170, go_sem]) rfl ⟨by rw [hr.out], belA⟩
      · have hf : Hid (famC fs = 0) := Lib.hid ((famC_0 fs).2 ⟨hlen.out, HV.out, ha⟩)
        have HA := Lib.hid ha
        clear ha
        cases hmt : matOk mt
        · have hr : Hid (blkOk fs mt = false) := Lib.hid (by simp [blkOk, hmt])
          have HM := Lib.hid hmt
          clear hmt
          go_enter Tryz.func170, Tryz.ntmps170
          go_wp2_with (first | (go_at_call 163; refine Calls.mono ((HIN.out ▸ in_any fs.length 1 8 _)) ?_; rintro e w1 ⟨rfl, rfl⟩) | (go_at_call 64; refine Calls.mono (flagsOk_any _ fs _ (H1.out.below belA) hl) ?_; rw [HV.out]; rintro e w1 ⟨rfl, hb⟩; obtain ⟨X, m, rfl⟩ := plsOf hb; clear hb) | (go_at_call 66; refine Calls.mono (alikes_any _ fs _ (H1.out.below belA) hl hk.out) ?_; rw [HA.out]; rintro e w1 ⟨rfl, hb⟩; obtain ⟨X, m, rfl⟩ := plsOf hb; clear hb) | (go_at_call 65; refine Calls.mono (ValidMatrix_any _ mt _ (H2.out.below belA)) ?_; rw [HM.out]; rintro e w1 ⟨rfl, hb⟩; obtain ⟨X, m, rfl⟩ := plsOf hb; clear hb))
          exact bodyPost_ret (v := .bool false) (by simp [results, Tryz.results170, go_sem]) rfl ⟨by rw [hr.out], belA⟩
        · have hr : Hid (blkOk fs mt = ((mt.length : Int) == (fs.length : Int))) := Lib.hid (by rw [Bool.eq_iff_iff]; simp [blkOk, hmt, hf.out]; omega)
          have HM := Lib.hid hmt
          clear hmt
          go_enter Tryz.func170, Tryz.ntmps170
          go_wp2_with (first | (go_at_call 163; refine Calls.mono ((HIN.out ▸ in_any fs.length 1 8 _)) ?_; rintro e w1 ⟨rfl, rfl⟩) | (go_at_call 64; refine Calls.mono (flagsOk_any _ fs _ (H1.out.below belA) hl) ?_; rw [HV.out]; rintro e w1 ⟨rfl, hb⟩; obtain ⟨X, m, rfl⟩ := plsOf hb; clear hb) | (go_at_call 66; refine Calls.mono (alikes_any _ fs _ (H1.out.below belA) hl hk.out) ?_; rw [HA.out]; rintro e w1 ⟨rfl, hb⟩; obtain ⟨X, m, rfl⟩ := plsOf hb; clear hb) | (go_at_call 65; refine Calls.mono (ValidMatrix_any _ mt _ (H2.out.below belA)) ?_; rw [HM.out]; rintro e w1 ⟨rfl, hb⟩; obtain ⟨X, m, rfl⟩ := plsOf hb; clear hb))
          exact bodyPost_ret (v := .bool ((mt.length : Int) == (fs.length : Int))) (by simp [results, Tryz.results170, go_sem]) rfl ⟨by rw [hr.out], belA⟩
end Go.Proofs.YtekchdgpaemofaaGreat
