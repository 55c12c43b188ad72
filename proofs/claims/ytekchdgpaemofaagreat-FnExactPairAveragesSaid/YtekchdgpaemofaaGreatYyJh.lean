import Derived.Test.YtekchdgpaemofaaGreatYyJf
import Derived.Test.YtekchdgpaemofaaGreatYyVs
import Derived.Test.YtekchdgpaemofaaGreatYyMt
namespace Go.Proofs.YtekchdgpaemofaaGreat
open Go.ChangeShapes Go.WideShapes Go.RowKit
set_option linter.unusedVariables false
set_option linter.unusedSimpArgs false
attribute [local irreducible] Calls
def tkC (fs : List Flg) (va sa : Bool) (fr : Int) : Int := if flagsB fs && va then (if 8 < fs.length then 3 else if fs.length = 0 then 4 else if alikesB fs && sa then (if fr < 2 * ((hdF fs).2.1 - (hdF fs).1) then 2 else 0) else 4) else 1
set_option maxHeartbeats 1000000 in
theorem tableOk_any (w : World) (fs : List Flg) (v : Value) (va sa : Bool) (fr : Int) (h : Lst shFlag w fs v) (hl : fs.length ≤ 1048576) : Calls Tryz.prog 80 #[v, .bool va, .bool sa, .int .i64 fr] w fun e w' => e = .returned (.int .i64 (tkC fs va sa fr)) ∧ Below w.heap.size w w' := by
  have HFL : Hid (∀ w', Below w.heap.size w w' → Calls Tryz.prog 64 #[v] w' fun e w'' => e = .returned (.int .i64 (if flagsB fs then 0 else 1)) ∧ Below w'.heap.size w' w'') := Lib.hid fun w' hb => flagsOk_any w' fs v (h.below hb) hl
  have HLS := Lib.hid h
  obtain ⟨A, cap, rfl, hc, hm, hok, hel⟩ := lstFlag h
  unfold maxLen at hm
  have HOK := Lib.hid hok
  have HEL := Lib.hid hel
  clear hok hel h
  cases hv : flagsB fs
  · have hr : tkC fs va sa fr = 1 := by simp [tkC, hv]
    have HV : Hid ((if flagsB fs then (0 : Int) else 1) = 1) := Lib.hid (by rw [hv]; rfl)
    rw [hr]
    clear hv hr
    go_enter Tryz.func80, Tryz.ntmps80
    go_wp2_with (first | (go_at_call 64; refine Calls.mono (HFL.out _ belA) ?_; rw [HV.out]; rintro e w1 ⟨rfl, hb⟩; obtain ⟨X, m, rfl⟩ := plsOf hb; clear hb))
    exact bodyPost_ret (v := .int .i64 1) (by simp [results, Tryz.results80, go_sem]) rfl ⟨rfl, belA⟩
  have HV : Hid ((if flagsB fs then (0 : Int) else 1) = 0) := Lib.hid (by rw [hv]; rfl)
  have hVa : ∀ d ∈ fs, 0 ≤ d.1 ∧ d.1 ≤ 5 := fun d hd => by
    have := (flV_iff _).1 (flagsB_iff.1 hv d hd)
    omega
  have HAK : Hid (∀ w', Below w.heap.size w w' → Calls Tryz.prog 66 #[.slice A fs.length cap] w' fun e w'' => e = .returned (.bool (alikesB fs)) ∧ Below w'.heap.size w' w'') := Lib.hid fun w' hb => alikes_any w' fs _ (HLS.out.below hb) hl hVa
  cases va
  · have hr : tkC fs false sa fr = 1 := by simp [tkC]
    rw [hr]
    clear hv hr hVa
    go_enter Tryz.func80, Tryz.ntmps80
    go_wp2_with (first | (go_at_call 64; refine Calls.mono (HFL.out _ belA) ?_; rw [HV.out]; rintro e w1 ⟨rfl, hb⟩; obtain ⟨X, m, rfl⟩ := plsOf hb; clear hb))
    exact bodyPost_ret (v := .int .i64 1) (by simp [results, Tryz.results80, go_sem]) rfl ⟨rfl, belA⟩
  by_cases h8 : 8 < fs.length
  · have hr : tkC fs true sa fr = 3 := by simp [tkC, hv, h8]
    have h8' : (8 : Int) < (fs.length : Int) := by omega
    rw [hr]
    clear hv hr hVa
    go_enter Tryz.func80, Tryz.ntmps80
    go_wp2_with (first | (go_at_call 64; refine Calls.mono (HFL.out _ belA) ?_; rw [HV.out]; rintro e w1 ⟨rfl, hb⟩; obtain ⟨X, m, rfl⟩ := plsOf hb; clear hb))
    exact bodyPost_ret (v := .int .i64 3) (by simp [results, Tryz.results80, go_sem]) rfl ⟨rfl, belA⟩
  have h8' : ¬ (8 : Int) < (fs.length : Int) := by omega
  by_cases h0 : fs.length = 0
  · have hr : tkC fs true sa fr = 4 := by simp [tkC, hv, h8, h0]
    have h0' : ((fs.length : Int) == 0) = true := by rw [beq_iff_eq]; omega
    rw [hr]
    clear hv hr hVa h0
    go_enter Tryz.func80, Tryz.ntmps80
    go_wp2_with (first | (go_at_call 64; refine Calls.mono (HFL.out _ belA) ?_; rw [HV.out]; rintro e w1 ⟨rfl, hb⟩; obtain ⟨X, m, rfl⟩ := plsOf hb; clear hb))
    exact bodyPost_ret (v := .int .i64 4) (by simp [results, Tryz.results80, go_sem]) rfl ⟨rfl, belA⟩
  have h0' : ((fs.length : Int) == 0) = false := by rw [beq_eq_false_iff_ne]; omega
  cases hak : alikesB fs
  · have hr : tkC fs true sa fr = 4 := by simp [tkC, hv, h8, h0, hak]
    have HA := Lib.hid hak
    rw [hr]
    clear hv hr hVa hak
    go_enter Tryz.func80, Tryz.ntmps80
    go_wp2_with (first | (go_at_call 64; refine Calls.mono (HFL.out _ belA) ?_; rw [HV.out]; rintro e w1 ⟨rfl, hb⟩; obtain ⟨X, m, rfl⟩ := plsOf hb; clear hb) | (go_at_call 66; refine Calls.mono (HAK.out _ belA) ?_; rw [HA.out]; rintro e w1 ⟨rfl, hb⟩; obtain ⟨X, m, rfl⟩ := plsOf hb; clear hb))
    exact bodyPost_ret (v := .int .i64 4) (by simp [results, Tryz.results80, go_sem]) rfl ⟨rfl, belA⟩
  have HA := Lib.hid hak
  cases sa
  · have hr : tkC fs true false fr = 4 := by simp [tkC, hv, h8, h0]
    rw [hr]
    clear hv hr hVa hak
    go_enter Tryz.func80, Tryz.ntmps80
    go_wp2_with (first | (go_at_call 64; refine Calls.mono (HFL.out _ belA) ?_; rw [HV.out]; rintro e w1 ⟨rfl, hb⟩; obtain ⟨X, m, rfl⟩ := plsOf hb; clear hb) | (go_at_call 66; refine Calls.mono (HAK.out _ belA) ?_; rw [HA.out]; rintro e w1 ⟨rfl, hb⟩; obtain ⟨X, m, rfl⟩ := plsOf hb; clear hb))
    exact bodyPost_ret (v := .int .i64 4) (by simp [results, Tryz.results80, go_sem]) rfl ⟨rfl, belA⟩
  obtain ⟨bl, off, rfl, hel⟩ := HEL.out (by omega)
  obtain ⟨d, hd, _, c0, c1, c2⟩ := hel 0 (by omega)
  simp only [Nat.zero_mul, Nat.add_zero] at c0 c1 c2
  have hhd : hdF fs = d := hdF_eq hd
  have hdv := (flV_iff _).1 (flagsB_iff.1 hv d (List.mem_of_getElem? hd))
  have b1 : 0 ≤ d.1 ∧ d.1 ≤ 5 := by omega
  have b2 : 0 ≤ d.2.1 ∧ d.2.1 ≤ 5 := by omega
  obtain ⟨x, hx⟩ : ∃ x, Hid (d.2.1 - d.1 = x) := ⟨_, Lib.hid rfl⟩
  have hx5 : -5 ≤ x ∧ x ≤ 5 := by have := hx.out; omega
  have zb := World.block_lt_of_cell? _ _ c0
  simp only at zb
  have h00 : (0 : Int) < (fs.length : Int) := by omega
  have h01 : 0 < fs.length := by omega
  by_cases hf : fr < 2 * x
  · have hr : tkC fs true true fr = 2 := by simp [tkC, hv, h8, h0, hak, hhd]; have := hx.out; omega
    rw [hr]
    clear hv hr hVa hak hel hd hhd hdv h0 h8
    go_enter Tryz.func80, Tryz.ntmps80
    go_wp2_with (first | (go_at_call 64; refine Calls.mono (HFL.out _ belA) ?_; rw [HV.out]; rintro e w1 ⟨rfl, hb⟩; obtain ⟨X, m, rfl⟩ := plsOf hb; clear hb) | (go_at_call 66; refine Calls.mono (HAK.out _ belA) ?_; rw [HA.out]; rintro e w1 ⟨rfl, hb⟩; obtain ⟨X, m, rfl⟩ := plsOf hb; clear hb) | (go_at_call 162; refine Calls.mono (ffree_any _ d b1 b2) ?_; rw [hx.out]; rintro e w1 ⟨rfl, hb⟩; obtain ⟨X, m, rfl⟩ := plsOf hb; clear hb))
    exact bodyPost_ret (v := .int .i64 2) (by simp [results, Tryz.results80, go_sem]) rfl ⟨rfl, belA⟩
  · have hr : tkC fs true true fr = 0 := by simp [tkC, hv, h8, h0, hak, hhd]; have := hx.out; omega
    rw [hr]
    clear hv hr hVa hak hel hd hhd hdv h0 h8
    go_enter Tryz.func80, Tryz.ntmps80
    go_wp2_with (first | (go_at_call 64; refine Calls.mono (HFL.out _ belA) ?_; rw [HV.out]; rintro e w1 ⟨rfl, hb⟩; obtain ⟨X, m, rfl⟩ := plsOf hb; clear hb) | (go_at_call 66; refine Calls.mono (HAK.out _ belA) ?_; rw [HA.out]; rintro e w1 ⟨rfl, hb⟩; obtain ⟨X, m, rfl⟩ := plsOf hb; clear hb) | (go_at_call 162; refine Calls.mono (ffree_any _ d b1 b2) ?_; rw [hx.out]; rintro e w1 ⟨rfl, hb⟩; obtain ⟨X, m, rfl⟩ := plsOf hb; clear hb))
    exact bodyPost_ret (v := .int .i64 0) (by simp [results, Tryz.results80, go_sem]) rfl ⟨rfl, belA⟩
end Go.Proofs.YtekchdgpaemofaaGreat
