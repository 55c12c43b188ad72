/- Forbidden graphs: impl.forbiddenOk, spec.l01Forbidden. -/
import Derived.Test.YtpcjinbbgnmchaaGreatGx
import Derived.Test.YtpcjinbbgnmchaaGreatSl
import Derived.Test.YtpcjinbbgnmchaaGreatIx
namespace Go.Proofs.YtpcjinbbgnmchaaGreat
open Go.ChangeShapes Go.WideShapes Go.RowKit
set_option linter.unusedVariables false
set_option linter.unusedSimpArgs false
attribute [local irreducible] Calls
def badGr (d : Int × Int) : Bool := !grOk d.1 d.2
/-- The code of forbidden graphs. -/
def forbC (gs : List (Int × Int)) : Int := if anyB badGr gs then 1 else if 6 < gs.length then 3 else 0
theorem forbC_cases (gs : List (Int × Int)) : forbC gs = 0 ∨ forbC gs = 1 ∨ forbC gs = 3 := by
  unfold forbC
  split
  · simp
  · split <;> simp
theorem forbC_ok {gs : List (Int × Int)} (h : forbC gs = 0) : gs.length ≤ 6 ∧ ∀ d ∈ gs, 0 ≤ d.1 ∧ d.1 ≤ 5 := by
  unfold forbC at h
  split at h
  · omega
  · rename_i hb
    split at h
    · omega
    · refine ⟨by omega, fun d hd => ?_⟩
      have : badGr d ≠ true := fun hx => hb (List.any_eq_true.2 ⟨d, hd, hx⟩)
      simp [badGr, grOk, inB] at this
      exact this.1
theorem forbiddenOk_any (w : World) (gs : List (Int × Int)) (v : Value) (h : Lst shGr w gs v) (hl : gs.length ≤ 1048576) : Calls Tryz.prog 124 #[v] w fun e w' => e = .returned (.int .i64 (forbC gs)) ∧ Below w.heap.size w w' := by
  have eg : ∀ args w, (callFunc 174 args).run Tryz.prog w = .ok (.enter 174 args) w := enters_of Tryz.func174 (by kernel_rfl) rfl
  obtain ⟨A, cap, rfl, hc, hm, hok, _⟩ := lstGraph h
  have HO := Lib.hid hok
  have H := Lib.hid h
  clear hok h
  have hf : Hid (∀ (W : World) (d : Int × Int), Below w.heap.size w W → d ∈ gs → Calls Tryz.prog 174 (#[.agg #[.int .i64 d.1, .int .u32 d.2]] ++ #[]) W fun e W' => e = .returned (.bool (badGr d)) ∧ Below W.heap.size W W') := Lib.hid fun W d _ hd => badGraph_any d.1 d.2 W (okE (HO.out d hd).2)
  cases hv : anyB badGr gs
  · by_cases h6 : 6 < gs.length
    · have hr : Hid (forbC gs = 3) := Lib.hid (by simp [forbC, hv, h6])
      have h6' : (6 : Int) < (gs.length : Int) := by omega
      have HV := Lib.hid hv
      clear hv
      go_enter Tryz.func124, Tryz.ntmps124
      go_wp2_with (first | (go_at_call 180; refine Calls.mono (hasGraph_any _ gs _ 174 #[] badGr (H.out.below belA) (by omega) eg hf.out) ?_; rw [HV.out]; rintro e w1 ⟨rfl, hb⟩; obtain ⟨X, m, rfl⟩ := plsOf hb; clear hb))
      exact bodyPost_ret (v := .int .i64 3) (by simp [results, Tryz.results124, go_sem]) rfl ⟨by rw [hr.out], belA⟩
    · have hr : Hid (forbC gs = 0) := Lib.hid (by simp [forbC, hv, h6])
      have h6' : (gs.length : Int) ≤ 6 := by omega
      have HV := Lib.hid hv
      clear hv
      go_enter Tryz.func124, Tryz.ntmps124
      go_wp2_with (first | (go_at_call 180; refine Calls.mono (hasGraph_any _ gs _ 174 #[] badGr (H.out.below belA) (by omega) eg hf.out) ?_; rw [HV.out]; rintro e w1 ⟨rfl, hb⟩; obtain ⟨X, m, rfl⟩ := plsOf hb; clear hb))
      exact bodyPost_ret (v := .int .i64 0) (by simp [results, Tryz.results124, go_sem]) rfl ⟨by rw [hr.out], belA⟩
  · have hr : Hid (forbC gs = 1) := Lib.hid (by simp [forbC, hv])
    have HV := Lib.hid hv
    clear hv
    go_enter Tryz.func124, Tryz.ntmps124
    go_wp2_with (first | (go_at_call 180; refine Calls.mono (hasGraph_any _ gs _ 174 #[] badGr (H.out.below belA) (by omega) eg hf.out) ?_; rw [HV.out]; rintro e w1 ⟨rfl, hb⟩; obtain ⟨X, m, rfl⟩ := plsOf hb; clear hb))
    exact bodyPost_ret (v := .int .i64 1) (by simp [results, Tryz.results124, go_sem]) rfl ⟨by rw [hr.out], belA⟩
theorem l01Forbidden_any (w : World) (gs : List (Int × Int)) (v : Value) (h : Lst shGr w gs v) : Calls Tryz.prog 145 #[v] w fun e w' => e = .returned (.int .i64 (forbC gs)) ∧ Below w.heap.size w w' := by
  obtain ⟨A, cap, rfl, hc, hm, hok, hel⟩ := lstGraph h
  unfold maxLen at hm
  have H1 := Lib.hid hel
  clear h hok hel
  go_enter Tryz.func145, Tryz.ntmps145
  go_wp2_with fail
  go_loopw [3] (fun i wr => ∃ (k : Nat), k ≤ gs.length ∧ i = .int .i64 k ∧ Hid (∀ a ∈ gs.take k, badGr a = false) ∧ Below w.heap.size w wr) (fun i _ => gs.length - (intOf i).toNat)
  case atStart => exact ⟨0, Nat.zero_le _, rfl, Lib.hid (by simp), belA⟩
  case round =>
    obtain ⟨k, hk, rfl, HT, hB⟩ := hrel
    by_cases hlt : k < gs.length
    · obtain ⟨bl, off, rfl, hel⟩ := H1.out (by omega)
      clear H1
      obtain ⟨d, hd, hok, c0, c1⟩ := hel k hlt
      clear hel
      have hmem : Hid (d ∈ gs) := Lib.hid (List.mem_of_getElem? hd)
      have HD := Lib.hid hd
      have HOK := Lib.hid (okE hok.2)
      clear hd hok
      replace c0 := bkeep hB c0
      replace c1 := bkeep hB c1
      cases hp : grOk d.1 d.2
      · have hr : Hid (forbC gs = 1) := Lib.hid (by
          have : anyB badGr gs = true := List.any_eq_true.2 ⟨d, hmem.out, by simp [badGr, hp]⟩
          simp [forbC, this])
        have HP := Lib.hid hp
        clear hp
        go_wp2_with (first | (go_at_call 71; refine Calls.mono (l01Ok_any d.1 d.2 _ HOK.out) ?_; rw [HP.out]; rintro e w1 ⟨rfl, hb⟩; obtain ⟨X, m, rfl⟩ := plsOf hb; clear hb))
        exact bodyPost_ret (v := .int .i64 1) (by simp [results, Tryz.results145, go_sem]) rfl ⟨by rw [hr.out], belA⟩
      · have HP := Lib.hid hp
        clear hp
        go_wp2_with (first | (go_at_call 71; refine Calls.mono (l01Ok_any d.1 d.2 _ HOK.out) ?_; rw [HP.out]; rintro e w1 ⟨rfl, hb⟩; obtain ⟨X, m, rfl⟩ := plsOf hb; clear hb))
        go_roundw
        case rel => exact ⟨k + 1, by omega, by go_num, Lib.hid (mem_take_succ HT.out HD.out (by simp [badGr, HP.out])), belA⟩
        case measure => simp [intOf]; omega
    · have e : k = gs.length := by omega
      subst e
      have hv : Hid (anyB badGr gs = false) := Lib.hid (by rw [anyB, List.any_eq_false]; intro a ha; have := HT.out; rw [List.take_length] at this; simp [this a ha])
      by_cases h6 : 6 < gs.length
      · have hr : Hid (forbC gs = 3) := Lib.hid (by simp [forbC, hv.out, h6])
        have h6' : (6 : Int) < (gs.length : Int) := by omega
        go_wp2_with fail
        exact bodyPost_ret (v := .int .i64 3) (by simp [results, Tryz.results145, go_sem]) rfl ⟨by rw [hr.out], belA⟩
      · have hr : Hid (forbC gs = 0) := Lib.hid (by simp [forbC, hv.out, h6])
        have h6' : (gs.length : Int) ≤ 6 := by omega
        go_wp2_with fail
        exact bodyPost_ret (v := .int .i64 0) (by simp [results, Tryz.results145, go_sem]) rfl ⟨by rw [hr.out], belA⟩
end Go.Proofs.YtpcjinbbgnmchaaGreat
