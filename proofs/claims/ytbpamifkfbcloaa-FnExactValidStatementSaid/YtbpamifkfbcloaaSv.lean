/- Forbidden graphs; valid statements, impl and spec. -/
import Derived.Test.YtbpamifkfbcloaaVr
import Derived.Test.YtbpamifkfbcloaaVt
import Derived.Test.YtbpamifkfbcloaaIxGraph
namespace Go.Proofs.Ytbpamifkfbcloaa
open Go.ChangeShapes Go.WideShapes Go.RowKit
set_option linter.unusedVariables false
set_option linter.unusedSimpArgs false
attribute [local irreducible] Calls
def badGr (d : Int × Int) : Bool := !grOk d.1 d.2
/-- The code of forbidden graphs. -/
def forbC (gs : List (Int × Int)) : Int := if anyB badGr gs then 1 else if 6 < gs.length then 3 else 0
theorem forbiddenOk_any (w : World) (gs : List (Int × Int)) (v : Value) (h : Lst shGr w gs v) (hl : gs.length ≤ 1048576) : Calls Try.prog 72 #[v] w fun e w' => e = .returned (.int .i64 (forbC gs)) ∧ Below w.heap.size w w' := by
  have eg : ∀ args w, (callFunc 105 args).run Try.prog w = .ok (.enter 105 args) w := enters_of Try.func105 (by kernel_rfl) rfl
  obtain ⟨A, cap, rfl, hc, hm, hok, _⟩ := lstGraph h
  have HO := Lib.hid hok
  have H := Lib.hid h
  clear hok h
  have hf : Hid (∀ (W : World) (d : Int × Int), Below w.heap.size w W → d ∈ gs → Calls Try.prog 105 (#[.agg #[.int .i64 d.1, .int .u32 d.2]] ++ #[]) W fun e W' => e = .returned (.bool (badGr d)) ∧ Below W.heap.size W W') := Lib.hid fun W d _ hd => badGraph_any d.1 d.2 W (okE (HO.out d hd).2)
  cases hv : anyB badGr gs
  · by_cases h6 : 6 < gs.length
    · have hr : Hid (forbC gs = 3) := Lib.hid (by simp [forbC, hv, h6])
      have h6' : (6 : Int) < (gs.length : Int) := by omega
      have HV := Lib.hid hv
      clear hv
      go_enter Try.func72, Try.ntmps72
      go_wp2_with (first | (go_at_call 104; refine Calls.mono (hasGraph_any _ gs _ 105 #[] badGr (H.out.below (by (try with_reducible refine bsz ?_); repeat (first | with_reducible exact Below.refl _ _ | ((with_reducible refine bpre ?_); (try simp only [Array.append_assoc]); repeat (first | with_reducible exact Pre.refl _ | with_reducible exact Pre.base _ _ | with_reducible refine Pre.cons _ ?_)) | with_reducible assumption | ((with_reducible refine bsetr ?_); rfl) | with_reducible refine Below.setCell ?_ (by simp <;> omega) _ | with_reducible refine bpl ?_ _ _ | with_reducible refine bal ?_ _ | with_reducible refine bdrew1 ?_ | with_reducible refine bdrew ?_ _))) (by omega) eg hf.out) ?_; rw [HV.out]; rintro e w1 ⟨rfl, hb⟩; obtain ⟨X, m, rfl⟩ := plsOf hb; clear hb))
      exact bodyPost_ret (v := .int .i64 3) (by simp [results, Try.results72, go_sem]) rfl ⟨by rw [hr.out], (by (try with_reducible refine bsz ?_); repeat (first | with_reducible exact Below.refl _ _ | ((with_reducible refine bpre ?_); (try simp only [Array.append_assoc]); repeat (first | with_reducible exact Pre.refl _ | with_reducible exact Pre.base _ _ | with_reducible refine Pre.cons _ ?_)) | with_reducible assumption | ((with_reducible refine bsetr ?_); rfl) | with_reducible refine Below.setCell ?_ (by simp <;> omega) _ | with_reducible refine bpl ?_ _ _ | with_reducible refine bal ?_ _ | with_reducible refine bdrew1 ?_ | with_reducible refine bdrew ?_ _))⟩
    · have hr : Hid (forbC gs = 0) := Lib.hid (by simp [forbC, hv, h6])
      have h6' : (gs.length : Int) ≤ 6 := by omega
      have HV := Lib.hid hv
      clear hv
      go_enter Try.func72, Try.ntmps72
      go_wp2_with (first | (go_at_call 104; refine Calls.mono (hasGraph_any _ gs _ 105 #[] badGr (H.out.below (by (try with_reducible refine bsz ?_); repeat (first | with_reducible exact Below.refl _ _ | ((with_reducible refine bpre ?_); (try simp only [Array.append_assoc]); repeat (first | with_reducible exact Pre.refl _ | with_reducible exact Pre.base _ _ | with_reducible refine Pre.cons _ ?_)) | with_reducible assumption | ((with_reducible refine bsetr ?_); rfl) | with_reducible refine Below.setCell ?_ (by simp <;> omega) _ | with_reducible refine bpl ?_ _ _ | with_reducible refine bal ?_ _ | with_reducible refine bdrew1 ?_ | with_reducible refine bdrew ?_ _))) (by omega) eg hf.out) ?_; rw [HV.out]; rintro e w1 ⟨rfl, hb⟩; obtain ⟨X, m, rfl⟩ := plsOf hb; clear hb))
      exact bodyPost_ret (v := .int .i64 0) (by simp [results, Try.results72, go_sem]) rfl ⟨by rw [hr.out], (by (try with_reducible refine bsz ?_); repeat (first | with_reducible exact Below.refl _ _ | ((with_reducible refine bpre ?_); (try simp only [Array.append_assoc]); repeat (first | with_reducible exact Pre.refl _ | with_reducible exact Pre.base _ _ | with_reducible refine Pre.cons _ ?_)) | with_reducible assumption | ((with_reducible refine bsetr ?_); rfl) | with_reducible refine Below.setCell ?_ (by simp <;> omega) _ | with_reducible refine bpl ?_ _ _ | with_reducible refine bal ?_ _ | with_reducible refine bdrew1 ?_ | with_reducible refine bdrew ?_ _))⟩
  · have hr : Hid (forbC gs = 1) := Lib.hid (by simp [forbC, hv])
    have HV := Lib.hid hv
    clear hv
    go_enter Try.func72, Try.ntmps72
    go_wp2_with (first | (go_at_call 104; refine Calls.mono (hasGraph_any _ gs _ 105 #[] badGr (H.out.below (by (try with_reducible refine bsz ?_); repeat (first | with_reducible exact Below.refl _ _ | ((with_reducible refine bpre ?_); (try simp only [Array.append_assoc]); repeat (first | with_reducible exact Pre.refl _ | with_reducible exact Pre.base _ _ | with_reducible refine Pre.cons _ ?_)) | with_reducible assumption | ((with_reducible refine bsetr ?_); rfl) | with_reducible refine Below.setCell ?_ (by simp <;> omega) _ | with_reducible refine bpl ?_ _ _ | with_reducible refine bal ?_ _ | with_reducible refine bdrew1 ?_ | with_reducible refine bdrew ?_ _))) (by omega) eg hf.out) ?_; rw [HV.out]; rintro e w1 ⟨rfl, hb⟩; obtain ⟨X, m, rfl⟩ := plsOf hb; clear hb))
    exact bodyPost_ret (v := .int .i64 1) (by simp [results, Try.results72, go_sem]) rfl ⟨by rw [hr.out], (by (try with_reducible refine bsz ?_); repeat (first | with_reducible exact Below.refl _ _ | ((with_reducible refine bpre ?_); (try simp only [Array.append_assoc]); repeat (first | with_reducible exact Pre.refl _ | with_reducible exact Pre.base _ _ | with_reducible refine Pre.cons _ ?_)) | with_reducible assumption | ((with_reducible refine bsetr ?_); rfl) | with_reducible refine Below.setCell ?_ (by simp <;> omega) _ | with_reducible refine bpl ?_ _ _ | with_reducible refine bal ?_ _ | with_reducible refine bdrew1 ?_ | with_reducible refine bdrew ?_ _))⟩
theorem l01Forbidden_any (w : World) (gs : List (Int × Int)) (v : Value) (h : Lst shGr w gs v) : Calls Try.prog 103 #[v] w fun e w' => e = .returned (.int .i64 (forbC gs)) ∧ Below w.heap.size w w' := by
  obtain ⟨A, cap, rfl, hc, hm, hok, hel⟩ := lstGraph h
  unfold maxLen at hm
  have H1 := Lib.hid hel
  clear h hok hel
  go_enter Try.func103, Try.ntmps103
  go_wp2_with fail
  go_loopw [3] (fun i wr => ∃ (k : Nat), k ≤ gs.length ∧ i = .int .i64 k ∧ Hid (∀ a ∈ gs.take k, badGr a = false) ∧ Below w.heap.size w wr) (fun i _ => gs.length - (intOf i).toNat)
  case atStart => exact ⟨0, Nat.zero_le _, rfl, Lib.hid (by simp), (by (try with_reducible refine bsz ?_); repeat (first | with_reducible exact Below.refl _ _ | ((with_reducible refine bpre ?_); (try simp only [Array.append_assoc]); repeat (first | with_reducible exact Pre.refl _ | with_reducible exact Pre.base _ _ | with_reducible refine Pre.cons _ ?_)) | with_reducible assumption | ((with_reducible refine bsetr ?_); rfl) | with_reducible refine Below.setCell ?_ (by simp <;> omega) _ | with_reducible refine bpl ?_ _ _ | with_reducible refine bal ?_ _ | with_reducible refine bdrew1 ?_ | with_reducible refine bdrew ?_ _))⟩
  case round =>
    obtain ⟨k, hk, rfl, HT, hB⟩ := hrel
    by_cases hlt : k < gs.length
    · obtain ⟨bl, off, rfl, hel⟩ := H1.out (by omega)
      clear H1
      obtain ⟨d, hd, hok, c0, c1⟩ := hel k hlt
      clear hel
      have hmem : Hid (d ∈ gs) := Lib.hid (List.mem_of_getElem? hd)
      have HD := Lib.hid hd
      have HOK := Lib.hid (okE hok.2)
      clear hd hok
      replace c0 := bkeep hB c0
      replace c1 := bkeep hB c1
      cases hp : grOk d.1 d.2
      · have hr : Hid (forbC gs = 1) := Lib.hid (by
          have : anyB badGr gs = true := List.any_eq_true.2 ⟨d, hmem.out, by simp [badGr, hp]⟩
          simp [forbC, this])
        have HP := Lib.hid hp
        clear hp
        go_wp2_with (first | (go_at_call 74; refine Calls.mono (l01Ok_any d.1 d.2 _ HOK.out) ?_; rw [HP.out]; rintro e w1 ⟨rfl, hb⟩; obtain ⟨X, m, rfl⟩ := plsOf hb; clear hb))
        exact bodyPost_ret (v := .int .i64 1) (by simp [results, Try.results103, go_sem]) rfl ⟨by rw [hr.out], (by (try with_reducible refine bsz ?_); repeat (first | with_reducible exact Below.refl _ _ | ((with_reducible refine bpre ?_); (try simp only [Array.append_assoc]); repeat (first | with_reducible exact Pre.refl _ | with_reducible exact Pre.base _ _ | with_reducible refine Pre.cons _ ?_)) | with_reducible assumption | ((with_reducible refine bsetr ?_); rfl) | with_reducible refine Below.setCell ?_ (by simp <;> omega) _ | with_reducible refine bpl ?_ _ _ | with_reducible refine bal ?_ _ | with_reducible refine bdrew1 ?_ | with_reducible refine bdrew ?_ _))⟩
      · have HP := Lib.hid hp
        clear hp
        go_wp2_with (first | (go_at_call 74; refine Calls.mono (l01Ok_any d.1 d.2 _ HOK.out) ?_; rw [HP.out]; rintro e w1 ⟨rfl, hb⟩; obtain ⟨X, m, rfl⟩ := plsOf hb; clear hb))
        go_roundw
        case rel => exact ⟨k + 1, by omega, by go_num, Lib.hid (mem_take_succ HT.out HD.out (by simp [badGr, HP.out])), (by (try with_reducible refine bsz ?_); repeat (first | with_reducible exact Below.refl _ _ | ((with_reducible refine bpre ?_); (try simp only [Array.append_assoc]); repeat (first | with_reducible exact Pre.refl _ | with_reducible exact Pre.base _ _ | with_reducible refine Pre.cons _ ?_)) | with_reducible assumption | ((with_reducible refine bsetr ?_); rfl) | with_reducible refine Below.setCell ?_ (by simp <;> omega) _ | with_reducible refine bpl ?_ _ _ | with_reducible refine bal ?_ _ | with_reducible refine bdrew1 ?_ | with_reducible refine bdrew ?_ _))⟩
        case measure => simp [intOf]; omega
    · have e : k = gs.length := by omega
      subst e
      have hv : Hid (anyB badGr gs = false) := Lib.hid (by rw [anyB, List.any_eq_false]; intro a ha; have := HT.out; rw [List.take_length] at this; simp [this a ha])
      by_cases h6 : 6 < gs.length
      · have hr : Hid (forbC gs = 3) := Lib.hid (by simp [forbC, hv.out, h6])
        have h6' : (6 : Int) < (gs.length : Int) := by omega
        go_wp2_with fail
        exact bodyPost_ret (v := .int .i64 3) (by simp [results, Try.results103, go_sem]) rfl ⟨by rw [hr.out], (by (try with_reducible refine bsz ?_); repeat (first | with_reducible exact Below.refl _ _ | ((with_reducible refine bpre ?_); (try simp only [Array.append_assoc]); repeat (first | with_reducible exact Pre.refl _ | with_reducible exact Pre.base _ _ | with_reducible refine Pre.cons _ ?_)) | with_reducible assumption | ((with_reducible refine bsetr ?_); rfl) | with_reducible refine Below.setCell ?_ (by simp <;> omega) _ | with_reducible refine bpl ?_ _ _ | with_reducible refine bal ?_ _ | with_reducible refine bdrew1 ?_ | with_reducible refine bdrew ?_ _))⟩
      · have hr : Hid (forbC gs = 0) := Lib.hid (by simp [forbC, hv.out, h6])
        have h6' : (gs.length : Int) ≤ 6 := by omega
        go_wp2_with fail
        exact bodyPost_ret (v := .int .i64 0) (by simp [results, Try.results103, go_sem]) rfl ⟨by rw [hr.out], (by (try with_reducible refine bsz ?_); repeat (first | with_reducible exact Below.refl _ _ | ((with_reducible refine bpre ?_); (try simp only [Array.append_assoc]); repeat (first | with_reducible exact Pre.refl _ | with_reducible exact Pre.base _ _ | with_reducible refine Pre.cons _ ?_)) | with_reducible assumption | ((with_reducible refine bsetr ?_); rfl) | with_reducible refine Below.setCell ?_ (by simp <;> omega) _ | with_reducible refine bpl ?_ _ _ | with_reducible refine bal ?_ _ | with_reducible refine bdrew1 ?_ | with_reducible refine bdrew ?_ _))⟩
/-- A valid statement. -/
def stOk (gs : List (Int × Int)) (tn te s : Int) (xs : List Trm) (p q : Int) : Bool := (forbC gs == 0) && sumOk tn te s xs && (tn == 0) && frOk p q
set_option maxHeartbeats 2000000 in
theorem ValidStatement_any (w : World) (gs : List (Int × Int)) (tn te s : Int) (xs : List Trm) (p q : Int) (v u : Value) (h : Lst shGr w gs v) (hx : Lst shTerm w xs u) (he : 0 ≤ te ∧ te ≤ 4294967295) (hp : okI .i64 p) (hq : okI .i64 q) (hl : gs.length ≤ 1048576) :
    Calls Try.prog 29 #[.agg #[v, .int .i64 tn, .int .u32 te, .int .i64 s, u, .int .i64 p, .int .i64 q]] w fun e w' => e = .returned (.bool (stOk gs tn te s xs p q)) ∧ Below w.heap.size w w' := by
  obtain ⟨A, cap, rfl, _, _⟩ := formGraph h
  obtain ⟨A2, cap2, rfl, _, _⟩ := formTerm hx
  obtain ⟨i1, i2⟩ := i64_wf hp
  obtain ⟨i3, i4⟩ := i64_wf hq
  have H := Lib.hid h
  have HX := Lib.hid hx
  clear h hx hp hq
  cases g1 : (forbC gs == 0)
  · have hr : Hid (stOk gs tn te s xs p q = false) := Lib.hid (by simp [stOk, g1])
    obtain ⟨c, hc, hc0⟩ : ∃ c, forbC gs = c ∧ (c == 0) = false := ⟨_, rfl, g1⟩
    have G1 := Lib.hid hc
    clear g1 hc
    go_enter Try.func29, Try.ntmps29
    go_wp2_with (first | (go_at_call 72; refine Calls.mono (forbiddenOk_any _ gs _ (H.out.below (by (try with_reducible refine bsz ?_); repeat (first | with_reducible exact Below.refl _ _ | ((with_reducible refine bpre ?_); (try simp only [Array.append_assoc]); repeat (first | with_reducible exact Pre.refl _ | with_reducible exact Pre.base _ _ | with_reducible refine Pre.cons _ ?_)) | with_reducible assumption | ((with_reducible refine bsetr ?_); rfl) | with_reducible refine Below.setCell ?_ (by simp <;> omega) _ | with_reducible refine bpl ?_ _ _ | with_reducible refine bal ?_ _ | with_reducible refine bdrew1 ?_ | with_reducible refine bdrew ?_ _))) hl) ?_; rw [G1.out]; rintro e w1 ⟨rfl, hb⟩; obtain ⟨X, m, rfl⟩ := plsOf hb; clear hb))
    exact bodyPost_ret (v := .bool false) (by simp [results, Try.results29, go_sem]) rfl ⟨by rw [hr.out], (by (try with_reducible refine bsz ?_); repeat (first | with_reducible exact Below.refl _ _ | ((with_reducible refine bpre ?_); (try simp only [Array.append_assoc]); repeat (first | with_reducible exact Pre.refl _ | with_reducible exact Pre.base _ _ | with_reducible refine Pre.cons _ ?_)) | with_reducible assumption | ((with_reducible refine bsetr ?_); rfl) | with_reducible refine Below.setCell ?_ (by simp <;> omega) _ | with_reducible refine bpl ?_ _ _ | with_reducible refine bal ?_ _ | with_reducible refine bdrew1 ?_ | with_reducible refine bdrew ?_ _))⟩
  have G1 : Hid (forbC gs = 0) := Lib.hid (by simpa using g1)
  clear g1
  cases g2 : sumOk tn te s xs
  · have hr : Hid (stOk gs tn te s xs p q = false) := Lib.hid (by simp [stOk, g2])
    have G2 := Lib.hid g2
    clear g2
    go_enter Try.func29, Try.ntmps29
    go_wp2_with (first | (go_at_call 72; refine Calls.mono (forbiddenOk_any _ gs _ (H.out.below (by (try with_reducible refine bsz ?_); repeat (first | with_reducible exact Below.refl _ _ | ((with_reducible refine bpre ?_); (try simp only [Array.append_assoc]); repeat (first | with_reducible exact Pre.refl _ | with_reducible exact Pre.base _ _ | with_reducible refine Pre.cons _ ?_)) | with_reducible assumption | ((with_reducible refine bsetr ?_); rfl) | with_reducible refine Below.setCell ?_ (by simp <;> omega) _ | with_reducible refine bpl ?_ _ _ | with_reducible refine bal ?_ _ | with_reducible refine bdrew1 ?_ | with_reducible refine bdrew ?_ _))) hl) ?_; rw [G1.out]; rintro e w1 ⟨rfl, hb⟩; obtain ⟨X, m, rfl⟩ := plsOf hb; clear hb) | (go_at_call 22; refine Calls.mono (ValidSum_any _ tn te s xs _ (HX.out.below (by (try with_reducible refine bsz ?_); repeat (first | with_reducible exact Below.refl _ _ | ((with_reducible refine bpre ?_); (try simp only [Array.append_assoc]); repeat (first | with_reducible exact Pre.refl _ | with_reducible exact Pre.base _ _ | with_reducible refine Pre.cons _ ?_)) | with_reducible assumption | ((with_reducible refine bsetr ?_); rfl) | with_reducible refine Below.setCell ?_ (by simp <;> omega) _ | with_reducible refine bpl ?_ _ _ | with_reducible refine bal ?_ _ | with_reducible refine bdrew1 ?_ | with_reducible refine bdrew ?_ _))) he) ?_; rw [G2.out]; rintro e w1 ⟨rfl, hb⟩; obtain ⟨X, m, rfl⟩ := plsOf hb; clear hb))
    exact bodyPost_ret (v := .bool false) (by simp [results, Try.results29, go_sem]) rfl ⟨by rw [hr.out], (by (try with_reducible refine bsz ?_); repeat (first | with_reducible exact Below.refl _ _ | ((with_reducible refine bpre ?_); (try simp only [Array.append_assoc]); repeat (first | with_reducible exact Pre.refl _ | with_reducible exact Pre.base _ _ | with_reducible refine Pre.cons _ ?_)) | with_reducible assumption | ((with_reducible refine bsetr ?_); rfl) | with_reducible refine Below.setCell ?_ (by simp <;> omega) _ | with_reducible refine bpl ?_ _ _ | with_reducible refine bal ?_ _ | with_reducible refine bdrew1 ?_ | with_reducible refine bdrew ?_ _))⟩
  have G2 := Lib.hid g2
  clear g2
  cases g3 : (tn == 0)
  · have hr : Hid (stOk gs tn te s xs p q = false) := Lib.hid (by simp [stOk, g3])
    go_enter Try.func29, Try.ntmps29
    go_wp2_with (first | (go_at_call 72; refine Calls.mono (forbiddenOk_any _ gs _ (H.out.below (by (try with_reducible refine bsz ?_); repeat (first | with_reducible exact Below.refl _ _ | ((with_reducible refine bpre ?_); (try simp only [Array.append_assoc]); repeat (first | with_reducible exact Pre.refl _ | with_reducible exact Pre.base _ _ | with_reducible refine Pre.cons _ ?_)) | with_reducible assumption | ((with_reducible refine bsetr ?_); rfl) | with_reducible refine Below.setCell ?_ (by simp <;> omega) _ | with_reducible refine bpl ?_ _ _ | with_reducible refine bal ?_ _ | with_reducible refine bdrew1 ?_ | with_reducible refine bdrew ?_ _))) hl) ?_; rw [G1.out]; rintro e w1 ⟨rfl, hb⟩; obtain ⟨X, m, rfl⟩ := plsOf hb; clear hb) | (go_at_call 22; refine Calls.mono (ValidSum_any _ tn te s xs _ (HX.out.below (by (try with_reducible refine bsz ?_); repeat (first | with_reducible exact Below.refl _ _ | ((with_reducible refine bpre ?_); (try simp only [Array.append_assoc]); repeat (first | with_reducible exact Pre.refl _ | with_reducible exact Pre.base _ _ | with_reducible refine Pre.cons _ ?_)) | with_reducible assumption | ((with_reducible refine bsetr ?_); rfl) | with_reducible refine Below.setCell ?_ (by simp <;> omega) _ | with_reducible refine bpl ?_ _ _ | with_reducible refine bal ?_ _ | with_reducible refine bdrew1 ?_ | with_reducible refine bdrew ?_ _))) he) ?_; rw [G2.out]; rintro e w1 ⟨rfl, hb⟩; obtain ⟨X, m, rfl⟩ := plsOf hb; clear hb))
    exact bodyPost_ret (v := .bool false) (by simp [results, Try.results29, go_sem]) rfl ⟨by rw [hr.out], (by (try with_reducible refine bsz ?_); repeat (first | with_reducible exact Below.refl _ _ | ((with_reducible refine bpre ?_); (try simp only [Array.append_assoc]); repeat (first | with_reducible exact Pre.refl _ | with_reducible exact Pre.base _ _ | with_reducible refine Pre.cons _ ?_)) | with_reducible assumption | ((with_reducible refine bsetr ?_); rfl) | with_reducible refine Below.setCell ?_ (by simp <;> omega) _ | with_reducible refine bpl ?_ _ _ | with_reducible refine bal ?_ _ | with_reducible refine bdrew1 ?_ | with_reducible refine bdrew ?_ _))⟩
  have hr : Hid (stOk gs tn te s xs p q = frOk p q) := Lib.hid (by simp [stOk, G1.out, G2.out, g3])
  have G4 : Hid (frOk p q = frOk p q) := Lib.hid rfl
  go_enter Try.func29, Try.ntmps29
  go_wp2_with (first | (go_at_call 72; refine Calls.mono (forbiddenOk_any _ gs _ (H.out.below (by (try with_reducible refine bsz ?_); repeat (first | with_reducible exact Below.refl _ _ | ((with_reducible refine bpre ?_); (try simp only [Array.append_assoc]); repeat (first | with_reducible exact Pre.refl _ | with_reducible exact Pre.base _ _ | with_reducible refine Pre.cons _ ?_)) | with_reducible assumption | ((with_reducible refine bsetr ?_); rfl) | with_reducible refine Below.setCell ?_ (by simp <;> omega) _ | with_reducible refine bpl ?_ _ _ | with_reducible refine bal ?_ _ | with_reducible refine bdrew1 ?_ | with_reducible refine bdrew ?_ _))) hl) ?_; rw [G1.out]; rintro e w1 ⟨rfl, hb⟩; obtain ⟨X, m, rfl⟩ := plsOf hb; clear hb) | (go_at_call 22; refine Calls.mono (ValidSum_any _ tn te s xs _ (HX.out.below (by (try with_reducible refine bsz ?_); repeat (first | with_reducible exact Below.refl _ _ | ((with_reducible refine bpre ?_); (try simp only [Array.append_assoc]); repeat (first | with_reducible exact Pre.refl _ | with_reducible exact Pre.base _ _ | with_reducible refine Pre.cons _ ?_)) | with_reducible assumption | ((with_reducible refine bsetr ?_); rfl) | with_reducible refine Below.setCell ?_ (by simp <;> omega) _ | with_reducible refine bpl ?_ _ _ | with_reducible refine bal ?_ _ | with_reducible refine bdrew1 ?_ | with_reducible refine bdrew ?_ _))) he) ?_; rw [G2.out]; rintro e w1 ⟨rfl, hb⟩; obtain ⟨X, m, rfl⟩ := plsOf hb; clear hb) | (go_at_call 62; refine Calls.mono (valid_any _ _ _ i1 i2 i3 i4) ?_; rintro e w1 ⟨rfl, hb⟩; obtain ⟨X, m, rfl⟩ := plsOf hb; clear hb))
  exact bodyPost_ret (v := .bool (frOk p q)) (by simp [results, Try.results29, go_sem]) rfl ⟨by rw [hr.out], (by (try with_reducible refine bsz ?_); repeat (first | with_reducible exact Below.refl _ _ | ((with_reducible refine bpre ?_); (try simp only [Array.append_assoc]); repeat (first | with_reducible exact Pre.refl _ | with_reducible exact Pre.base _ _ | with_reducible refine Pre.cons _ ?_)) | with_reducible assumption | ((with_reducible refine bsetr ?_); rfl) | with_reducible refine Below.setCell ?_ (by simp <;> omega) _ | with_reducible refine bpl ?_ _ _ | with_reducible refine bal ?_ _ | with_reducible refine bdrew1 ?_ | with_reducible refine bdrew ?_ _))⟩
set_option maxHeartbeats 4000000 in
theorem l06Statement_any (w : World) (bs : Nat) (gs : List (Int × Int)) (tn te s : Int) (xs : List Trm) (p q : Int) (v u : Value) (hb0 : w.heap[bs]? = some (.cells #[v, .int .i64 tn, .int .u32 te, .int .i64 s, u, .int .i64 p, .int .i64 q] 73 (0, 0))) (h : Lst shGr w gs v) (hx : Lst shTerm w xs u) (he : 0 ≤ te ∧ te ≤ 4294967295) (hp : okI .i64 p) (hq : okI .i64 q) :
    Calls Try.prog 69 #[.pointer (some ⟨bs, 0, none⟩)] w fun e w' => e = .returned (.bool (stOk gs tn te s xs p q)) ∧ Below w.heap.size w w' := by
  obtain ⟨A, cap, rfl, _, _⟩ := formGraph h
  obtain ⟨A2, cap2, rfl, _, _⟩ := formTerm hx
  obtain ⟨i1, i2⟩ := i64_wf hp
  obtain ⟨i3, i4⟩ := i64_wf hq
  have H := Lib.hid h
  have HX := Lib.hid hx
  clear h hx hp hq
  obtain ⟨s0, s1, s2, s3, s4, s5, s6⟩ := blkc7 hb0
  have zb := blklt hb0
  clear hb0
  cases g1 : (forbC gs == 0)
  · have hr : Hid (stOk gs tn te s xs p q = false) := Lib.hid (by simp [stOk, g1])
    obtain ⟨c, hc, hc0⟩ : ∃ c, forbC gs = c ∧ (c == 0) = false := ⟨_, rfl, g1⟩
    have G1 := Lib.hid hc
    clear g1 hc
    go_enter Try.func69, Try.ntmps69
    go_wp2_with (first | (go_at_call 103; refine Calls.mono (l01Forbidden_any _ gs _ (H.out.below (by (try with_reducible refine bsz ?_); repeat (first | with_reducible exact Below.refl _ _ | ((with_reducible refine bpre ?_); (try simp only [Array.append_assoc]); repeat (first | with_reducible exact Pre.refl _ | with_reducible exact Pre.base _ _ | with_reducible refine Pre.cons _ ?_)) | with_reducible assumption | ((with_reducible refine bsetr ?_); rfl) | with_reducible refine Below.setCell ?_ (by simp <;> omega) _ | with_reducible refine bpl ?_ _ _ | with_reducible refine bal ?_ _ | with_reducible refine bdrew1 ?_ | with_reducible refine bdrew ?_ _)))) ?_; rw [G1.out]; rintro e w1 ⟨rfl, hb⟩; obtain ⟨X, m, rfl⟩ := plsOf hb; clear hb))
    exact bodyPost_ret (v := .bool false) (by simp [results, Try.results69, go_sem]) rfl ⟨by rw [hr.out], (by (try with_reducible refine bsz ?_); repeat (first | with_reducible exact Below.refl _ _ | ((with_reducible refine bpre ?_); (try simp only [Array.append_assoc]); repeat (first | with_reducible exact Pre.refl _ | with_reducible exact Pre.base _ _ | with_reducible refine Pre.cons _ ?_)) | with_reducible assumption | ((with_reducible refine bsetr ?_); rfl) | with_reducible refine Below.setCell ?_ (by simp <;> omega) _ | with_reducible refine bpl ?_ _ _ | with_reducible refine bal ?_ _ | with_reducible refine bdrew1 ?_ | with_reducible refine bdrew ?_ _))⟩
  have G1 : Hid (forbC gs = 0) := Lib.hid (by simpa using g1)
  clear g1
  cases g2 : sumOk tn te s xs
  · have hr : Hid (stOk gs tn te s xs p q = false) := Lib.hid (by simp [stOk, g2])
    have G2 := Lib.hid g2
    clear g2
    go_enter Try.func69, Try.ntmps69
    go_wp2_with (first | (go_at_call 103; refine Calls.mono (l01Forbidden_any _ gs _ (H.out.below (by (try with_reducible refine bsz ?_); repeat (first | with_reducible exact Below.refl _ _ | ((with_reducible refine bpre ?_); (try simp only [Array.append_assoc]); repeat (first | with_reducible exact Pre.refl _ | with_reducible exact Pre.base _ _ | with_reducible refine Pre.cons _ ?_)) | with_reducible assumption | ((with_reducible refine bsetr ?_); rfl) | with_reducible refine Below.setCell ?_ (by simp <;> omega) _ | with_reducible refine bpl ?_ _ _ | with_reducible refine bal ?_ _ | with_reducible refine bdrew1 ?_ | with_reducible refine bdrew ?_ _)))) ?_; rw [G1.out]; rintro e w1 ⟨rfl, hb⟩; obtain ⟨X, m, rfl⟩ := plsOf hb; clear hb) | (go_at_call 56; refine Calls.mono (l05Ok_at _ bs 1 tn te s xs _ (by simp [*, go_sem]) (by simp [*, go_sem]) (by simp [*, go_sem]) (by simp [*, go_sem]) (HX.out.below (by (try with_reducible refine bsz ?_); repeat (first | with_reducible exact Below.refl _ _ | ((with_reducible refine bpre ?_); (try simp only [Array.append_assoc]); repeat (first | with_reducible exact Pre.refl _ | with_reducible exact Pre.base _ _ | with_reducible refine Pre.cons _ ?_)) | with_reducible assumption | ((with_reducible refine bsetr ?_); rfl) | with_reducible refine Below.setCell ?_ (by simp <;> omega) _ | with_reducible refine bpl ?_ _ _ | with_reducible refine bal ?_ _ | with_reducible refine bdrew1 ?_ | with_reducible refine bdrew ?_ _))) he) ?_; rw [G2.out]; rintro e w1 ⟨rfl, hb⟩; obtain ⟨X, m, rfl⟩ := plsOf hb; clear hb))
    exact bodyPost_ret (v := .bool false) (by simp [results, Try.results69, go_sem]) rfl ⟨by rw [hr.out], (by (try with_reducible refine bsz ?_); repeat (first | with_reducible exact Below.refl _ _ | ((with_reducible refine bpre ?_); (try simp only [Array.append_assoc]); repeat (first | with_reducible exact Pre.refl _ | with_reducible exact Pre.base _ _ | with_reducible refine Pre.cons _ ?_)) | with_reducible assumption | ((with_reducible refine bsetr ?_); rfl) | with_reducible refine Below.setCell ?_ (by simp <;> omega) _ | with_reducible refine bpl ?_ _ _ | with_reducible refine bal ?_ _ | with_reducible refine bdrew1 ?_ | with_reducible refine bdrew ?_ _))⟩
  have G2 := Lib.hid g2
  clear g2
  cases g3 : (tn == 0)
  · have hr : Hid (stOk gs tn te s xs p q = false) := Lib.hid (by simp [stOk, g3])
    go_enter Try.func69, Try.ntmps69
    go_wp2_with (first | (go_at_call 103; refine Calls.mono (l01Forbidden_any _ gs _ (H.out.below (by (try with_reducible refine bsz ?_); repeat (first | with_reducible exact Below.refl _ _ | ((with_reducible refine bpre ?_); (try simp only [Array.append_assoc]); repeat (first | with_reducible exact Pre.refl _ | with_reducible exact Pre.base _ _ | with_reducible refine Pre.cons _ ?_)) | with_reducible assumption | ((with_reducible refine bsetr ?_); rfl) | with_reducible refine Below.setCell ?_ (by simp <;> omega) _ | with_reducible refine bpl ?_ _ _ | with_reducible refine bal ?_ _ | with_reducible refine bdrew1 ?_ | with_reducible refine bdrew ?_ _)))) ?_; rw [G1.out]; rintro e w1 ⟨rfl, hb⟩; obtain ⟨X, m, rfl⟩ := plsOf hb; clear hb) | (go_at_call 56; refine Calls.mono (l05Ok_at _ bs 1 tn te s xs _ (by simp [*, go_sem]) (by simp [*, go_sem]) (by simp [*, go_sem]) (by simp [*, go_sem]) (HX.out.below (by (try with_reducible refine bsz ?_); repeat (first | with_reducible exact Below.refl _ _ | ((with_reducible refine bpre ?_); (try simp only [Array.append_assoc]); repeat (first | with_reducible exact Pre.refl _ | with_reducible exact Pre.base _ _ | with_reducible refine Pre.cons _ ?_)) | with_reducible assumption | ((with_reducible refine bsetr ?_); rfl) | with_reducible refine Below.setCell ?_ (by simp <;> omega) _ | with_reducible refine bpl ?_ _ _ | with_reducible refine bal ?_ _ | with_reducible refine bdrew1 ?_ | with_reducible refine bdrew ?_ _))) he) ?_; rw [G2.out]; rintro e w1 ⟨rfl, hb⟩; obtain ⟨X, m, rfl⟩ := plsOf hb; clear hb))
    exact bodyPost_ret (v := .bool false) (by simp [results, Try.results69, go_sem]) rfl ⟨by rw [hr.out], (by (try with_reducible refine bsz ?_); repeat (first | with_reducible exact Below.refl _ _ | ((with_reducible refine bpre ?_); (try simp only [Array.append_assoc]); repeat (first | with_reducible exact Pre.refl _ | with_reducible exact Pre.base _ _ | with_reducible refine Pre.cons _ ?_)) | with_reducible assumption | ((with_reducible refine bsetr ?_); rfl) | with_reducible refine Below.setCell ?_ (by simp <;> omega) _ | with_reducible refine bpl ?_ _ _ | with_reducible refine bal ?_ _ | with_reducible refine bdrew1 ?_ | with_reducible refine bdrew ?_ _))⟩
  have hr : Hid (stOk gs tn te s xs p q = frOk p q) := Lib.hid (by simp [stOk, G1.out, G2.out, g3])
  have G4 : Hid (frOk p q = frOk p q) := Lib.hid rfl
  go_enter Try.func69, Try.ntmps69
  go_wp2_with (first | (go_at_call 103; refine Calls.mono (l01Forbidden_any _ gs _ (H.out.below (by (try with_reducible refine bsz ?_); repeat (first | with_reducible exact Below.refl _ _ | ((with_reducible refine bpre ?_); (try simp only [Array.append_assoc]); repeat (first | with_reducible exact Pre.refl _ | with_reducible exact Pre.base _ _ | with_reducible refine Pre.cons _ ?_)) | with_reducible assumption | ((with_reducible refine bsetr ?_); rfl) | with_reducible refine Below.setCell ?_ (by simp <;> omega) _ | with_reducible refine bpl ?_ _ _ | with_reducible refine bal ?_ _ | with_reducible refine bdrew1 ?_ | with_reducible refine bdrew ?_ _)))) ?_; rw [G1.out]; rintro e w1 ⟨rfl, hb⟩; obtain ⟨X, m, rfl⟩ := plsOf hb; clear hb) | (go_at_call 56; refine Calls.mono (l05Ok_at _ bs 1 tn te s xs _ (by simp [*, go_sem]) (by simp [*, go_sem]) (by simp [*, go_sem]) (by simp [*, go_sem]) (HX.out.below (by (try with_reducible refine bsz ?_); repeat (first | with_reducible exact Below.refl _ _ | ((with_reducible refine bpre ?_); (try simp only [Array.append_assoc]); repeat (first | with_reducible exact Pre.refl _ | with_reducible exact Pre.base _ _ | with_reducible refine Pre.cons _ ?_)) | with_reducible assumption | ((with_reducible refine bsetr ?_); rfl) | with_reducible refine Below.setCell ?_ (by simp <;> omega) _ | with_reducible refine bpl ?_ _ _ | with_reducible refine bal ?_ _ | with_reducible refine bdrew1 ?_ | with_reducible refine bdrew ?_ _))) he) ?_; rw [G2.out]; rintro e w1 ⟨rfl, hb⟩; obtain ⟨X, m, rfl⟩ := plsOf hb; clear hb) | (go_at_call 97; refine Calls.mono (sok_any _ _ _ i1 i2 i3 i4) ?_; rintro e w1 ⟨rfl, hb⟩; obtain ⟨X, m, rfl⟩ := plsOf hb; clear hb))
  exact bodyPost_ret (v := .bool (frOk p q)) (by simp [results, Try.results69, go_sem]) rfl ⟨by rw [hr.out], (by (try with_reducible refine bsz ?_); repeat (first | with_reducible exact Below.refl _ _ | ((with_reducible refine bpre ?_); (try simp only [Array.append_assoc]); repeat (first | with_reducible exact Pre.refl _ | with_reducible exact Pre.base _ _ | with_reducible refine Pre.cons _ ?_)) | with_reducible assumption | ((with_reducible refine bsetr ?_); rfl) | with_reducible refine Below.setCell ?_ (by simp <;> omega) _ | with_reducible refine bpl ?_ _ _ | with_reducible refine bal ?_ _ | with_reducible refine bdrew1 ?_ | with_reducible refine bdrew ?_ _))⟩
theorem sValidStatement_any (w : World) (gs : List (Int × Int)) (tn te s : Int) (xs : List Trm) (p q : Int) (v u : Value) (h : Lst shGr w gs v) (hx : Lst shTerm w xs u) (he : 0 ≤ te ∧ te ≤ 4294967295) (hp : okI .i64 p) (hq : okI .i64 q) :
    Calls Try.prog 27 #[.agg #[v, .int .i64 tn, .int .u32 te, .int .i64 s, u, .int .i64 p, .int .i64 q]] w fun e w' => e = .returned (.bool (stOk gs tn te s xs p q)) ∧ Below w.heap.size w w' := by
  obtain ⟨A, cap, rfl, _, _⟩ := formGraph h
  obtain ⟨A2, cap2, rfl, _, _⟩ := formTerm hx
  go_enter Try.func27, Try.ntmps27
  go_wp2_with (first | (go_at_call 69; refine Calls.mono (l06Statement_any _ _ gs tn te s xs p q _ _ (by repeat (first | with_reducible assumption | with_reducible refine pls_block _ _ ?_ | with_reducible apply blkset2 | with_reducible apply blkset1 | ((with_reducible refine blksetN ?_ ?_ _); (focus (simp <;> omega))) | with_reducible exact blknew _ _ | ((with_reducible refine blknew' _ _ _ ?_); (simp <;> omega)) | with_reducible refine blkal ?_ _)) (h.below (by (try with_reducible refine bsz ?_); repeat (first | with_reducible exact Below.refl _ _ | ((with_reducible refine bpre ?_); (try simp only [Array.append_assoc]); repeat (first | with_reducible exact Pre.refl _ | with_reducible exact Pre.base _ _ | with_reducible refine Pre.cons _ ?_)) | with_reducible assumption | ((with_reducible refine bsetr ?_); rfl) | with_reducible refine Below.setCell ?_ (by simp <;> omega) _ | with_reducible refine bpl ?_ _ _ | with_reducible refine bal ?_ _ | with_reducible refine bdrew1 ?_ | with_reducible refine bdrew ?_ _))) (hx.below (by (try with_reducible refine bsz ?_); repeat (first | with_reducible exact Below.refl _ _ | ((with_reducible refine bpre ?_); (try simp only [Array.append_assoc]); repeat (first | with_reducible exact Pre.refl _ | with_reducible exact Pre.base _ _ | with_reducible refine Pre.cons _ ?_)) | with_reducible assumption | ((with_reducible refine bsetr ?_); rfl) | with_reducible refine Below.setCell ?_ (by simp <;> omega) _ | with_reducible refine bpl ?_ _ _ | with_reducible refine bal ?_ _ | with_reducible refine bdrew1 ?_ | with_reducible refine bdrew ?_ _))) he hp hq) ?_; rintro e w1 ⟨rfl, hb⟩; obtain ⟨X, m, rfl⟩ := plsOf hb; clear hb))
  exact bodyPost_ret (v := .bool (stOk gs tn te s xs p q)) (by simp [results, Try.results27, go_sem]) rfl ⟨rfl, (by (try with_reducible refine bsz ?_); repeat (first | with_reducible exact Below.refl _ _ | ((with_reducible refine bpre ?_); (try simp only [Array.append_assoc]); repeat (first | with_reducible exact Pre.refl _ | with_reducible exact Pre.base _ _ | with_reducible refine Pre.cons _ ?_)) | with_reducible assumption | ((with_reducible refine bsetr ?_); rfl) | with_reducible refine Below.setCell ?_ (by simp <;> omega) _ | with_reducible refine bpl ?_ _ _ | with_reducible refine bal ?_ _ | with_reducible refine bdrew1 ?_ | with_reducible refine bdrew ?_ _))⟩
end Go.Proofs.Ytbpamifkfbcloaa
