/- spec.FromSquares. -/
import Derived.Test.YtenaiegidcjanaaSq
import Derived.Test.YtenaiegidcjanaaFsr
import Derived.Test.YtenaiegidcjanaaSli
namespace Go.Proofs.Ytenaiegidcjanaa
open Go.ChangeShapes Go.WideShapes Go.ChangeAt Go.RowKit
set_option linter.unusedVariables false
set_option linter.unusedSimpArgs false
attribute [local irreducible] Calls
theorem matZ_of {m n : Nat} {z : Nat → Nat → Bool} (h : matZ m n z = true) : ∃ a b, a < m ∧ b < n ∧ z a b = true := by
  rw [matZ, List.any_eq_true] at h
  obtain ⟨a, ha, h⟩ := h
  rw [rowZ, List.any_eq_true] at h
  obtain ⟨b, hb, h⟩ := h
  exact ⟨a, b, by simpa using ha, by simpa using hb, h⟩
theorem matO_some {n : Nat} {o : Nat → Nat → Option (Int × Int)} {M : List (List (Int × Int))} (h : matO n o = some M) : M = matL n n (fun i j => kD (o i j)) ∧ ∀ a, a < n → ∀ b, b < n → noB (o a b) = false := by
  unfold matO at h
  split at h
  · exact absurd h (by simp)
  · rename_i hz
    refine ⟨(Option.some.inj h).symm, fun a ha b hb => ?_⟩
    cases hx : noB (o a b) with
    | false => rfl
    | true => exact absurd (matZ_t (z := fun i j => noB (o i j)) ha hb hx) hz
theorem matO_none {n : Nat} {o : Nat → Nat → Option (Int × Int)} (h : matO n o = none) : ∃ a b, a < n ∧ b < n ∧ noB (o a b) = true := by
  unfold matO at h
  split at h
  · rename_i hz; exact matZ_of hz
  · exact absurd h (by simp)
/-! One square more, in the reference's own steps -/
theorem fs_sq0 {row : List (Int × Int)} (p : Int × Int) (E : Nat → Nat → Int × Int) (h : sqO row = none) : matZ row.length row.length (fsz (at1 row) p E) = true := by
  obtain ⟨a, b, ha, hb, hz⟩ := matO_none h
  exact matZ_t ha hb (by simp [fsz, hz])
theorem fs_sc0 {row : List (Int × Int)} {p : Int × Int} {S : List (List (Int × Int))} (E : Nat → Nat → Int × Int) (hs : sqO row = some S) (h : scO S p = none) : matZ row.length row.length (fsz (at1 row) p E) = true := by
  obtain ⟨rfl, hn⟩ := matO_some hs
  obtain ⟨a, b, ha, hb, hz⟩ := matO_none h
  rw [matL_len] at ha hb
  rw [at2_mat _ ha hb] at hz
  exact matZ_t ha hb (by simp [fsz, hz])
theorem fs_add0 {row : List (Int × Int)} {p : Int × Int} {S T : List (List (Int × Int))} {E : Nat → Nat → Int × Int} (hs : sqO row = some S) (ht : scO S p = some T) (h : addMO (matL row.length row.length E) T = none) : matZ row.length row.length (fsz (at1 row) p E) = true := by
  obtain ⟨rfl, hn⟩ := matO_some hs
  obtain ⟨rfl, hn2⟩ := matO_some ht
  obtain ⟨a, b, ha, hb, hz⟩ := matO_none h
  rw [matL_len] at ha hb hz
  rw [at2_mat _ ha hb, at2_mat _ ha hb, at2_mat _ ha hb] at hz
  exact matZ_t ha hb (by simp [fsz, hz])
theorem fs_add1 {row : List (Int × Int)} {p : Int × Int} {S T U : List (List (Int × Int))} {E : Nat → Nat → Int × Int} (hs : sqO row = some S) (ht : scO S p = some T) (h : addMO (matL row.length row.length E) T = some U) : U = matL row.length row.length (fsD (at1 row) p E) ∧ matZ row.length row.length (fsz (at1 row) p E) = false := by
  obtain ⟨rfl, hn⟩ := matO_some hs
  obtain ⟨rfl, hn2⟩ := matO_some ht
  obtain ⟨rfl, hn3⟩ := matO_some h
  simp only [matL_len] at hn2 hn3 ⊢
  refine ⟨matL_congr fun a ha b hb => ?_, matZ_f fun a ha b hb => ?_⟩
  · rw [at2_mat _ ha hb, at2_mat _ ha hb, at2_mat _ ha hb]; rfl
  · have h1 := hn a ha b hb
    have h2 := hn2 a ha b hb
    have h3 := hn3 a ha b hb
    rw [at2_mat _ ha hb, at2_mat _ ha hb, at2_mat _ ha hb] at h3
    rw [at2_mat _ ha hb] at h2
    simp [fsz, h1, h2, h3]
theorem fsZ_up {n : Nat} {X : Nat → Nat → Int × Int} {P : Nat → Int × Int} {k m : Nat} (h : fsZ n X P k = true) (hk : k ≤ m) : fsZ n X P m = true := by
  induction m with
  | zero => have : k = 0 := by omega
            subst this; exact h
  | succ m ih =>
    by_cases e : k = m + 1
    · subst e; exact h
    · simp [fsZ, ih (by omega)]
theorem fsO_t {ps : List (Int × Int)} {xss : List (List (Int × Int))} {k : Nat} (hk : k < ps.length) (h : matZ ps.length ps.length (fsz (at2 xss k) (at1 ps k) (fsE (at2 xss) (at1 ps) k)) = true) : fsO ps xss = none := by
  have : fsZ ps.length (at2 xss) (at1 ps) ps.length = true := fsZ_up (k := k + 1) (by simp [fsZ, h]) (by omega)
  simp [fsO, this]
theorem sqM_sq {row S : List (List (Int × Int))} {xs : List (Int × Int)} (hn : xs.length ≤ 8) (hI : ∀ d ∈ xs, inF d) (h : sqO xs = some S) : S.length = xs.length ∧ SqM S := by
  obtain ⟨rfl, _⟩ := matO_some h
  refine ⟨matL_len _ _ _, SqM.mat hn fun i hi j hj => kmulI ?_ ?_⟩
  · have e : at1 xs i = xs[i] := by simp [at1, List.getElem?_eq_getElem hi]
    rw [e]; exact hI _ (List.getElem_mem hi)
  · have e : at1 xs j = xs[j] := by simp [at1, List.getElem?_eq_getElem hj]
    rw [e]; exact hI _ (List.getElem_mem hj)
theorem sqM_sc {S T : List (List (Int × Int))} {p : Int × Int} (hS : SqM S) (hp : inF p) (h : scO S p = some T) : T.length = S.length ∧ SqM T := by
  obtain ⟨rfl, _⟩ := matO_some h
  exact ⟨matL_len _ _ _, SqM.mat hS.1 fun i hi j hj => kmulI (mat_in hS hi hj) hp⟩
theorem anyB_ff {α : Type} {P : α → Bool} {xs : List α} (h : ∀ a ∈ xs, P a = false) : anyB P xs = false := by
  rw [anyB, List.any_eq_false]; intro x hx; simp [h x hx]
theorem anyB_tt {α : Type} {P : α → Bool} {xs : List α} {a : α} (hm : a ∈ xs) (h : P a = true) : anyB P xs = true := by
  rw [anyB, List.any_eq_true]; exact ⟨a, hm, h⟩
set_option maxHeartbeats 4000000 in
theorem sFromSquares_any (w : World) (ps : List (Int × Int)) (xss : List (List (Int × Int))) (v v' : Value) (h : Lst shFr w ps v) (h' : Lst (shL shFr) w xss v') :
    Calls Try.prog 12 #[v, v'] w fun e w' => MatRet w.heap.size (mR (fsC ps xss) (fsO ps xss)) (mC (fsC ps xss) (fsO ps xss)) e w' ∧ Below w.heap.size w w' := by
  obtain ⟨A0, cap0, rfl, hc0, hm0, _, hel0⟩ := lstFraction h
  obtain ⟨A1, cap1, rfl, hc1, hm1, hel⟩ := lstFrSS h'
  unfold maxLen at hm0 hm1
  have H0 := Lib.hid hel0
  have H1 := Lib.hid hel
  clear hel hel0
  cases hv : listOk ps
  · have e1 : fsC ps xss = 1 := by simp [fsC, hv]
    rw [e1]
    go_enter Try.func12, Try.ntmps12
    go_wp2_with (first | (go_at_call 28; refine Calls.mono (sList_any _ ps _ (h.below (by (try with_reducible refine bsz ?_); repeat (first | with_reducible exact Below.refl _ _ | ((with_reducible refine bpre ?_); (try simp only [Array.append_assoc]); repeat (first | with_reducible exact Pre.refl _ | with_reducible exact Pre.base _ _ | with_reducible refine Pre.cons _ ?_)) | with_reducible assumption | ((with_reducible refine bsetr ?_); rfl) | with_reducible refine Below.setCell ?_ (by simp <;> omega) _ | with_reducible refine bpl ?_ _ _ | with_reducible refine bal ?_ _ | with_reducible refine bdrew1 ?_ | with_reducible refine bdrew ?_ _)))) ?_; rintro e w1 ⟨rfl, hb⟩; obtain ⟨X, m, rfl⟩ := plsOf hb; clear hb))
    exact bodyPost_ret (v := .tuple #[.slice (some ⟨_, 0, none⟩) 0 0, .int .i64 1]) (by simp [results, Try.results12, go_sem, *]; rfl) rfl ⟨⟨_, 0, [], rfl, Own.nil _ _ _ 0 (Nat.zero_le _) _⟩, (by (try with_reducible refine bsz ?_); repeat (first | with_reducible exact Below.refl _ _ | ((with_reducible refine bpre ?_); (try simp only [Array.append_assoc]); repeat (first | with_reducible exact Pre.refl _ | with_reducible exact Pre.base _ _ | with_reducible refine Pre.cons _ ?_)) | with_reducible assumption | ((with_reducible refine bsetr ?_); rfl) | with_reducible refine Below.setCell ?_ (by simp <;> omega) _ | with_reducible refine bpl ?_ _ _ | with_reducible refine bal ?_ _ | with_reducible refine bdrew1 ?_ | with_reducible refine bdrew ?_ _))⟩
  · have HV := Lib.hid hv
    clear hv
    go_enter Try.func12, Try.ntmps12
    go_wp2_with (first | (go_at_call 28; refine Calls.mono ((HV.out ▸ sList_any _ ps _ (h.below (by (try with_reducible refine bsz ?_); repeat (first | with_reducible exact Below.refl _ _ | ((with_reducible refine bpre ?_); (try simp only [Array.append_assoc]); repeat (first | with_reducible exact Pre.refl _ | with_reducible exact Pre.base _ _ | with_reducible refine Pre.cons _ ?_)) | with_reducible assumption | ((with_reducible refine bsetr ?_); rfl) | with_reducible refine Below.setCell ?_ (by simp <;> omega) _ | with_reducible refine bpl ?_ _ _ | with_reducible refine bal ?_ _ | with_reducible refine bdrew1 ?_ | with_reducible refine bdrew ?_ _))))) ?_; rintro e w1 ⟨rfl, hb⟩; obtain ⟨X, m, rfl⟩ := plsOf hb; clear hb))
    go_loopw [7] (fun i wr => ∃ (k : Nat), k ≤ xss.length ∧ i = .int .i64 k ∧ Hid (∀ d ∈ xss.take k, badL d = false) ∧ Below w.heap.size w wr) (fun i _ => xss.length - (intOf i).toNat)
    case atStart => exact ⟨0, Nat.zero_le _, rfl, Lib.hid (by simp), (by (try with_reducible refine bsz ?_); repeat (first | with_reducible exact Below.refl _ _ | ((with_reducible refine bpre ?_); (try simp only [Array.append_assoc]); repeat (first | with_reducible exact Pre.refl _ | with_reducible exact Pre.base _ _ | with_reducible refine Pre.cons _ ?_)) | with_reducible assumption | ((with_reducible refine bsetr ?_); rfl) | with_reducible refine Below.setCell ?_ (by simp <;> omega) _ | with_reducible refine bpl ?_ _ _ | with_reducible refine bal ?_ _ | with_reducible refine bdrew1 ?_ | with_reducible refine bdrew ?_ _))⟩
    case round =>
      obtain ⟨k, hk, rfl, HS, hB⟩ := hrel
      by_cases hlt : k < xss.length
      · obtain ⟨bl, off, rfl, hel⟩ := H1.out (by omega)
        obtain ⟨xs, vi, hd, hL, c0⟩ := hel k hlt
        replace c0 := bkeep hB c0
        obtain ⟨A2, cap2, rfl, hc2, hm2⟩ := formFraction hL
        unfold maxLen at hm2
        clear hel
        have HD := Lib.hid hd
        clear hd
        have hL := Lib.hid hL
        cases hx : listOk xs
        · have hr : fsC ps xss = 1 := by
            have : anyB badL xss = true := anyB_tt (List.mem_of_getElem? HD.out) (by simp [badL, hx])
            simp [fsC, this]
          go_wp2_with (first | (go_at_call 28; refine Calls.mono ((hx ▸ sList_any _ xs _ (hL.out.below (by (try with_reducible refine bsz ?_); repeat (first | with_reducible exact Below.refl _ _ | ((with_reducible refine bpre ?_); (try simp only [Array.append_assoc]); repeat (first | with_reducible exact Pre.refl _ | with_reducible exact Pre.base _ _ | with_reducible refine Pre.cons _ ?_)) | with_reducible assumption | ((with_reducible refine bsetr ?_); rfl) | with_reducible refine Below.setCell ?_ (by simp <;> omega) _ | with_reducible refine bpl ?_ _ _ | with_reducible refine bal ?_ _ | with_reducible refine bdrew1 ?_ | with_reducible refine bdrew ?_ _))))) ?_; rintro e w1 ⟨rfl, hb⟩; obtain ⟨X, m, rfl⟩ := plsOf hb; clear hb))
          exact bodyPost_ret (v := .tuple #[.slice (some ⟨_, 0, none⟩) 0 0, .int .i64 1]) (by simp [results, Try.results12, go_sem, *]; rfl) rfl ⟨by (try rw [hr]); exact ⟨_, 0, [], rfl, Own.nil _ _ _ 0 (Nat.zero_le _) _⟩, (by (try with_reducible refine bsz ?_); repeat (first | with_reducible exact Below.refl _ _ | ((with_reducible refine bpre ?_); (try simp only [Array.append_assoc]); repeat (first | with_reducible exact Pre.refl _ | with_reducible exact Pre.base _ _ | with_reducible refine Pre.cons _ ?_)) | with_reducible assumption | ((with_reducible refine bsetr ?_); rfl) | with_reducible refine Below.setCell ?_ (by simp <;> omega) _ | with_reducible refine bpl ?_ _ _ | with_reducible refine bal ?_ _ | with_reducible refine bdrew1 ?_ | with_reducible refine bdrew ?_ _))⟩
        · go_wp2_with (first | (go_at_call 28; refine Calls.mono ((hx ▸ sList_any _ xs _ (hL.out.below (by (try with_reducible refine bsz ?_); repeat (first | with_reducible exact Below.refl _ _ | ((with_reducible refine bpre ?_); (try simp only [Array.append_assoc]); repeat (first | with_reducible exact Pre.refl _ | with_reducible exact Pre.base _ _ | with_reducible refine Pre.cons _ ?_)) | with_reducible assumption | ((with_reducible refine bsetr ?_); rfl) | with_reducible refine Below.setCell ?_ (by simp <;> omega) _ | with_reducible refine bpl ?_ _ _ | with_reducible refine bal ?_ _ | with_reducible refine bdrew1 ?_ | with_reducible refine bdrew ?_ _))))) ?_; rintro e w1 ⟨rfl, hb⟩; obtain ⟨X, m, rfl⟩ := plsOf hb; clear hb))
          go_roundw
          case rel => exact ⟨k + 1, by omega, by go_num, Lib.hid (mem_take_succ HS.out HD.out (by simp [badL, hx])), (by (try with_reducible refine bsz ?_); repeat (first | with_reducible exact Below.refl _ _ | ((with_reducible refine bpre ?_); (try simp only [Array.append_assoc]); repeat (first | with_reducible exact Pre.refl _ | with_reducible exact Pre.base _ _ | with_reducible refine Pre.cons _ ?_)) | with_reducible assumption | ((with_reducible refine bsetr ?_); rfl) | with_reducible refine Below.setCell ?_ (by simp <;> omega) _ | with_reducible refine bpl ?_ _ _ | with_reducible refine bal ?_ _ | with_reducible refine bdrew1 ?_ | with_reducible refine bdrew ?_ _))⟩
          case measure => simp [intOf]; omega
      · have e : k = xss.length := by omega
        subst e
        have HB : Hid (anyB badL xss = false) := Lib.hid (anyB_ff (by have := HS.out; rwa [List.take_length] at this))
        clear HS
        by_cases h8 : ps.length ≤ 8
        · have h8' : ((ps.length : Nat) : Int) ≤ 8 := by omega
          by_cases hl : xss.length = ps.length
          · have hl1 : ((xss.length : Int) != (ps.length : Int)) = false := by simp [hl]
            have HL := Lib.hid hl
            clear hl
            go_wp2_with fail
            (try any_goals (exfalso; omega))
            go_loopw [8] (fun i wr => ∃ (k : Nat), k ≤ xss.length ∧ i = .int .i64 k ∧ Hid (∀ d ∈ xss.take k, offL ps.length d = false) ∧ Below w.heap.size w wr) (fun i _ => xss.length - (intOf i).toNat)
            case atStart => exact ⟨0, Nat.zero_le _, rfl, Lib.hid (by simp), (by (try with_reducible refine bsz ?_); repeat (first | with_reducible exact Below.refl _ _ | ((with_reducible refine bpre ?_); (try simp only [Array.append_assoc]); repeat (first | with_reducible exact Pre.refl _ | with_reducible exact Pre.base _ _ | with_reducible refine Pre.cons _ ?_)) | with_reducible assumption | ((with_reducible refine bsetr ?_); rfl) | with_reducible refine Below.setCell ?_ (by simp <;> omega) _ | with_reducible refine bpl ?_ _ _ | with_reducible refine bal ?_ _ | with_reducible refine bdrew1 ?_ | with_reducible refine bdrew ?_ _))⟩
            case round =>
              clear hB
              obtain ⟨k, hk, rfl, HS, hB⟩ := hrel
              by_cases hlt : k < xss.length
              · obtain ⟨bl, off, rfl, hel⟩ := H1.out (by omega)
                obtain ⟨xs, vi, hd, hL, c0⟩ := hel k hlt
                replace c0 := bkeep hB c0
                obtain ⟨A2, cap2, rfl, hc2, hm2⟩ := formFraction hL
                unfold maxLen at hm2
                clear hel
                have HD := Lib.hid hd
                clear hd hL
                by_cases hx : xs.length = ps.length
                · have hx1 : ((xs.length : Int) != (ps.length : Int)) = false := by simp [hx]
                  have HX := Lib.hid hx
                  clear hx
                  go_wp2_with fail
                  go_roundw
                  case rel => exact ⟨k + 1, by omega, by go_num, Lib.hid (mem_take_succ HS.out HD.out (by simp [offL, HX.out])), (by (try with_reducible refine bsz ?_); repeat (first | with_reducible exact Below.refl _ _ | ((with_reducible refine bpre ?_); (try simp only [Array.append_assoc]); repeat (first | with_reducible exact Pre.refl _ | with_reducible exact Pre.base _ _ | with_reducible refine Pre.cons _ ?_)) | with_reducible assumption | ((with_reducible refine bsetr ?_); rfl) | with_reducible refine Below.setCell ?_ (by simp <;> omega) _ | with_reducible refine bpl ?_ _ _ | with_reducible refine bal ?_ _ | with_reducible refine bdrew1 ?_ | with_reducible refine bdrew ?_ _))⟩
                  case measure => simp [intOf]; omega
                · have hx1 : ((xs.length : Int) != (ps.length : Int)) = true := by simp; omega
                  have hr : fsC ps xss = 2 := by
                    have : anyB (offL ps.length) xss = true := anyB_tt (List.mem_of_getElem? HD.out) (by simp [offL, hx])
                    simp [fsC, HV.out, HB.out, this]
                  clear hx
                  go_wp2_with fail
                  exact bodyPost_ret (v := .tuple #[.slice (some ⟨_, 0, none⟩) 0 0, .int .i64 2]) (by simp [results, Try.results12, go_sem, *]; rfl) rfl ⟨by (try rw [hr]); exact ⟨_, 0, [], rfl, Own.nil _ _ _ 0 (Nat.zero_le _) _⟩, (by (try with_reducible refine bsz ?_); repeat (first | with_reducible exact Below.refl _ _ | ((with_reducible refine bpre ?_); (try simp only [Array.append_assoc]); repeat (first | with_reducible exact Pre.refl _ | with_reducible exact Pre.base _ _ | with_reducible refine Pre.cons _ ?_)) | with_reducible assumption | ((with_reducible refine bsetr ?_); rfl) | with_reducible refine Below.setCell ?_ (by simp <;> omega) _ | with_reducible refine bpl ?_ _ _ | with_reducible refine bal ?_ _ | with_reducible refine bdrew1 ?_ | with_reducible refine bdrew ?_ _))⟩
              · have e : k = xss.length := by omega
                subst e
                have HO : Hid (anyB (offL ps.length) xss = false) := Lib.hid (anyB_ff (by have := HS.out; rwa [List.take_length] at this))
                clear HS
                have hr : fsC ps xss = 0 := fsC_0 HV.out HB.out h8 HL.out HO.out
                have hC := Lib.hid hr
                clear hr
                have HQ := Lib.hid (fs_sq HB.out h8 HL.out HO.out)
                have HP := Lib.hid (listOk_in HV.out)
                have HB0 := Lib.hid hB
                go_wp2_with fail
                refine Calls.mono (l02Empty_any _ ps.length (by omega)) ?_
                rintro e0 w1 ⟨A3, cap3, F3, rfl, hO3, hb⟩
                obtain ⟨X3, m3, rfl⟩ := plsOf hb
                clear hb
                have hO3 := Lib.hid hO3
                go_wp2_with fail
                go_loopw [9, 10] (fun o i wr => ∃ (k : Nat) (A : Option Addr) (cap : Nat) (F : List Nat), k ≤ xss.length ∧ i = .int .i64 k ∧ o = .slice A ps.length cap ∧ Hid (Own (shL shFr) w.heap.size wr (matL ps.length ps.length (fsE (at2 xss) (at1 ps) k)) (.slice A ps.length cap) F) ∧ Hid (fsZ ps.length (at2 xss) (at1 ps) k = false) ∧ Below w.heap.size w wr) (fun _ i _ => xss.length - (intOf i).toNat)
                case atStart => exact ⟨0, A3, cap3, F3, Nat.zero_le _, rfl, rfl, Lib.hid (hO3.out.below (by have := HB0.out.size; simp <;> omega) (Below.refl _ _)), Lib.hid rfl, (by (try with_reducible refine bsz ?_); repeat (first | with_reducible exact Below.refl _ _ | ((with_reducible refine bpre ?_); (try simp only [Array.append_assoc]); repeat (first | with_reducible exact Pre.refl _ | with_reducible exact Pre.base _ _ | with_reducible refine Pre.cons _ ?_)) | with_reducible assumption | ((with_reducible refine bsetr ?_); rfl) | with_reducible refine Below.setCell ?_ (by simp <;> omega) _ | with_reducible refine bpl ?_ _ _ | with_reducible refine bal ?_ _ | with_reducible refine bdrew1 ?_ | with_reducible refine bdrew ?_ _))⟩
                case round =>
                  clear hB hO3 HB0
                  obtain ⟨k, A, cap, F, hk, rfl, rfl, hO, hZ, hB⟩ := hrel
                  have hIn := fs_in HQ.out HL.out HP.out k (by have := HL.out; omega)
                  have HIN := Lib.hid hIn
                  clear hIn
                  have hzs := hB.size
                  have hcapA : ps.length ≤ cap := by obtain ⟨_, _, he, hcc, _⟩ := rep_slice hO.out.lst; injection he with he1 he2 he3; rw [← he2, ← he3] at hcc; exact hcc
                  by_cases hlt : k < xss.length
                  · obtain ⟨bl, off, rfl, hel⟩ := H1.out (by omega)
                    obtain ⟨row, vi, hd, hLr, c0⟩ := hel k hlt
                    clear hel
                    obtain ⟨hrl, hrI⟩ := HQ.out.2 row (List.mem_of_getElem? hd)
                    have hrp : row.length = ps.length := hrl.trans HL.out
                    obtain ⟨A2, cap2, rfl, hc2, hm2⟩ := formFraction hLr
                    unfold maxLen at hm2
                    replace c0 := bkeep hB c0
                    have hXk : Hid (at2 xss k = at1 row) := Lib.hid (by funext i; simp [at2, at1, hd])
                    have hkp : k < ps.length := by have := HL.out; omega
                    have hr8 : row.length ≤ 8 := by omega
                    obtain ⟨b3, o3, rfl, hel⟩ := H0.out (by omega)
                    obtain ⟨p, hpd, _, w1, w2⟩ := hel k hkp
                    have ep : Hid (at1 ps k = p) := Lib.hid (by simp [at1, hpd])
                    have hpI := Lib.hid (HP.out p (List.mem_of_getElem? hpd))
                    replace w1 := bkeep hB w1
                    replace w2 := bkeep hB w2
                    have zb3 : b3 < wr.heap.size := World.block_lt_of_cell? _ _ w1
                    have HRP := Lib.hid hrp
                    have HRI := Lib.hid hrI
                    have HLR := Lib.hid hLr
                    clear hel hpd hd hrl hrp hrI hLr
                    go_wp2_with fail
                    refine Calls.mono (l02Square_any _ row _ (HLR.out.below (by (try with_reducible refine bsz ?_); repeat (first | with_reducible exact Below.refl _ _ | ((with_reducible refine bpre ?_); (try simp only [Array.append_assoc]); repeat (first | with_reducible exact Pre.refl _ | with_reducible exact Pre.base _ _ | with_reducible refine Pre.cons _ ?_)) | with_reducible assumption | ((with_reducible refine bsetr ?_); rfl) | with_reducible refine Below.setCell ?_ (by simp <;> omega) _ | with_reducible refine bpl ?_ _ _ | with_reducible refine bal ?_ _ | with_reducible refine bdrew1 ?_ | with_reducible refine bdrew ?_ _))) hr8 HRI.out) ?_
                    rintro e0 w1' ⟨⟨A5, cap5, F5, rfl, hO5⟩, hb⟩
                    obtain ⟨X5, m5, rfl⟩ := plsOf hb
                    clear hb
                    cases hs : sqO row with
                    | none =>
                      have hr : Hid (fsO ps xss = none) := Lib.hid (fsO_t hkp (by rw [hXk.out, ← HRP.out]; exact fs_sq0 _ _ hs))
                      rw [hs] at hO5
                      clear hO5
                      have hmR9 : (mR 0 (none : Option (List (List (Int × Int))))).length = 0 := rfl
                      have hmC9 : mC 0 none = 3 := rfl
                      go_wp2_with fail
                      refine bodyPost_ret (v := .tuple #[.slice (some ⟨_, 0, none⟩) 0 0, .int .i64 3]) (by simp [results, Try.results12, go_sem, *]; rfl) rfl ⟨?_, (by (try with_reducible refine bsz ?_); repeat (first | with_reducible exact Below.refl _ _ | ((with_reducible refine bpre ?_); (try simp only [Array.append_assoc]); repeat (first | with_reducible exact Pre.refl _ | with_reducible exact Pre.base _ _ | with_reducible refine Pre.cons _ ?_)) | with_reducible assumption | ((with_reducible refine bsetr ?_); rfl) | with_reducible refine Below.setCell ?_ (by simp <;> omega) _ | with_reducible refine bpl ?_ _ _ | with_reducible refine bal ?_ _ | with_reducible refine bdrew1 ?_ | with_reducible refine bdrew ?_ _))⟩
                      rw [hC.out, hr.out]
                      exact ⟨_, 0, [], rfl, Own.nil _ _ _ 0 (Nat.zero_le _) _⟩
                    | some S =>
                      obtain ⟨hS1, hS2⟩ := sqM_sq (row := []) hr8 HRI.out hs
                      rw [hs] at hO5
                      replace hO5 : Own (shL shFr) _ _ S (.slice A5 S.length cap5) F5 := hO5
                      have hO5 := Lib.hid hO5
                      have HSM := Lib.hid hS2
                      have HS1 := Lib.hid (hS1.trans HRP.out)
                      have HSQ := Lib.hid hs
                      clear hS1 hS2 hs
                      have hmR : (mR 0 (some S)).length = S.length := rfl
                      have hmC : mC 0 (some S) = 0 := rfl
                      go_wp2_with fail
                      refine Calls.mono (l02Scale_any _ S p _ (hO5.out.lst.below (by (try with_reducible refine bsz ?_); repeat (first | with_reducible exact Below.refl _ _ | ((with_reducible refine bpre ?_); (try simp only [Array.append_assoc]); repeat (first | with_reducible exact Pre.refl _ | with_reducible exact Pre.base _ _ | with_reducible refine Pre.cons _ ?_)) | with_reducible assumption | ((with_reducible refine bsetr ?_); rfl) | with_reducible refine Below.setCell ?_ (by simp <;> omega) _ | with_reducible refine bpl ?_ _ _ | with_reducible refine bal ?_ _ | with_reducible refine bdrew1 ?_ | with_reducible refine bdrew ?_ _))) HSM.out hpI.out) ?_
                      rintro e0 w1' ⟨⟨A6, cap6, F6, rfl, hO6⟩, hb⟩
                      obtain ⟨X6, m6, rfl⟩ := plsOf hb
                      clear hb
                      cases ht : scO S p with
                      | none =>
                        have hr : Hid (fsO ps xss = none) := Lib.hid (fsO_t hkp (by rw [hXk.out, ep.out, ← HRP.out]; exact fs_sc0 _ HSQ.out ht))
                        rw [ht] at hO6
                        clear hO6
                        have hmR9 : (mR 0 (none : Option (List (List (Int × Int))))).length = 0 := rfl
                        have hmC9 : mC 0 none = 3 := rfl
                        go_wp2_with fail
                        refine bodyPost_ret (v := .tuple #[.slice (some ⟨_, 0, none⟩) 0 0, .int .i64 3]) (by simp [results, Try.results12, go_sem, *]; rfl) rfl ⟨?_, (by (try with_reducible refine bsz ?_); repeat (first | with_reducible exact Below.refl _ _ | ((with_reducible refine bpre ?_); (try simp only [Array.append_assoc]); repeat (first | with_reducible exact Pre.refl _ | with_reducible exact Pre.base _ _ | with_reducible refine Pre.cons _ ?_)) | with_reducible assumption | ((with_reducible refine bsetr ?_); rfl) | with_reducible refine Below.setCell ?_ (by simp <;> omega) _ | with_reducible refine bpl ?_ _ _ | with_reducible refine bal ?_ _ | with_reducible refine bdrew1 ?_ | with_reducible refine bdrew ?_ _))⟩
                        rw [hC.out, hr.out]
                        exact ⟨_, 0, [], rfl, Own.nil _ _ _ 0 (Nat.zero_le _) _⟩
                      | some T =>
                        obtain ⟨hT1, hT2⟩ := sqM_sc HSM.out hpI.out ht
                        rw [ht] at hO6
                        replace hO6 : Own (shL shFr) _ _ T (.slice A6 T.length cap6) F6 := hO6
                        (try simp only [pls_pls, drew_pls, drewN_pls, pls_drew, pls_drewN] at hO6)
                        have hO6 := Lib.hid hO6
                        have HTM := Lib.hid hT2
                        have HT1 := Lib.hid (hT1.trans HS1.out)
                        have HSC := Lib.hid ht
                        clear hT1 hT2 ht
                        have hmR2 : (mR 0 (some T)).length = T.length := rfl
                        have hmC2 : mC 0 (some T) = 0 := rfl
                        go_wp2_with fail
                        refine Calls.mono (l02AddAll_any _ (matL ps.length ps.length (fsE (at2 xss) (at1 ps) k)) T _ _ (hO.out.lst.below (by (try with_reducible refine bsz ?_); repeat (first | with_reducible exact Below.refl _ _ | ((with_reducible refine bpre ?_); (try simp only [Array.append_assoc]); repeat (first | with_reducible exact Pre.refl _ | with_reducible exact Pre.base _ _ | with_reducible refine Pre.cons _ ?_)) | with_reducible assumption | ((with_reducible refine bsetr ?_); rfl) | with_reducible refine Below.setCell ?_ (by simp <;> omega) _ | with_reducible refine bpl ?_ _ _ | with_reducible refine bal ?_ _ | with_reducible refine bdrew1 ?_ | with_reducible refine bdrew ?_ _))) (hO6.out.lst.below (by (try with_reducible refine bsz ?_); repeat (first | with_reducible exact Below.refl _ _ | ((with_reducible refine bpre ?_); (try simp only [Array.append_assoc]); repeat (first | with_reducible exact Pre.refl _ | with_reducible exact Pre.base _ _ | with_reducible refine Pre.cons _ ?_)) | with_reducible assumption | ((with_reducible refine bsetr ?_); rfl) | with_reducible refine Below.setCell ?_ (by simp <;> omega) _ | with_reducible refine bpl ?_ _ _ | with_reducible refine bal ?_ _ | with_reducible refine bdrew1 ?_ | with_reducible refine bdrew ?_ _))) (by rw [matL_len, HT1.out]) (SqM.mat h8 HIN.out) HTM.out) ?_
                        rintro e0 w1' ⟨⟨A7, cap7, F7, rfl, hO7⟩, hb⟩
                        obtain ⟨X7, m7, rfl⟩ := plsOf hb
                        clear hb
                        cases hu : addMO (matL ps.length ps.length (fsE (at2 xss) (at1 ps) k)) T with
                        | none =>
                          have hr : Hid (fsO ps xss = none) := Lib.hid (fsO_t hkp (by rw [hXk.out, ep.out, ← HRP.out]; exact fs_add0 HSQ.out HSC.out (by rw [HRP.out]; exact hu)))
                          rw [hu] at hO7
                          clear hO7
                          have hmR9 : (mR 0 (none : Option (List (List (Int × Int))))).length = 0 := rfl
                          have hmC9 : mC 0 none = 3 := rfl
                          go_wp2_with fail
                          refine bodyPost_ret (v := .tuple #[.slice (some ⟨_, 0, none⟩) 0 0, .int .i64 3]) (by simp [results, Try.results12, go_sem, *]; rfl) rfl ⟨?_, (by (try with_reducible refine bsz ?_); repeat (first | with_reducible exact Below.refl _ _ | ((with_reducible refine bpre ?_); (try simp only [Array.append_assoc]); repeat (first | with_reducible exact Pre.refl _ | with_reducible exact Pre.base _ _ | with_reducible refine Pre.cons _ ?_)) | with_reducible assumption | ((with_reducible refine bsetr ?_); rfl) | with_reducible refine Below.setCell ?_ (by simp <;> omega) _ | with_reducible refine bpl ?_ _ _ | with_reducible refine bal ?_ _ | with_reducible refine bdrew1 ?_ | with_reducible refine bdrew ?_ _))⟩
                          rw [hC.out, hr.out]
                          exact ⟨_, 0, [], rfl, Own.nil _ _ _ 0 (Nat.zero_le _) _⟩
                        | some U =>
                          obtain ⟨hU1, hU2⟩ := fs_add1 HSQ.out HSC.out (E := fsE (at2 xss) (at1 ps) k) (U := U) (by rw [HRP.out]; exact hu)
                          rw [hu] at hO7
                          replace hO7 : Own (shL shFr) _ _ U (.slice A7 U.length cap7) F7 := hO7
                          (try simp only [pls_pls, drew_pls, drewN_pls, pls_drew, pls_drewN] at hO7)
                          have hUE : U = matL ps.length ps.length (fsE (at2 xss) (at1 ps) (k + 1)) := by rw [hU1, HRP.out, ← hXk.out, ← ep.out]; rfl
                          have hUZ : Hid (fsZ ps.length (at2 xss) (at1 ps) (k + 1) = false) := Lib.hid (by unfold fsZ; rw [hZ.out, hXk.out, ep.out, ← HRP.out, hU2]; rfl)
                          clear hU1 hU2 hu
                          subst hUE
                          rw [matL_len] at hO7
                          have hO7 := Lib.hid hO7
                          have hmR3 : (mR 0 (some (matL ps.length ps.length (fsE (at2 xss) (at1 ps) (k + 1))))).length = ps.length := by show (matL _ _ _).length = _; rw [matL_len]
                          have hmC3 : mC 0 (some (matL ps.length ps.length (fsE (at2 xss) (at1 ps) (k + 1)))) = 0 := rfl
                          go_wp2_with fail
                          go_roundw
                          case rel =>
                            refine ⟨k + 1, A7, cap7, F7, by omega, by go_num, rfl, Lib.hid ?_, hUZ, (by (try with_reducible refine bsz ?_); repeat (first | with_reducible exact Below.refl _ _ | ((with_reducible refine bpre ?_); (try simp only [Array.append_assoc]); repeat (first | with_reducible exact Pre.refl _ | with_reducible exact Pre.base _ _ | with_reducible refine Pre.cons _ ?_)) | with_reducible assumption | ((with_reducible refine bsetr ?_); rfl) | with_reducible refine Below.setCell ?_ (by simp <;> omega) _ | with_reducible refine bpl ?_ _ _ | with_reducible refine bal ?_ _ | with_reducible refine bdrew1 ?_ | with_reducible refine bdrew ?_ _))⟩
                            exact hO7.out.pre (by (try simp only [Array.append_assoc]); exact Pre.refl _) (by simp) (by simp) (by simp <;> omega)
                          case measure => simp [intOf]; omega
                  · have e : k = xss.length := by omega
                    have hkn : k = ps.length := by have := HL.out; omega
                    clear e
                    subst hkn
                    have hr : Hid (fsO ps xss = some (matL ps.length ps.length (fsE (at2 xss) (at1 ps) ps.length))) := Lib.hid (by unfold fsO; rw [hZ.out]; rfl)
                    go_wp2_with fail
                    refine bodyPost_ret (v := .tuple #[.slice A ps.length cap, .int .i64 0]) (by simp [results, Try.results12, go_sem, *]) rfl ⟨?_, (by (try with_reducible refine bsz ?_); repeat (first | with_reducible exact Below.refl _ _ | ((with_reducible refine bpre ?_); (try simp only [Array.append_assoc]); repeat (first | with_reducible exact Pre.refl _ | with_reducible exact Pre.base _ _ | with_reducible refine Pre.cons _ ?_)) | with_reducible assumption | ((with_reducible refine bsetr ?_); rfl) | with_reducible refine Below.setCell ?_ (by simp <;> omega) _ | with_reducible refine bpl ?_ _ _ | with_reducible refine bal ?_ _ | with_reducible refine bdrew1 ?_ | with_reducible refine bdrew ?_ _))⟩
                    rw [hC.out, hr.out]
                    exact MatRet.some (matL_len _ _ _) (hO.out.below (Nat.le_refl _) (by (try with_reducible refine bsz ?_); repeat (first | with_reducible exact Below.refl _ _ | ((with_reducible refine bpre ?_); (try simp only [Array.append_assoc]); repeat (first | with_reducible exact Pre.refl _ | with_reducible exact Pre.base _ _ | with_reducible refine Pre.cons _ ?_)) | with_reducible assumption | ((with_reducible refine bsetr ?_); rfl) | with_reducible refine Below.setCell ?_ (by simp <;> omega) _ | with_reducible refine bpl ?_ _ _ | with_reducible refine bal ?_ _ | with_reducible refine bdrew1 ?_ | with_reducible refine bdrew ?_ _)))
          · have hr : fsC ps xss = 2 := by simp [fsC, HV.out, HB.out, hl]
            have hl1 : ((xss.length : Int) != (ps.length : Int)) = true := by simp; omega
            clear hl
            go_wp2_with fail
            (try any_goals (exfalso; omega))
            exact bodyPost_ret (v := .tuple #[.slice (some ⟨_, 0, none⟩) 0 0, .int .i64 2]) (by simp [results, Try.results12, go_sem, *]; rfl) rfl ⟨by (try rw [hr]); exact ⟨_, 0, [], rfl, Own.nil _ _ _ 0 (Nat.zero_le _) _⟩, (by (try with_reducible refine bsz ?_); repeat (first | with_reducible exact Below.refl _ _ | ((with_reducible refine bpre ?_); (try simp only [Array.append_assoc]); repeat (first | with_reducible exact Pre.refl _ | with_reducible exact Pre.base _ _ | with_reducible refine Pre.cons _ ?_)) | with_reducible assumption | ((with_reducible refine bsetr ?_); rfl) | with_reducible refine Below.setCell ?_ (by simp <;> omega) _ | with_reducible refine bpl ?_ _ _ | with_reducible refine bal ?_ _ | with_reducible refine bdrew1 ?_ | with_reducible refine bdrew ?_ _))⟩
        · have hr : fsC ps xss = 2 := by simp [fsC, HV.out, HB.out, h8]
          have h8' : ¬ ((ps.length : Nat) : Int) ≤ 8 := by omega
          go_wp2_with fail
          (try any_goals (exfalso; omega))
          exact bodyPost_ret (v := .tuple #[.slice (some ⟨_, 0, none⟩) 0 0, .int .i64 2]) (by simp [results, Try.results12, go_sem, *]; rfl) rfl ⟨by (try rw [hr]); exact ⟨_, 0, [], rfl, Own.nil _ _ _ 0 (Nat.zero_le _) _⟩, (by (try with_reducible refine bsz ?_); repeat (first | with_reducible exact Below.refl _ _ | ((with_reducible refine bpre ?_); (try simp only [Array.append_assoc]); repeat (first | with_reducible exact Pre.refl _ | with_reducible exact Pre.base _ _ | with_reducible refine Pre.cons _ ?_)) | with_reducible assumption | ((with_reducible refine bsetr ?_); rfl) | with_reducible refine Below.setCell ?_ (by simp <;> omega) _ | with_reducible refine bpl ?_ _ _ | with_reducible refine bal ?_ _ | with_reducible refine bdrew1 ?_ | with_reducible refine bdrew ?_ _))⟩
end Go.Proofs.Ytenaiegidcjanaa
