/- The next order: spec.l01Among, spec.l01Next. -/
import Derived.Test.YtbpamifkfbcloaaGy
namespace Go.Proofs.Ytbpamifkfbcloaa
open Go.ChangeShapes Go.WideShapes Go.RowKit
set_option linter.unusedVariables false
set_option linter.unusedSimpArgs false
attribute [local irreducible] Calls
/-- Whether a number is in a list. -/
def memB (L : List Int) (v : Int) : Bool := L.any fun d => d == v
theorem memB_at {L : List Int} {v : Int} {i : Nat} (hi : i < L.length) (h : gi L i = v) : memB L v = true := by
  rw [memB, List.any_eq_true]
  refine ⟨L[i], List.getElem_mem hi, ?_⟩
  have : gi L i = L[i] := by simp [gi, List.getElem?_eq_getElem hi]
  simp [← this, h]
theorem memB_f {L : List Int} {v : Int} (h : ∀ i, i < L.length → gi L i ≠ v) : memB L v = false := by
  rw [memB, List.any_eq_false]
  intro d hd
  obtain ⟨i, hi, rfl⟩ := List.mem_iff_getElem.1 hd
  have e : gi L i = L[i] := by simp [gi, List.getElem?_eq_getElem hi]
  have := h i hi
  rw [e] at this
  simpa using this
theorem l01Among_any (w : World) (L : List Int) (v : Value) (x : Int) (h : Lst (shI .i64) w L v) (hl : L.length ≤ 100) : Calls Try.prog 109 #[v, .int .i64 x] w fun e w' => e = .returned (.bool (memB L x)) ∧ Below w.heap.size w w' := by
  obtain ⟨A, cap, rfl, hc, hm, hel⟩ := lstI h
  have H1 := Lib.hid hel
  clear hel h
  unfold maxLen at hm
  go_enter Try.func109, Try.ntmps109
  go_wp2_with fail
  go_loopw [5] (fun i wr => ∃ (k : Nat), k ≤ L.length ∧ i = .int .i64 k ∧ Hid (∀ i, i < k → gi L i ≠ x) ∧ Below w.heap.size w wr) (fun i _ => L.length - (intOf i).toNat)
  case atStart => exact ⟨0, Nat.zero_le _, rfl, Lib.hid fun i hi => absurd hi (Nat.not_lt_zero i), (by (try with_reducible refine bsz ?_); repeat (first | with_reducible exact Below.refl _ _ | ((with_reducible refine bpre ?_); (try simp only [Array.append_assoc]); repeat (first | with_reducible exact Pre.refl _ | with_reducible exact Pre.base _ _ | with_reducible refine Pre.cons _ ?_)) | with_reducible assumption | ((with_reducible refine bsetr ?_); rfl) | with_reducible refine Below.setCell ?_ (by simp <;> omega) _ | with_reducible refine bpl ?_ _ _ | with_reducible refine bal ?_ _ | with_reducible refine bdrew1 ?_ | with_reducible refine bdrew ?_ _))⟩
  case round =>
    obtain ⟨k, hk, rfl, hS, hB⟩ := hrel
    by_cases hlt : k < L.length
    · have hk8 : (k : Int) < 9223372036854775807 := by omega
      obtain ⟨bl, off, rfl, hel⟩ := H1.out (by omega)
      have c0 := bkeep hB (hel k hlt)
      clear hel
      by_cases hx : gi L k = x
      · have hr : memB L x = true := memB_at hlt hx
        have hx1 : (gi L k == x) = true := by simp [hx]
        have HR := Lib.hid hr
        clear hr hx
        go_wp2_with fail
        exact bodyPost_ret (v := .bool true) (by simp [results, Try.results109, go_sem]) rfl ⟨by rw [HR.out], (by (try with_reducible refine bsz ?_); repeat (first | with_reducible exact Below.refl _ _ | ((with_reducible refine bpre ?_); (try simp only [Array.append_assoc]); repeat (first | with_reducible exact Pre.refl _ | with_reducible exact Pre.base _ _ | with_reducible refine Pre.cons _ ?_)) | with_reducible assumption | ((with_reducible refine bsetr ?_); rfl) | with_reducible refine Below.setCell ?_ (by simp <;> omega) _ | with_reducible refine bpl ?_ _ _ | with_reducible refine bal ?_ _ | with_reducible refine bdrew1 ?_ | with_reducible refine bdrew ?_ _))⟩
      · have hx1 : (gi L k == x) = false := by simp [hx]
        have HX := Lib.hid hx
        clear hx
        go_wp2_with fail
        go_roundw
        case rel =>
          refine ⟨k + 1, by omega, by go_num, Lib.hid fun i hi => ?_, (by (try with_reducible refine bsz ?_); repeat (first | with_reducible exact Below.refl _ _ | ((with_reducible refine bpre ?_); (try simp only [Array.append_assoc]); repeat (first | with_reducible exact Pre.refl _ | with_reducible exact Pre.base _ _ | with_reducible refine Pre.cons _ ?_)) | with_reducible assumption | ((with_reducible refine bsetr ?_); rfl) | with_reducible refine Below.setCell ?_ (by simp <;> omega) _ | with_reducible refine bpl ?_ _ _ | with_reducible refine bal ?_ _ | with_reducible refine bdrew1 ?_ | with_reducible refine bdrew ?_ _))⟩
          rcases Nat.lt_or_ge i k with h1 | h1
          · exact hS.out i h1
          · have : i = k := by omega
            subst this
            exact HX.out
        case measure => simp [intOf]; omega
    · have hr : memB L x = false := memB_f fun i hi => hS.out i (by omega)
      have HR := Lib.hid hr
      clear hr
      go_wp2_with fail
      exact bodyPost_ret (v := .bool false) (by simp [results, Try.results109, go_sem]) rfl ⟨by rw [HR.out], (by (try with_reducible refine bsz ?_); repeat (first | with_reducible exact Below.refl _ _ | ((with_reducible refine bpre ?_); (try simp only [Array.append_assoc]); repeat (first | with_reducible exact Pre.refl _ | with_reducible exact Pre.base _ _ | with_reducible refine Pre.cons _ ?_)) | with_reducible assumption | ((with_reducible refine bsetr ?_); rfl) | with_reducible refine Below.setCell ?_ (by simp <;> omega) _ | with_reducible refine bpl ?_ _ _ | with_reducible refine bal ?_ _ | with_reducible refine bdrew1 ?_ | with_reducible refine bdrew ?_ _))⟩
theorem flatI (L : List Int) : (L.flatMap fun n => [Value.int .i64 n]) = L.map fun n => Value.int .i64 n := by
  induction L with
  | nil => rfl
  | cons d L ih => rw [List.flatMap_cons, List.map_cons, ih]; rfl
/-- The cells of a list that is one's own: a part of it, a store. -/
theorem ownI_form {B g cap : Nat} {w : World} {L : List Int} {F : List Nat} (h : Own (shI .i64) B w L (.slice (some ⟨g, 0, none⟩) L.length cap) F) (hp : 0 < L.length) : F = [g] ∧ B ≤ g ∧ L.length ≤ cap ∧ cap ≤ maxLen ∧ ∃ cu t, w.heap[g]? = some (.cells cu t (0, 0)) ∧ L.length ≤ cu.size := by
  obtain ⟨A, c, hv, hc, hm, h4⟩ := own_flat (flat_int .i64) h
  injection hv with h1 h2 h3
  subst h3
  rcases h4 with ⟨rfl, _⟩ | ⟨g', cu, t, h5, rfl, hB, hh, hs⟩
  · exact absurd hp (Nat.lt_irrefl 0)
  · rw [← h1] at h5
    injection h5 with h5
    injection h5 with h5
    subst h5
    exact ⟨rfl, hB, hc, hm, cu, t, hh, by simpa using hs⟩
theorem lst_take {w : World} {L : List Int} {A : Option Addr} {cap : Nat} (h : Lst (shI .i64) w L (.slice A L.length cap)) {k : Nat} (hk : k ≤ L.length) : Lst (shI .i64) w (L.take k) (.slice A k cap) := by
  obtain ⟨A', c, e, hc, hm, hel⟩ := rep_slice h
  injection e with e1 e2 e3
  subst e1; subst e3
  refine ⟨A, cap, by simp [Nat.min_eq_left hk], by simp; omega, hm, fun hp => ?_⟩
  obtain ⟨bl, off, e9, hel2⟩ := hel (by simp at hp; omega)
  refine ⟨bl, off, e9, fun i d hi => hel2 i d ?_⟩
  rw [List.getElem?_take] at hi
  split at hi
  · exact hi
  · cases hi
theorem own_setI {B g cap : Nat} {w : World} {L : List Int} {F : List Nat} (h : Own (shI .i64) B w L (.slice (some ⟨g, 0, none⟩) L.length cap) F) {i : Nat} (hi : i < L.length) {d : Int} (hd : okI .i64 d) :
    (∃ u, w.cell? ⟨g, i, none⟩ = some u) ∧ w.frozen? ⟨g, i, none⟩ = false ∧ Own (shI .i64) B (w.setCell ⟨g, i, none⟩ (.int .i64 d)) (L.set i d) (.slice (some ⟨g, 0, none⟩) L.length cap) F := by
  obtain ⟨A, c, hv, hc, hm, h4⟩ := own_flat (flat_int .i64) h
  injection hv with h1 h2 h3
  subst h3
  rcases h4 with ⟨rfl, _⟩ | ⟨g', cu, t, h5, rfl, hB, hh, hs⟩
  · exact absurd hi (Nat.not_lt_zero i)
  · rw [← h1] at h5
    injection h5 with h5
    injection h5 with h5
    subst h5
    have hs1 : L.length ≤ cu.size := by simpa using hs
    have htake : cu.toList.take (L.length * 1) = L.flatMap fun n => [.int .i64 n] := by
      obtain ⟨A2, c2, hv2, _, _, hel⟩ := lstI h.lst
      injection hv2 with e1 e2 e3
      obtain ⟨bl, off, e4, hel⟩ := hel (by omega)
      rw [← e1] at e4
      injection e4 with e4
      injection e4 with e4 e5
      subst e4; subst e5
      apply List.ext_getElem?
      intro j
      rw [List.getElem?_take, Nat.mul_one]
      rw [flatI, List.getElem?_map]
      by_cases hj : j < L.length
      · rw [if_pos hj]
        have h9 := hel j hj
        simp only [World.cell?, hh, Nat.zero_add] at h9
        have e7 : gi L j = L[j] := by simp [gi, List.getElem?_eq_getElem hj]
        rw [List.getElem?_eq_getElem hj, Option.map_some, ← e7, ← h9]
        simp
      · rw [if_neg hj, List.getElem?_eq_none (by omega)]; rfl
    refine ⟨⟨cu[i]'(by omega), by simp only [World.cell?, hh]; exact Array.getElem?_eq_getElem (by omega)⟩, by simp [World.frozen?, hh], ?_⟩
    have hlen : (L.set i d).length = L.length := List.length_set
    have := own_of_row (flat_int .i64) (fun _ => rfl) (w := w.setCell ⟨g, i, none⟩ (.int .i64 d)) (g := g) (cap := cap) (cur := cu.setIfInBounds i (.int .i64 d)) (t := t) (xs := L.set i d) (blkset0 hh i _) (by rw [hlen]; exact hc) hm (by rw [hlen]; show L.length * 1 ≤ _; simp; omega) (by
      rw [hlen, Array.toList_setIfInBounds, List.take_set, htake]
      rw [flatI, flatI, List.map_set]) (by
      intro a ha
      rcases List.mem_or_eq_of_mem_set ha with ha | rfl
      · exact oks_of (flat_int .i64) h.lst a ha
      · exact hd) hB
    rw [hlen] at this
    exact this
theorem lst_take' {w : World} {L : List Int} {A : Option Addr} {cap n : Nat} (h : Lst (shI .i64) w L (.slice A n cap)) (hn : L.length = n) {k : Nat} (hk : k ≤ n) : Lst (shI .i64) w (L.take k) (.slice A k cap) := by
  subst hn; exact lst_take h hk
theorem own_setI' {B g cap n : Nat} {w : World} {L : List Int} {F : List Nat} (h : Own (shI .i64) B w L (.slice (some ⟨g, 0, none⟩) n cap) F) (hn : L.length = n) {i : Nat} (hi : i < n) {d : Int} (hd : okI .i64 d) :
    (∃ u, w.cell? ⟨g, i, none⟩ = some u) ∧ w.frozen? ⟨g, i, none⟩ = false ∧ Own (shI .i64) B (w.setCell ⟨g, i, none⟩ (.int .i64 d)) (L.set i d) (.slice (some ⟨g, 0, none⟩) n cap) F := by
  subst hn; exact own_setI h hi hd
/-! The next order, as it is found -/
def okV (L : List Int) (i v : Nat) : Bool := decide (gi L i < (v : Int)) && !memB (L.take i) v
def nxV (n : Nat) (L : List Int) (i : Nat) : Option Nat := (List.range n).find? (okV L i)
def nxI (n : Nat) (L : List Int) : Nat → Option (Nat × Nat)
  | 0 => none
  | i + 1 => match nxV n L i with | some v => some (i, v) | none => nxI n L i
def leastW (T : List Int) : Nat := ((List.range 6).find? fun (w : Nat) => !memB T w).getD 0
def fillN (L : List Int) (i : Nat) : Nat → List Int
  | 0 => L
  | t + 1 => (fillN L i t).set (i + 1 + t) (leastW ((fillN L i t).take (i + 1 + t)))
def nextL (n : Nat) (L : List Int) : List Int := match nxI n L L.length with | some (i, v) => fillN (L.set i v) i (L.length - (i + 1)) | none => L
def vsB (L : List Int) : Bool := (List.range L.length).all fun i => decide (0 ≤ gi L i) && decide (gi L i ≤ 4)
def chainB (n : Nat) (L : List Int) : Bool := match nxI n L L.length with | some (i, v) => (List.range (L.length - i)).all fun t => vsB (fillN (L.set i v) i t) | none => true
theorem vsB_of {L : List Int} (h : vsB L = true) {i : Nat} (hi : i < L.length) : 0 ≤ gi L i ∧ gi L i ≤ 4 := by
  simp only [vsB, Bool.and_eq_true, decide_eq_true_eq, List.all_eq_true, List.mem_range] at h
  exact h i hi
theorem fillN_len (L : List Int) (i t : Nat) : (fillN L i t).length = L.length := by
  induction t with
  | zero => rfl
  | succ t ih => rw [fillN, List.length_set, ih]
theorem nxV_at {n : Nat} {L : List Int} {i v : Nat} (hv : v < n) (h : okV L i v = true) (hn : ∀ u, u < v → okV L i u = false) : nxV n L i = some v := by
  unfold nxV
  rw [List.find?_range_eq_some]
  exact ⟨h, by simpa using hv, fun u hu => by simp [hn u hu]⟩
theorem nxV_none {n : Nat} {L : List Int} {i : Nat} (hn : ∀ u, u < n → okV L i u = false) : nxV n L i = none := by
  unfold nxV
  rw [List.find?_eq_none]
  intro u hu
  simp [hn u (by simpa using hu)]
theorem leastW_at {T : List Int} {v : Nat} (hv : v < 6) (h : memB T v = false) (hn : ∀ u : Nat, u < v → memB T u = true) : leastW T = v := by
  unfold leastW
  have : (List.range 6).find? (fun w : Nat => !memB T w) = some v := by
    rw [List.find?_range_eq_some]
    exact ⟨by simp [h], by simpa using hv, fun u hu => by simp [hn u hu]⟩
  rw [this]; rfl
theorem memB_le {T : List Int} {v : Int} (h : memB T v = true) (hT : ∀ i, i < T.length → 0 ≤ gi T i ∧ gi T i ≤ 4) : v ≤ 4 := by
  rw [memB, List.any_eq_true] at h
  obtain ⟨d, hd, e⟩ := h
  obtain ⟨i, hi, rfl⟩ := List.mem_iff_getElem.1 hd
  have := hT i hi
  have e2 : gi T i = T[i] := by simp [gi, List.getElem?_eq_getElem hi]
  simp at e
  omega
theorem gi_take {L : List Int} {k i : Nat} (hi : i < k) : gi (L.take k) i = gi L i := by simp [gi, List.getElem?_take, hi]
theorem okV_lt {L : List Int} {i v : Nat} (h : ¬ gi L i < (v : Int)) : okV L i v = false := by simp [okV, h]
set_option maxHeartbeats 2000000 in
theorem l01Next_any (w : World) (B n : Nat) (L : List Int) (A : Option Addr) (cap : Nat) (F : List Nat) (h : Own (shI .i64) B w L (.slice A L.length cap) F) (hl : L.length ≤ 5) (hn : n ≤ 5) (hv : vsB L = true) (hch : chainB n L = true) :
    Calls Try.prog 78 #[.slice A L.length cap, .int .i64 n] w fun e w' => e = .returned (.bool (nxI n L L.length).isSome) ∧ Own (shI .i64) B w' (nextL n L) (.slice A L.length cap) F ∧ Chg F w w' := by
  have HO := Lib.hid h
  have HV := Lib.hid hv
  have HC := Lib.hid hch
  have hcap : L.length ≤ cap ∧ cap ≤ maxLen := by
    obtain ⟨_, _, he, h1, h2⟩ := formI h.lst
    injection he with _ _ he
    rw [he]; exact ⟨h1, h2⟩
  obtain ⟨hcap, hm⟩ := hcap
  unfold maxLen at hm
  clear h hv hch
  go_enter Try.func78, Try.ntmps78
  go_wp2_with fail
  go_loopw [6] (fun i wr => ∃ (k : Nat), k ≤ L.length ∧ i = .int .i64 ((k : Int) - 1) ∧ Hid (nxI n L L.length = nxI n L k) ∧ Below w.heap.size w wr) (fun i _ => (intOf i + 1).toNat)
  case atStart => exact ⟨L.length, Nat.le_refl _, by go_num, Lib.hid rfl, (by (try with_reducible refine bsz ?_); repeat (first | with_reducible exact Below.refl _ _ | ((with_reducible refine bpre ?_); (try simp only [Array.append_assoc]); repeat (first | with_reducible exact Pre.refl _ | with_reducible exact Pre.base _ _ | with_reducible refine Pre.cons _ ?_)) | with_reducible assumption | ((with_reducible refine bsetr ?_); rfl) | with_reducible refine Below.setCell ?_ (by simp <;> omega) _ | with_reducible refine bpl ?_ _ _ | with_reducible refine bal ?_ _ | with_reducible refine bdrew1 ?_ | with_reducible refine bdrew ?_ _))⟩
  case round =>
    obtain ⟨k, hk, rfl, hN, hB⟩ := hrel
    have hz := hB.size
    by_cases hlt : 0 < k
    · obtain ⟨i, rfl⟩ : ∃ i, k = i + 1 := ⟨k - 1, by omega⟩
      have e1 : ((i + 1 : Nat) : Int) - 1 = (i : Int) := by omega
      rw [e1]
      obtain ⟨g, rfl⟩ : ∃ g, A = some ⟨g, 0, none⟩ := by
        obtain ⟨A2, c2, hv2, _, _, h4⟩ := own_flat (flat_int .i64) HO.out
        rcases h4 with ⟨hx, _⟩ | ⟨g', _, _, h5, _⟩
        · rw [hx] at hk; simp at hk
        · injection hv2 with h6; exact ⟨g', h6.trans h5⟩
      have hi : i < L.length := by omega
      have hel : ∀ j, j < L.length → w.cell? ⟨g, j, none⟩ = some (.int .i64 (gi L j)) := by
        obtain ⟨A2, c2, hv2, _, _, hel⟩ := lstI HO.out.lst
        obtain ⟨bl, off, e4, hel⟩ := hel (by omega)
        injection hv2 with e5
        rw [← e5] at e4
        injection e4 with e4
        injection e4 with e4 e6
        subst e4; subst e6
        intro j hj
        simpa using hel j hj
      have c0 := bkeep hB (hel i hi)
      have hgi := vsB_of HV.out hi
      have hF : Hid (F = [g]) := Lib.hid (ownI_form HO.out (by omega)).1
      have hi8 : (i : Int) < (L.length : Int) := by omega
      clear hel
      go_wp2_with fail
      obtain ⟨W0, rfl⟩ : ∃ x, x = wr := ⟨_, rfl⟩
      have HB := Lib.hid hB
      go_loopw [7] (fun x wr => ∃ (u : Nat), u ≤ 5 ∧ x = .int .i64 u ∧ Hid (∀ y, y < u → y < n → okV L i y = false) ∧ Hid (gi L i < (u : Int)) ∧ Below w.heap.size w wr) (fun x _ => 6 - (intOf x).toNat)
      case atStart => exact ⟨(gi L i + 1).toNat, by omega, by rw [show (((gi L i + 1).toNat : Nat) : Int) = gi L i + 1 by omega], Lib.hid (fun y hy _ => okV_lt (by omega)), Lib.hid (by omega), hB⟩
      case round =>
        clear hB hz c0
        obtain ⟨u, hu5, rfl, hS, hgu, hB⟩ := hrel
        have hz := hB.size
        by_cases hun : u < n
        · have hun' : (u : Int) < (n : Int) := by omega
          cases hm1 : memB (L.take i) u
          · have hok : okV L i u = true := by simp [okV, hgu.out, hm1]
            have hres : nxI n L L.length = some (i, u) := by
              rw [hN.out]
              simp only [nxI]
              rw [nxV_at hun hok (fun y hy => hS.out y hy (by omega))]
            have HRES := Lib.hid hres
            have hch2 : ∀ t, t < L.length - i → vsB (fillN (L.set i u) i t) = true := by
              have := HC.out
              unfold chainB at this
              rw [hres] at this
              simpa using this
            have HCH := Lib.hid hch2
            clear hres hch2 hok hN HC hS hgu
            go_wp2_with fail
            refine Calls.mono (l01Among_any _ (L.take i) _ _ ((lst_take HO.out.lst (by omega)).below hB) (by rw [take_len (by omega)]; omega)) ?_
            rw [hm1]
            rintro e w1 ⟨rfl, hb⟩
            have hB1 := hB.trans (hb.mono hz)
            have HO1 := HO.out.below (Nat.le_refl _) hB1
            obtain ⟨⟨v0, s0⟩, f0, hput⟩ := own_setI HO1 hi (okN (n := u) (by omega))
            have hput := Lib.hid hput
            have hg1 : g < w.heap.size := by have := HO.out.lt g (by rw [hF.out]; simp); exact this
            have HB1 := Lib.hid hB1
            have hgw : g < w1.heap.size := by have := hb.size; omega
            clear hb HO1 hB1 hB
            go_wp2_with fail
            go_loopw [8] (fun x wr => ∃ (t : Nat), t + i + 1 ≤ L.length ∧ x = .int .i64 ((i + 1 + t : Nat) : Int) ∧ Hid (Own (shI .i64) B wr (fillN (L.set i u) i t) (.slice (some ⟨g, 0, none⟩) L.length cap) F) ∧ Hid (Chg F w wr)) (fun x _ => L.length - (intOf x).toNat)
            case atStart => exact ⟨0, by omega, by go_num, Lib.hid hput.out, Lib.hid ((Chg.of HB1.out F).set (by rw [hF.out]; simp) _)⟩
            case round =>
              obtain ⟨t, ht, rfl, hO, hCh⟩ := hrel
              clear hput
              have hzr := hCh.out.size
              by_cases hmt : i + 1 + t < L.length
              · have hmt' : ((i + 1 + t : Nat) : Int) < (L.length : Int) := by omega
                have hm8 : ((i + 1 + t : Nat) : Int) < 9223372036854775807 := by omega
                have hlen : (fillN (L.set i u) i t).length = L.length := by rw [fillN_len, List.length_set]
                have hT : Hid (∀ j, j < ((fillN (L.set i u) i t).take (i + 1 + t)).length → 0 ≤ gi ((fillN (L.set i u) i t).take (i + 1 + t)) j ∧ gi ((fillN (L.set i u) i t).take (i + 1 + t)) j ≤ 4) := Lib.hid (fun j hj => by
                  rw [List.length_take] at hj
                  rw [gi_take (by omega)]
                  exact vsB_of (HCH.out t (by omega)) (by omega))
                generalize hq : i + 1 + t = q at *
                go_wp2_with fail
                obtain ⟨W1, rfl⟩ : ∃ x, x = wr := ⟨_, rfl⟩
                go_loopw [9] (fun x wr => ∃ (y : Nat), y ≤ 5 ∧ x = .int .i64 y ∧ Hid (∀ z : Nat, z < y → memB ((fillN (L.set i u) i t).take q) z = true) ∧ Hid (Own (shI .i64) B wr (fillN (L.set i u) i t) (.slice (some ⟨g, 0, none⟩) L.length cap) F) ∧ Hid (Chg F w wr)) (fun x _ => 6 - (intOf x).toNat)
                case atStart => exact ⟨0, by omega, rfl, Lib.hid (fun z hz => absurd hz (Nat.not_lt_zero z)), hO, hCh⟩
                case round =>
                  clear hO hCh hzr
                  obtain ⟨y, hy, rfl, hY, hO, hCh⟩ := hrel
                  have hzr := hCh.out.size
                  cases hm2 : memB ((fillN (L.set i u) i t).take q) y
                  · go_wp2_with fail
                    refine Calls.mono (l01Among_any _ ((fillN (L.set i u) i t).take q) _ _ (lst_take' hO.out.lst hlen (by omega)) (by rw [take_len (by omega)]; omega)) ?_
                    rw [hm2]
                    rintro e w2 ⟨rfl, hb⟩
                    have hO2 := hO.out.below (Nat.le_refl _) hb
                    have hCh2 := hCh.out.trans (Chg.of hb F)
                    have hlw : leastW ((fillN (L.set i u) i t).take q) = y := leastW_at (by omega) hm2 hY.out
                    have hgw2 : g < w2.heap.size := by have := hO2.lt g (by rw [hF.out]; simp); exact this
                    obtain ⟨⟨v1, s1⟩, f1, hput⟩ := own_setI' hO2 hlen (by omega : q < L.length) (okN (n := y) (by omega))
                    have hput := Lib.hid hput
                    have hCh2 := Lib.hid hCh2
                    have hlw := Lib.hid hlw
                    clear hO2 hb hO hCh
                    go_wp2_with fail
                    go_roundw
                    case rel =>
                      refine ⟨t + 1, by omega, by rw [show i + 1 + (t + 1) = q + 1 by omega]; go_num, Lib.hid ?_, Lib.hid (hCh2.out.set (by rw [hF.out]; simp) _)⟩
                      have := hput.out
                      simp only [fillN]
                      rw [hq, hlw.out]
                      exact this
                    case measure => simp [intOf]; omega
                  · have hy4 := memB_le hm2 hT.out
                    go_wp2_with fail
                    refine Calls.mono (l01Among_any _ ((fillN (L.set i u) i t).take q) _ _ (lst_take' hO.out.lst hlen (by omega)) (by rw [take_len (by omega)]; omega)) ?_
                    rw [hm2]
                    rintro e w2 ⟨rfl, hb⟩
                    have hO2 := Lib.hid (hO.out.below (Nat.le_refl _) hb)
                    have hCh2 := Lib.hid (hCh.out.trans (Chg.of hb F))
                    clear hb hO hCh
                    go_wp2_with fail
                    go_roundw
                    case rel =>
                      refine ⟨y + 1, by omega, by go_num, Lib.hid fun z hz => ?_, hO2, hCh2⟩
                      rcases Nat.lt_or_ge z y with h1 | h1
                      · exact hY.out z h1
                      · have : z = y := by omega
                        subst this
                        exact hm2
                    case measure => simp [intOf]; omega
              · have e : t = L.length - (i + 1) := by omega
                have hr2 : nextL n L = fillN (L.set i u) i t := by unfold nextL; rw [HRES.out, e]
                have HR2 := Lib.hid hr2
                clear hr2
                go_wp2_with fail
                refine bodyPost_ret (v := .bool true) (by simp [results, Try.results78, go_sem]) rfl ⟨by rw [HRES.out]; rfl, ?_, hCh.out⟩
                rw [HR2.out]
                exact hO.out
          · have hok : okV L i u = false := by simp [okV, hm1]
            go_wp2_with fail
            refine Calls.mono (l01Among_any _ (L.take i) _ _ ((lst_take HO.out.lst (by omega)).below hB) (by rw [take_len (by omega)]; omega)) ?_
            rw [hm1]
            rintro e w1 ⟨rfl, hb⟩
            have hB1 := hB.trans (hb.mono hz)
            clear hb
            go_wp2_with fail
            go_roundw
            case rel =>
              refine ⟨u + 1, by omega, by go_num, Lib.hid fun y hy hy2 => ?_, Lib.hid (by have := hgu.out; omega), hB1⟩
              rcases Nat.lt_or_ge y u with h1 | h1
              · exact hS.out y h1 hy2
              · have : y = u := by omega
                subst this
                exact hok
            case measure => simp [intOf]; omega
        · have hun' : ¬ (u : Int) < (n : Int) := by omega
          have hnone : nxV n L i = none := nxV_none fun y hy => hS.out y (by omega) hy
          go_wp2_with fail
          go_roundw
          case rel =>
            refine ⟨i, by omega, rfl, Lib.hid ?_, hB⟩
            rw [hN.out]
            simp only [nxI]
            rw [hnone]
          case measure => simp [intOf] <;> omega
    · have e : k = 0 := by omega
      subst e
      have hr : nxI n L L.length = none := hN.out
      have hr2 : nextL n L = L := by unfold nextL; rw [hr]
      have HR := Lib.hid hr
      have HR2 := Lib.hid hr2
      clear hr hr2 hN
      go_wp2_with fail
      refine bodyPost_ret (v := .bool false) (by simp [results, Try.results78, go_sem]) rfl ⟨by rw [HR.out]; rfl, ?_, ?_⟩
      · rw [HR2.out]; exact HO.out.below (Nat.le_refl _) hB
      · exact Chg.of hB _
end Go.Proofs.Ytbpamifkfbcloaa
