import Derived.ArgAppend
import Derived.Laws.AppendOwn
import Derived.Test.YtekchdgpaemofaaGreatYyGx
namespace Go.Proofs.YtekchdgpaemofaaGreat
open Go.ChangeShapes Go.WideShapes Go.RowKit
set_option linter.unusedVariables false
set_option linter.unusedSimpArgs false
attribute [local irreducible] Calls
def memB (L : List Int) (v : Int) : Bool := L.any fun d => d == v
theorem memB_at {L : List Int} {v : Int} {i : Nat} (hi : i < L.length) (h : gi L i = v) : memB L v = true := by
  rw [memB, List.any_eq_true]
  refine ⟨L[i], List.getElem_mem hi, ?_⟩
  have : gi L i = L[i] := by simp [gi, List.getElem?_eq_getElem hi]
  simp [← this, h]
theorem memB_f {L : List Int} {v : Int} (h : ∀ i, i < L.length → gi L i ≠ v) : memB L v = false := by
  rw [memB, List.any_eq_false]
  intro d hd
  obtain ⟨i, hi, rfl⟩ := List.mem_iff_getElem.1 hd
  have e : gi L i = L[i] := by simp [gi, List.getElem?_eq_getElem hi]
  have := h i hi
  rw [e] at this
  simpa using this
theorem l01Among_any (w : World) (L : List Int) (v : Value) (x : Int) (h : Lst (shI .i64) w L v) (hl : L.length ≤ 100) : Calls Tryz.prog 244 #[v, .int .i64 x] w fun e w' => e = .returned (.bool (memB L x)) ∧ Below w.heap.size w w' := by
  obtain ⟨A, cap, rfl, hc, hm, hel⟩ := lstI h
  have H1 := Lib.hid hel
  clear hel h
  unfold maxLen at hm
  go_enter Tryz.func244, Tryz.ntmps244
  go_wp2_with fail
  go_loopw [5] (fun i wr => ∃ (k : Nat), k ≤ L.length ∧ i = .int .i64 k ∧ Hid (∀ i, i < k → gi L i ≠ x) ∧ Below w.heap.size w wr) (fun i _ => L.length - (intOf i).toNat)
  case atStart => exact ⟨0, Nat.zero_le _, rfl, Lib.hid fun i hi => absurd hi (Nat.not_lt_zero i), belA⟩
  case round =>
    obtain ⟨k, hk, rfl, hS, hB⟩ := hrel
    by_cases hlt : k < L.length
    · have hk8 : (k : Int) < 9223372036854775807 := by omega
      obtain ⟨bl, off, rfl, hel⟩ := H1.out (by omega)
      have c0 := bkeep hB (hel k hlt)
      clear hel
      by_cases hx : gi L k = x
      · have hr : memB L x = true := memB_at hlt hx
        have hx1 : (gi L k == x) = true := by simp [hx]
        have HR := Lib.hid hr
        clear hr hx
        go_wp2_with fail
        exact bodyPost_ret (v := .bool true) (by simp [results, Tryz.results244, go_sem]) rfl ⟨by rw [HR.out], belA⟩
      · have hx1 : (gi L k == x) = false := by simp [hx]
        have HX := Lib.hid hx
        clear hx
        go_wp2_with fail
        go_roundw
        case rel =>
          refine ⟨k + 1, by omega, by go_num, Lib.hid fun i hi => ?_, belA⟩
          rcases Nat.lt_or_ge i k with h1 | h1
          · exact hS.out i h1
          · have : i = k := by omega
            subst this
            exact HX.out
        case measure => simp [intOf]; omega
    · have hr : memB L x = false := memB_f fun i hi => hS.out i (by omega)
      have HR := Lib.hid hr
      clear hr
      go_wp2_with fail
      exact bodyPost_ret (v := .bool false) (by simp [results, Tryz.results244, go_sem]) rfl ⟨by rw [HR.out], belA⟩
theorem flatI (L : List Int) : (L.flatMap fun n => [Value.int .i64 n]) = L.map fun n => Value.int .i64 n := by
  induction L with
  | nil => rfl
  | cons d L ih => rw [List.flatMap_cons, List.map_cons, ih]; rfl
theorem ownI_form {B g cap : Nat} {w : World} {L : List Int} {F : List Nat} (h : Own (shI .i64) B w L (.slice (some ⟨g, 0, none⟩) L.length cap) F) (hp : 0 < L.length) : F = [g] ∧ B ≤ g ∧ L.length ≤ cap ∧ cap ≤ maxLen ∧ ∃ cu t, w.heap[g]? = some (.cells cu t (0, 0)) ∧ L.length ≤ cu.size := by
  obtain ⟨A, c, hv, hc, hm, h4⟩ := own_flat (flat_int .i64) h
  injection hv with h1 h2 h3
  subst h3
  rcases h4 with ⟨rfl, _⟩ | ⟨g', cu, t, h5, rfl, hB, hh, hs⟩
  · exact absurd hp (Nat.lt_irrefl 0)
  · rw [← h1] at h5
    injection h5 with h5
    injection h5 with h5
    subst h5
    exact ⟨rfl, hB, hc, hm, cu, t, hh, by simpa using hs⟩
theorem lst_take {w : World} {L : List Int} {A : Option Addr} {cap : Nat} (h : Lst (shI .i64) w L (.slice A L.length cap)) {k : Nat} (hk : k ≤ L.length) : Lst (shI .i64) w (L.take k) (.slice A k cap) := by
  obtain ⟨A', c, e, hc, hm, hel⟩ := rep_slice h
  injection e with e1 e2 e3
  subst e1; subst e3
  refine ⟨A, cap, by simp [Nat.min_eq_left hk], by simp; omega, hm, fun hp => ?_⟩
  obtain ⟨bl, off, e9, hel2⟩ := hel (by simp at hp; omega)
  refine ⟨bl, off, e9, fun i d hi => hel2 i d ?_⟩
  rw [List.getElem?_take] at hi
  split at hi
  · exact hi
  · cases hi
theorem own_setI {B g cap : Nat} {w : World} {L : List Int} {F : List Nat} (h : Own (shI .i64) B w L (.slice (some ⟨g, 0, none⟩) L.length cap) F) {i : Nat} (hi : i < L.length) {d : Int} (hd : okI .i64 d) :
    (∃ u, w.cell? ⟨g, i, none⟩ = some u) ∧ w.frozen? ⟨g, i, none⟩ = false ∧ Own (shI .i64) B (w.setCell ⟨g, i, none⟩ (.int .i64 d)) (L.set i d) (.slice (some ⟨g, 0, none⟩) L.length cap) F := by
  obtain ⟨A, c, hv, hc, hm, h4⟩ := own_flat (flat_int .i64) h
  injection hv with h1 h2 h3
  subst h3
  rcases h4 with ⟨rfl, _⟩ | ⟨g', cu, t, h5, rfl, hB, hh, hs⟩
  · exact absurd hi (Nat.not_lt_zero i)
  · rw [← h1] at h5
    injection h5 with h5
    injection h5 with h5
    subst h5
    have hs1 : L.length ≤ cu.size := by simpa using hs
    have htake : cu.toList.take (L.length * 1) = L.flatMap fun n => [.int .i64 n] := by
      obtain ⟨A2, c2, hv2, _, _, hel⟩ := lstI h.lst
      injection hv2 with e1 e2 e3
      obtain ⟨bl, off, e4, hel⟩ := hel (by omega)
      rw [← e1] at e4
      injection e4 with e4
      injection e4 with e4 e5
      subst e4; subst e5
      apply List.ext_getElem?
      intro j
      rw [List.getElem?_take, Nat.mul_one]
      rw [flatI, List.getElem?_map]
      by_cases hj : j < L.length
      · rw [if_pos hj]
        have h9 := hel j hj
        simp only [World.cell?, hh, Nat.zero_add] at h9
        have e7 : gi L j = L[j] := by simp [gi, List.getElem?_eq_getElem hj]
        rw [List.getElem?_eq_getElem hj, Option.map_some, ← e7, ← h9]
        simp
      · rw [if_neg hj, List.getElem?_eq_none (by omega)]; rfl
    refine ⟨⟨cu[i]'(by omega), by simp only [World.cell?, hh]; exact Array.getElem?_eq_getElem (by omega)⟩, by simp [World.frozen?, hh], ?_⟩
    have hlen : (L.set i d).length = L.length := List.length_set
    have := own_of_row (flat_int .i64) (fun _ => rfl) (w := w.setCell ⟨g, i, none⟩ (.int .i64 d)) (g := g) (cap := cap) (cur := cu.setIfInBounds i (.int .i64 d)) (t := t) (xs := L.set i d) (blkset0 hh i _) (by rw [hlen]; exact hc) hm (by rw [hlen]; show L.length * 1 ≤ _; simp; omega) (by
      rw [hlen, Array.toList_setIfInBounds, List.take_set, htake]
      rw [flatI, flatI, List.map_set]) (by
      intro a ha
      rcases List.mem_or_eq_of_mem_set ha with ha | rfl
      · exact oks_of (flat_int .i64) h.lst a ha
      · exact hd) hB
    rw [hlen] at this
    exact this
theorem lst_take' {w : World} {L : List Int} {A : Option Addr} {cap n : Nat} (h : Lst (shI .i64) w L (.slice A n cap)) (hn : L.length = n) {k : Nat} (hk : k ≤ n) : Lst (shI .i64) w (L.take k) (.slice A k cap) := by
  subst hn; exact lst_take h hk
theorem own_setI' {B g cap n : Nat} {w : World} {L : List Int} {F : List Nat} (h : Own (shI .i64) B w L (.slice (some ⟨g, 0, none⟩) n cap) F) (hn : L.length = n) {i : Nat} (hi : i < n) {d : Int} (hd : okI .i64 d) :
    (∃ u, w.cell? ⟨g, i, none⟩ = some u) ∧ w.frozen? ⟨g, i, none⟩ = false ∧ Own (shI .i64) B (w.setCell ⟨g, i, none⟩ (.int .i64 d)) (L.set i d) (.slice (some ⟨g, 0, none⟩) n cap) F := by
  subst hn; exact own_setI h hi hd
/-! The next order, as it is found -/
def okV (L : List Int) (i v : Nat) : Bool := decide (gi L i < (v : Int)) && !memB (L.take i) v
def nxV (n : Nat) (L : List Int) (i : Nat) : Option Nat := (List.range n).find? (okV L i)
def nxI (n : Nat) (L : List Int) : Nat → Option (Nat × Nat)
  | 0 => none
  | i + 1 => match nxV n L i with | some v => some (i, v) | none => nxI n L i
def leastW (T : List Int) : Nat := ((List.range 6).find? fun (w : Nat) => !memB T w).getD 0
def fillN (L : List Int) (i : Nat) : Nat → List Int
  | 0 => L
  | t + 1 => (fillN L i t).set (i + 1 + t) (leastW ((fillN L i t).take (i + 1 + t)))
def nextL (n : Nat) (L : List Int) : List Int := match nxI n L L.length with | some (i, v) => fillN (L.set i v) i (L.length - (i + 1)) | none => L
def vsB (L : List Int) : Bool := (List.range L.length).all fun i => decide (0 ≤ gi L i) && decide (gi L i ≤ 4)
def chainB (n : Nat) (L : List Int) : Bool := match nxI n L L.length with | some (i, v) => (List.range (L.length - i)).all fun t => vsB (fillN (L.set i v) i t) | none => true
theorem vsB_of {L : List Int} (h : vsB L = true) {i : Nat} (hi : i < L.length) : 0 ≤ gi L i ∧ gi L i ≤ 4 := by
  simp only [vsB, Bool.and_eq_true, decide_eq_true_eq, List.all_eq_true, List.mem_range] at h
  exact h i hi
theorem fillN_len (L : List Int) (i t : Nat) : (fillN L i t).length = L.length := by
  induction t with
  | zero => rfl
  | succ t ih => rw [fillN, List.length_set, ih]
theorem nxV_at {n : Nat} {L : List Int} {i v : Nat} (hv : v < n) (h : okV L i v = true) (hn : ∀ u, u < v → okV L i u = false) : nxV n L i = some v := by
  unfold nxV
  rw [List.find?_range_eq_some]
  exact ⟨h, by simpa using hv, fun u hu => by simp [hn u hu]⟩
theorem nxV_none {n : Nat} {L : List Int} {i : Nat} (hn : ∀ u, u < n → okV L i u = false) : nxV n L i = none := by
  unfold nxV
  rw [List.find?_eq_none]
  intro u hu
  simp [hn u (by simpa using hu)]
theorem leastW_at {T : List Int} {v : Nat} (hv : v < 6) (h : memB T v = false) (hn : ∀ u : Nat, u < v → memB T u = true) : leastW T = v := by
  unfold leastW
  have : (List.range 6).find? (fun w : Nat => !memB T w) = some v := by
    rw [List.find?_range_eq_some]
    exact ⟨by simp [h], by simpa using hv, fun u hu => by simp [hn u hu]⟩
  rw [this]; rfl
theorem memB_le {T : List Int} {v : Int} (h : memB T v = true) (hT : ∀ i, i < T.length → 0 ≤ gi T i ∧ gi T i ≤ 4) : v ≤ 4 := by
  rw [memB, List.any_eq_true] at h
  obtain ⟨d, hd, e⟩ := h
  obtain ⟨i, hi, rfl⟩ := List.mem_iff_getElem.1 hd
  have := hT i hi
  have e2 : gi T i = T[i] := by simp [gi, List.getElem?_eq_getElem hi]
  simp at e
  omega
theorem gi_take {L : List Int} {k i : Nat} (hi : i < k) : gi (L.take k) i = gi L i := by simp [gi, List.getElem?_take, hi]
theorem okV_lt {L : List Int} {i v : Nat} (h : ¬ gi L i < (v : Int)) : okV L i v = false := by simp [okV, h]
set_option maxHeartbeats 2000000 in
theorem l01Next_any (w : World) (B n : Nat) (L : List Int) (A : Option Addr) (cap : Nat) (F : List Nat) (h : Own (shI .i64) B w L (.slice A L.length cap) F) (hl : L.length ≤ 5) (hn : n ≤ 5) (hv : vsB L = true) (hch : chainB n L = true) :
    Calls Tryz.prog 200 #[.slice A L.length cap, .int .i64 n] w fun e w' => e = .returned (.bool (nxI n L L.length).isSome) ∧ Own (shI .i64) B w' (nextL n L) (.slice A L.length cap) F ∧ Chg F w w' := by
  have HO := Lib.hid h
  have HV := Lib.hid hv
  have HC := Lib.hid hch
  have hcap : L.length ≤ cap ∧ cap ≤ maxLen := by
    obtain ⟨_, _, he, h1, h2⟩ := formI h.lst
    injection he with _ _ he
    rw [he]; exact ⟨h1, h2⟩
  obtain ⟨hcap, hm⟩ := hcap
  unfold maxLen at hm
  clear h hv hch
  go_enter Tryz.func200, Tryz.ntmps200
  go_wp2_with fail
  go_loopw [6] (fun i wr => ∃ (k : Nat), k ≤ L.length ∧ i = .int .i64 ((k : Int) - 1) ∧ Hid (nxI n L L.length = nxI n L k) ∧ Below w.heap.size w wr) (fun i _ => (intOf i + 1).toNat)
  case atStart => exact ⟨L.length, Nat.le_refl _, by go_num, Lib.hid rfl, belA⟩
  case round =>
    obtain ⟨k, hk, rfl, hN, hB⟩ := hrel
    have hz := hB.size
    by_cases hlt : 0 < k
    · obtain ⟨i, rfl⟩ : ∃ i, k = i + 1 := ⟨k - 1, by omega⟩
      have e1 : ((i + 1 : Nat) : Int) - 1 = (i : Int) := by omega
      rw [e1]
      obtain ⟨g, rfl⟩ : ∃ g, A = some ⟨g, 0, none⟩ := by
        obtain ⟨A2, c2, hv2, _, _, h4⟩ := own_flat (flat_int .i64) HO.out
        rcases h4 with ⟨hx, _⟩ | ⟨g', _, _, h5, _⟩
        · rw [hx] at hk; simp at hk
        · injection hv2 with h6; exact ⟨g', h6.trans h5⟩
      have hi : i < L.length := by omega
      have hel : ∀ j, j < L.length → w.cell? ⟨g, j, none⟩ = some (.int .i64 (gi L j)) := by
        obtain ⟨A2, c2, hv2, _, _, hel⟩ := lstI HO.out.lst
        obtain ⟨bl, off, e4, hel⟩ := hel (by omega)
        injection hv2 with e5
        rw [← e5] at e4
        injection e4 with e4
        injection e4 with e4 e6
        subst e4; subst e6
        intro j hj
        simpa using hel j hj
      have c0 := bkeep hB (hel i hi)
      have hgi := vsB_of HV.out hi
      have hF : Hid (F = [g]) := Lib.hid (ownI_form HO.out (by omega)).1
      have hi8 : (i : Int) < (L.length : Int) := by omega
      clear hel
      go_wp2_with fail
      obtain ⟨W0, rfl⟩ : ∃ x, x = wr := ⟨_, rfl⟩
      have HB := Lib.hid hB
      go_loopw [7] (fun x wr => ∃ (u : Nat), u ≤ 5 ∧ x = .int .i64 u ∧ Hid (∀ y, y < u → y < n → okV L i y = false) ∧ Hid (gi L i < (u : Int)) ∧ Below w.heap.size w wr) (fun x _ => 6 - (intOf x).toNat)
      case atStart => exact ⟨(gi L i + 1).toNat, by omega, by rw [show (((gi L i + 1).toNat : Nat) : Int) = gi L i + 1 by omega], Lib.hid (fun y hy _ => okV_lt (by omega)), Lib.hid (by omega), hB⟩
      case round =>
        clear hB hz c0
        obtain ⟨u, hu5, rfl, hS, hgu, hB⟩ := hrel
        have hz := hB.size
        by_cases hun : u < n
        · have hun' : (u : Int) < (n : Int) := by omega
          cases hm1 : memB (L.take i) u
          · have hok : okV L i u = true := by simp [okV, hgu.out, hm1]
            have hres : nxI n L L.length = some (i, u) := by
              rw [hN.out]
              simp only [nxI]
              rw [nxV_at hun hok (fun y hy => hS.out y hy (by omega))]
            have HRES := Lib.hid hres
            have hch2 : ∀ t, t < L.length - i → vsB (fillN (L.set i u) i t) = true := by
              have := HC.out
              unfold chainB at this
              rw [hres] at this
              simpa using this
            have HCH := Lib.hid hch2
            clear hres hch2 hok hN HC hS hgu
            go_wp2_with fail
            refine Calls.mono (l01Among_any _ (L.take i) _ _ ((lst_take HO.out.lst (by omega)).below hB) (by rw [take_len (by omega)]; omega)) ?_
            rw [hm1]
            rintro e w1 ⟨rfl, hb⟩
            have hB1 := hB.trans (hb.mono hz)
            have HO1 := HO.out.below (Nat.le_refl _) hB1
            obtain ⟨⟨v0, s0⟩, f0, hput⟩ := own_setI HO1 hi (okN (n := u) (by omega))
            have hput := Lib.hid hput
            have hg1 : g < w.heap.size := by have := HO.out.lt g (by rw [hF.out]; simp); exact this
            have HB1 := Lib.hid hB1
            have hgw : g < w1.heap.size := by have := hb.size; omega
            clear hb HO1 hB1 hB
            go_wp2_with fail
            go_loopw [8] (fun x wr => ∃ (t : Nat), t + i + 1 ≤ L.length ∧ x = .int .i64 ((i + 1 + t : Nat) : Int) ∧ Hid (Own (shI .i64) B wr (fillN (L.set i u) i t) (.slice (some ⟨g, 0, none⟩) L.length cap) F) ∧ Hid (Chg F w wr)) (fun x _ => L.length - (intOf x).toNat)
            case atStart => exact ⟨0, by omega, by go_num, Lib.hid hput.out, Lib.hid ((Chg.of HB1.out F).set (by rw [hF.out]; simp) _)⟩
            case round =>
              obtain ⟨t, ht, rfl, hO, hCh⟩ := hrel
              clear hput
              have hzr := hCh.out.size
              by_cases hmt : i + 1 + t < L.length
              · have hmt' : ((i + 1 + t : Nat) : Int) < (L.length : Int) := by omega
                have hm8 : ((i + 1 + t : Nat) : Int) < 9223372036854775807 := by omega
                have hlen : (fillN (L.set i u) i t).length = L.length := by rw [fillN_len, List.length_set]
                have hT : Hid (∀ j, j < ((fillN (L.set i u) i t).take (i + 1 + t)).length → 0 ≤ gi ((fillN (L.set i u) i t).take (i + 1 + t)) j ∧ gi ((fillN (L.set i u) i t).take (i + 1 + t)) j ≤ 4) := Lib.hid (fun j hj => by
                  rw [List.length_take] at hj
                  rw [gi_take (by omega)]
                  exact vsB_of (HCH.out t (by omega)) (by omega))
                generalize hq : i + 1 + t = q at *
                go_wp2_with fail
                obtain ⟨W1, rfl⟩ : ∃ x, x = wr := ⟨_, rfl⟩
                go_loopw [9] (fun x wr => ∃ (y : Nat), y ≤ 5 ∧ x = .int .i64 y ∧ Hid (∀ z : Nat, z < y → memB ((fillN (L.set i u) i t).take q) z = true) ∧ Hid (Own (shI .i64) B wr (fillN (L.set i u) i t) (.slice (some ⟨g, 0, none⟩) L.length cap) F) ∧ Hid (Chg F w wr)) (fun x _ => 6 - (intOf x).toNat)
                case atStart => exact ⟨0, by omega, rfl, Lib.hid (fun z hz => absurd hz (Nat.not_lt_zero z)), hO, hCh⟩
                case round =>
                  clear hO hCh hzr
                  obtain ⟨y, hy, rfl, hY, hO, hCh⟩ := hrel
                  have hzr := hCh.out.size
                  cases hm2 : memB ((fillN (L.set i u) i t).take q) y
                  · go_wp2_with fail
                    refine Calls.mono (l01Among_any _ ((fillN (L.set i u) i t).take q) _ _ (lst_take' hO.out.lst hlen (by omega)) (by rw [take_len (by omega)]; omega)) ?_
                    rw [hm2]
                    rintro e w2 ⟨rfl, hb⟩
                    have hO2 := hO.out.below (Nat.le_refl _) hb
                    have hCh2 := hCh.out.trans (Chg.of hb F)
                    have hlw : leastW ((fillN (L.set i u) i t).take q) = y := leastW_at (by omega) hm2 hY.out
                    have hgw2 : g < w2.heap.size := by have := hO2.lt g (by rw [hF.out]; simp); exact this
                    obtain ⟨⟨v1, s1⟩, f1, hput⟩ := own_setI' hO2 hlen (by omega : q < L.length) (okN (n := y) (by omega))
                    have hput := Lib.hid hput
                    have hCh2 := Lib.hid hCh2
                    have hlw := Lib.hid hlw
                    clear hO2 hb hO hCh
                    go_wp2_with fail
                    go_roundw
                    case rel =>
                      refine ⟨t + 1, by omega, by rw [show i + 1 + (t + 1) = q + 1 by omega]; go_num, Lib.hid ?_, Lib.hid (hCh2.out.set (by rw [hF.out]; simp) _)⟩
                      have := hput.out
                      simp only [fillN]
                      rw [hq, hlw.out]
                      exact this
                    case measure => simp [intOf]; omega
                  · have hy4 := memB_le hm2 hT.out
                    go_wp2_with fail
                    refine Calls.mono (l01Among_any _ ((fillN (L.set i u) i t).take q) _ _ (lst_take' hO.out.lst hlen (by omega)) (by rw [take_len (by omega)]; omega)) ?_
                    rw [hm2]
                    rintro e w2 ⟨rfl, hb⟩
                    have hO2 := Lib.hid (hO.out.below (Nat.le_refl _) hb)
                    have hCh2 := Lib.hid (hCh.out.trans (Chg.of hb F))
                    clear hb hO hCh
                    go_wp2_with fail
                    go_roundw
                    case rel =>
                      refine ⟨y + 1, by omega, by go_num, Lib.hid fun z hz => ?_, hO2, hCh2⟩
                      rcases Nat.lt_or_ge z y with h1 | h1
                      · exact hY.out z h1
                      · have : z = y := by omega
                        subst this
                        exact hm2
                    case measure => simp [intOf]; omega
              · have e : t = L.length - (i + 1) := by omega
                have hr2 : nextL n L = fillN (L.set i u) i t := by unfold nextL; rw [HRES.out, e]
                have HR2 := Lib.hid hr2
                clear hr2
                go_wp2_with fail
                refine bodyPost_ret (v := .bool true) (by simp [results, Tryz.results200, go_sem]) rfl ⟨by rw [HRES.out]; rfl, ?_, hCh.out⟩
                rw [HR2.out]
                exact hO.out
          · have hok : okV L i u = false := by simp [okV, hm1]
            go_wp2_with fail
            refine Calls.mono (l01Among_any _ (L.take i) _ _ ((lst_take HO.out.lst (by omega)).below hB) (by rw [take_len (by omega)]; omega)) ?_
            rw [hm1]
            rintro e w1 ⟨rfl, hb⟩
            have hB1 := hB.trans (hb.mono hz)
            clear hb
            go_wp2_with fail
            go_roundw
            case rel =>
              refine ⟨u + 1, by omega, by go_num, Lib.hid fun y hy hy2 => ?_, Lib.hid (by have := hgu.out; omega), hB1⟩
              rcases Nat.lt_or_ge y u with h1 | h1
              · exact hS.out y h1 hy2
              · have : y = u := by omega
                subst this
                exact hok
            case measure => simp [intOf]; omega
        · have hun' : ¬ (u : Int) < (n : Int) := by omega
          have hnone : nxV n L i = none := nxV_none fun y hy => hS.out y (by omega) hy
          go_wp2_with fail
          go_roundw
          case rel =>
            refine ⟨i, by omega, rfl, Lib.hid ?_, hB⟩
            rw [hN.out]
            simp only [nxI]
            rw [hnone]
          case measure => simp [intOf] <;> omega
    · have e : k = 0 := by omega
      subst e
      have hr : nxI n L L.length = none := hN.out
      have hr2 : nextL n L = L := by unfold nextL; rw [hr]
      have HR := Lib.hid hr
      have HR2 := Lib.hid hr2
      clear hr hr2 hN
      go_wp2_with fail
      refine bodyPost_ret (v := .bool false) (by simp [results, Tryz.results200, go_sem]) rfl ⟨by rw [HR.out]; rfl, ?_, ?_⟩
      · rw [HR2.out]; exact HO.out.below (Nat.le_refl _) hB
      · exact Chg.of hB _
end Go.Proofs.YtekchdgpaemofaaGreat

/- impl.listed: all lists of different numbers behind a list, handed on until one is enough. -/
namespace Go.Proofs.YtekchdgpaemofaaGreat
open Go.ChangeShapes Go.WideShapes Go.RowKit
set_option linter.unusedVariables false
set_option linter.unusedSimpArgs false
attribute [local irreducible] Calls
theorem wp_append_full {P : Program} (w : World) {o : Oper} {a : Act} {K : Act → World → Prop} {Q : Exit → Act → World → Prop} (s x : Operand) (t : TypeId) (hop : o.op = Op.call { callee := Callee.builtin Builtin.append, args := #[s, x], argTypes := #[t, t] })
    (e : TypeId) (i : TypeInfo) (z : Value) (size bytes : Nat) (h1 : P.underlying t = some (.slice e)) (h2 : P.info? e = some i) (h3 : i.zero = some z) (h4 : i.size = size) (h5 : i.bytes = bytes) (h6 : z.cells.size = size) (h7 : 0 < size)
    (ao : Option Addr) (n cap : Nat) (olds : List Value) (hs : a.eval s = .slice ao n cap) (hnone : ao = none → n = 0 ∧ cap = 0) (hlo : olds.length = n * size) (holds : ∀ b, ao = some b → ∀ j u, olds[j]? = some u → w.cell? (b.add j) = some u)
    (ad : Addr) (m c : Nat) (news : List Value) (hx : a.eval x = .slice (some ad) m c) (hn : news.length = m * size) (hc : ∀ j u, news[j]? = some u → w.cell? (ad.add j) = some u) (h1c : ∀ u ∈ news, u.oneCell' = true)
    (hm : 0 < m) (hfull : cap < n + m) (b1 : n + m ≤ maxLen) (b2 : (n + m) * bytes ≤ 140737488355328)
    (hK : ∀ g cap' w', w'.ownsRow w.heap.size e size (.slice (some ⟨g, 0, none⟩) (n + m) cap') (n + m) (olds ++ news) → w.grownBy w' none → K (a.put o.dst (.slice (some ⟨g, 0, none⟩) (n + m) cap')) w') : o.wp P a w K Q := by
  have key : ∃ v' w', (Builtin.append_ #[t, t] o.type #[.slice ao n cap, .slice (some ad) m c]).run P w = .ok v' w' ∧ w'.ownsRow w.heap.size e size v' (n + m) (olds ++ news) ∧ w.grownBy w' none := by
    cases ao with
    | some b => exact run_append_arg_grows (P := P) w t o.type e i z size bytes h1 h2 h3 h4 h5 h6 h7 b n cap olds hlo (holds b rfl) ad m c news hn hc hfull b1 b2
    | none =>
      obtain ⟨rfl, rfl⟩ := hnone rfl
      obtain rfl : olds = [] := List.eq_nil_of_length_eq_zero (by simpa using hlo)
      obtain ⟨v', w', hr, r1, r2, _⟩ := run_append_own (P := P) w w.heap.size t o.type e i z size bytes h1 h2 h3 h4 h5 h6 h7 (.slice none 0 0) 0 [] (World.ownsRow_nil w _ e size) ad m c news hn hc h1c b1 b2 (Nat.le_refl _)
      exact ⟨v', w', hr, r1, r2⟩
  obtain ⟨v', w', hr, r1, r2⟩ := key
  obtain ⟨g, cap', rfl, _, _⟩ := r1.form (by omega)
  unfold Oper.wp execOp
  simp only [hop, resolve, invoke, builtin, Sem.run_bind, Sem.run_pure, Result.andThen_ok, List.map_toArray, List.map_cons, List.map_nil, hs, hx, hr]
  exact hK g cap' w' r1 r2
theorem wpList_append_full {P : Program} (w : World) {ops : Array Oper} {rest : List Oper} {o : Oper} {a : Act} {Q : Exit → Act → World → Prop} (hgd : Region.wanted o (yielded ops a.tmps) = true) (s x : Operand) (t : TypeId) (hop : o.op = Op.call { callee := Callee.builtin Builtin.append, args := #[s, x], argTypes := #[t, t] })
    (e : TypeId) (i : TypeInfo) (z : Value) (size bytes : Nat) (h1 : P.underlying t = some (.slice e)) (h2 : P.info? e = some i) (h3 : i.zero = some z) (h4 : i.size = size) (h5 : i.bytes = bytes) (h6 : z.cells.size = size) (h7 : 0 < size)
    (ao : Option Addr) (n cap : Nat) (olds : List Value) (hs : a.eval s = .slice ao n cap) (hnone : ao = none → n = 0 ∧ cap = 0) (hlo : olds.length = n * size) (holds : ∀ b, ao = some b → ∀ j u, olds[j]? = some u → w.cell? (b.add j) = some u)
    (ad : Addr) (m c : Nat) (news : List Value) (hx : a.eval x = .slice (some ad) m c) (hn : news.length = m * size) (hc : ∀ j u, news[j]? = some u → w.cell? (ad.add j) = some u) (h1c : ∀ u ∈ news, u.oneCell' = true)
    (hm : 0 < m) (hfull : cap < n + m) (b1 : n + m ≤ maxLen) (b2 : (n + m) * bytes ≤ 140737488355328)
    (hK : ∀ g cap' w', w'.ownsRow w.heap.size e size (.slice (some ⟨g, 0, none⟩) (n + m) cap') (n + m) (olds ++ news) → w.grownBy w' none → wpList P ops Q rest (a.put o.dst (.slice (some ⟨g, 0, none⟩) (n + m) cap')) w') : wpList P ops Q (o :: rest) a w :=
  wpList_step fun K hK' => by rw [if_pos hgd]; exact wp_append_full w s x t hop e i z size bytes h1 h2 h3 h4 h5 h6 h7 ao n cap olds hs hnone hlo holds ad m c news hx hn hc h1c hm hfull b1 b2 fun g c' w' p q => hK' _ _ (hK g c' w' p q)
theorem idxI64_any (w : World) (L : List Int) (v : Value) (x : Int) (h : Lst (shI .i64) w L v) (hl : L.length ≤ 100) : Calls Tryz.prog 273 #[v, .int .i64 x] w fun e w' => e = .returned (.int .i64 (idxI (fun d => d == x) L)) ∧ Below w.heap.size w w' := by
  obtain ⟨A, cap, rfl, hc, hm, hel⟩ := lstI h
  have H1 := Lib.hid hel
  clear hel h
  unfold maxLen at hm
  go_enter Tryz.func273, Tryz.ntmps273
  go_wp2_with fail
  go_loopw [8] (fun i wr => ∃ (k : Nat), k ≤ L.length ∧ i = .int .i64 k ∧ Hid (∀ a ∈ L.take k, (a == x) = false) ∧ Below w.heap.size w wr) (fun i _ => L.length - (intOf i).toNat)
  case atStart => exact ⟨0, Nat.zero_le _, rfl, Lib.hid (by simp), belA⟩
  case round =>
    obtain ⟨k, hk, rfl, hS, hB⟩ := hrel
    by_cases hlt : k < L.length
    · have hk8 : (k : Int) < 9223372036854775807 := by omega
      obtain ⟨bl, off, rfl, hel⟩ := H1.out (by omega)
      have c0 := bkeep hB (hel k hlt)
      have hd : Hid (L[k]? = some (gi L k)) := Lib.hid (by simp [gi, List.getElem?_eq_getElem hlt])
      clear hel
      by_cases hx : gi L k = x
      · have hr : idxI (fun d => d == x) L = k := idxI_at hS.out hd.out (by simp [hx])
        have hx1 : (x == gi L k) = true := by simp [hx]
        have HR := Lib.hid hr
        clear hr hx
        go_wp2_with fail
        exact bodyPost_ret (v := .int .i64 k) (by simp [results, Tryz.results273, go_sem]) rfl ⟨by rw [HR.out], belA⟩
      · have hx1 : (x == gi L k) = false := by simp; exact fun h => hx h.symm
        have HX : Hid ((gi L k == x) = false) := Lib.hid (by simpa using hx)
        clear hx
        go_wp2_with fail
        go_roundw
        case rel => exact ⟨k + 1, by omega, by go_num, Lib.hid (mem_take_succ hS.out hd.out HX.out), belA⟩
        case measure => simp [intOf]; omega
    · have e : k = L.length := by omega
      have hr : idxI (fun d => d == x) L = -1 := idxI_none (by have := hS.out; rw [e, List.take_length] at this; exact this)
      have HR := Lib.hid hr
      clear hr
      go_wp2_with fail
      exact bodyPost_ret (v := .int .i64 (-1)) (by simp [results, Tryz.results273, go_sem]) rfl ⟨by rw [HR.out], belA⟩
theorem hasI_any (w : World) (L : List Int) (v : Value) (x : Int) (h : Lst (shI .i64) w L v) (hl : L.length ≤ 100) : Calls Tryz.prog 231 #[v, .int .i64 x] w fun e w' => e = .returned (.bool (memB L x)) ∧ Below w.heap.size w w' := by
  obtain ⟨h1, h2, h3⟩ := idxI_any (fun d => d == x) L
  have H1 := Lib.hid h1
  clear h1
  go_enter Tryz.func231, Tryz.ntmps231
  go_wp2_with (first | (go_at_call 273; refine Calls.mono (idxI64_any _ L v x (h.below belA) hl) ?_; rintro e w1 ⟨rfl, hb⟩; obtain ⟨X, m, rfl⟩ := plsOf hb; clear hb))
  exact bodyPost_ret (v := .bool (decide (0 ≤ idxI (fun d => d == x) L))) (by simp [results, Tryz.results231, go_sem]) rfl ⟨by rw [H1.out]; rfl, belA⟩
theorem clip_any (w : World) (A : Option Addr) (n cap : Nat) (hc : n ≤ cap) (hm : cap ≤ maxLen) (h0 : A = none → cap = 0) : Calls Tryz.prog 270 #[.slice A n cap] w fun e w' => e = .returned (.slice A n n) ∧ w = w' := by
  unfold maxLen at hm
  go_enter Tryz.func270, Tryz.ntmps270
  go_wp2_with fail
  go_ret
  exact ⟨rfl, rfl⟩
def lsts (n : Nat) : Nat → List Int → List (List Int)
  | 0, L => [L]
  | d + 1, L => (List.range n).flatMap fun (i : Nat) => if memB L i then [] else lsts n d (L ++ [(i : Int)])
def handed {σ : Type} (stop : List Int → Bool) (step : σ → List Int → σ) : List (List Int) → σ → Bool × σ
  | [], s => (false, s)
  | L :: r, s => if stop L then (true, step s L) else handed stop step r (step s L)
theorem handed_append {σ : Type} (stop : List Int → Bool) (step : σ → List Int → σ) (xs ys : List (List Int)) (s : σ) : handed stop step (xs ++ ys) s = if (handed stop step xs s).1 then handed stop step xs s else handed stop step ys (handed stop step xs s).2 := by
  induction xs generalizing s with
  | nil => rfl
  | cons x xs ih =>
    simp only [List.cons_append, handed]
    split
    · rfl
    · exact ih _
structure Hands (f : FuncId) (caps : Array Value) (B : Nat) (F : List Nat) {σ : Type} (I : σ → World → Prop) (stop : List Int → Bool) (step : σ → List Int → σ) (ok : List Int → Prop) : Prop where
  enters : ∀ args w, (callFunc f args).run Tryz.prog w = .ok (.enter f args) w
  keep : ∀ s W W', I s W → Below W.heap.size W W' → I s W'
  call : ∀ s W L v, ok L → I s W → B ≤ W.heap.size → Lst (shI .i64) W L v → Calls Tryz.prog f (#[v] ++ caps) W fun e W' => e = .returned (.bool (stop L)) ∧ I (step s L) W' ∧ Chg F W W'
  lt : ∀ b ∈ F, b < B
theorem AppI.chg {B : Nat} {F : List Nat} {w w' : World} {v : Value} {L : List Int} (h : AppI B w v L) (hF : ∀ b ∈ F, b < B) (hc : Chg F w w') : AppI B w' v L :=
  h.move fun b hb hl => hc.2.2.2.2 b hl fun hm => by have := hF b hm; omega
theorem AppI.isNone {B : Nat} {w : World} {n cap : Nat} {L : List Int} (h : AppI B w (.slice none n cap) L) : n = 0 ∧ cap = 0 := by
  rcases h.1.2 with ⟨h2, h1⟩ | ⟨g, c, cur, hv, _⟩
  · injection h2 with _ e2 e3; exact ⟨e2, e3⟩
  · injection hv with e1; cases e1
theorem AppI.olds {B : Nat} {w : World} {A : Option Addr} {n cap : Nat} {L : List Int} (h : AppI B w (.slice A n cap) L) : ∀ b, A = some b → ∀ j u, (L.map fun d => Value.int .i64 d)[j]? = some u → w.cell? (b.add j) = some u := by
  rintro b rfl
  rcases h.1.2 with ⟨h2, h1⟩ | ⟨g, c, cur, hv, _⟩
  · injection h2 with e1; cases e1
  · injection hv with e1 e2 e3
    injection e1 with e1
    subst e1
    exact h.1.cells (g := g) rfl
theorem lsts_succ (n d : Nat) (L : List Int) : lsts n (d + 1) L = (List.range n).flatMap fun (i : Nat) => if memB L i then [] else lsts n d (L ++ [(i : Int)]) := rfl
def lstsTo (n d : Nat) (L : List Int) (k : Nat) : List (List Int) := (List.range k).flatMap fun (i : Nat) => if memB L i then [] else lsts n d (L ++ [(i : Int)])
theorem lstsTo_succ (n d : Nat) (L : List Int) (k : Nat) : lstsTo n d L (k + 1) = lstsTo n d L k ++ (if memB L k then [] else lsts n d (L ++ [(k : Int)])) := by
  unfold lstsTo
  rw [List.range_succ, List.flatMap_append]
  simp
theorem lsts_to (n d : Nat) (L : List Int) : lsts n (d + 1) L = lstsTo n d L n := rfl
theorem lstsTo_pre (n d : Nat) (L : List Int) {k : Nat} (h : k ≤ n) : ∃ R, lstsTo n d L n = lstsTo n d L k ++ R := by
  obtain ⟨r, rfl⟩ : ∃ r, n = k + r := ⟨n - k, by omega⟩
  unfold lstsTo
  rw [List.range_add, List.flatMap_append]
  exact ⟨_, rfl⟩
theorem handed_true {σ : Type} (stop : List Int → Bool) (step : σ → List Int → σ) {n d : Nat} {L : List Int} {s : σ} {k : Nat} (hk : k < n) (hf : (handed stop step (lstsTo n d L k) s).1 = false) (hm : memB L k = false)
    (ht : (handed stop step (lsts n d (L ++ [(k : Int)])) (handed stop step (lstsTo n d L k) s).2).1 = true) :
    handed stop step (lsts n (d + 1) L) s = (true, (handed stop step (lsts n d (L ++ [(k : Int)])) (handed stop step (lstsTo n d L k) s).2).2) := by
  obtain ⟨R, hR⟩ := lstsTo_pre n d L (k := k + 1) hk
  rw [lsts_to, hR, lstsTo_succ, hm, handed_append, handed_append, hf]
  simp only [Bool.false_eq_true, if_false]
  rw [ht, if_pos rfl]
  exact Prod.ext ht rfl
theorem handed_false {σ : Type} (stop : List Int → Bool) (step : σ → List Int → σ) {n d : Nat} {L : List Int} {s : σ} {k : Nat} (hf : (handed stop step (lstsTo n d L k) s).1 = false) (hm : memB L k = false) :
    handed stop step (lstsTo n d L (k + 1)) s = handed stop step (lsts n d (L ++ [(k : Int)])) (handed stop step (lstsTo n d L k) s).2 := by
  rw [lstsTo_succ, hm, handed_append, hf]
  simp
theorem handed_skip {σ : Type} (stop : List Int → Bool) (step : σ → List Int → σ) {n d : Nat} {L : List Int} {s : σ} {k : Nat} (hm : memB L k = true) : handed stop step (lstsTo n d L (k + 1)) s = handed stop step (lstsTo n d L k) s := by
  rw [lstsTo_succ, hm]
  simp
theorem AppI.grow {B B' : Nat} {w w1 : World} {v : Value} {L : List Int} {d : Int} (h : AppI B w v L) (hd : okI .i64 d) {g cap : Nat} (ho : w1.ownsRow B' 2 1 (.slice (some ⟨g, 0, none⟩) (L.length + 1) cap) (L.length + 1) (L.map (fun d => .int .i64 d) ++ [.int .i64 d])) (hB : B ≤ B') :
    AppI B w1 (.slice (some ⟨g, 0, none⟩) (L.length + 1) cap) (L ++ [d]) := by
  refine AppI.mono (B := B') ⟨by rw [List.length_append, List.map_append]; exact ho, fun a ha => ?_⟩ hB
  rcases List.mem_append.1 ha with ha | ha
  · exact h.2 a ha
  · simp at ha; subst ha; exact hd
def HRet {σ : Type} (F : List Nat) (I : σ → World → Prop) (w : World) (r : Bool × σ) (e : Ending) (w' : World) : Prop := e = .returned (.bool r.1) ∧ I r.2 w' ∧ Chg F w w'
set_option maxHeartbeats 1000000 in
set_option maxRecDepth 100000 in
theorem listed_any {σ : Type} {f : FuncId} {caps : Array Value} {B : Nat} {F : List Nat} {I : σ → World → Prop} {stop : List Int → Bool} {step : σ → List Int → σ} {ok : List Int → Prop} (H : Hands f caps B F I stop step ok) (n many : Nat) (hn : n ≤ 100) (hm : many ≤ 100) :
    ∀ (d : Nat) (L : List Int) (w : World) (v : Value) (s : σ), L.length + d = many → AppI B w v L → B ≤ w.heap.size → I s w → (∀ L' ∈ lsts n d L, ok L') →
      Calls Tryz.prog 245 #[.int .i64 n, .int .i64 many, v, .func (.func f) #[] caps] w (HRet F I w (handed stop step (lsts n d L) s)) := by
  obtain ⟨i1, z1, hi1, hz1, hs1, hb1, hl1⟩ := infoB_spec (P := Tryz.prog) (e := 2) (sz := 1) (bytes := 8) (by kernel_rfl)
  have I1 := Lib.hid hi1
  have Z1 := Lib.hid hz1
  clear hi1 hz1
  have HH := Lib.hid H
  have eg := H.enters
  clear H
  intro d
  induction d with
  | zero =>
    intro L w v s hl hA hB hI hok
    obtain ⟨A, cap, rfl⟩ := hA.form
    have hl' : ((L.length : Int) == (many : Int)) = true := by simp; omega
    have HL := Lib.hid hA.lst
    have HI := Lib.hid hI
    have HO := Lib.hid (hok L (by simp [lsts]))
    clear hA hI hok hl
    have hd : Hid (handed stop step (lsts n 0 L) s = (stop L, step s L)) := Lib.hid (by simp only [lsts, handed]; cases stop L <;> rfl)
    rw [hd.out]
    go_enter Tryz.func245, Tryz.ntmps245
    go_wp2_with fail
    refine Calls.mono (HH.out.call s w L _ HO.out HI.out hB HL.out) ?_
    rintro e w1 ⟨rfl, hI1, hC1⟩
    have hI1 := Lib.hid hI1
    have hC1 := Lib.hid hC1
    go_wp2_with fail
    exact bodyPost_ret (v := .bool (stop L)) (by simp [results, Tryz.results245, go_sem]) rfl ⟨rfl, hI1.out, hC1.out⟩
  | succ d ih =>
    intro L w v s hl hA hB hI hok
    have IH := Lib.hid ih
    clear ih
    obtain ⟨A, cap, rfl⟩ := hA.form
    obtain ⟨A', cap', hv, hcap, hmx⟩ := formI hA.lst
    injection hv with e1 e2 e3
    subst e3
    have hl' : ((L.length : Int) == (many : Int)) = false := by simp; omega
    have HA := Lib.hid hA
    have HI := Lib.hid hI
    have HO := Lib.hid hok
    clear hA hI hok
    have hlen := Lib.hid hl
    have hL100 : L.length ≤ 100 := by omega
    clear hl e1
    go_enter Tryz.func245, Tryz.ntmps245
    go_wp2_with fail
    go_loopw [18] (fun i wr => ∃ (k : Nat), k ≤ n ∧ i = .int .i64 k ∧ Hid ((handed stop step (lstsTo n d L k) s).1 = false) ∧ Hid (I (handed stop step (lstsTo n d L k) s).2 wr) ∧ Hid (Chg F w wr)) (fun i _ => n - (intOf i).toNat)
    case atStart => exact ⟨0, Nat.zero_le _, rfl, Lib.hid rfl, HI, Lib.hid (Chg.refl _ _)⟩
    case round =>
      obtain ⟨k, hk, rfl, hf, hI1, hC⟩ := hrel
      have hA1 := Lib.hid (HA.out.chg HH.out.lt hC.out)
      have hB1 : B ≤ wr.heap.size := Nat.le_trans hB hC.out.2.2.2.1
      by_cases hlt : k < n
      · have hk8 : (k : Int) < 9223372036854775807 := by omega
        cases hmb : memB L k
        · have HM := Lib.hid hmb
          clear hmb
          cases hr : (handed stop step (lsts n d (L ++ [(k : Int)])) (handed stop step (lstsTo n d L k) s).2).1
          · have HR := Lib.hid hr
            have HF := Lib.hid (handed_false stop step hf.out HM.out)
            clear hr
            go_wp2_with (first | (go_at_call 231; refine Calls.mono (hasI_any _ L _ k hA1.out.lst hL100) ?_; rw [HM.out]; rintro e w1 ⟨rfl, hb⟩; obtain ⟨X, m, rfl⟩ := plsOf hb; clear hb) | (go_at_call 270; refine Calls.mono (clip_any _ A L.length cap hcap hmx (fun h => by have := hA1.out; rw [h] at this; exact this.isNone.2)) ?_; rintro e w1 ⟨rfl, rfl⟩) | (at_builtin; refine wpList_append_full _ (by simp [Region.wanted, yielded]) (.tmp 29) (.tmp 31) 168 rfl 2 i1 z1 1 8 Tryz.underlying168 I1.out Z1.out hs1 hb1 hl1 (by decide) A L.length L.length (L.map fun d => .int .i64 d) rfl (fun h => by have := hA1.out; rw [h] at this; have := this.isNone.1; omega) (by simp) (hA1.out.below ((bal (bpl (Below.refl _ _) _ _) _))).olds ⟨wr.heap.size + X.size, 0, none⟩ 1 1 [.int .i64 k] rfl rfl (World.news_of_block (blknew' _ _ _ (by simp))) (by simp [Value.oneCell']) (by decide) (by omega) (by unfold maxLen; omega) (by omega) ?_; intro g1 cap1 w2 hown hgrow; have hb2 : Below wr.heap.size wr w2 := (bal (bpl (Below.refl _ _) X m) _).trans (grown_below (v := .slice none 0 0) hgrow (fun q hq => by cases hq) (by simp; omega)); have hA2 := Lib.hid (hA1.out.grow (okN (n := k) (by omega)) hown (by simp; omega)); have hI2 := Lib.hid (HH.out.keep _ _ _ hI1.out hb2); have hC2 := Lib.hid (hC.out.trans (Chg.of hb2 F)); have hB2 : B ≤ w2.heap.size := Nat.le_trans hB1 hb2.size; clear hown hgrow hb2) | (go_at_call 245; refine Calls.mono (IH.out (L ++ [(k : Int)]) w2 _ _ (by have := hlen.out; simp; omega) hA2.out hB2 hI2.out (fun L' hL' => HO.out L' (by rw [lsts_succ, List.mem_flatMap]; exact ⟨k, by simpa using hlt, by rw [HM.out]; exact hL'⟩))) ?_; rintro e w3 ⟨he, hI3, hC3⟩; rw [HR.out] at he; subst he; have hI3 := Lib.hid hI3; have hC3 := Lib.hid (hC2.out.trans hC3)))
            go_roundw
            case rel => exact ⟨k + 1, by omega, by go_num, Lib.hid (by rw [HF.out]; exact HR.out), Lib.hid (by rw [HF.out]; exact hI3.out), hC3⟩
            case measure => simp [intOf]; omega
          · have HR := Lib.hid hr
            have HT := Lib.hid (handed_true stop step hlt hf.out HM.out hr)
            clear hr
            go_wp2_with (first | (go_at_call 231; refine Calls.mono (hasI_any _ L _ k hA1.out.lst hL100) ?_; rw [HM.out]; rintro e w1 ⟨rfl, hb⟩; obtain ⟨X, m, rfl⟩ := plsOf hb; clear hb) | (go_at_call 270; refine Calls.mono (clip_any _ A L.length cap hcap hmx (fun h => by have := hA1.out; rw [h] at this; exact this.isNone.2)) ?_; rintro e w1 ⟨rfl, rfl⟩) | (at_builtin; refine wpList_append_full _ (by simp [Region.wanted, yielded]) (.tmp 29) (.tmp 31) 168 rfl 2 i1 z1 1 8 Tryz.underlying168 I1.out Z1.out hs1 hb1 hl1 (by decide) A L.length L.length (L.map fun d => .int .i64 d) rfl (fun h => by have := hA1.out; rw [h] at this; have := this.isNone.1; omega) (by simp) (hA1.out.below ((bal (bpl (Below.refl _ _) _ _) _))).olds ⟨wr.heap.size + X.size, 0, none⟩ 1 1 [.int .i64 k] rfl rfl (World.news_of_block (blknew' _ _ _ (by simp))) (by simp [Value.oneCell']) (by decide) (by omega) (by unfold maxLen; omega) (by omega) ?_; intro g1 cap1 w2 hown hgrow; have hb2 : Below wr.heap.size wr w2 := (bal (bpl (Below.refl _ _) X m) _).trans (grown_below (v := .slice none 0 0) hgrow (fun q hq => by cases hq) (by simp; omega)); have hA2 := Lib.hid (hA1.out.grow (okN (n := k) (by omega)) hown (by simp; omega)); have hI2 := Lib.hid (HH.out.keep _ _ _ hI1.out hb2); have hC2 := Lib.hid (hC.out.trans (Chg.of hb2 F)); have hB2 : B ≤ w2.heap.size := Nat.le_trans hB1 hb2.size; clear hown hgrow hb2) | (go_at_call 245; refine Calls.mono (IH.out (L ++ [(k : Int)]) w2 _ _ (by have := hlen.out; simp; omega) hA2.out hB2 hI2.out (fun L' hL' => HO.out L' (by rw [lsts_succ, List.mem_flatMap]; exact ⟨k, by simpa using hlt, by rw [HM.out]; exact hL'⟩))) ?_; rintro e w3 ⟨he, hI3, hC3⟩; rw [HR.out] at he; subst he; have hI3 := Lib.hid hI3; have hC3 := Lib.hid (hC2.out.trans hC3)))
            refine bodyPost_ret (v := .bool true) (by simp [results, Tryz.results245, go_sem]) rfl ?_
            rw [HT.out]
            exact ⟨rfl, hI3.out, hC3.out⟩
        · have HM := Lib.hid hmb
          have HF := Lib.hid (handed_skip stop step (n := n) (d := d) (s := s) hmb)
          clear hmb
          go_wp2_with (first | (go_at_call 231; refine Calls.mono (hasI_any _ L _ k hA1.out.lst hL100) ?_; rw [HM.out]; rintro e w1 ⟨rfl, hb⟩; obtain ⟨X, m, rfl⟩ := plsOf hb; clear hb))
          go_roundw
          case rel => exact ⟨k + 1, by omega, by go_num, Lib.hid (by rw [HF.out]; exact hf.out), Lib.hid (by rw [HF.out]; exact HH.out.keep _ _ _ hI1.out (bpl (Below.refl _ _) _ _)), Lib.hid (hC.out.trans (Chg.of (bpl (Below.refl _ _) _ _) F))⟩
          case measure => simp [intOf]; omega
      · have e : k = n := by omega
        subst e
        have hd : Hid (handed stop step (lsts k (d + 1) L) s = (false, (handed stop step (lstsTo k d L k) s).2)) := Lib.hid (Prod.ext hf.out rfl)
        go_wp2_with fail
        refine bodyPost_ret (v := .bool false) (by simp [results, Tryz.results245, go_sem]) rfl ?_
        rw [hd.out]
        exact ⟨rfl, hI1.out, hC.out⟩
end Go.Proofs.YtekchdgpaemofaaGreat
