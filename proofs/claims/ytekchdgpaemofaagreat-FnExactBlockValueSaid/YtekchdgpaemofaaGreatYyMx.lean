import Derived.Deep.RegionLaw
import Derived.Test.YtekchdgpaemofaaGreatYyIx
import Derived.Test.YtekchdgpaemofaaGreatYyLi
import Derived.Test.YtekchdgpaemofaaGreatYySli
import Derived.Test.YtekchdgpaemofaaGreatYySl
namespace Go.Proofs.YtekchdgpaemofaaGreat
open Go.ChangeShapes Go.WideShapes Go.ChangeAt Go.RowKit
set_option linter.unusedVariables false
set_option linter.unusedSimpArgs false
attribute [local irreducible] Calls
def at2 (xss : List (List (Int × Int))) (i j : Nat) : Int × Int := ((xss[i]?).getD [])[j]?.getD (0, 0)
def symB (xss : List (List (Int × Int))) : Bool := decide (∀ i, i < xss.length → ∀ j, j < xss.length → at2 xss j i = at2 xss i j)
def badRow (n : Nat) (d : List (Int × Int)) : Bool := (d.length != n) || !listOk d
def matOk (xss : List (List (Int × Int))) : Bool := decide (xss.length ≤ 8) && !anyB (badRow xss.length) xss && symB xss
theorem at2_eq {xss : List (List (Int × Int))} {i j : Nat} {xs : List (Int × Int)} {d : Int × Int} (h : xss[i]? = some xs) (h' : xs[j]? = some d) : at2 xss i j = d := by simp [at2, h, h']
theorem badRow_f {n : Nat} {d : List (Int × Int)} (h : badRow n d = false) : d.length = n ∧ listOk d = true := by simpa [badRow] using h
theorem matRow {w : World} {row : List (Int × Int)} {n b : Nat} {A : Option Addr} {cap : Nat} {vi : Value} (hL : Lst shFr w row vi) (hc : w.cell? ⟨b, 0, none⟩ = some (.slice A n cap)) :
    Calls Tryz.prog 136 #[vi, .pointer (some ⟨b, 0, none⟩)] w fun e w' => e = .returned (.bool (badRow n row)) ∧ Below w.heap.size w w' := by
  obtain ⟨A0, cap0, rfl, hc0, hm0⟩ := formFraction hL
  by_cases hl : row.length = n
  · subst hl
    have hr : badRow row.length row = !listOk row := by simp [badRow]
    have hl1 : ((row.length : Int) != (row.length : Int)) = false := by simp
    go_enter Tryz.func136, Tryz.ntmps136
    go_wp2_with (first | (go_at_call 137; refine Calls.mono (validList_any _ row _ (hL.below belA)) ?_; rintro e w1 ⟨rfl, hb⟩; obtain ⟨X, m, rfl⟩ := plsOf hb; clear hb))
    exact bodyPost_ret (v := .bool (!listOk row)) (by simp [results, Tryz.results136, go_sem]) rfl ⟨by rw [hr], belA⟩
  · have hr : badRow n row = true := by simp [badRow, hl]
    have hl1 : ((row.length : Int) != (n : Int)) = true := by simp; omega
    go_enter Tryz.func136, Tryz.ntmps136
    go_wp2_with (first | (go_at_call 137; refine Calls.mono (validList_any _ row _ (hL.below belA)) ?_; rintro e w1 ⟨rfl, hb⟩; obtain ⟨X, m, rfl⟩ := plsOf hb; clear hb))
    exact bodyPost_ret (v := .bool true) (by simp [results, Tryz.results136, go_sem]) rfl ⟨by rw [hr], belA⟩
theorem ValidMatrix_any (w : World) (xss : List (List (Int × Int))) (v : Value) (h : Lst (shL shFr) w xss v) :
    Calls Tryz.prog 65 #[v] w fun e w' => e = .returned (.bool (matOk xss)) ∧ Below w.heap.size w w' := by
  have eg : ∀ args w, (callFunc 136 args).run Tryz.prog w = .ok (.enter 136 args) w := enters_of Tryz.func136 (by kernel_rfl) rfl
  obtain ⟨A, cap, rfl, hc, hm, hel⟩ := lstFrSS h
  unfold maxLen at hm
  have H1 := Lib.hid hel
  clear hel
  by_cases hl : xss.length ≤ 8
  · have hl' : ((xss.length : Nat) : Int) ≤ 8 := by omega
    cases hb : anyB (badRow xss.length) xss
    · have hr : matOk xss = symB xss := by simp [matOk, hl, hb]
      have HB := Lib.hid (anyB_f hb)
      go_enter Tryz.func65, Tryz.ntmps65
      go_wp2_with (first | (go_at_call 135; refine Calls.mono (hasSS_any _ xss _ 136 #[.pointer (some ⟨w.heap.size, 0, none⟩)] (badRow xss.length) (h.below belA) (by omega) eg (fun W d vi hB hd hL => matRow (A := A) (cap := cap) hL ((bcell hB).1 _ _ (by simp [go_sem]) |>.trans (by simp [go_sem])))) ?_; rintro e w1 ⟨rfl, hb⟩; obtain ⟨X, m, rfl⟩ := plsOf hb; clear hb))
      clear hb hc hm hl'
      go_loopw [17] (fun i wr => ∃ (k : Nat), k ≤ xss.length ∧ i = .int .i64 k ∧ (∀ a, a < k → ∀ b, b < xss.length → at2 xss b a = at2 xss a b) ∧ wr.cell? ⟨w.heap.size, 0, none⟩ = some (.slice A xss.length cap) ∧ Below w.heap.size w wr) (fun i _ => xss.length - (intOf i).toNat)
      case atStart => exact ⟨0, Nat.zero_le _, rfl, fun a ha => absurd ha (Nat.not_lt_zero a), by simp [go_sem], belA⟩
      case round =>
        obtain ⟨k, hk, rfl, hs, cm, hB⟩ := hrel
        have HS := Lib.hid hs
        clear hs
        have zm : w.heap.size < wr.heap.size := World.block_lt_of_cell? _ _ cm
        by_cases hlt : k < xss.length
        · obtain ⟨bl, off, rfl, hel⟩ := H1.out (by omega)
          obtain ⟨xs, vi, hd, hL, c0⟩ := hel k hlt
          replace c0 := bkeep hB c0
          have hL1 := hL.below hB
          clear hL
          obtain ⟨hln, hlo⟩ := badRow_f (HB.out xs (List.mem_of_getElem? hd))
          obtain ⟨A1, cap1, rfl, hc1, hm1, _, hel1⟩ := lstFraction hL1
          unfold maxLen at hm1
          have H3 := Lib.hid hel1
          have H2 := Lib.hid hel
          have HD := Lib.hid hd
          have HL := Lib.hid hln
          have HW := Lib.hid hB
          clear hel hel1 hL1 hlo hd
          have hlt1 : k < xss.length := hlt
          go_wp2
          go_loopw [24] (fun i wq => ∃ (j : Nat), j ≤ xs.length ∧ i = .int .i64 j ∧ (∀ b, b < j → at2 xss b k = at2 xss k b) ∧ Below wr.heap.size wr wq) (fun i _ => xs.length - (intOf i).toNat)
          case atStart => exact ⟨0, Nat.zero_le _, rfl, fun a ha => absurd ha (Nat.not_lt_zero a), belA⟩
          case round =>
            obtain ⟨j, hj, rfl, hs, hB1⟩ := hrel
            have HS1 := Lib.hid hs
            clear hs
            have hB2 := bthen hB hB1
            by_cases hlt2 : j < xs.length
            · obtain ⟨bl1, off1, rfl, hel1⟩ := H3.out (by omega)
              obtain ⟨d, hd, hok, d0, d1⟩ := hel1 j hlt2
              have hj2 : j < xss.length := by omega
              obtain ⟨ys, vj, he, hM, e0⟩ := H2.out j hj2
              obtain ⟨hln', _⟩ := badRow_f (HB.out ys (List.mem_of_getElem? he))
              obtain ⟨A2, cap2, rfl, hc2, hm2, _, hel2⟩ := lstFraction (hM.below HW.out)
              unfold maxLen at hm2
              obtain ⟨bl2, off2, rfl, hel3⟩ := hel2 (by omega)
              have hk2 : k < ys.length := by omega
              obtain ⟨d', hd', hok', e1, e2⟩ := hel3 k hk2
              clear hM hel1 hel2 hel3
              replace e0 := bkeep HW.out e0
              replace e0 := bkeep hB1 e0
              replace d0 := bkeep hB1 d0
              replace d1 := bkeep hB1 d1
              replace e1 := bkeep hB1 e1
              replace e2 := bkeep hB1 e2
              replace cm := bkeep hB1 cm
              have z1 := World.block_lt_of_cell? _ _ cm
              have z2 := World.block_lt_of_cell? _ _ e0
              have z3 := World.block_lt_of_cell? _ _ e1
              simp only at z1 z2 z3
              have q1 := Lib.hid (at2_eq HD.out hd)
              have q2 := Lib.hid (at2_eq he hd')
              clear c0 hd he hd' hln'
              cases hq : eq2 d'.1 d'.2 d.1 d.2
              · have hne : symB xss = false := by
                  rw [symB, decide_eq_false_iff_not]
                  intro hh
                  have := hh k hlt1 j hj2
                  rw [q1.out, q2.out] at this
                  rw [this, eq2_self] at hq
                  cases hq
                go_wp2
                go_region
                go_wp2
                go_ret
                exact ⟨by rw [hr, hne]; rfl, belA⟩
              · have he : Hid (d' = d) := by
                  refine Lib.hid ?_
                  obtain ⟨a, b⟩ := d
                  obtain ⟨a', b'⟩ := d'
                  simp only [eq2, decide_eq_true_eq] at hq
                  simp [hq]
                go_wp2
                go_region
                go_wp2
                go_roundw
                case rel =>
                  refine ⟨j + 1, by omega, by go_num, fun b hb => ?_, belA⟩
                  rcases Nat.lt_or_ge b j with h1 | h1
                  · exact HS1.out b h1
                  · have : b = j := by omega
                    subst this
                    rw [q1.out, q2.out, he.out]
                case measure => simp [intOf]; omega
            · have e : j = xs.length := by omega
              subst e
              go_wp2
              go_roundw
              case rel =>
                refine ⟨k + 1, by omega, by go_num, fun a ha b hb => ?_, bkeep hB1 cm, belA⟩
                rcases Nat.lt_or_ge a k with h1 | h1
                · exact HS.out a h1 b hb
                · have : a = k := by omega
                  subst this
                  exact HS1.out b (by have := HL.out; omega)
              case measure => simp [intOf]; omega
        · have e : k = xss.length := by omega
          subst e
          have he : symB xss = true := by
            rw [symB, decide_eq_true_eq]
            exact HS.out
          go_wp2
          go_ret
          exact ⟨by rw [hr, he]; rfl, belA⟩
    · have hr : matOk xss = false := by simp [matOk, hb]
      go_enter Tryz.func65, Tryz.ntmps65
      go_wp2_with (first | (go_at_call 135; refine Calls.mono (hasSS_any _ xss _ 136 #[.pointer (some ⟨w.heap.size, 0, none⟩)] (badRow xss.length) (h.below belA) (by omega) eg (fun W d vi hB hd hL => matRow (A := A) (cap := cap) hL ((bcell hB).1 _ _ (by simp [go_sem]) |>.trans (by simp [go_sem])))) ?_; rintro e w1 ⟨rfl, hb⟩; obtain ⟨X, m, rfl⟩ := plsOf hb; clear hb))
      any_goals (exfalso; omega)
      exact bodyPost_ret (v := .bool false) (by simp [results, Tryz.results65, go_sem]) rfl ⟨by rw [hr], belA⟩
  · have hl' : 8 < ((xss.length : Nat) : Int) := by omega
    have hr : matOk xss = false := by simp [matOk, hl]
    go_enter Tryz.func65, Tryz.ntmps65
    go_wp2
    exact bodyPost_ret (v := .bool false) (by simp [results, Tryz.results65, go_sem]) rfl ⟨by rw [hr], belA⟩
theorem matOk_len {xss : List (List (Int × Int))} (h : ¬ xss.length ≤ 8) : matOk xss = false := by simp [matOk, h]
theorem matOk_bad {xss : List (List (Int × Int))} {xs : List (Int × Int)} (hm : xs ∈ xss) (h : badRow xss.length xs = true) : matOk xss = false := by
  have : anyB (badRow xss.length) xss = true := by rw [anyB, List.any_eq_true]; exact ⟨xs, hm, h⟩
  simp [matOk, this]
theorem matOk_fr {xss : List (List (Int × Int))} {xs : List (Int × Int)} {d : Int × Int} (hm : xs ∈ xss) (hd : d ∈ xs) (h : frOk d.1 d.2 = false) : matOk xss = false := by
  refine matOk_bad hm ?_
  have : listOk xs = false := by rw [Bool.eq_false_iff]; intro hl; rw [(listOk_iff.1 hl).2 d hd] at h; cases h
  simp [badRow, this]
theorem matOk_sym {xss : List (List (Int × Int))} (h : symB xss = false) : matOk xss = false := by simp [matOk, h]
theorem matOk_t {xss : List (List (Int × Int))} (h1 : xss.length ≤ 8) (h2 : ∀ xs ∈ xss, xs.length = xss.length) (h3 : ∀ xs ∈ xss, ∀ d ∈ xs, frOk d.1 d.2 = true) (h4 : symB xss = true) : matOk xss = true := by
  have : anyB (badRow xss.length) xss = false := by
    rw [anyB, List.any_eq_false]
    intro xs hx
    have hl : listOk xs = true := listOk_iff.2 ⟨by have := h2 xs hx; omega, h3 xs hx⟩
    simp [badRow, h2 xs hx, hl]
  simp [matOk, h1, this, h4]
theorem matOk_iff {xss : List (List (Int × Int))} (h : matOk xss = true) : xss.length ≤ 8 ∧ (∀ xs ∈ xss, xs.length = xss.length ∧ listOk xs = true) ∧ symB xss = true := by
  simp only [matOk, Bool.and_eq_true, decide_eq_true_eq, Bool.not_eq_true'] at h
  exact ⟨h.1.1, fun xs hx => badRow_f (anyB_f h.1.2 xs hx), h.2⟩
set_option maxHeartbeats 1000000 in
theorem l02Matrix_any (w : World) (xss : List (List (Int × Int))) (v : Value) (h : Lst (shL shFr) w xss v) :
    Calls Tryz.prog 54 #[v] w fun e w' => e = .returned (.bool (matOk xss)) ∧ Below w.heap.size w w' := by
  obtain ⟨A, cap, rfl, hc, hm, hel⟩ := lstFrSS h
  unfold maxLen at hm
  have H1 := Lib.hid hel
  clear hel
  by_cases hl : xss.length ≤ 8
  · have hl' : ((xss.length : Nat) : Int) ≤ 8 := by omega
    go_enter Tryz.func54, Tryz.ntmps54
    go_wp2
    go_loopw [3] (fun i wr => ∃ (k : Nat), k ≤ xss.length ∧ i = .int .i64 k ∧ (∀ xs ∈ xss.take k, xs.length = xss.length) ∧ Below w.heap.size w wr) (fun i _ => xss.length - (intOf i).toNat)
    case atStart => exact ⟨0, Nat.zero_le _, rfl, by simp, belA⟩
    case round =>
      obtain ⟨k, hk, rfl, hs, hB⟩ := hrel
      have HS := Lib.hid hs
      clear hs
      by_cases hlt : k < xss.length
      · obtain ⟨bl, off, rfl, hel⟩ := H1.out (by omega)
        obtain ⟨xs, vi, hd, hL, c0⟩ := hel k hlt
        replace c0 := bkeep hB c0
        obtain ⟨A1, cap1, rfl, hc1, hm1⟩ := formFraction hL
        unfold maxLen at hm1
        clear hel hL
        have HD := Lib.hid hd
        clear hd
        by_cases hln : xs.length = xss.length
        · have hq : ((xs.length : Int) != (xss.length : Int)) = false := by simp [hln]
          have HLN := Lib.hid hln
          clear hln
          go_wp2
          go_roundw
          case rel => exact ⟨k + 1, by omega, by go_num, mem_take_succ HS.out HD.out HLN.out, belA⟩
          case measure => simp [intOf]; omega
        · have hq : ((xs.length : Int) != (xss.length : Int)) = true := by simp; omega
          have hr : matOk xss = false := matOk_bad (List.mem_of_getElem? HD.out) (by simp [badRow, hln])
          clear hln
          go_wp2
          go_ret
          exact ⟨by rw [hr]; rfl, belA⟩
      · have e : k = xss.length := by omega
        subst e
        have HL := HS.out
        rw [List.take_length] at HL
        have HL := Lib.hid HL
        clear HS
        have HW := Lib.hid hB
        go_wp2
        clear hc hm hl'
        go_loopw [4] (fun i wr => ∃ (k : Nat), k ≤ xss.length ∧ i = .int .i64 k ∧ (∀ a, a < k → ∀ b, b < xss.length → at2 xss b a = at2 xss a b) ∧ (∀ xs ∈ xss.take k, ∀ d ∈ xs, frOk d.1 d.2 = true) ∧ Below w.heap.size w wr) (fun i _ => xss.length - (intOf i).toNat)
        case atStart => exact ⟨0, Nat.zero_le _, rfl, fun a ha => absurd ha (Nat.not_lt_zero a), by simp, belA⟩
        case round =>
          obtain ⟨k, hk, rfl, hs, hf, hB⟩ := hrel
          have HS := Lib.hid hs
          have HF := Lib.hid hf
          clear hs hf HW
          by_cases hlt : k < xss.length
          · obtain ⟨bl, off, rfl, hel⟩ := H1.out (by omega)
            obtain ⟨xs, vi, hd, hL, c0⟩ := hel k hlt
            replace c0 := bkeep hB c0
            have hL1 := hL.below hB
            clear hL
            have hln := HL.out xs (List.mem_of_getElem? hd)
            obtain ⟨A1, cap1, rfl, hc1, hm1, _, hel1⟩ := lstFraction hL1
            unfold maxLen at hm1
            have H3 := Lib.hid hel1
            have H2 := Lib.hid hel
            have HD := Lib.hid hd
            have HLN := Lib.hid hln
            have HW := Lib.hid hB
            clear hel hel1 hL1 hd
            have hlt1 : k < xss.length := hlt
            go_wp2
            go_loopw [5] (fun i wq => ∃ (j : Nat), j ≤ xss.length ∧ i = .int .i64 j ∧ (∀ b, b < j → at2 xss b k = at2 xss k b) ∧ (∀ d ∈ xs.take j, frOk d.1 d.2 = true) ∧ Below wr.heap.size wr wq) (fun i _ => xss.length - (intOf i).toNat)
            case atStart => exact ⟨0, Nat.zero_le _, rfl, fun a ha => absurd ha (Nat.not_lt_zero a), by simp, belA⟩
            case round =>
              obtain ⟨j, hj, rfl, hs, hf, hB1⟩ := hrel
              have HS1 := Lib.hid hs
              have HF1 := Lib.hid hf
              clear hs hf
              have hB2 := bthen hB hB1
              by_cases hlt2 : j < xss.length
              · have hlt3 : j < xs.length := by omega
                obtain ⟨bl1, off1, rfl, hel1⟩ := H3.out (by omega)
                obtain ⟨d, hd, hok, d0, d1⟩ := hel1 j hlt3
                obtain ⟨ys, vj, he, hM, e0⟩ := H2.out j hlt2
                have hln' := HL.out ys (List.mem_of_getElem? he)
                obtain ⟨A2, cap2, rfl, hc2, hm2, _, hel2⟩ := lstFraction (hM.below HW.out)
                unfold maxLen at hm2
                obtain ⟨bl2, off2, rfl, hel3⟩ := hel2 (by omega)
                have hk2 : k < ys.length := by omega
                obtain ⟨d', hd', hok', e1, e2⟩ := hel3 k hk2
                clear hM hel1 hel2 hel3
                replace e0 := bkeep HW.out e0
                replace e0 := bkeep hB1 e0
                replace c0 := bkeep hB1 c0
                replace d0 := bkeep hB1 d0
                replace d1 := bkeep hB1 d1
                replace e1 := bkeep hB1 e1
                replace e2 := bkeep hB1 e2
                have z1 := World.block_lt_of_cell? _ _ c0
                have z2 := World.block_lt_of_cell? _ _ e1
                have z3 := World.block_lt_of_cell? _ _ d0
                simp only at z1 z2 z3
                have q1 := Lib.hid (at2_eq HD.out hd)
                have q2 := Lib.hid (at2_eq he hd')
                have hmem := Lib.hid (List.mem_of_getElem? hd)
                have hd := Lib.hid hd
                clear he hd' hln' hln hok'
                obtain ⟨i1, i2⟩ := i64_wf hok.1
                obtain ⟨i3, i4⟩ := i64_wf hok.2
                clear hok
                cases hfr : frOk d.1 d.2
                · have hr : matOk xss = false := matOk_fr (List.mem_of_getElem? HD.out) hmem.out hfr
                  have sokW : ∀ W, Calls Tryz.prog 119 #[.agg #[.int .i64 d.1, .int .i64 d.2]] W fun e w' => e = .returned (.bool false) ∧ Below W.heap.size W w' := fun W => by have := sok_any d.1 d.2 W i1 i2 i3 i4; rwa [hfr] at this
                  have sokW := Lib.hid sokW
                  go_wp2
                  (refine wp_region_held_drew (S := (fun w' => w'.cell? ⟨bl, off + k, none⟩ = some (.slice (some ⟨bl1, off1, none⟩) xs.length cap1) ∧ w'.cell? ⟨bl1, off1 + j * 2, none⟩ = some (.int .i64 d.1) ∧ w'.cell? ⟨bl1, off1 + j * 2 + 1, none⟩ = some (.int .i64 d.2))) (by kernel_rfl) ?_ (fun hHeld => ?_); (focus (simp [*, go_sem])); refine rt 0 (some 35) (v := ?_) rfl rfl ?_ ?_; rotate_left; (focus (intro w' hSw; (try dsimp only at hSw); go_simp; (try with_reducible rfl))); (try simp only [Act.put, nA, nB, nC]); refine rt 1 (some 36) (v := ?_) rfl rfl ?_ ?_; rotate_left; (focus (intro w' hSw; (try dsimp only at hSw); go_simp; (try with_reducible rfl))); (try simp only [Act.put, nA, nB, nC]); refine rt 2 (some 37) (v := ?_) rfl rfl ?_ ?_; rotate_left; (focus (intro w' hSw; (try dsimp only at hSw); go_simp; (try with_reducible rfl))); (try simp only [Act.put, nA, nB, nC]); refine rt 4 (some 39) (v := ?_) rfl rfl ?_ ?_; rotate_left; (focus (intro w' hSw; (try dsimp only at hSw); go_simp; (try with_reducible rfl))); (try simp only [Act.put, nA, nB, nC]); refine rt 3 (some 38) (v := ?_) rfl rfl ?_ ?_; rotate_left; (focus (intro w' hSw; (try dsimp only at hSw); go_simp; (try with_reducible rfl))); (try simp only [Act.put, nA, nB, nC]); refine rt 5 (some 40) (v := ?_) rfl rfl ?_ ?_; rotate_left; (focus (intro w' hSw; (try dsimp only at hSw); go_simp; (try with_reducible rfl))); (try simp only [Act.put, nA, nB, nC]); refine rt 6 (some 41) (v := ?_) rfl rfl ?_ ?_; rotate_left; (focus (intro w' hSw; (try dsimp only at hSw); go_simp; (try with_reducible rfl))); (try simp only [Act.put, nA, nB, nC]); refine wpAnyH_ready (rs := [7]) (by kernel_rfl) (by simp) ?_; refine AllReadyH.cons rfl (fun K hK => ?_) AllReadyH.nil; go_simp; (go_at_call 119; refine Calls.mono (sokW.out _) ?_; rintro e w1 ⟨rfl, hb⟩; obtain ⟨X, m, rfl⟩ := plsOf hb; clear hb); go_wp2_with fail; refine hK.out _ _ ?_ (fun hHeld => ?_); (focus (simp [*, go_sem])); clear hK K; (try simp only [Act.put, nA, nB, nC]); refine rt 8 (some 43) (v := ?_) rfl rfl ?_ ?_; rotate_left; (focus (intro w' hSw; (try dsimp only at hSw); go_simp; (try with_reducible rfl))); (try simp only [Act.put, nA, nB, nC]); refine rt 9 (some 44) (v := ?_) rfl rfl ?_ ?_; rotate_left; (focus (intro w' hSw; (try dsimp only at hSw); go_simp; (try with_reducible rfl))); (try simp only [Act.put, nA, nB, nC]); refine rg_take 10 (some 45) (v := undef) rfl (by kernel_rfl) (by kernel_rfl) (by kernel_rfl) (by kernel_rfl) (fun _ _ _ h => h) (Or.inr ⟨by kernel_rfl, rfl⟩) (by assumption) ?_; (try simp only [Act.put, nA, nB, nC]); refine rg_take 11 (some 46) (v := undef) rfl (by kernel_rfl) (by kernel_rfl) (by kernel_rfl) (by kernel_rfl) (fun _ _ _ h => h) (Or.inr ⟨by kernel_rfl, rfl⟩) (by assumption) ?_; (try simp only [Act.put, nA, nB, nC]); refine rg_take 12 (some 47) (v := undef) rfl (by kernel_rfl) (by kernel_rfl) (by kernel_rfl) (by kernel_rfl) (fun _ _ _ h => h) (Or.inr ⟨by kernel_rfl, rfl⟩) (by assumption) ?_; (try simp only [Act.put, nA, nB, nC]); refine rg_take 13 (some 48) (v := undef) rfl (by kernel_rfl) (by kernel_rfl) (by kernel_rfl) (by kernel_rfl) (fun _ _ _ h => h) (Or.inr ⟨by kernel_rfl, rfl⟩) (by assumption) ?_; (try simp only [Act.put, nA, nB, nC]); refine rg_take 14 (some 49) (v := undef) rfl (by kernel_rfl) (by kernel_rfl) (by kernel_rfl) (by kernel_rfl) (fun _ _ _ h => h) (Or.inr ⟨by kernel_rfl, rfl⟩) (by assumption) ?_; (try simp only [Act.put, nA, nB, nC]); refine rg_take 15 (some 50) (v := undef) rfl (by kernel_rfl) (by kernel_rfl) (by kernel_rfl) (by kernel_rfl) (fun _ _ _ h => h) (Or.inr ⟨by kernel_rfl, rfl⟩) (by assumption) ?_; (try simp only [Act.put, nA, nB, nC]); refine rg_take 16 (some 51) (v := undef) rfl (by kernel_rfl) (by kernel_rfl) (by kernel_rfl) (by kernel_rfl) (fun _ _ _ h => h) (Or.inr ⟨by kernel_rfl, rfl⟩) (by assumption) ?_; (try simp only [Act.put, nA, nB, nC]); refine rg_take 17 (some 52) (v := undef) rfl (by kernel_rfl) (by kernel_rfl) (by kernel_rfl) (by kernel_rfl) (fun _ _ _ h => h) (Or.inr ⟨by kernel_rfl, rfl⟩) (by assumption) ?_; (try simp only [Act.put, nA, nB, nC]); refine rg_take 18 (some 53) (v := undef) rfl (by kernel_rfl) (by kernel_rfl) (by kernel_rfl) (by kernel_rfl) (fun _ _ _ h => h) (Or.inr ⟨by kernel_rfl, rfl⟩) (by assumption) ?_; (try simp only [Act.put, nA, nB, nC]); refine rg_take 19 (some 54) (v := undef) rfl (by kernel_rfl) (by kernel_rfl) (by kernel_rfl) (by kernel_rfl) (fun _ _ _ h => h) (Or.inr ⟨by kernel_rfl, rfl⟩) (by assumption) ?_; (try simp only [Act.put, nA, nB, nC]); refine rg_take 20 (some 55) (v := undef) rfl (by kernel_rfl) (by kernel_rfl) (by kernel_rfl) (by kernel_rfl) (fun _ _ _ h => h) (Or.inr ⟨by kernel_rfl, rfl⟩) (by assumption) ?_; (try simp only [Act.put, nA, nB, nC]); refine rg_take 21 (some 56) (v := undef) rfl (by kernel_rfl) (by kernel_rfl) (by kernel_rfl) (by kernel_rfl) (fun _ _ _ h => h) (Or.inr ⟨by kernel_rfl, rfl⟩) (by assumption) ?_; (try simp only [Act.put, nA, nB, nC]); refine rg_take 22 (some 57) (v := undef) rfl (by kernel_rfl) (by kernel_rfl) (by kernel_rfl) (by kernel_rfl) (fun _ _ _ h => h) (Or.inr ⟨by kernel_rfl, rfl⟩) (by assumption) ?_; (try simp only [Act.put, nA, nB, nC]); refine rg_take 23 (some 58) (v := undef) rfl (by kernel_rfl) (by kernel_rfl) (by kernel_rfl) (by kernel_rfl) (fun _ _ _ h => h) (Or.inr ⟨by kernel_rfl, rfl⟩) (by assumption) ?_; (try simp only [Act.put, nA, nB, nC]); refine rg_take 24 (some 59) (v := undef) rfl (by kernel_rfl) (by kernel_rfl) (by kernel_rfl) (by kernel_rfl) (fun _ _ _ h => h) (Or.inr ⟨by kernel_rfl, rfl⟩) (by assumption) ?_; (try simp only [Act.put, nA, nB, nC]); refine rt 25 (some 60) (v := ?_) rfl rfl ?_ ?_; rotate_left; (focus (intro w' hSw; (try dsimp only at hSw); go_simp; (try with_reducible rfl))); (try simp only [Act.put, nA, nB, nC]); refine wpAnyH_done (by kernel_rfl) ?_ _)
                  all_goals (go_wp2_with fail)
                  go_ret
                  exact ⟨by rw [hr]; rfl, belA⟩
                · have sokW : ∀ W, Calls Tryz.prog 119 #[.agg #[.int .i64 d.1, .int .i64 d.2]] W fun e w' => e = .returned (.bool true) ∧ Below W.heap.size W w' := fun W => by have := sok_any d.1 d.2 W i1 i2 i3 i4; rwa [hfr] at this
                  have sokW := Lib.hid sokW
                  cases hq : eq2 d.1 d.2 d'.1 d'.2
                  · have hne : matOk xss = false := by
                      refine matOk_sym ?_
                      rw [symB, decide_eq_false_iff_not]
                      intro hh
                      have := hh k hlt1 j hlt2
                      rw [q1.out, q2.out] at this
                      rw [this, eq2_self] at hq
                      cases hq
                    go_wp2
                    go_region_held3 (fun w' => w'.cell? ⟨bl, off + k, none⟩ = some (.slice (some ⟨bl1, off1, none⟩) xs.length cap1) ∧ w'.cell? ⟨bl, off + j, none⟩ = some (.slice (some ⟨bl2, off2, none⟩) ys.length cap2) ∧ w'.cell? ⟨bl1, off1 + j * 2, none⟩ = some (.int .i64 d.1) ∧ w'.cell? ⟨bl1, off1 + j * 2 + 1, none⟩ = some (.int .i64 d.2) ∧ w'.cell? ⟨bl2, off2 + k * 2, none⟩ = some (.int .i64 d'.1) ∧ w'.cell? ⟨bl2, off2 + k * 2 + 1, none⟩ = some (.int .i64 d'.2)) (simp [*, go_sem]) (first | (go_at_call 119; refine Calls.mono (sokW.out _) ?_; rintro e w1 ⟨rfl, hb⟩; obtain ⟨X, m, rfl⟩ := plsOf hb; clear hb))
                    all_goals (go_wp2_with fail)
                    go_ret
                    exact ⟨by rw [hne]; rfl, belA⟩
                  · have he : Hid (d' = d) := by
                      refine Lib.hid ?_
                      obtain ⟨a, b⟩ := d
                      obtain ⟨a', b'⟩ := d'
                      simp only [eq2, decide_eq_true_eq] at hq
                      simp [hq]
                    have hfr' := Lib.hid hfr
                    go_wp2
                    go_region_held3 (fun w' => w'.cell? ⟨bl, off + k, none⟩ = some (.slice (some ⟨bl1, off1, none⟩) xs.length cap1) ∧ w'.cell? ⟨bl, off + j, none⟩ = some (.slice (some ⟨bl2, off2, none⟩) ys.length cap2) ∧ w'.cell? ⟨bl1, off1 + j * 2, none⟩ = some (.int .i64 d.1) ∧ w'.cell? ⟨bl1, off1 + j * 2 + 1, none⟩ = some (.int .i64 d.2) ∧ w'.cell? ⟨bl2, off2 + k * 2, none⟩ = some (.int .i64 d'.1) ∧ w'.cell? ⟨bl2, off2 + k * 2 + 1, none⟩ = some (.int .i64 d'.2)) (simp [*, go_sem]) (first | (go_at_call 119; refine Calls.mono (sokW.out _) ?_; rintro e w1 ⟨rfl, hb⟩; obtain ⟨X, m, rfl⟩ := plsOf hb; clear hb))
                    all_goals (go_wp2_with fail)
                    go_roundw
                    case rel =>
                      refine ⟨j + 1, by omega, by go_num, fun b hb => ?_, mem_take_succ HF1.out hd.out hfr'.out, belA⟩
                      rcases Nat.lt_or_ge b j with h1 | h1
                      · exact HS1.out b h1
                      · have : b = j := by omega
                        subst this
                        rw [q1.out, q2.out, he.out]
                    case measure => simp [intOf]; omega
              · have e : j = xss.length := by omega
                subst e
                go_wp2
                go_roundw
                case rel =>
                  refine ⟨k + 1, by omega, by go_num, fun a ha b hb => ?_, mem_take_succ HF.out HD.out (by have := HF1.out; rw [← HLN.out, List.take_length] at this; exact this), belA⟩
                  rcases Nat.lt_or_ge a k with h1 | h1
                  · exact HS.out a h1 b hb
                  · have : a = k := by omega
                    subst this
                    exact HS1.out b hb
                case measure => simp [intOf]; omega
          · have e : k = xss.length := by omega
            subst e
            have he : matOk xss = true := by
              refine matOk_t hl HL.out (by have := HF.out; rw [List.take_length] at this; exact this) ?_
              rw [symB, decide_eq_true_eq]
              exact HS.out
            go_wp2
            go_ret
            exact ⟨by rw [he]; rfl, belA⟩
  · have hl' : 8 < ((xss.length : Nat) : Int) := by omega
    have hr : matOk xss = false := matOk_len hl
    go_enter Tryz.func54, Tryz.ntmps54
    go_wp2
    exact bodyPost_ret (v := .bool false) (by simp [results, Tryz.results54, go_sem]) rfl ⟨by rw [hr], belA⟩
end Go.Proofs.YtekchdgpaemofaaGreat
