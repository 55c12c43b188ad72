/- The walk of FnExactSquaresOf, with what both sides return as hypotheses. -/
import Derived.Test.YtekchdgpaemofaaSl
import Derived.Test.YtekchdgpaemofaaMSum
import Derived.Test.YtekchdgpaemofaaTSum
import Derived.Test.YtekchdgpaemofaaTSS
namespace Go.Proofs.Ytekchdgpaemofaa
open Go.ChangeShapes Go.WideShapes Go.ChangeAt Go.RowKit
set_option linter.unusedVariables false
set_option linter.unusedSimpArgs false
attribute [local irreducible] Calls
set_option maxHeartbeats 4000000 in
set_option maxRecDepth 100000 in
theorem walkSquaresOf (ax0 : List (List (Int × Int))) (av0 : Value) (R00 : List (Int × Int)) (R10 : List (List (Int × Int))) (r20 : Int) (mR00 : R00.length ≤ 100000) (mR10 : R10.length + lenSS R10 ≤ 100000) (HI0 : ∀ (W : World) (u0 : Value), Lst (shL shFr) W ax0 u0 → ax0.length + lenSS ax0 ≤ 1048576 → Calls Try.prog 16 #[u0] W fun e W' => ∃ A_00 cap_00 F_00 A_10 cap_10 F_10, e = .returned (.tuple #[.slice A_00 R00.length cap_00, .slice A_10 R10.length cap_10, .int .i64 r20]) ∧ Own shFr W.heap.size W' R00 (.slice A_00 R00.length cap_00) F_00 ∧ Own (shL shFr) W.heap.size W' R10 (.slice A_10 R10.length cap_10) F_10 ∧ (∀ q ∈ F_00, q ∉ F_10) ∧ Below W.heap.size W W') (HS0 : ∀ (W : World) (u0 : Value), Lst (shL shFr) W ax0 u0 → ax0.length + lenSS ax0 ≤ 1048576 → Calls Try.prog 15 #[u0] W fun e W' => ∃ A_00 cap_00 F_00 A_10 cap_10 F_10, e = .returned (.tuple #[.slice A_00 R00.length cap_00, .slice A_10 R10.length cap_10, .int .i64 r20]) ∧ Own shFr W.heap.size W' R00 (.slice A_00 R00.length cap_00) F_00 ∧ Own (shL shFr) W.heap.size W' R10 (.slice A_10 R10.length cap_10) F_10 ∧ (∀ q ∈ F_00, q ∉ F_10) ∧ Below W.heap.size W W') (w : World) (ah0 : Lst (shL shFr) w ax0 av0) :
    Calls Try.prog 5 #[av0] w fun e0 w' => e0 = .returned (.bool true) ∧ Below w.heap.size w w' := by
  obtain ⟨A_av0, cap_av0, rfl, fax0⟩ := formFrSS ah0
  have HI := Lib.hid HI0
  have HS := Lib.hid HS0
  clear HI0 HS0
  have qr20 : (r20 != r20) = false := by simp
  have d0 := szSS_bd (left := 1048576) (xss := ax0) (by omega) (by omega)
  by_cases g0 : szSS (1048576) ax0 < 0
  · go_enter Try.func5, Try.ntmps5
    go_wp2_with fail
    refine Calls.mono (szFractionSS_any _ ax0 _ _ (ah0.below belA) (by omega) (by omega)) ?_
    rintro e0 w1 ⟨rfl, hb⟩
    have z1 : w.heap.size + 0 ≤ w1.heap.size := (by have := hb.size; (try simp at this); omega)
    have B1 : Hid (Below w.heap.size w w1) := Lib.hid (bthen belA hb)
    clear hb
    go_wp2_with fail
    exact bodyPost_ret (v := .bool true) (by simp [results, Try.results5, go_sem]) rfl ⟨rfl, (by first | exact B1.out | exact bal B1.out _ | exact bal (bal B1.out _) _)⟩
  · have lax0 : ax0.length + lenSS ax0 ≤ 1048576 := (by have := szSS_pos g0; omega)
    go_enter Try.func5, Try.ntmps5
    go_wp2_with fail
    refine Calls.mono (szFractionSS_any _ ax0 _ _ (ah0.below belA) (by omega) (by omega)) ?_
    rintro e0 w1 ⟨rfl, hb⟩
    have z1 : w.heap.size + 0 ≤ w1.heap.size := (by have := hb.size; (try simp at this); omega)
    have B1 : Hid (Below w.heap.size w w1) := Lib.hid (bthen belA hb)
    clear hb
    go_wp2_with fail
    refine Calls.mono (toFractionSS_any _ ax0 _ (ah0.below (by repeat (first | with_reducible exact B1.out | with_reducible refine bal ?_ _ | with_reducible refine bdrew1 ?_))) (by omega)) ?_
    rintro e0 w2 ⟨A2, cap2, F2, rfl, hO, hb⟩
    have z2 : w1.heap.size + 0 ≤ w2.heap.size := (by have := hb.size; (try simp at this); omega)
    have B2 : Hid (Below w.heap.size w w2) := Lib.hid (bthen (by repeat (first | with_reducible exact B1.out | with_reducible refine bal ?_ _ | with_reducible refine bdrew1 ?_)) hb)
    have L2_2 : Hid (∀ b ∈ F2, w1.heap.size + 0 ≤ b ∧ b < w2.heap.size) := Lib.hid (fun b hm => ⟨by have := hO.ge b hm; (try simp at this); omega, hO.lt b hm⟩)
    have O2_2 := Lib.hid hO
    clear hO B1 hb
    go_wp2_with fail
    refine Calls.mono (HS.out _ _ (O2_2.out.lst.below (by repeat (first | with_reducible exact Below.refl _ _ | with_reducible refine bal ?_ _ | with_reducible refine bdrew1 ?_))) (by omega)) ?_
    rintro e0 w3 ⟨A3_00, cap3_00, F3_00, A3_10, cap3_10, F3_10, rfl, hO_00, hO_10, hD, hb⟩
    have DR3 := Lib.hid hD
    clear hD
    have z3 : w2.heap.size + 0 ≤ w3.heap.size := (by have := hb.size; (try simp at this); omega)
    have O3_2 := Lib.hid (O2_2.out.below (Nat.le_refl _) (bthen (by repeat (first | with_reducible exact Below.refl _ _ | with_reducible refine bal ?_ _ | with_reducible refine bdrew1 ?_)) hb))
    have B3 : Hid (Below w.heap.size w w3) := Lib.hid (bthen (by repeat (first | with_reducible exact B2.out | with_reducible refine bal ?_ _ | with_reducible refine bdrew1 ?_)) hb)
    have L3_3_00 : Hid (∀ b ∈ F3_00, w2.heap.size + 0 ≤ b ∧ b < w3.heap.size) := Lib.hid (fun b hm => ⟨by have := hO_00.ge b hm; (try simp at this); omega, hO_00.lt b hm⟩)
    have O3_3_00 := Lib.hid hO_00
    have L3_3_10 : Hid (∀ b ∈ F3_10, w2.heap.size + 0 ≤ b ∧ b < w3.heap.size) := Lib.hid (fun b hm => ⟨by have := hO_10.ge b hm; (try simp at this); omega, hO_10.lt b hm⟩)
    have O3_3_10 := Lib.hid hO_10
    clear O2_2 hO_00 hO_10 B2 hb
    go_wp2_with fail
    refine Calls.mono (toFractionSS_any _ ax0 _ (ah0.below (by repeat (first | with_reducible exact B3.out | with_reducible refine bal ?_ _ | with_reducible refine bdrew1 ?_))) (by omega)) ?_
    rintro e0 w4 ⟨A4, cap4, F4, rfl, hO, hb⟩
    have z4 : w3.heap.size + 0 ≤ w4.heap.size := (by have := hb.size; (try simp at this); omega)
    have O4_2 := Lib.hid (O3_2.out.below (Nat.le_refl _) (bthen (by repeat (first | with_reducible exact Below.refl _ _ | with_reducible refine bal ?_ _ | with_reducible refine bdrew1 ?_)) hb))
    have O4_3_00 := Lib.hid (O3_3_00.out.below (Nat.le_refl _) (bthen (by repeat (first | with_reducible exact Below.refl _ _ | with_reducible refine bal ?_ _ | with_reducible refine bdrew1 ?_)) hb))
    have O4_3_10 := Lib.hid (O3_3_10.out.below (Nat.le_refl _) (bthen (by repeat (first | with_reducible exact Below.refl _ _ | with_reducible refine bal ?_ _ | with_reducible refine bdrew1 ?_)) hb))
    have B4 : Hid (Below w.heap.size w w4) := Lib.hid (bthen (by repeat (first | with_reducible exact B3.out | with_reducible refine bal ?_ _ | with_reducible refine bdrew1 ?_)) hb)
    have L4_4 : Hid (∀ b ∈ F4, w3.heap.size + 0 ≤ b ∧ b < w4.heap.size) := Lib.hid (fun b hm => ⟨by have := hO.ge b hm; (try simp at this); omega, hO.lt b hm⟩)
    have O4_4 := Lib.hid hO
    clear O3_2 O3_3_00 O3_3_10 hO B3 hb
    go_wp2_with fail
    refine Calls.mono (HI.out _ _ (O4_4.out.lst.below (by repeat (first | with_reducible exact Below.refl _ _ | with_reducible refine bal ?_ _ | with_reducible refine bdrew1 ?_))) (by omega)) ?_
    rintro e0 w5 ⟨A5_00, cap5_00, F5_00, A5_10, cap5_10, F5_10, rfl, hO_00, hO_10, hD, hb⟩
    have DR5 := Lib.hid hD
    clear hD
    have z5 : w4.heap.size + 0 ≤ w5.heap.size := (by have := hb.size; (try simp at this); omega)
    have O5_2 := Lib.hid (O4_2.out.below (Nat.le_refl _) (bthen (by repeat (first | with_reducible exact Below.refl _ _ | with_reducible refine bal ?_ _ | with_reducible refine bdrew1 ?_)) hb))
    have O5_3_00 := Lib.hid (O4_3_00.out.below (Nat.le_refl _) (bthen (by repeat (first | with_reducible exact Below.refl _ _ | with_reducible refine bal ?_ _ | with_reducible refine bdrew1 ?_)) hb))
    have O5_3_10 := Lib.hid (O4_3_10.out.below (Nat.le_refl _) (bthen (by repeat (first | with_reducible exact Below.refl _ _ | with_reducible refine bal ?_ _ | with_reducible refine bdrew1 ?_)) hb))
    have O5_4 := Lib.hid (O4_4.out.below (Nat.le_refl _) (bthen (by repeat (first | with_reducible exact Below.refl _ _ | with_reducible refine bal ?_ _ | with_reducible refine bdrew1 ?_)) hb))
    have B5 : Hid (Below w.heap.size w w5) := Lib.hid (bthen (by repeat (first | with_reducible exact B4.out | with_reducible refine bal ?_ _ | with_reducible refine bdrew1 ?_)) hb)
    have L5_5_00 : Hid (∀ b ∈ F5_00, w4.heap.size + 0 ≤ b ∧ b < w5.heap.size) := Lib.hid (fun b hm => ⟨by have := hO_00.ge b hm; (try simp at this); omega, hO_00.lt b hm⟩)
    have O5_5_00 := Lib.hid hO_00
    have L5_5_10 : Hid (∀ b ∈ F5_10, w4.heap.size + 0 ≤ b ∧ b < w5.heap.size) := Lib.hid (fun b hm => ⟨by have := hO_10.ge b hm; (try simp at this); omega, hO_10.lt b hm⟩)
    have O5_5_10 := Lib.hid hO_10
    clear O4_2 O4_3_00 O4_3_10 O4_4 hO_00 hO_10 B4 hb
    go_wp2_with fail
    refine Calls.mono (eqFractionS_same _ R00 _ _ (O5_5_00.out.lst.below (by repeat (first | with_reducible exact Below.refl _ _ | with_reducible refine bal ?_ _ | with_reducible refine bdrew1 ?_))) (O5_3_00.out.lst.below (by repeat (first | with_reducible exact Below.refl _ _ | with_reducible refine bal ?_ _ | with_reducible refine bdrew1 ?_))) (by omega)) ?_
    rintro e0 w6 ⟨rfl, hb⟩
    have z6 : w5.heap.size + 0 ≤ w6.heap.size := (by have := hb.size; (try simp at this); omega)
    have O6_2 := Lib.hid (O5_2.out.below (Nat.le_refl _) (bthen (by repeat (first | with_reducible exact Below.refl _ _ | with_reducible refine bal ?_ _ | with_reducible refine bdrew1 ?_)) hb))
    have O6_3_00 := Lib.hid (O5_3_00.out.below (Nat.le_refl _) (bthen (by repeat (first | with_reducible exact Below.refl _ _ | with_reducible refine bal ?_ _ | with_reducible refine bdrew1 ?_)) hb))
    have O6_3_10 := Lib.hid (O5_3_10.out.below (Nat.le_refl _) (bthen (by repeat (first | with_reducible exact Below.refl _ _ | with_reducible refine bal ?_ _ | with_reducible refine bdrew1 ?_)) hb))
    have O6_4 := Lib.hid (O5_4.out.below (Nat.le_refl _) (bthen (by repeat (first | with_reducible exact Below.refl _ _ | with_reducible refine bal ?_ _ | with_reducible refine bdrew1 ?_)) hb))
    have O6_5_00 := Lib.hid (O5_5_00.out.below (Nat.le_refl _) (bthen (by repeat (first | with_reducible exact Below.refl _ _ | with_reducible refine bal ?_ _ | with_reducible refine bdrew1 ?_)) hb))
    have O6_5_10 := Lib.hid (O5_5_10.out.below (Nat.le_refl _) (bthen (by repeat (first | with_reducible exact Below.refl _ _ | with_reducible refine bal ?_ _ | with_reducible refine bdrew1 ?_)) hb))
    have B6 : Hid (Below w.heap.size w w6) := Lib.hid (bthen (by repeat (first | with_reducible exact B5.out | with_reducible refine bal ?_ _ | with_reducible refine bdrew1 ?_)) hb)
    clear O5_2 O5_3_00 O5_3_10 O5_4 O5_5_00 O5_5_10 B5 hb
    go_wp2_with fail
    refine Calls.mono (eqFractionSS_same _ R10 _ _ (O6_5_10.out.lst.below (by repeat (first | with_reducible exact Below.refl _ _ | with_reducible refine bal ?_ _ | with_reducible refine bdrew1 ?_))) (O6_3_10.out.lst.below (by repeat (first | with_reducible exact Below.refl _ _ | with_reducible refine bal ?_ _ | with_reducible refine bdrew1 ?_))) (by omega)) ?_
    rintro e0 w7 ⟨rfl, hb⟩
    have z7 : w6.heap.size + 0 ≤ w7.heap.size := (by have := hb.size; (try simp at this); omega)
    have O7_2 := Lib.hid (O6_2.out.below (Nat.le_refl _) (bthen (by repeat (first | with_reducible exact Below.refl _ _ | with_reducible refine bal ?_ _ | with_reducible refine bdrew1 ?_)) hb))
    have O7_3_00 := Lib.hid (O6_3_00.out.below (Nat.le_refl _) (bthen (by repeat (first | with_reducible exact Below.refl _ _ | with_reducible refine bal ?_ _ | with_reducible refine bdrew1 ?_)) hb))
    have O7_3_10 := Lib.hid (O6_3_10.out.below (Nat.le_refl _) (bthen (by repeat (first | with_reducible exact Below.refl _ _ | with_reducible refine bal ?_ _ | with_reducible refine bdrew1 ?_)) hb))
    have O7_4 := Lib.hid (O6_4.out.below (Nat.le_refl _) (bthen (by repeat (first | with_reducible exact Below.refl _ _ | with_reducible refine bal ?_ _ | with_reducible refine bdrew1 ?_)) hb))
    have O7_5_00 := Lib.hid (O6_5_00.out.below (Nat.le_refl _) (bthen (by repeat (first | with_reducible exact Below.refl _ _ | with_reducible refine bal ?_ _ | with_reducible refine bdrew1 ?_)) hb))
    have O7_5_10 := Lib.hid (O6_5_10.out.below (Nat.le_refl _) (bthen (by repeat (first | with_reducible exact Below.refl _ _ | with_reducible refine bal ?_ _ | with_reducible refine bdrew1 ?_)) hb))
    have B7 : Hid (Below w.heap.size w w7) := Lib.hid (bthen (by repeat (first | with_reducible exact B6.out | with_reducible refine bal ?_ _ | with_reducible refine bdrew1 ?_)) hb)
    clear O6_2 O6_3_00 O6_3_10 O6_4 O6_5_00 O6_5_10 B6 hb
    go_wp2_with fail
    refine Calls.mono (toFractionSS_any _ ax0 _ (ah0.below (by repeat (first | with_reducible exact B7.out | with_reducible refine bal ?_ _ | with_reducible refine bdrew1 ?_))) (by omega)) ?_
    rintro e0 w8 ⟨A8, cap8, F8, rfl, hO, hb⟩
    have z8 : w7.heap.size + 0 ≤ w8.heap.size := (by have := hb.size; (try simp at this); omega)
    have O8_2 := Lib.hid (O7_2.out.below (Nat.le_refl _) (bthen (by repeat (first | with_reducible exact Below.refl _ _ | with_reducible refine bal ?_ _ | with_reducible refine bdrew1 ?_)) hb))
    have O8_3_00 := Lib.hid (O7_3_00.out.below (Nat.le_refl _) (bthen (by repeat (first | with_reducible exact Below.refl _ _ | with_reducible refine bal ?_ _ | with_reducible refine bdrew1 ?_)) hb))
    have O8_3_10 := Lib.hid (O7_3_10.out.below (Nat.le_refl _) (bthen (by repeat (first | with_reducible exact Below.refl _ _ | with_reducible refine bal ?_ _ | with_reducible refine bdrew1 ?_)) hb))
    have O8_4 := Lib.hid (O7_4.out.below (Nat.le_refl _) (bthen (by repeat (first | with_reducible exact Below.refl _ _ | with_reducible refine bal ?_ _ | with_reducible refine bdrew1 ?_)) hb))
    have O8_5_00 := Lib.hid (O7_5_00.out.below (Nat.le_refl _) (bthen (by repeat (first | with_reducible exact Below.refl _ _ | with_reducible refine bal ?_ _ | with_reducible refine bdrew1 ?_)) hb))
    have O8_5_10 := Lib.hid (O7_5_10.out.below (Nat.le_refl _) (bthen (by repeat (first | with_reducible exact Below.refl _ _ | with_reducible refine bal ?_ _ | with_reducible refine bdrew1 ?_)) hb))
    have B8 : Hid (Below w.heap.size w w8) := Lib.hid (bthen (by repeat (first | with_reducible exact B7.out | with_reducible refine bal ?_ _ | with_reducible refine bdrew1 ?_)) hb)
    have L8_8 : Hid (∀ b ∈ F8, w7.heap.size + 0 ≤ b ∧ b < w8.heap.size) := Lib.hid (fun b hm => ⟨by have := hO.ge b hm; (try simp at this); omega, hO.lt b hm⟩)
    have O8_8 := Lib.hid hO
    clear O7_2 O7_3_00 O7_3_10 O7_4 O7_5_00 O7_5_10 hO B7 hb
    go_wp2_with fail
    refine Calls.mono (eqFractionSS_same _ ax0 _ _ (O8_4.out.lst.below (by repeat (first | with_reducible exact Below.refl _ _ | with_reducible refine bal ?_ _ | with_reducible refine bdrew1 ?_))) (O8_8.out.lst.below (by repeat (first | with_reducible exact Below.refl _ _ | with_reducible refine bal ?_ _ | with_reducible refine bdrew1 ?_))) (by omega)) ?_
    rintro e0 w9 ⟨rfl, hb⟩
    have z9 : w8.heap.size + 0 ≤ w9.heap.size := (by have := hb.size; (try simp at this); omega)
    have O9_2 := Lib.hid (O8_2.out.below (Nat.le_refl _) (bthen (by repeat (first | with_reducible exact Below.refl _ _ | with_reducible refine bal ?_ _ | with_reducible refine bdrew1 ?_)) hb))
    have O9_3_00 := Lib.hid (O8_3_00.out.below (Nat.le_refl _) (bthen (by repeat (first | with_reducible exact Below.refl _ _ | with_reducible refine bal ?_ _ | with_reducible refine bdrew1 ?_)) hb))
    have O9_3_10 := Lib.hid (O8_3_10.out.below (Nat.le_refl _) (bthen (by repeat (first | with_reducible exact Below.refl _ _ | with_reducible refine bal ?_ _ | with_reducible refine bdrew1 ?_)) hb))
    have O9_4 := Lib.hid (O8_4.out.below (Nat.le_refl _) (bthen (by repeat (first | with_reducible exact Below.refl _ _ | with_reducible refine bal ?_ _ | with_reducible refine bdrew1 ?_)) hb))
    have O9_5_00 := Lib.hid (O8_5_00.out.below (Nat.le_refl _) (bthen (by repeat (first | with_reducible exact Below.refl _ _ | with_reducible refine bal ?_ _ | with_reducible refine bdrew1 ?_)) hb))
    have O9_5_10 := Lib.hid (O8_5_10.out.below (Nat.le_refl _) (bthen (by repeat (first | with_reducible exact Below.refl _ _ | with_reducible refine bal ?_ _ | with_reducible refine bdrew1 ?_)) hb))
    have O9_8 := Lib.hid (O8_8.out.below (Nat.le_refl _) (bthen (by repeat (first | with_reducible exact Below.refl _ _ | with_reducible refine bal ?_ _ | with_reducible refine bdrew1 ?_)) hb))
    have B9 : Hid (Below w.heap.size w w9) := Lib.hid (bthen (by repeat (first | with_reducible exact B8.out | with_reducible refine bal ?_ _ | with_reducible refine bdrew1 ?_)) hb)
    clear O8_2 O8_3_00 O8_3_10 O8_4 O8_5_00 O8_5_10 O8_8 B8 hb
    go_wp2_with fail
    refine Calls.mono (markFractionSS_any _ _ ax0 _ _ _ (O9_4.out.below (Nat.le_refl _) (by repeat (first | with_reducible exact Below.refl _ _ | with_reducible refine bal ?_ _ | with_reducible refine bdrew1 ?_))) (by omega) (by omega) (by omega)) ?_
    rintro e0 w10 ⟨rfl, hO, hC⟩
    have z10 : w9.heap.size + 0 ≤ w10.heap.size := (by have := hC.2.2.2.1; (try simp at this); omega)
    have N10 := L4_4.out
    have O10_2 := Lib.hid (Own.bchgR O9_2.out (by repeat (first | with_reducible exact Below.refl _ _ | with_reducible refine bal ?_ _ | with_reducible refine bdrew1 ?_)) hC (fun b g1 g2 => by have := L2_2.out b g1; have := N10 b g2; omega))
    have O10_3_00 := Lib.hid (Own.bchgR O9_3_00.out (by repeat (first | with_reducible exact Below.refl _ _ | with_reducible refine bal ?_ _ | with_reducible refine bdrew1 ?_)) hC (fun b g1 g2 => by have := L3_3_00.out b g1; have := N10 b g2; omega))
    have O10_3_10 := Lib.hid (Own.bchgR O9_3_10.out (by repeat (first | with_reducible exact Below.refl _ _ | with_reducible refine bal ?_ _ | with_reducible refine bdrew1 ?_)) hC (fun b g1 g2 => by have := L3_3_10.out b g1; have := N10 b g2; omega))
    have O10_4 := Lib.hid hO
    have O10_5_00 := Lib.hid (Own.bchgR O9_5_00.out (by repeat (first | with_reducible exact Below.refl _ _ | with_reducible refine bal ?_ _ | with_reducible refine bdrew1 ?_)) hC (fun b g1 g2 => by have := L5_5_00.out b g1; have := N10 b g2; omega))
    have O10_5_10 := Lib.hid (Own.bchgR O9_5_10.out (by repeat (first | with_reducible exact Below.refl _ _ | with_reducible refine bal ?_ _ | with_reducible refine bdrew1 ?_)) hC (fun b g1 g2 => by have := L5_5_10.out b g1; have := N10 b g2; omega))
    have O10_8 := Lib.hid (Own.bchgR O9_8.out (by repeat (first | with_reducible exact Below.refl _ _ | with_reducible refine bal ?_ _ | with_reducible refine bdrew1 ?_)) hC (fun b g1 g2 => by have := L8_8.out b g1; have := N10 b g2; omega))
    have B10 : Hid (Below w.heap.size w w10) := Lib.hid (Below.trans (by repeat (first | with_reducible exact B9.out | with_reducible refine bal ?_ _ | with_reducible refine bdrew1 ?_)) (hC.below (B := w.heap.size) (fun b g2 => by have := N10 b g2; omega) (by first | omega | (simp; omega))))
    clear O9_2 O9_3_00 O9_3_10 O9_4 O9_5_00 O9_5_10 O9_8 B9 hC N10
    have hk10 : (0 : Int) ≤ 1 + 2 * (lenSS ax0 : Int) := (by omega)
    have hq10 : ((1 + 2 * (lenSS ax0 : Int)) != (1 + 2 * (lenSS ax0 : Int))) = false := (by simp)
    go_wp2_with fail
    refine Calls.mono (eqFractionS_same _ R00 _ _ (O10_5_00.out.lst.below (by repeat (first | with_reducible exact Below.refl _ _ | with_reducible refine bal ?_ _ | with_reducible refine bdrew1 ?_))) (O10_3_00.out.lst.below (by repeat (first | with_reducible exact Below.refl _ _ | with_reducible refine bal ?_ _ | with_reducible refine bdrew1 ?_))) (by omega)) ?_
    rintro e0 w11 ⟨rfl, hb⟩
    have z11 : w10.heap.size + 0 ≤ w11.heap.size := (by have := hb.size; (try simp at this); omega)
    have O11_2 := Lib.hid (O10_2.out.below (Nat.le_refl _) (bthen (by repeat (first | with_reducible exact Below.refl _ _ | with_reducible refine bal ?_ _ | with_reducible refine bdrew1 ?_)) hb))
    have O11_3_00 := Lib.hid (O10_3_00.out.below (Nat.le_refl _) (bthen (by repeat (first | with_reducible exact Below.refl _ _ | with_reducible refine bal ?_ _ | with_reducible refine bdrew1 ?_)) hb))
    have O11_3_10 := Lib.hid (O10_3_10.out.below (Nat.le_refl _) (bthen (by repeat (first | with_reducible exact Below.refl _ _ | with_reducible refine bal ?_ _ | with_reducible refine bdrew1 ?_)) hb))
    have O11_4 := Lib.hid (O10_4.out.below (Nat.le_refl _) (bthen (by repeat (first | with_reducible exact Below.refl _ _ | with_reducible refine bal ?_ _ | with_reducible refine bdrew1 ?_)) hb))
    have O11_5_00 := Lib.hid (O10_5_00.out.below (Nat.le_refl _) (bthen (by repeat (first | with_reducible exact Below.refl _ _ | with_reducible refine bal ?_ _ | with_reducible refine bdrew1 ?_)) hb))
    have O11_5_10 := Lib.hid (O10_5_10.out.below (Nat.le_refl _) (bthen (by repeat (first | with_reducible exact Below.refl _ _ | with_reducible refine bal ?_ _ | with_reducible refine bdrew1 ?_)) hb))
    have O11_8 := Lib.hid (O10_8.out.below (Nat.le_refl _) (bthen (by repeat (first | with_reducible exact Below.refl _ _ | with_reducible refine bal ?_ _ | with_reducible refine bdrew1 ?_)) hb))
    have B11 : Hid (Below w.heap.size w w11) := Lib.hid (bthen (by repeat (first | with_reducible exact B10.out | with_reducible refine bal ?_ _ | with_reducible refine bdrew1 ?_)) hb)
    clear O10_2 O10_3_00 O10_3_10 O10_4 O10_5_00 O10_5_10 O10_8 B10 hb
    go_wp2_with fail
    refine Calls.mono (eqFractionSS_same _ R10 _ _ (O11_5_10.out.lst.below (by repeat (first | with_reducible exact Below.refl _ _ | with_reducible refine bal ?_ _ | with_reducible refine bdrew1 ?_))) (O11_3_10.out.lst.below (by repeat (first | with_reducible exact Below.refl _ _ | with_reducible refine bal ?_ _ | with_reducible refine bdrew1 ?_))) (by omega)) ?_
    rintro e0 w12 ⟨rfl, hb⟩
    have z12 : w11.heap.size + 0 ≤ w12.heap.size := (by have := hb.size; (try simp at this); omega)
    have O12_2 := Lib.hid (O11_2.out.below (Nat.le_refl _) (bthen (by repeat (first | with_reducible exact Below.refl _ _ | with_reducible refine bal ?_ _ | with_reducible refine bdrew1 ?_)) hb))
    have O12_3_00 := Lib.hid (O11_3_00.out.below (Nat.le_refl _) (bthen (by repeat (first | with_reducible exact Below.refl _ _ | with_reducible refine bal ?_ _ | with_reducible refine bdrew1 ?_)) hb))
    have O12_3_10 := Lib.hid (O11_3_10.out.below (Nat.le_refl _) (bthen (by repeat (first | with_reducible exact Below.refl _ _ | with_reducible refine bal ?_ _ | with_reducible refine bdrew1 ?_)) hb))
    have O12_4 := Lib.hid (O11_4.out.below (Nat.le_refl _) (bthen (by repeat (first | with_reducible exact Below.refl _ _ | with_reducible refine bal ?_ _ | with_reducible refine bdrew1 ?_)) hb))
    have O12_5_00 := Lib.hid (O11_5_00.out.below (Nat.le_refl _) (bthen (by repeat (first | with_reducible exact Below.refl _ _ | with_reducible refine bal ?_ _ | with_reducible refine bdrew1 ?_)) hb))
    have O12_5_10 := Lib.hid (O11_5_10.out.below (Nat.le_refl _) (bthen (by repeat (first | with_reducible exact Below.refl _ _ | with_reducible refine bal ?_ _ | with_reducible refine bdrew1 ?_)) hb))
    have O12_8 := Lib.hid (O11_8.out.below (Nat.le_refl _) (bthen (by repeat (first | with_reducible exact Below.refl _ _ | with_reducible refine bal ?_ _ | with_reducible refine bdrew1 ?_)) hb))
    have B12 : Hid (Below w.heap.size w w12) := Lib.hid (bthen (by repeat (first | with_reducible exact B11.out | with_reducible refine bal ?_ _ | with_reducible refine bdrew1 ?_)) hb)
    clear O11_2 O11_3_00 O11_3_10 O11_4 O11_5_00 O11_5_10 O11_8 B11 hb
    go_wp2_with fail
    refine Calls.mono (markFractionS_any _ _ R00 _ _ _ (O12_5_00.out.below (Nat.le_refl _) (by repeat (first | with_reducible exact Below.refl _ _ | with_reducible refine bal ?_ _ | with_reducible refine bdrew1 ?_))) (by omega) (by omega)) ?_
    rintro e0 w13 ⟨rfl, hO, hC⟩
    have z13 : w12.heap.size + 0 ≤ w13.heap.size := (by have := hC.2.2.2.1; (try simp at this); omega)
    have N13 := L5_5_00.out
    have O13_2 := Lib.hid (Own.bchgR O12_2.out (by repeat (first | with_reducible exact Below.refl _ _ | with_reducible refine bal ?_ _ | with_reducible refine bdrew1 ?_)) hC (fun b g1 g2 => by have := L2_2.out b g1; have := N13 b g2; omega))
    have O13_3_00 := Lib.hid (Own.bchgR O12_3_00.out (by repeat (first | with_reducible exact Below.refl _ _ | with_reducible refine bal ?_ _ | with_reducible refine bdrew1 ?_)) hC (fun b g1 g2 => by have := L3_3_00.out b g1; have := N13 b g2; omega))
    have O13_3_10 := Lib.hid (Own.bchgR O12_3_10.out (by repeat (first | with_reducible exact Below.refl _ _ | with_reducible refine bal ?_ _ | with_reducible refine bdrew1 ?_)) hC (fun b g1 g2 => by have := L3_3_10.out b g1; have := N13 b g2; omega))
    have O13_4 := Lib.hid (Own.bchgR O12_4.out (by repeat (first | with_reducible exact Below.refl _ _ | with_reducible refine bal ?_ _ | with_reducible refine bdrew1 ?_)) hC (fun b g1 g2 => by have := L4_4.out b g1; have := N13 b g2; omega))
    have O13_5_00 := Lib.hid hO
    have O13_5_10 := Lib.hid (Own.bchgR O12_5_10.out (by repeat (first | with_reducible exact Below.refl _ _ | with_reducible refine bal ?_ _ | with_reducible refine bdrew1 ?_)) hC (fun b g1 g2 => DR5.out b g2 g1))
    have O13_8 := Lib.hid (Own.bchgR O12_8.out (by repeat (first | with_reducible exact Below.refl _ _ | with_reducible refine bal ?_ _ | with_reducible refine bdrew1 ?_)) hC (fun b g1 g2 => by have := L8_8.out b g1; have := N13 b g2; omega))
    have B13 : Hid (Below w.heap.size w w13) := Lib.hid (Below.trans (by repeat (first | with_reducible exact B12.out | with_reducible refine bal ?_ _ | with_reducible refine bdrew1 ?_)) (hC.below (B := w.heap.size) (fun b g2 => by have := N13 b g2; omega) (by first | omega | (simp; omega))))
    clear O12_2 O12_3_00 O12_3_10 O12_4 O12_5_00 O12_5_10 O12_8 B12 hC N13
    have hk13 : (0 : Int) ≤ 1 + 2 * (R00.length : Int) := (by omega)
    have hq13 : ((1 + 2 * (R00.length : Int)) != (1 + 2 * (R00.length : Int))) = false := (by simp)
    go_wp2_with fail
    refine Calls.mono (markFractionSS_any _ _ R10 _ _ _ (O13_5_10.out.below (Nat.le_refl _) (by repeat (first | with_reducible exact Below.refl _ _ | with_reducible refine bal ?_ _ | with_reducible refine bdrew1 ?_))) (by omega) (by omega) (by omega)) ?_
    rintro e0 w14 ⟨rfl, hO, hC⟩
    have z14 : w13.heap.size + 0 ≤ w14.heap.size := (by have := hC.2.2.2.1; (try simp at this); omega)
    have N14 := L5_5_10.out
    have O14_2 := Lib.hid (Own.bchgR O13_2.out (by repeat (first | with_reducible exact Below.refl _ _ | with_reducible refine bal ?_ _ | with_reducible refine bdrew1 ?_)) hC (fun b g1 g2 => by have := L2_2.out b g1; have := N14 b g2; omega))
    have O14_3_00 := Lib.hid (Own.bchgR O13_3_00.out (by repeat (first | with_reducible exact Below.refl _ _ | with_reducible refine bal ?_ _ | with_reducible refine bdrew1 ?_)) hC (fun b g1 g2 => by have := L3_3_00.out b g1; have := N14 b g2; omega))
    have O14_3_10 := Lib.hid (Own.bchgR O13_3_10.out (by repeat (first | with_reducible exact Below.refl _ _ | with_reducible refine bal ?_ _ | with_reducible refine bdrew1 ?_)) hC (fun b g1 g2 => by have := L3_3_10.out b g1; have := N14 b g2; omega))
    have O14_4 := Lib.hid (Own.bchgR O13_4.out (by repeat (first | with_reducible exact Below.refl _ _ | with_reducible refine bal ?_ _ | with_reducible refine bdrew1 ?_)) hC (fun b g1 g2 => by have := L4_4.out b g1; have := N14 b g2; omega))
    have O14_5_00 := Lib.hid (Own.bchgR O13_5_00.out (by repeat (first | with_reducible exact Below.refl _ _ | with_reducible refine bal ?_ _ | with_reducible refine bdrew1 ?_)) hC (fun b g1 g2 => DR5.out b g1 g2))
    have O14_5_10 := Lib.hid hO
    have O14_8 := Lib.hid (Own.bchgR O13_8.out (by repeat (first | with_reducible exact Below.refl _ _ | with_reducible refine bal ?_ _ | with_reducible refine bdrew1 ?_)) hC (fun b g1 g2 => by have := L8_8.out b g1; have := N14 b g2; omega))
    have B14 : Hid (Below w.heap.size w w14) := Lib.hid (Below.trans (by repeat (first | with_reducible exact B13.out | with_reducible refine bal ?_ _ | with_reducible refine bdrew1 ?_)) (hC.below (B := w.heap.size) (fun b g2 => by have := N14 b g2; omega) (by first | omega | (simp; omega))))
    clear O13_2 O13_3_00 O13_3_10 O13_4 O13_5_00 O13_5_10 O13_8 B13 hC N14
    have hk14 : (0 : Int) ≤ 1 + 2 * (R00.length : Int) + 2 * (lenSS R10 : Int) := (by omega)
    have hq14 : ((1 + 2 * (R00.length : Int) + 2 * (lenSS R10 : Int)) != (1 + 2 * (R00.length : Int) + 2 * (lenSS R10 : Int))) = false := (by simp)
    go_wp2_with fail
    refine Calls.mono (heldFractionS_any _ R00.length _ _ (O14_5_00.out.lst.below (by repeat (first | with_reducible exact Below.refl _ _ | with_reducible refine bal ?_ _ | with_reducible refine bdrew1 ?_))) (by omega) (by omega)) ?_
    rintro e0 w15 ⟨rfl, hb⟩
    have z15 : w14.heap.size + 0 ≤ w15.heap.size := (by have := hb.size; (try simp at this); omega)
    have O15_2 := Lib.hid (O14_2.out.below (Nat.le_refl _) (bthen (by repeat (first | with_reducible exact Below.refl _ _ | with_reducible refine bal ?_ _ | with_reducible refine bdrew1 ?_)) hb))
    have O15_3_00 := Lib.hid (O14_3_00.out.below (Nat.le_refl _) (bthen (by repeat (first | with_reducible exact Below.refl _ _ | with_reducible refine bal ?_ _ | with_reducible refine bdrew1 ?_)) hb))
    have O15_3_10 := Lib.hid (O14_3_10.out.below (Nat.le_refl _) (bthen (by repeat (first | with_reducible exact Below.refl _ _ | with_reducible refine bal ?_ _ | with_reducible refine bdrew1 ?_)) hb))
    have O15_4 := Lib.hid (O14_4.out.below (Nat.le_refl _) (bthen (by repeat (first | with_reducible exact Below.refl _ _ | with_reducible refine bal ?_ _ | with_reducible refine bdrew1 ?_)) hb))
    have O15_5_00 := Lib.hid (O14_5_00.out.below (Nat.le_refl _) (bthen (by repeat (first | with_reducible exact Below.refl _ _ | with_reducible refine bal ?_ _ | with_reducible refine bdrew1 ?_)) hb))
    have O15_5_10 := Lib.hid (O14_5_10.out.below (Nat.le_refl _) (bthen (by repeat (first | with_reducible exact Below.refl _ _ | with_reducible refine bal ?_ _ | with_reducible refine bdrew1 ?_)) hb))
    have O15_8 := Lib.hid (O14_8.out.below (Nat.le_refl _) (bthen (by repeat (first | with_reducible exact Below.refl _ _ | with_reducible refine bal ?_ _ | with_reducible refine bdrew1 ?_)) hb))
    have B15 : Hid (Below w.heap.size w w15) := Lib.hid (bthen (by repeat (first | with_reducible exact B14.out | with_reducible refine bal ?_ _ | with_reducible refine bdrew1 ?_)) hb)
    clear O14_2 O14_3_00 O14_3_10 O14_4 O14_5_00 O14_5_10 O14_8 B14 hb
    go_wp2_with fail
    refine Calls.mono (heldFractionSS_any _ R10 _ _ (O15_5_10.out.lst.below (by repeat (first | with_reducible exact Below.refl _ _ | with_reducible refine bal ?_ _ | with_reducible refine bdrew1 ?_))) (by omega) (by omega) (by omega)) ?_
    rintro e0 w16 ⟨rfl, hb⟩
    have z16 : w15.heap.size + 0 ≤ w16.heap.size := (by have := hb.size; (try simp at this); omega)
    have O16_2 := Lib.hid (O15_2.out.below (Nat.le_refl _) (bthen (by repeat (first | with_reducible exact Below.refl _ _ | with_reducible refine bal ?_ _ | with_reducible refine bdrew1 ?_)) hb))
    have O16_3_00 := Lib.hid (O15_3_00.out.below (Nat.le_refl _) (bthen (by repeat (first | with_reducible exact Below.refl _ _ | with_reducible refine bal ?_ _ | with_reducible refine bdrew1 ?_)) hb))
    have O16_3_10 := Lib.hid (O15_3_10.out.below (Nat.le_refl _) (bthen (by repeat (first | with_reducible exact Below.refl _ _ | with_reducible refine bal ?_ _ | with_reducible refine bdrew1 ?_)) hb))
    have O16_4 := Lib.hid (O15_4.out.below (Nat.le_refl _) (bthen (by repeat (first | with_reducible exact Below.refl _ _ | with_reducible refine bal ?_ _ | with_reducible refine bdrew1 ?_)) hb))
    have O16_5_00 := Lib.hid (O15_5_00.out.below (Nat.le_refl _) (bthen (by repeat (first | with_reducible exact Below.refl _ _ | with_reducible refine bal ?_ _ | with_reducible refine bdrew1 ?_)) hb))
    have O16_5_10 := Lib.hid (O15_5_10.out.below (Nat.le_refl _) (bthen (by repeat (first | with_reducible exact Below.refl _ _ | with_reducible refine bal ?_ _ | with_reducible refine bdrew1 ?_)) hb))
    have O16_8 := Lib.hid (O15_8.out.below (Nat.le_refl _) (bthen (by repeat (first | with_reducible exact Below.refl _ _ | with_reducible refine bal ?_ _ | with_reducible refine bdrew1 ?_)) hb))
    have B16 : Hid (Below w.heap.size w w16) := Lib.hid (bthen (by repeat (first | with_reducible exact B15.out | with_reducible refine bal ?_ _ | with_reducible refine bdrew1 ?_)) hb)
    clear O15_2 O15_3_00 O15_3_10 O15_4 O15_5_00 O15_5_10 O15_8 B15 hb
    go_wp2_with fail
    refine Calls.mono (toFractionSS_any _ ax0 _ (ah0.below (by repeat (first | with_reducible exact B16.out | with_reducible refine bal ?_ _ | with_reducible refine bdrew1 ?_))) (by omega)) ?_
    rintro e0 w17 ⟨A17, cap17, F17, rfl, hO, hb⟩
    have z17 : w16.heap.size + 0 ≤ w17.heap.size := (by have := hb.size; (try simp at this); omega)
    have O17_2 := Lib.hid (O16_2.out.below (Nat.le_refl _) (bthen (by repeat (first | with_reducible exact Below.refl _ _ | with_reducible refine bal ?_ _ | with_reducible refine bdrew1 ?_)) hb))
    have O17_3_00 := Lib.hid (O16_3_00.out.below (Nat.le_refl _) (bthen (by repeat (first | with_reducible exact Below.refl _ _ | with_reducible refine bal ?_ _ | with_reducible refine bdrew1 ?_)) hb))
    have O17_3_10 := Lib.hid (O16_3_10.out.below (Nat.le_refl _) (bthen (by repeat (first | with_reducible exact Below.refl _ _ | with_reducible refine bal ?_ _ | with_reducible refine bdrew1 ?_)) hb))
    have O17_4 := Lib.hid (O16_4.out.below (Nat.le_refl _) (bthen (by repeat (first | with_reducible exact Below.refl _ _ | with_reducible refine bal ?_ _ | with_reducible refine bdrew1 ?_)) hb))
    have O17_5_00 := Lib.hid (O16_5_00.out.below (Nat.le_refl _) (bthen (by repeat (first | with_reducible exact Below.refl _ _ | with_reducible refine bal ?_ _ | with_reducible refine bdrew1 ?_)) hb))
    have O17_5_10 := Lib.hid (O16_5_10.out.below (Nat.le_refl _) (bthen (by repeat (first | with_reducible exact Below.refl _ _ | with_reducible refine bal ?_ _ | with_reducible refine bdrew1 ?_)) hb))
    have O17_8 := Lib.hid (O16_8.out.below (Nat.le_refl _) (bthen (by repeat (first | with_reducible exact Below.refl _ _ | with_reducible refine bal ?_ _ | with_reducible refine bdrew1 ?_)) hb))
    have B17 : Hid (Below w.heap.size w w17) := Lib.hid (bthen (by repeat (first | with_reducible exact B16.out | with_reducible refine bal ?_ _ | with_reducible refine bdrew1 ?_)) hb)
    have L17_17 : Hid (∀ b ∈ F17, w16.heap.size + 0 ≤ b ∧ b < w17.heap.size) := Lib.hid (fun b hm => ⟨by have := hO.ge b hm; (try simp at this); omega, hO.lt b hm⟩)
    have O17_17 := Lib.hid hO
    clear O16_2 O16_3_00 O16_3_10 O16_4 O16_5_00 O16_5_10 O16_8 hO B16 hb
    go_wp2_with fail
    refine Calls.mono (HI.out _ _ (O17_17.out.lst.below (by repeat (first | with_reducible exact Below.refl _ _ | with_reducible refine bal ?_ _ | with_reducible refine bdrew1 ?_))) (by omega)) ?_
    rintro e0 w18 ⟨A18_00, cap18_00, F18_00, A18_10, cap18_10, F18_10, rfl, hO_00, hO_10, hD, hb⟩
    have DR18 := Lib.hid hD
    clear hD
    have z18 : w17.heap.size + 0 ≤ w18.heap.size := (by have := hb.size; (try simp at this); omega)
    have O18_2 := Lib.hid (O17_2.out.below (Nat.le_refl _) (bthen (by repeat (first | with_reducible exact Below.refl _ _ | with_reducible refine bal ?_ _ | with_reducible refine bdrew1 ?_)) hb))
    have O18_3_00 := Lib.hid (O17_3_00.out.below (Nat.le_refl _) (bthen (by repeat (first | with_reducible exact Below.refl _ _ | with_reducible refine bal ?_ _ | with_reducible refine bdrew1 ?_)) hb))
    have O18_3_10 := Lib.hid (O17_3_10.out.below (Nat.le_refl _) (bthen (by repeat (first | with_reducible exact Below.refl _ _ | with_reducible refine bal ?_ _ | with_reducible refine bdrew1 ?_)) hb))
    have O18_4 := Lib.hid (O17_4.out.below (Nat.le_refl _) (bthen (by repeat (first | with_reducible exact Below.refl _ _ | with_reducible refine bal ?_ _ | with_reducible refine bdrew1 ?_)) hb))
    have O18_5_00 := Lib.hid (O17_5_00.out.below (Nat.le_refl _) (bthen (by repeat (first | with_reducible exact Below.refl _ _ | with_reducible refine bal ?_ _ | with_reducible refine bdrew1 ?_)) hb))
    have O18_5_10 := Lib.hid (O17_5_10.out.below (Nat.le_refl _) (bthen (by repeat (first | with_reducible exact Below.refl _ _ | with_reducible refine bal ?_ _ | with_reducible refine bdrew1 ?_)) hb))
    have O18_8 := Lib.hid (O17_8.out.below (Nat.le_refl _) (bthen (by repeat (first | with_reducible exact Below.refl _ _ | with_reducible refine bal ?_ _ | with_reducible refine bdrew1 ?_)) hb))
    have O18_17 := Lib.hid (O17_17.out.below (Nat.le_refl _) (bthen (by repeat (first | with_reducible exact Below.refl _ _ | with_reducible refine bal ?_ _ | with_reducible refine bdrew1 ?_)) hb))
    have B18 : Hid (Below w.heap.size w w18) := Lib.hid (bthen (by repeat (first | with_reducible exact B17.out | with_reducible refine bal ?_ _ | with_reducible refine bdrew1 ?_)) hb)
    have L18_18_00 : Hid (∀ b ∈ F18_00, w17.heap.size + 0 ≤ b ∧ b < w18.heap.size) := Lib.hid (fun b hm => ⟨by have := hO_00.ge b hm; (try simp at this); omega, hO_00.lt b hm⟩)
    have O18_18_00 := Lib.hid hO_00
    have L18_18_10 : Hid (∀ b ∈ F18_10, w17.heap.size + 0 ≤ b ∧ b < w18.heap.size) := Lib.hid (fun b hm => ⟨by have := hO_10.ge b hm; (try simp at this); omega, hO_10.lt b hm⟩)
    have O18_18_10 := Lib.hid hO_10
    clear O17_2 O17_3_00 O17_3_10 O17_4 O17_5_00 O17_5_10 O17_8 O17_17 hO_00 hO_10 B17 hb
    go_wp2_with fail
    refine Calls.mono (eqFractionS_same _ R00 _ _ (O18_18_00.out.lst.below (by repeat (first | with_reducible exact Below.refl _ _ | with_reducible refine bal ?_ _ | with_reducible refine bdrew1 ?_))) (O18_3_00.out.lst.below (by repeat (first | with_reducible exact Below.refl _ _ | with_reducible refine bal ?_ _ | with_reducible refine bdrew1 ?_))) (by omega)) ?_
    rintro e0 w19 ⟨rfl, hb⟩
    have z19 : w18.heap.size + 0 ≤ w19.heap.size := (by have := hb.size; (try simp at this); omega)
    have O19_2 := Lib.hid (O18_2.out.below (Nat.le_refl _) (bthen (by repeat (first | with_reducible exact Below.refl _ _ | with_reducible refine bal ?_ _ | with_reducible refine bdrew1 ?_)) hb))
    have O19_3_00 := Lib.hid (O18_3_00.out.below (Nat.le_refl _) (bthen (by repeat (first | with_reducible exact Below.refl _ _ | with_reducible refine bal ?_ _ | with_reducible refine bdrew1 ?_)) hb))
    have O19_3_10 := Lib.hid (O18_3_10.out.below (Nat.le_refl _) (bthen (by repeat (first | with_reducible exact Below.refl _ _ | with_reducible refine bal ?_ _ | with_reducible refine bdrew1 ?_)) hb))
    have O19_4 := Lib.hid (O18_4.out.below (Nat.le_refl _) (bthen (by repeat (first | with_reducible exact Below.refl _ _ | with_reducible refine bal ?_ _ | with_reducible refine bdrew1 ?_)) hb))
    have O19_5_00 := Lib.hid (O18_5_00.out.below (Nat.le_refl _) (bthen (by repeat (first | with_reducible exact Below.refl _ _ | with_reducible refine bal ?_ _ | with_reducible refine bdrew1 ?_)) hb))
    have O19_5_10 := Lib.hid (O18_5_10.out.below (Nat.le_refl _) (bthen (by repeat (first | with_reducible exact Below.refl _ _ | with_reducible refine bal ?_ _ | with_reducible refine bdrew1 ?_)) hb))
    have O19_8 := Lib.hid (O18_8.out.below (Nat.le_refl _) (bthen (by repeat (first | with_reducible exact Below.refl _ _ | with_reducible refine bal ?_ _ | with_reducible refine bdrew1 ?_)) hb))
    have O19_17 := Lib.hid (O18_17.out.below (Nat.le_refl _) (bthen (by repeat (first | with_reducible exact Below.refl _ _ | with_reducible refine bal ?_ _ | with_reducible refine bdrew1 ?_)) hb))
    have O19_18_00 := Lib.hid (O18_18_00.out.below (Nat.le_refl _) (bthen (by repeat (first | with_reducible exact Below.refl _ _ | with_reducible refine bal ?_ _ | with_reducible refine bdrew1 ?_)) hb))
    have O19_18_10 := Lib.hid (O18_18_10.out.below (Nat.le_refl _) (bthen (by repeat (first | with_reducible exact Below.refl _ _ | with_reducible refine bal ?_ _ | with_reducible refine bdrew1 ?_)) hb))
    have B19 : Hid (Below w.heap.size w w19) := Lib.hid (bthen (by repeat (first | with_reducible exact B18.out | with_reducible refine bal ?_ _ | with_reducible refine bdrew1 ?_)) hb)
    clear O18_2 O18_3_00 O18_3_10 O18_4 O18_5_00 O18_5_10 O18_8 O18_17 O18_18_00 O18_18_10 B18 hb
    go_wp2_with fail
    refine Calls.mono (eqFractionSS_same _ R10 _ _ (O19_18_10.out.lst.below (by repeat (first | with_reducible exact Below.refl _ _ | with_reducible refine bal ?_ _ | with_reducible refine bdrew1 ?_))) (O19_3_10.out.lst.below (by repeat (first | with_reducible exact Below.refl _ _ | with_reducible refine bal ?_ _ | with_reducible refine bdrew1 ?_))) (by omega)) ?_
    rintro e0 w20 ⟨rfl, hb⟩
    have z20 : w19.heap.size + 0 ≤ w20.heap.size := (by have := hb.size; (try simp at this); omega)
    have O20_2 := Lib.hid (O19_2.out.below (Nat.le_refl _) (bthen (by repeat (first | with_reducible exact Below.refl _ _ | with_reducible refine bal ?_ _ | with_reducible refine bdrew1 ?_)) hb))
    have O20_3_00 := Lib.hid (O19_3_00.out.below (Nat.le_refl _) (bthen (by repeat (first | with_reducible exact Below.refl _ _ | with_reducible refine bal ?_ _ | with_reducible refine bdrew1 ?_)) hb))
    have O20_3_10 := Lib.hid (O19_3_10.out.below (Nat.le_refl _) (bthen (by repeat (first | with_reducible exact Below.refl _ _ | with_reducible refine bal ?_ _ | with_reducible refine bdrew1 ?_)) hb))
    have O20_4 := Lib.hid (O19_4.out.below (Nat.le_refl _) (bthen (by repeat (first | with_reducible exact Below.refl _ _ | with_reducible refine bal ?_ _ | with_reducible refine bdrew1 ?_)) hb))
    have O20_5_00 := Lib.hid (O19_5_00.out.below (Nat.le_refl _) (bthen (by repeat (first | with_reducible exact Below.refl _ _ | with_reducible refine bal ?_ _ | with_reducible refine bdrew1 ?_)) hb))
    have O20_5_10 := Lib.hid (O19_5_10.out.below (Nat.le_refl _) (bthen (by repeat (first | with_reducible exact Below.refl _ _ | with_reducible refine bal ?_ _ | with_reducible refine bdrew1 ?_)) hb))
    have O20_8 := Lib.hid (O19_8.out.below (Nat.le_refl _) (bthen (by repeat (first | with_reducible exact Below.refl _ _ | with_reducible refine bal ?_ _ | with_reducible refine bdrew1 ?_)) hb))
    have O20_17 := Lib.hid (O19_17.out.below (Nat.le_refl _) (bthen (by repeat (first | with_reducible exact Below.refl _ _ | with_reducible refine bal ?_ _ | with_reducible refine bdrew1 ?_)) hb))
    have O20_18_00 := Lib.hid (O19_18_00.out.below (Nat.le_refl _) (bthen (by repeat (first | with_reducible exact Below.refl _ _ | with_reducible refine bal ?_ _ | with_reducible refine bdrew1 ?_)) hb))
    have O20_18_10 := Lib.hid (O19_18_10.out.below (Nat.le_refl _) (bthen (by repeat (first | with_reducible exact Below.refl _ _ | with_reducible refine bal ?_ _ | with_reducible refine bdrew1 ?_)) hb))
    have B20 : Hid (Below w.heap.size w w20) := Lib.hid (bthen (by repeat (first | with_reducible exact B19.out | with_reducible refine bal ?_ _ | with_reducible refine bdrew1 ?_)) hb)
    clear O19_2 O19_3_00 O19_3_10 O19_4 O19_5_00 O19_5_10 O19_8 O19_17 O19_18_00 O19_18_10 B19 hb
    go_wp2_with fail
    refine Calls.mono (heldFractionS_any _ R00.length _ _ (O20_5_00.out.lst.below (by repeat (first | with_reducible exact Below.refl _ _ | with_reducible refine bal ?_ _ | with_reducible refine bdrew1 ?_))) (by omega) (by omega)) ?_
    rintro e0 w21 ⟨rfl, hb⟩
    have z21 : w20.heap.size + 0 ≤ w21.heap.size := (by have := hb.size; (try simp at this); omega)
    have O21_2 := Lib.hid (O20_2.out.below (Nat.le_refl _) (bthen (by repeat (first | with_reducible exact Below.refl _ _ | with_reducible refine bal ?_ _ | with_reducible refine bdrew1 ?_)) hb))
    have O21_3_00 := Lib.hid (O20_3_00.out.below (Nat.le_refl _) (bthen (by repeat (first | with_reducible exact Below.refl _ _ | with_reducible refine bal ?_ _ | with_reducible refine bdrew1 ?_)) hb))
    have O21_3_10 := Lib.hid (O20_3_10.out.below (Nat.le_refl _) (bthen (by repeat (first | with_reducible exact Below.refl _ _ | with_reducible refine bal ?_ _ | with_reducible refine bdrew1 ?_)) hb))
    have O21_4 := Lib.hid (O20_4.out.below (Nat.le_refl _) (bthen (by repeat (first | with_reducible exact Below.refl _ _ | with_reducible refine bal ?_ _ | with_reducible refine bdrew1 ?_)) hb))
    have O21_5_00 := Lib.hid (O20_5_00.out.below (Nat.le_refl _) (bthen (by repeat (first | with_reducible exact Below.refl _ _ | with_reducible refine bal ?_ _ | with_reducible refine bdrew1 ?_)) hb))
    have O21_5_10 := Lib.hid (O20_5_10.out.below (Nat.le_refl _) (bthen (by repeat (first | with_reducible exact Below.refl _ _ | with_reducible refine bal ?_ _ | with_reducible refine bdrew1 ?_)) hb))
    have O21_8 := Lib.hid (O20_8.out.below (Nat.le_refl _) (bthen (by repeat (first | with_reducible exact Below.refl _ _ | with_reducible refine bal ?_ _ | with_reducible refine bdrew1 ?_)) hb))
    have O21_17 := Lib.hid (O20_17.out.below (Nat.le_refl _) (bthen (by repeat (first | with_reducible exact Below.refl _ _ | with_reducible refine bal ?_ _ | with_reducible refine bdrew1 ?_)) hb))
    have O21_18_00 := Lib.hid (O20_18_00.out.below (Nat.le_refl _) (bthen (by repeat (first | with_reducible exact Below.refl _ _ | with_reducible refine bal ?_ _ | with_reducible refine bdrew1 ?_)) hb))
    have O21_18_10 := Lib.hid (O20_18_10.out.below (Nat.le_refl _) (bthen (by repeat (first | with_reducible exact Below.refl _ _ | with_reducible refine bal ?_ _ | with_reducible refine bdrew1 ?_)) hb))
    have B21 : Hid (Below w.heap.size w w21) := Lib.hid (bthen (by repeat (first | with_reducible exact B20.out | with_reducible refine bal ?_ _ | with_reducible refine bdrew1 ?_)) hb)
    clear O20_2 O20_3_00 O20_3_10 O20_4 O20_5_00 O20_5_10 O20_8 O20_17 O20_18_00 O20_18_10 B20 hb
    go_wp2_with fail
    refine Calls.mono (heldFractionSS_any _ R10 _ _ (O21_5_10.out.lst.below (by repeat (first | with_reducible exact Below.refl _ _ | with_reducible refine bal ?_ _ | with_reducible refine bdrew1 ?_))) (by omega) (by omega) (by omega)) ?_
    rintro e0 w22 ⟨rfl, hb⟩
    have z22 : w21.heap.size + 0 ≤ w22.heap.size := (by have := hb.size; (try simp at this); omega)
    have O22_2 := Lib.hid (O21_2.out.below (Nat.le_refl _) (bthen (by repeat (first | with_reducible exact Below.refl _ _ | with_reducible refine bal ?_ _ | with_reducible refine bdrew1 ?_)) hb))
    have O22_3_00 := Lib.hid (O21_3_00.out.below (Nat.le_refl _) (bthen (by repeat (first | with_reducible exact Below.refl _ _ | with_reducible refine bal ?_ _ | with_reducible refine bdrew1 ?_)) hb))
    have O22_3_10 := Lib.hid (O21_3_10.out.below (Nat.le_refl _) (bthen (by repeat (first | with_reducible exact Below.refl _ _ | with_reducible refine bal ?_ _ | with_reducible refine bdrew1 ?_)) hb))
    have O22_4 := Lib.hid (O21_4.out.below (Nat.le_refl _) (bthen (by repeat (first | with_reducible exact Below.refl _ _ | with_reducible refine bal ?_ _ | with_reducible refine bdrew1 ?_)) hb))
    have O22_5_00 := Lib.hid (O21_5_00.out.below (Nat.le_refl _) (bthen (by repeat (first | with_reducible exact Below.refl _ _ | with_reducible refine bal ?_ _ | with_reducible refine bdrew1 ?_)) hb))
    have O22_5_10 := Lib.hid (O21_5_10.out.below (Nat.le_refl _) (bthen (by repeat (first | with_reducible exact Below.refl _ _ | with_reducible refine bal ?_ _ | with_reducible refine bdrew1 ?_)) hb))
    have O22_8 := Lib.hid (O21_8.out.below (Nat.le_refl _) (bthen (by repeat (first | with_reducible exact Below.refl _ _ | with_reducible refine bal ?_ _ | with_reducible refine bdrew1 ?_)) hb))
    have O22_17 := Lib.hid (O21_17.out.below (Nat.le_refl _) (bthen (by repeat (first | with_reducible exact Below.refl _ _ | with_reducible refine bal ?_ _ | with_reducible refine bdrew1 ?_)) hb))
    have O22_18_00 := Lib.hid (O21_18_00.out.below (Nat.le_refl _) (bthen (by repeat (first | with_reducible exact Below.refl _ _ | with_reducible refine bal ?_ _ | with_reducible refine bdrew1 ?_)) hb))
    have O22_18_10 := Lib.hid (O21_18_10.out.below (Nat.le_refl _) (bthen (by repeat (first | with_reducible exact Below.refl _ _ | with_reducible refine bal ?_ _ | with_reducible refine bdrew1 ?_)) hb))
    have B22 : Hid (Below w.heap.size w w22) := Lib.hid (bthen (by repeat (first | with_reducible exact B21.out | with_reducible refine bal ?_ _ | with_reducible refine bdrew1 ?_)) hb)
    clear O21_2 O21_3_00 O21_3_10 O21_4 O21_5_00 O21_5_10 O21_8 O21_17 O21_18_00 O21_18_10 B21 hb
    go_wp2_with fail
    exact bodyPost_ret (v := .bool true) (by simp [results, Try.results5, go_sem]) rfl ⟨rfl, (by first | exact B22.out | exact bal B22.out _ | exact bal (bal B22.out _) _)⟩
end Go.Proofs.Ytekchdgpaemofaa
