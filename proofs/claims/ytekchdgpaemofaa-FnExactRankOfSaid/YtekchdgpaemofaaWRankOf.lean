/- The walk of FnExactRankOf, with what both sides return as hypotheses. -/
import Derived.Test.YtekchdgpaemofaaSl
import Derived.Test.YtekchdgpaemofaaTSS
namespace Go.Proofs.Ytekchdgpaemofaa
open Go.ChangeShapes Go.WideShapes Go.ChangeAt Go.RowKit
set_option linter.unusedVariables false
set_option linter.unusedSimpArgs false
attribute [local irreducible] Calls
set_option maxHeartbeats 4000000 in
set_option maxRecDepth 100000 in
theorem walkRankOf (ax0 : List (List (Int × Int))) (av0 : Value) (r00 : Int) (r10 : Int) (HI0 : ∀ (W : World) (u0 : Value), Lst (shL shFr) W ax0 u0 → ax0.length + lenSS ax0 ≤ 1048576 → Calls Try.prog 14 #[u0] W fun e W' => e = .returned (.tuple #[.int .i64 r00, .int .i64 r10]) ∧ Below W.heap.size W W') (HS0 : ∀ (W : World) (u0 : Value), Lst (shL shFr) W ax0 u0 → ax0.length + lenSS ax0 ≤ 1048576 → Calls Try.prog 13 #[u0] W fun e W' => e = .returned (.tuple #[.int .i64 r00, .int .i64 r10]) ∧ Below W.heap.size W W') (w : World) (ah0 : Lst (shL shFr) w ax0 av0) :
    Calls Try.prog 4 #[av0] w fun e0 w' => e0 = .returned (.bool true) ∧ Below w.heap.size w w' := by
  obtain ⟨A_av0, cap_av0, rfl, fax0⟩ := formFrSS ah0
  have HI := Lib.hid HI0
  have HS := Lib.hid HS0
  clear HI0 HS0
  have qr00 : (r00 != r00) = false := by simp
  have qr10 : (r10 != r10) = false := by simp
  have d0 := szSS_bd (left := 1048576) (xss := ax0) (by omega) (by omega)
  by_cases g0 : szSS (1048576) ax0 < 0
  · go_enter Try.func4, Try.ntmps4
    go_wp2_with fail
    refine Calls.mono (szFractionSS_any _ ax0 _ _ (ah0.below belA) (by omega) (by omega)) ?_
    rintro e0 w1 ⟨rfl, hb⟩
    have z1 : w.heap.size + 0 ≤ w1.heap.size := (by have := hb.size; (try simp at this); omega)
    have B1 : Hid (Below w.heap.size w w1) := Lib.hid (bthen belA hb)
    clear hb
    go_wp2_with fail
    exact bodyPost_ret (v := .bool true) (by simp [results, Try.results4, go_sem]) rfl ⟨rfl, (by first | exact B1.out | exact bal B1.out _ | exact bal (bal B1.out _) _)⟩
  · have lax0 : ax0.length + lenSS ax0 ≤ 1048576 := (by have := szSS_pos g0; omega)
    go_enter Try.func4, Try.ntmps4
    go_wp2_with fail
    refine Calls.mono (szFractionSS_any _ ax0 _ _ (ah0.below belA) (by omega) (by omega)) ?_
    rintro e0 w1 ⟨rfl, hb⟩
    have z1 : w.heap.size + 0 ≤ w1.heap.size := (by have := hb.size; (try simp at this); omega)
    have B1 : Hid (Below w.heap.size w w1) := Lib.hid (bthen belA hb)
    clear hb
    go_wp2_with fail
    refine Calls.mono (toFractionSS_any _ ax0 _ (ah0.below (by repeat (first | with_reducible exact B1.out | with_reducible refine bal ?_ _ | with_reducible refine bdrew1 ?_))) (by omega)) ?_
    rintro e0 w2 ⟨A2, cap2, F2, rfl, hO, hb⟩
    have z2 : w1.heap.size + 0 ≤ w2.heap.size := (by have := hb.size; (try simp at this); omega)
    have B2 : Hid (Below w.heap.size w w2) := Lib.hid (bthen (by repeat (first | with_reducible exact B1.out | with_reducible refine bal ?_ _ | with_reducible refine bdrew1 ?_)) hb)
    have L2_2 : Hid (∀ b ∈ F2, w1.heap.size + 0 ≤ b ∧ b < w2.heap.size) := Lib.hid (fun b hm => ⟨by have := hO.ge b hm; (try simp at this); omega, hO.lt b hm⟩)
    have O2_2 := Lib.hid hO
    clear hO B1 hb
    go_wp2_with fail
    refine Calls.mono (HS.out _ _ (O2_2.out.lst.below (by repeat (first | with_reducible exact Below.refl _ _ | with_reducible refine bal ?_ _ | with_reducible refine bdrew1 ?_))) (by omega)) ?_
    rintro e0 w3 ⟨rfl, hb⟩
    have z3 : w2.heap.size + 0 ≤ w3.heap.size := (by have := hb.size; (try simp at this); omega)
    have O3_2 := Lib.hid (O2_2.out.below (Nat.le_refl _) (bthen (by repeat (first | with_reducible exact Below.refl _ _ | with_reducible refine bal ?_ _ | with_reducible refine bdrew1 ?_)) hb))
    have B3 : Hid (Below w.heap.size w w3) := Lib.hid (bthen (by repeat (first | with_reducible exact B2.out | with_reducible refine bal ?_ _ | with_reducible refine bdrew1 ?_)) hb)
    clear O2_2 B2 hb
    go_wp2_with fail
    refine Calls.mono (toFractionSS_any _ ax0 _ (ah0.below (by repeat (first | with_reducible exact B3.out | with_reducible refine bal ?_ _ | with_reducible refine bdrew1 ?_))) (by omega)) ?_
    rintro e0 w4 ⟨A4, cap4, F4, rfl, hO, hb⟩
    have z4 : w3.heap.size + 0 ≤ w4.heap.size := (by have := hb.size; (try simp at this); omega)
    have O4_2 := Lib.hid (O3_2.out.below (Nat.le_refl _) (bthen (by repeat (first | with_reducible exact Below.refl _ _ | with_reducible refine bal ?_ _ | with_reducible refine bdrew1 ?_)) hb))
    have B4 : Hid (Below w.heap.size w w4) := Lib.hid (bthen (by repeat (first | with_reducible exact B3.out | with_reducible refine bal ?_ _ | with_reducible refine bdrew1 ?_)) hb)
    have L4_4 : Hid (∀ b ∈ F4, w3.heap.size + 0 ≤ b ∧ b < w4.heap.size) := Lib.hid (fun b hm => ⟨by have := hO.ge b hm; (try simp at this); omega, hO.lt b hm⟩)
    have O4_4 := Lib.hid hO
    clear O3_2 hO B3 hb
    go_wp2_with fail
    refine Calls.mono (HI.out _ _ (O4_4.out.lst.below (by repeat (first | with_reducible exact Below.refl _ _ | with_reducible refine bal ?_ _ | with_reducible refine bdrew1 ?_))) (by omega)) ?_
    rintro e0 w5 ⟨rfl, hb⟩
    have z5 : w4.heap.size + 0 ≤ w5.heap.size := (by have := hb.size; (try simp at this); omega)
    have O5_2 := Lib.hid (O4_2.out.below (Nat.le_refl _) (bthen (by repeat (first | with_reducible exact Below.refl _ _ | with_reducible refine bal ?_ _ | with_reducible refine bdrew1 ?_)) hb))
    have O5_4 := Lib.hid (O4_4.out.below (Nat.le_refl _) (bthen (by repeat (first | with_reducible exact Below.refl _ _ | with_reducible refine bal ?_ _ | with_reducible refine bdrew1 ?_)) hb))
    have B5 : Hid (Below w.heap.size w w5) := Lib.hid (bthen (by repeat (first | with_reducible exact B4.out | with_reducible refine bal ?_ _ | with_reducible refine bdrew1 ?_)) hb)
    clear O4_2 O4_4 B4 hb
    go_wp2_with fail
    refine Calls.mono (toFractionSS_any _ ax0 _ (ah0.below (by repeat (first | with_reducible exact B5.out | with_reducible refine bal ?_ _ | with_reducible refine bdrew1 ?_))) (by omega)) ?_
    rintro e0 w6 ⟨A6, cap6, F6, rfl, hO, hb⟩
    have z6 : w5.heap.size + 0 ≤ w6.heap.size := (by have := hb.size; (try simp at this); omega)
    have O6_2 := Lib.hid (O5_2.out.below (Nat.le_refl _) (bthen (by repeat (first | with_reducible exact Below.refl _ _ | with_reducible refine bal ?_ _ | with_reducible refine bdrew1 ?_)) hb))
    have O6_4 := Lib.hid (O5_4.out.below (Nat.le_refl _) (bthen (by repeat (first | with_reducible exact Below.refl _ _ | with_reducible refine bal ?_ _ | with_reducible refine bdrew1 ?_)) hb))
    have B6 : Hid (Below w.heap.size w w6) := Lib.hid (bthen (by repeat (first | with_reducible exact B5.out | with_reducible refine bal ?_ _ | with_reducible refine bdrew1 ?_)) hb)
    have L6_6 : Hid (∀ b ∈ F6, w5.heap.size + 0 ≤ b ∧ b < w6.heap.size) := Lib.hid (fun b hm => ⟨by have := hO.ge b hm; (try simp at this); omega, hO.lt b hm⟩)
    have O6_6 := Lib.hid hO
    clear O5_2 O5_4 hO B5 hb
    go_wp2_with fail
    refine Calls.mono (eqFractionSS_same _ ax0 _ _ (O6_4.out.lst.below (by repeat (first | with_reducible exact Below.refl _ _ | with_reducible refine bal ?_ _ | with_reducible refine bdrew1 ?_))) (O6_6.out.lst.below (by repeat (first | with_reducible exact Below.refl _ _ | with_reducible refine bal ?_ _ | with_reducible refine bdrew1 ?_))) (by omega)) ?_
    rintro e0 w7 ⟨rfl, hb⟩
    have z7 : w6.heap.size + 0 ≤ w7.heap.size := (by have := hb.size; (try simp at this); omega)
    have O7_2 := Lib.hid (O6_2.out.below (Nat.le_refl _) (bthen (by repeat (first | with_reducible exact Below.refl _ _ | with_reducible refine bal ?_ _ | with_reducible refine bdrew1 ?_)) hb))
    have O7_4 := Lib.hid (O6_4.out.below (Nat.le_refl _) (bthen (by repeat (first | with_reducible exact Below.refl _ _ | with_reducible refine bal ?_ _ | with_reducible refine bdrew1 ?_)) hb))
    have O7_6 := Lib.hid (O6_6.out.below (Nat.le_refl _) (bthen (by repeat (first | with_reducible exact Below.refl _ _ | with_reducible refine bal ?_ _ | with_reducible refine bdrew1 ?_)) hb))
    have B7 : Hid (Below w.heap.size w w7) := Lib.hid (bthen (by repeat (first | with_reducible exact B6.out | with_reducible refine bal ?_ _ | with_reducible refine bdrew1 ?_)) hb)
    clear O6_2 O6_4 O6_6 B6 hb
    go_wp2_with fail
    exact bodyPost_ret (v := .bool true) (by simp [results, Try.results4, go_sem]) rfl ⟨rfl, (by first | exact B7.out | exact bal B7.out _ | exact bal (bal B7.out _) _)⟩
end Go.Proofs.Ytekchdgpaemofaa
